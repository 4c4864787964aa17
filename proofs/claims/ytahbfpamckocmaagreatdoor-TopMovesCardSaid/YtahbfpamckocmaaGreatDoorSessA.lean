import Derived.Test.YtahbfpamckocmaaGreatDoorInts
import Derived.Test.YtahbfpamckocmaaGreatDoorPktC
import Derived.KernelRfl
set_option linter.unusedVariables false
set_option linter.unusedSimpArgs false
namespace PX
open Go
namespace Md
theorem aiP {l : List aD} (h : l.length * 32 ≤ 140737488355328) : eB l = some l := by
 unfold eB
 cases l with
 | nil => simp only [List.isEmpty, cS]; exact acJ _
 | cons a l => simp only [List.isEmpty, dL, List.nil_append]; rw [aM (by simpa using h)]
theorem aoH {l : List aG} (h : l.length * 32 ≤ 140737488355328) : fP l = some l := by
 unfold fP
 cases l with
 | nil => simp only [List.isEmpty, cS]; exact acJ _
 | cons a l => simp only [List.isEmpty, dL, List.nil_append]; rw [aM (by simpa using h)]
def ahH (s : aC) : Bool := (!s.Online && s.Conn != 0) || (s.Online && s.Until != 0)
def headE (s : aC) : Int :=
 cond (fE s.Client) (cond (s.User == [] || fE s.User) (cond (ahH s) 9 (cond (eL 0 1099511627776 s.Expiry) (cond (eL 0 1099511627776 s.Until) (cond (eL 0 1099511627776 s.Dropped) 0 1) 1) 1)) 11) 11
theorem aq9 (x : Int) : qG x = some (eL 0 1099511627776 x) := by
 unfold qG eL
 simp only [abu, ge_iff_le]
theorem head_eq (s : aC) (h : s.good) : nO s = some (headE s) := by
 have h1 : okS s.Client := h.1
 have h2 : okS s.User := h.2.1
 unfold nO kO gY headE ahH
 simp only [ab6 _ (ac7 h1), ab6 _ (ac7 h2), aq9, aU, oT, qC, gL, gt_iff_lt, ac9, ag0, aec]
 try (cases fE s.Client <;> cases s.User == [] <;> cases fE s.User <;> cases s.Online <;> cases s.Conn == 0 <;> cases s.Until == 0 <;> rfl)
theorem sub_eq (x : aG) (h : x.good) : oH x = some (aa0 x) := by
 have h1 := ac7 (show okS x.Filter from h.1)
 unfold oH aa0 pJ tN
 rw [an6 _ h1, filter_eq, adu]
 simp only [aU, qC, gL, gt_iff_lt, ac9]
 cases hs : xQ x.Filter with
 | none =>
  simp only [vK, Option.isSome, Bool.false_or, cS, dL, qC]
  cases rU x.Filter <;> cases hb : mW x.Filter wT <;> (try rw [show mW x.Filter ([36, 115, 104, 97, 114, 101, 47] : Str) = mW x.Filter wT from rfl, hb]) <;> cases x.NoLocal <;> simp [acj, gL]
 | some y =>
  simp only [vK, Option.isSome, Bool.true_or, cS, dL]
def leO (p : Option Str) (f : Str) : Bool := match p with | none => false | some g => Op.bytesLess f g || f == g
def pX : Option Str → List aG → Int
 | _, [] => 0
 | p, x :: r => cond (aa0 x == 0) (cond (leO p x.Filter) 22 (pX (some x.Filter) r)) (aa0 x)
def subsE (l : List aG) : Int := cond (decide ((l.length : Int) > 32)) 5 (pX none l)
def abp (l : List aG) (i : Nat) : Option Str := if i = 0 then none else some (l.getD (i - 1) default).Filter
theorem anM {l : List aG} {i : Nat} (h : i < l.length) : abp l (i + 1) = some l[i].Filter := by simp [abp, h]
def wP (l : List aA) : Int := cond (decide ((l.length : Int) > 256)) 5 (oC checkM l)
theorem art (l : List aA) (h : okL aA.good l) : eW fuel l (l.length : Int) 0 = some (oC checkM l) := by
 have hl := h.1
 refine aeD (F := fun fu i => eW fu l (l.length : Int) i) (g := fun r => some (oC checkM r)) (fun fu => by rw [eW, aN (by simp)]; rfl) (fun fu i hi ih => ?_) (by omega)
 rw [eW, aM (lL hi), aM (inr hi), dV hi, qR _ (aah (ain h hi)), aU, cG (by omega), ih, oC, oT, gL]
theorem ap9 (s : aC) (h1 : okL aG.good s.Subs) (h2 : okL aA.good s.Queue) : mI s = some (cond (subsE s.Subs == 0) (wP s.Queue) (subsE s.Subs)) := by
 have hl := h1.1
 unfold mI subsE wP
 by_cases hc : (s.Subs.length : Int) > 32
 ·rw [show decide ((s.Subs.length : Int) > 32) = true by simpa using hc]; rfl
 ·rw [show decide ((s.Subs.length : Int) > 32) = false by simpa using hc]
  simp only [dL]
  have := tE (n := s.Subs.length) (F := fun fu i (_ : Unit) => fK fu s.Subs (s.Subs.length : Int) i s) (G := fun i _ => some (cond (pX (abp s.Subs i) (s.Subs.drop i) == 0) (cond (decide ((s.Queue.length : Int) > 256)) 5 (oC checkM s.Queue)) (pX (abp s.Subs i) (s.Subs.drop i)))) (fun _ _ => True)
   (fun fu u _ => by
    rw [List.drop_length, fK, aN (by simp), art _ h2]
    simp only [pX, beq_self_eq_true, cS, gL])
   (fun fu i u hi _ ih => by
    have ih := ih () trivial
    rw [anM hi] at ih
    rw [fK, aM (lL hi)]
    simp only [aM (inr hi), dV hi, sub_eq _ (ain h1 hi), aU, oT]
    rw [cG (by omega), ih, List.drop_eq_getElem_cons hi, pX]
    cases hs : aa0 s.Subs[i] == 0 with
    | false => simp only [dL, hs]
    | true =>
     simp only [cS]
     rcases Nat.eq_zero_or_pos i with hz | hpos
     ·have e0 : decide ((i : Int) > 0) = false := by simp; omega
      rw [e0]; simp [abp, hz, leO]
     ·have hq : i - 1 < s.Subs.length := by omega
      have e2 : IntKind.wrap .i64 ((i : Int) - 1) = ((i - 1 : Nat) : Int) := by rw [IntKind.wrap_i64]; omega
      have e0 : decide ((i : Int) > 0) = true := by simp; omega
      have e3 : abp s.Subs i = some s.Subs[i - 1].Filter := by simp [abp, show ¬ i = 0 by omega, hq]
      rw [e0, e2, e3]
      simp only [cS, aM (inr hq), dV hq, leO]
      cases Op.bytesLess s.Subs[i].Filter s.Subs[i - 1].Filter || s.Subs[i].Filter == s.Subs[i - 1].Filter <;> rfl) (by omega) () trivial
  simpa [abp] using this
def aff (x : Int) : Int := cond (decide (x < 0)) 1 (cond (decide (x > 65535)) 1 0)
def poolE (p : aQ) : Int := cond (decide ((p.Used.length : Int) > 32)) 5 (cond (nB 0 p.Used) (aff p.Last) 15)
theorem aiG (p : aQ) (hl : p.Used.length ≤ 140737488351232) : uK p = some (poolE p) := by
 unfold uK poolE
 rw [gL]
 refine congrArg _ ?_
 refine tO (l := p.Used) (F := fun fu i s => mB fu s p.Used (List.length p.Used : Int) i p) (g := fun l s => some (cond (nB s l) (aff p.Last) 15)) (fun _ _ => True) (fun fu s _ => ?_) (fun fu i s hi _ ih => ?_) (by omega) 0 trivial
 ·rw [mB, aN (by simp)]; unfold aff; simp only [nB, cS, gL]
 ·rw [mB, aM (lL hi), aM (inr hi), dV hi, cG (by omega), ih _ trivial, nB]
  cases decide (p.Used[i] ≤ s) <;> simp only [cS, dL, gt_iff_lt] <;> cases decide (65535 < p.Used[i]) <;> rfl
theorem ak3 (p : aQ) (x : Int) (h : nB 0 p.Used = true) (hl : p.Used.length ≤ 1000) : yZ p x = some (p.Used.contains x) := by
 unfold yZ
 rw [abv x (aax h) (by omega)]; rfl
def wQ (id : Int) : Int → List aB → Int
 | _, [] => -1
 | k, x :: r => cond (x.ID == id) k (wQ id (k + 1) r)
theorem find_eq (l : List aB) (id : Int) (hl : l.length < 1000000000000000) : o6 l id = some (wQ id 0 l) := by
 unfold o6 eR
 have := tE (n := l.length) (F := fun fu i (_ : Unit) => cK fu l (l.length : Int) i id) (G := fun i _ => some (wQ id (i : Int) (l.drop i), id)) (fun _ _ => True)
  (fun fu s _ => by rw [List.drop_length, cK, aN (by simp)]; rfl)
  (fun fu i s hi _ ih => by
   rw [cK, aM (lL hi), aM (inr hi), dV hi]
   unfold sB
   simp only [aU]
   rw [cG (by omega), ih () trivial, List.drop_eq_getElem_cons hi, wQ]
   cases l[i].ID == id <;> simp [cS, dL]) (by omega) () trivial
 rw [show (0 : Int) = ((0 : Nat) : Int) from rfl] at *
 rw [this]
 simp [aU]
theorem al3 (id : Int) : ∀ (l : List aB) (k : Int), 0 ≤ k → (0 ≤ wQ id k l ↔ l.any (fun x => x.ID == id) = true)
 | [], k, _ => by simp [wQ]
 | x :: r, k, hk => by
  rw [wQ, List.any_cons]
  cases x.ID == id with
  | true => simp [cS]; exact hk
  | false => rw [dL, Bool.false_or]; exact al3 id r (k + 1) (by omega)
def flightE (x : aB) : Int :=
 cond (checkM x.Message == 0) (cond (x.Message.Level == 0) 14 (cond (x.State == 1) 0 (cond (x.State == 2) (cond (x.Message.Level == 1) 9 0) 9))) (checkM x.Message)
def uV (used : List Int) (seen : List aB) (x : aB) : Int := cond (used.contains x.ID) (cond (seen.any fun y => y.ID == x.ID) 15 (flightE x)) 15
def oV (used : List Int) : List aB → List aB → Int
 | _, [] => 0
 | seen, x :: r => cond (uV used seen x == 0) (oV used (seen ++ [x]) r) (uV used seen x)
def aaB (w : aH) : Int :=
 cond (decide (w.Limit < 0)) 1 (cond (decide (w.Limit > 32)) 1 (cond (poolE w.Pool == 0) (cond (decide ((w.Items.length : Int) > 32)) 5 (cond (oV w.Pool.Used [] w.Items == 0) (cond (decide ((w.Items.length : Int) < (w.Pool.Used.length : Int))) 15 0) (oV w.Pool.Used [] w.Items))) (poolE w.Pool)))
theorem pL {p : aQ} (h : poolE p = 0) : p.Used.length ≤ 32 ∧ nB 0 p.Used = true ∧ 0 ≤ p.Last ∧ p.Last ≤ 65535 := by
 unfold poolE at h
 by_cases h1 : (p.Used.length : Int) > 32
 ·rw [aM (by simpa using h1)] at h; cases h
 ·rw [aN (by simpa using h1)] at h
  cases h2 : nB 0 p.Used with
  | false => rw [h2] at h; cases h
  | true =>
   rw [h2, cS] at h
   unfold aff at h
   by_cases h3 : p.Last < 0
   ·rw [aM (by simpa using h3)] at h; cases h
   ·rw [aN (by simpa using h3)] at h
    by_cases h4 : p.Last > 65535
    ·rw [aM (by simpa using h4)] at h; cases h
    ·exact ⟨by omega, rfl, by omega, by omega⟩
theorem arS (w : aH) (hw : okL aB.good w.Items) (hp : poolE w.Pool = 0) {i : Nat} (hi : i < w.Items.length) : mN w (i : Int) = some (uV w.Pool.Used (w.Items.take i) w.Items[i]) := by
 obtain ⟨p1, p2, _, _⟩ := pL hp
 have hl := hw.1
 have hg : (w.Items[i]).good := ain hw hi
 have hm : (w.Items[i]).Message.good := hg.2.2
 have ec : eF w.Items none (some (i : Int)) = w.Items.take i := by simp [eF]
 have hd : decide (wQ w.Items[i].ID 0 (w.Items.take i) ≥ 0) = (w.Items.take i).any fun y => y.ID == w.Items[i].ID := by
  rw [Bool.eq_iff_iff, ← al3 _ _ 0 (by omega)]; simp
 unfold mN mY uV flightE
 rw [aM (inr hi), dV hi, ak3 _ _ p2 (by omega), aM (by simp; omega), ec, find_eq _ _ (by simp; omega)]
 simp only [aU, hd, qR _ (aah hm), qC, oT, gL]
theorem ap3 {F : Nat → Int → Option Int} (w : aH) (hl : w.Items.length ≤ 140737488351232) (h0 : ∀ fu, F (fu + 1) (w.Items.length : Int) = some (cond (decide ((w.Items.length : Int) < (w.Pool.Used.length : Int))) 15 0))
  (h1 : ∀ fu i (hi : i < w.Items.length), F (fu + 1) (i : Int) = cond (uV w.Pool.Used (w.Items.take i) w.Items[i] == 0) (F fu ((i + 1 : Nat) : Int)) (some (uV w.Pool.Used (w.Items.take i) w.Items[i]))) :
  F fuel 0 = some (cond (oV w.Pool.Used [] w.Items == 0) (cond (decide ((w.Items.length : Int) < (w.Pool.Used.length : Int))) 15 0) (oV w.Pool.Used [] w.Items)) := by
 have := tE (n := w.Items.length) (F := fun fu i (_ : Unit) => F fu i) (G := fun i _ => some (cond (oV w.Pool.Used (w.Items.take i) (w.Items.drop i) == 0) (cond (decide ((w.Items.length : Int) < (w.Pool.Used.length : Int))) 15 0) (oV w.Pool.Used (w.Items.take i) (w.Items.drop i)))) (fun _ _ => True)
  (fun fu s _ => by rw [h0, List.drop_length]; rfl)
  (fun fu i s hi _ ih => by
   rw [h1 fu i hi, ih () trivial, List.drop_eq_getElem_cons hi, oV, List.take_succ_eq_append_getElem hi]
   cases hc : uV w.Pool.Used (w.Items.take i) w.Items[i] == 0 with
   | true => rfl
   | false => simp only [dL, hc]) (by omega) () trivial
 simpa using this
theorem arV (w : aH) (hw : okL aB.good w.Items) (hu : w.Pool.Used.length ≤ 140737488351232) : qI w = some (aaB w) := by
 unfold qI pU aaB
 rw [aiG _ hu]
 simp only [aU, oT, gL]
 by_cases hp : poolE w.Pool = 0
 ·rw [ap3 (F := fun fu i => jM fu (w.Items.length : Int) i w) w hw.1 (fun fu => by rw [jM, aN (by simp)]; simp only [gL])
   (fun fu i hi => by rw [jM, aM (lL hi), arS w hw hp hi, aU, cG (by have := hw.1; omega), oT])]
  simp only [gL]
 ·have e : (poolE w.Pool == 0) = false := by simpa using hp
  rw [e]; rfl
theorem arf (w : aV) (h : w.good) : wZ w = some (willE w) := by
 have hm : w.Message.good := h.2
 unfold wZ willE
 rw [ag7 _ _ (alm hm), qR _ (aah hm)]
 simp only [aU, qC, oT, gL, gt_iff_lt, ac9]
def jG (s : aC) : Int := oC id [headE s, subsE s.Subs, wP s.Queue, aaB s.Out, checkI s.In.IDs, willE s.Will]
theorem vA (s : aC) (h : s.good) : hJ s = some (jG s) := by
 obtain ⟨_, _, _, _, _, _, h1, h2, h3, h4, h5⟩ := id h
 unfold hJ jG
 rw [head_eq s h, ap9 s h1 h2, arV s.Out h3.2.1 h3.2.2.1.1, af7 s.In h4, arf s.Will h5]
 simp only [aU, oT, oC, id, gL]
 cases hh : headE s == 0
 ·rfl
 ·simp only [cS]
  cases hb : subsE s.Subs == 0
  ·simp only [dL, aU, hb]
  ·simp only [cS, aU]
   cases hq : wP s.Queue == 0
   ·simp only [dL]
   ·simp only [cS]
    cases hw : aaB s.Out == 0
    ·rfl
    ·simp only [cS]
     cases hi : checkI s.In.IDs == 0
     ·rfl
     ·simp only [cS]
      cases hl : willE s.Will == 0
      ·rfl
      ·have : willE s.Will = 0 := by simpa using hl
       rw [this]; rfl
end Md
end PX
