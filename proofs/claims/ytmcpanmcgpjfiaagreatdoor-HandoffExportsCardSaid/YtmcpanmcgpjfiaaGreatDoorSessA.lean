import Derived.Test.YtmcpanmcgpjfiaaGreatDoorInts
import Derived.Test.YtmcpanmcgpjfiaaGreatDoorPktC
import Derived.KernelRfl
set_option linter.unusedVariables false
set_option linter.unusedSimpArgs false
namespace PX
open Go
namespace Md
def aov (s : aI) : Bool := (!s.Online && s.Conn != 0) || (s.Online && s.Until != 0)
def aeh (s : aI) : Int :=
 cond (hY s.Client) (cond (s.User == [] || hY s.User) (cond (aov s) 9 (cond (dG 0 1099511627776 s.Expiry) (cond (dG 0 1099511627776 s.Until) (cond (dG 0 1099511627776 s.Dropped) 0 1) 1) 1)) 11) 11
theorem aBP (x y : Int) : nL x y = some (dG 0 y x) := by
 unfold nL dG
 simp only [wF, ge_iff_le]
theorem avK (x : Int) : tT x = some (dG 0 1099511627776 x) := by
 unfold tT dG
 simp only [wF, ge_iff_le]
theorem head_eq (s : aI) (h : s.good) : pV s = some (aeh s) := by
 have h1 : okS s.Client := h.1
 have h2 : okS s.User := h.2.1
 unfold pV mM iV aeh aov
 simp only [acB _ (p9 h1), acB _ (p9 h2), avK, bB, iJ, lA, cQ, gt_iff_lt, zE, ad1, abJ]
 try (cases hY s.Client <;> cases s.User == [] <;> cases hY s.User <;> cases s.Online <;> cases s.Conn == 0 <;> cases s.Until == 0 <;> rfl)
theorem apm (s : aI) (h : s.good) : qP s = some (aeh s) := by
 have h1 : okS s.Client := h.1
 have h2 : okS s.User := h.2.1
 unfold qP nH jM aeh aov
 simp only [vP _ (p9 h1), vP _ (p9 h2), aBP, bB, iJ, lA, cQ, ad1, abJ]
 try (cases hY s.Client <;> cases s.User == [] <;> cases hY s.User <;> cases s.Online <;> cases s.Conn == 0 <;> cases s.Until == 0 <;> rfl)
theorem atg (x : Int) : pU x = some (dG 0 2 x) := by
 unfold pU dG
 by_cases h0 : x = 0
 ·subst h0; rfl
 ·by_cases h1 : x = 1
  ·subst h1; rfl
  ·by_cases h2 : x = 2
   ·subst h2; rfl
   ·have e0 : (x == 0) = false := by simpa using h0
    have e1 : (x == 1) = false := by simpa using h1
    have e2 : (x == 2) = false := by simpa using h2
    rw [e0, e1, e2, dP, dP]
    congr 1
    symm
    rw [Bool.eq_false_iff]
    simp
    omega
theorem ark (x : aK) (h : x.good) : sO x = some (acO x) := by
 have h1 := p9 (show okS x.Filter from h.1)
 unfold sO acO sG
 rw [amS _ h1, agN _ h1, atg]
 simp only [bB, lA, cQ]
 cases vO x.Filter <;> rfl
theorem sub_eq (x : aK) (h : x.good) : qT x = some (acO x) := by
 have h1 := p9 (show okS x.Filter from h.1)
 unfold qT acO sH zO
 rw [arM _ h1, filter_eq, agB]
 simp only [bB, lA, cQ, gt_iff_lt, zE]
 cases hs : vO x.Filter with
 | none =>
  simp only [qM, Option.isSome, Bool.false_or, dE, dP, lA]
  cases rW x.Filter <;> cases hb : kT x.Filter uY <;> (try rw [show kT x.Filter ([36, 115, 104, 97, 114, 101, 47] : Str) = kT x.Filter uY from rfl, hb]) <;> cases x.NoLocal <;> simp [aby, cQ]
 | some y =>
  simp only [qM, Option.isSome, Bool.true_or, dE, dP]
def leO (p : Option Str) (f : Str) : Bool := match p with | none => false | some g => Op.bytesLess f g || f == g
def tC : Option Str → List aK → Int
 | _, [] => 0
 | p, x :: r => cond (acO x == 0) (cond (leO p x.Filter) 22 (tC (some x.Filter) r)) (acO x)
def abE (l : List aK) : Int := cond (decide ((l.length : Int) > 32)) 5 (tC none l)
def xQ (l : List aK) (i : Nat) : Option Str := if i = 0 then none else some (l.getD (i - 1) default).Filter
theorem amc {l : List aK} {i : Nat} (h : i < l.length) : xQ l (i + 1) = some l[i].Filter := by simp [xQ, h]
theorem akl (p : bN) (hl : p.IDs.length ≤ 140737488351232) : pR p = some (wL p.IDs) := by
 unfold pR
 rw [al1 _ (by show p.IDs.length < _; omega) rfl]; rfl
theorem anY (l : List aK) (h : okL aK.good l) : rD l = some (abE l) := by
 have hl := h.1
 unfold rD abE
 rw [cQ]
 refine congrArg _ ?_
 have := jG (n := l.length) (F := fun fu i (_ : Unit) => iE fu l i) (G := fun i _ => some (tC (xQ l i) (l.drop i))) (fun _ _ => True)
  (fun fu s _ => by rw [List.drop_length, iE, aY (by simp)]; rfl)
  (fun fu i s hi _ ih => by
   have ih := ih () trivial
   rw [amc hi] at ih
   rw [iE, aO (eM hi)]
   simp only [aO (inr hi), bZ hi, ark _ (zW h hi), bB, iJ]
   rw [bW (by omega), ih, List.drop_eq_getElem_cons hi, tC]
   cases acO l[i] == 0 with
   | false => rfl
   | true =>
    simp only [dE]
    rcases Nat.eq_zero_or_pos i with hz | hpos
    ·have e0 : decide ((i : Int) > 0) = false := by simp; omega
     rw [e0]; simp [xQ, hz, leO]
    ·have hq : i - 1 < l.length := by omega
     have e2 : IntKind.wrap .i64 ((i : Int) - 1) = ((i - 1 : Nat) : Int) := by rw [IntKind.wrap_i64]; omega
     have e0 : decide ((i : Int) > 0) = true := by simp; omega
     have e3 : xQ l i = some l[i - 1].Filter := by simp [xQ, show ¬ i = 0 by omega, hq]
     rw [e0, e2, e3]
     simp only [dE, aO (inr hq), bZ hq, leO, cQ]) (by omega) () trivial
 simpa [xQ] using this
def aaG (l : List aC) : Int := cond (decide ((l.length : Int) > 256)) 5 (rF mT l)
theorem anJ (l : List aC) (h : okL aC.good l) : pN l = some (aaG l) := by
 have hl := h.1
 unfold pN aaG
 rw [cQ]
 refine congrArg _ ?_
 refine sM (F := fun fu i => iX fu l i) (g := fun r => some (rF mT r)) (fun fu => by rw [iX, aY (by simp)]; rfl) (fun fu i hi ih => ?_) (by omega)
 rw [iX, aO (eM hi), aO (inr hi), bZ hi, adz _ (xJ (zW h hi)), bB, bW (by omega), ih, rF, iJ, cQ]
theorem awh (l : List aC) (h : okL aC.good l) : fL fuel l (l.length : Int) 0 = some (rF mT l) := by
 have hl := h.1
 refine sM (F := fun fu i => fL fu l (l.length : Int) i) (g := fun r => some (rF mT r)) (fun fu => by rw [fL, aY (by simp)]; rfl) (fun fu i hi ih => ?_) (by omega)
 rw [fL, aO (eM hi), aO (inr hi), bZ hi, zF _ (xJ (zW h hi)), bB, bW (by omega), ih, rF, iJ, cQ]
theorem aul (s : aI) (h1 : okL aK.good s.Subs) (h2 : okL aC.good s.Queue) : oV s = some (cond (abE s.Subs == 0) (aaG s.Queue) (abE s.Subs)) := by
 have hl := h1.1
 unfold oV abE aaG
 by_cases hc : (s.Subs.length : Int) > 32
 ·rw [show decide ((s.Subs.length : Int) > 32) = true by simpa using hc]; rfl
 ·rw [show decide ((s.Subs.length : Int) > 32) = false by simpa using hc]
  simp only [dP]
  have := jG (n := s.Subs.length) (F := fun fu i (_ : Unit) => gL fu s.Subs (s.Subs.length : Int) i s) (G := fun i _ => some (cond (tC (xQ s.Subs i) (s.Subs.drop i) == 0) (cond (decide ((s.Queue.length : Int) > 256)) 5 (rF mT s.Queue)) (tC (xQ s.Subs i) (s.Subs.drop i)))) (fun _ _ => True)
   (fun fu u _ => by
    rw [List.drop_length, gL, aY (by simp), awh _ h2]
    simp only [tC, beq_self_eq_true, dE, cQ])
   (fun fu i u hi _ ih => by
    have ih := ih () trivial
    rw [amc hi] at ih
    rw [gL, aO (eM hi)]
    simp only [aO (inr hi), bZ hi, sub_eq _ (zW h1 hi), bB, iJ]
    rw [bW (by omega), ih, List.drop_eq_getElem_cons hi, tC]
    cases hs : acO s.Subs[i] == 0 with
    | false => simp only [dP, hs]
    | true =>
     simp only [dE]
     rcases Nat.eq_zero_or_pos i with hz | hpos
     ·have e0 : decide ((i : Int) > 0) = false := by simp; omega
      rw [e0]; simp [xQ, hz, leO]
     ·have hq : i - 1 < s.Subs.length := by omega
      have e2 : IntKind.wrap .i64 ((i : Int) - 1) = ((i - 1 : Nat) : Int) := by rw [IntKind.wrap_i64]; omega
      have e0 : decide ((i : Int) > 0) = true := by simp; omega
      have e3 : xQ s.Subs i = some s.Subs[i - 1].Filter := by simp [xQ, show ¬ i = 0 by omega, hq]
      rw [e0, e2, e3]
      simp only [dE, aO (inr hq), bZ hq, leO]
      cases Op.bytesLess s.Subs[i].Filter s.Subs[i - 1].Filter || s.Subs[i].Filter == s.Subs[i - 1].Filter <;> rfl) (by omega) () trivial
  simpa [xQ] using this
def ais (x : Int) : Int := cond (decide (x < 0)) 1 (cond (decide (x > 65535)) 1 0)
def xL (p : bE) : Int := cond (decide ((p.Used.length : Int) > 32)) 5 (cond (qC 0 p.Used) (ais p.Last) 15)
theorem alF (p : bE) (hl : p.Used.length ≤ 140737488351232) : yE p = some (xL p) := by
 unfold yE xL
 rw [cQ]
 refine congrArg _ ?_
 refine jY (l := p.Used) (F := fun fu i s => nN fu s p.Used (List.length p.Used : Int) i p) (g := fun l s => some (cond (qC s l) (ais p.Last) 15)) (fun _ _ => True) (fun fu s _ => ?_) (fun fu i s hi _ ih => ?_) (by omega) 0 trivial
 ·rw [nN, aY (by simp)]; unfold ais; simp only [qC, dE, cQ]
 ·rw [nN, aO (eM hi), aO (inr hi), bZ hi, bW (by omega), ih _ trivial, qC]
  cases decide (p.Used[i] ≤ s) <;> simp only [dE, dP, gt_iff_lt] <;> cases decide (65535 < p.Used[i]) <;> rfl
theorem akj (p : bE) (hl : p.Used.length < 1000000000000000) : jI p = some (xL p) := by
 unfold jI xL
 rw [cQ]
 refine congrArg _ ?_
 have := jG (n := p.Used.length) (F := fun fu i (_ : Unit) => eE fu i p) (G := fun i _ => some (cond (qC (if i = 0 then 0 else p.Used.getD (i - 1) default) (p.Used.drop i)) (ais p.Last) 15)) (fun i _ => i = 0 ∨ 1 ≤ p.Used.getD (i - 1) default)
  (fun fu s _ => by
   rw [List.drop_length, eE, aY (by simp)]; unfold ais; simp only [qC, dE, cQ])
  (fun fu i s hi hp ih => by
   rw [eE, aO (eM hi)]
   simp only [aO (inr hi), bZ hi]
   have e1 : (p.Used.getD (i + 1 - 1) default) = p.Used[i] := by simp [hi]
   rw [List.drop_eq_getElem_cons hi, qC]
   by_cases c0 : p.Used[i] < 1
   ·rw [aO (by simpa using c0)]
    rcases hp with rfl | hp
    ·rw [if_pos rfl, aO (x := false) (decide_eq_true (by omega))]; rfl
    ·rw [aO (x := false) (decide_eq_true (by split <;> omega))]; rfl
   ·have ih := ih () (.inr (by rw [e1]; omega))
    rw [bW (by omega), ih]
    simp only [Nat.add_one_ne_zero, if_false, e1]
    rw [aY (by simpa using c0)]
    by_cases c2 : 65535 < p.Used[i]
    ·rw [aO (x := some 15) (by simpa using c2), decide_eq_true c2]
     cases decide (p.Used[i] ≤ if i = 0 then 0 else p.Used.getD (i - 1) default) <;> rfl
    ·rw [aY (x := some 15) (by simpa using c2), decide_eq_false c2]
     rcases Nat.eq_zero_or_pos i with hz | hpos
     ·have e0 : decide ((i : Int) > 0) = false := by simp; omega
      rw [e0, if_pos hz, decide_eq_false (show ¬ p.Used[i] ≤ 0 by omega)]; rfl
     ·have hq : i - 1 < p.Used.length := by omega
      have e2 : IntKind.wrap .i64 ((i : Int) - 1) = ((i - 1 : Nat) : Int) := by rw [IntKind.wrap_i64]; omega
      have e3 : (p.Used.getD (i - 1) default) = p.Used[i - 1] := by simp [hq]
      have e0 : decide ((i : Int) > 0) = true := by simp; omega
      simp only [e0, dE, e2, aO (inr hq), bZ hq, if_neg (show ¬ i = 0 by omega), e3]
      cases decide (p.Used[i] ≤ p.Used[i - 1]) <;> rfl) (by omega) () (.inl rfl)
 exact this
theorem anK (p : bE) (x : Int) (h : qC 0 p.Used = true) (hl : p.Used.length ≤ 1000) : abU p x = some (p.Used.contains x) := by
 unfold abU
 rw [arP x (an1 h) (by omega)]; rfl
def y7 (id : Int) : Int → List aE → Int
 | _, [] => -1
 | k, x :: r => cond (x.ID == id) k (y7 id (k + 1) r)
theorem find_eq (l : List aE) (id : Int) (hl : l.length < 1000000000000000) : vF l id = some (y7 id 0 l) := by
 unfold vF fC
 have := jG (n := l.length) (F := fun fu i (_ : Unit) => cR fu l (l.length : Int) i id) (G := fun i _ => some (y7 id (i : Int) (l.drop i), id)) (fun _ _ => True)
  (fun fu s _ => by rw [List.drop_length, cR, aY (by simp)]; rfl)
  (fun fu i s hi _ ih => by
   rw [cR, aO (eM hi), aO (inr hi), bZ hi]
   unfold v8
   simp only [bB]
   rw [bW (by omega), ih () trivial, List.drop_eq_getElem_cons hi, y7]
   cases l[i].ID == id <;> simp [dE, dP]) (by omega) () trivial
 rw [show (0 : Int) = ((0 : Nat) : Int) from rfl] at *
 rw [this]
 simp [bB]
theorem asd (l : List aE) (id : Int) (hl : l.length < 1000000000000000) : tP l id = some (y7 id 0 l) := by
 unfold tP
 have := jG (n := l.length) (F := fun fu i (_ : Unit) => kK fu l id i) (G := fun i _ => some (y7 id (i : Int) (l.drop i))) (fun _ _ => True)
  (fun fu s _ => by rw [List.drop_length, kK, aY (by simp)]; rfl)
  (fun fu i s hi _ ih => by
   rw [kK, aO (eM hi), aO (inr hi), bZ hi, bW (by omega), ih () trivial, List.drop_eq_getElem_cons hi, y7]
   cases l[i].ID == id <;> simp [dE, dP]) (by omega) () trivial
 simpa using this
theorem apH (id : Int) : ∀ (l : List aE) (k : Int), 0 ≤ k → (0 ≤ y7 id k l ↔ l.any (fun x => x.ID == id) = true)
 | [], k, _ => by simp [y7]
 | x :: r, k, hk => by
  rw [y7, List.any_cons]
  cases x.ID == id with
  | true => simp [dE]; exact hk
  | false => rw [dP, Bool.false_or]; exact apH id r (k + 1) (by omega)
theorem apI (id : Int) : ∀ (l : List aE) (k : Int) (i : Nat) (h : i < l.length), 0 ≤ k → l[i].ID = id → (y7 id k l < k + i ↔ (l.take i).any (fun x => x.ID == id) = true)
 | x :: r, k, 0, h, hk, he => by
  rw [y7, show x.ID == id by simpa using he, dE]
  simp
 | x :: r, k, i + 1, h, hk, he => by
  rw [y7, List.take_succ_cons, List.any_cons]
  cases x.ID == id with
  | true => simp [dE]; omega
  | false =>
   rw [dP, Bool.false_or, ← apI id r (k + 1) i (by simpa using h) (by omega) (by simpa using he)]
   have : k + ((i + 1 : Nat) : Int) = k + 1 + i := by omega
   rw [this]
def acJ (x : aE) : Int :=
 cond (mT x.Message == 0) (cond (x.Message.Level == 0) 14 (cond (x.State == 1) 0 (cond (x.State == 2) (cond (x.Message.Level == 1) 9 0) 9))) (mT x.Message)
def aae (used : List Int) (seen : List aE) (x : aE) : Int := cond (used.contains x.ID) (cond (seen.any fun y => y.ID == x.ID) 15 (acJ x)) 15
def vC (used : List Int) : List aE → List aE → Int
 | _, [] => 0
 | seen, x :: r => cond (aae used seen x == 0) (vC used (seen ++ [x]) r) (aae used seen x)
def afV (w : aM) : Int :=
 cond (decide (w.Limit < 0)) 1 (cond (decide (w.Limit > 32)) 1 (cond (xL w.Pool == 0) (cond (decide ((w.Items.length : Int) > 32)) 5 (cond (vC w.Pool.Used [] w.Items == 0) (cond (decide ((w.Items.length : Int) < (w.Pool.Used.length : Int))) 15 0) (vC w.Pool.Used [] w.Items))) (xL w.Pool)))
theorem agA {p : bE} (h : xL p = 0) : p.Used.length ≤ 32 ∧ qC 0 p.Used = true ∧ 0 ≤ p.Last ∧ p.Last ≤ 65535 := by
 unfold xL at h
 by_cases h1 : (p.Used.length : Int) > 32
 ·rw [aO (by simpa using h1)] at h; cases h
 ·rw [aY (by simpa using h1)] at h
  cases h2 : qC 0 p.Used with
  | false => rw [h2] at h; cases h
  | true =>
   rw [h2, dE] at h
   unfold ais at h
   by_cases h3 : p.Last < 0
   ·rw [aO (by simpa using h3)] at h; cases h
   ·rw [aY (by simpa using h3)] at h
    by_cases h4 : p.Last > 65535
    ·rw [aO (by simpa using h4)] at h; cases h
    ·exact ⟨by omega, rfl, by omega, by omega⟩
theorem avO (w : aM) (hw : okL aE.good w.Items) (hp : xL w.Pool = 0) {i : Nat} (hi : i < w.Items.length) : oW w (i : Int) = some (aae w.Pool.Used (w.Items.take i) w.Items[i]) := by
 obtain ⟨p1, p2, _, _⟩ := agA hp
 have hl := hw.1
 have hg : (w.Items[i]).good := zW hw hi
 have hm : (w.Items[i]).Message.good := hg.2.2
 have ec : c9 w.Items none (some (i : Int)) = w.Items.take i := by simp [c9]
 have hd : decide (y7 w.Items[i].ID 0 (w.Items.take i) ≥ 0) = (w.Items.take i).any fun y => y.ID == w.Items[i].ID := by
  rw [Bool.eq_iff_iff, ← apH _ _ 0 (by omega)]; simp
 unfold oW o7 aae acJ
 rw [aO (inr hi), bZ hi, anK _ _ p2 (by omega), aO (by simp; omega), ec, find_eq _ _ (by simp; omega)]
 simp only [bB, hd, zF _ (xJ hm), lA, iJ, cQ]
theorem apf (w : aM) (hw : okL aE.good w.Items) (hp : w.Pool.Used.length < 1000000000000000) {i : Nat} (hi : i < w.Items.length) : rA w (i : Int) = some (aae w.Pool.Used (w.Items.take i) w.Items[i]) := by
 have hl := hw.1
 have hg : (w.Items[i]).good := zW hw hi
 have hm : (w.Items[i]).Message.good := hg.2.2
 have hd : decide (y7 w.Items[i].ID 0 w.Items < (i : Int)) = (w.Items.take i).any fun y => y.ID == w.Items[i].ID := by
  rw [Bool.eq_iff_iff, ← apI _ w.Items 0 i hi (by omega) rfl]; simp
 unfold rA rQ aae acJ
 rw [aO (inr hi), bZ hi, anq _ _ (by omega), asd _ _ (by omega)]
 simp only [bB, hd, adz _ (xJ hm), lA, iJ, cQ]
theorem an0 {F : Nat → Int → Option Int} (w : aM) (hl : w.Items.length ≤ 140737488351232) (h0 : ∀ fu, F (fu + 1) (w.Items.length : Int) = some (cond (decide ((w.Items.length : Int) < (w.Pool.Used.length : Int))) 15 0))
  (h1 : ∀ fu i (hi : i < w.Items.length), F (fu + 1) (i : Int) = cond (aae w.Pool.Used (w.Items.take i) w.Items[i] == 0) (F fu ((i + 1 : Nat) : Int)) (some (aae w.Pool.Used (w.Items.take i) w.Items[i]))) :
  F fuel 0 = some (cond (vC w.Pool.Used [] w.Items == 0) (cond (decide ((w.Items.length : Int) < (w.Pool.Used.length : Int))) 15 0) (vC w.Pool.Used [] w.Items)) := by
 have := jG (n := w.Items.length) (F := fun fu i (_ : Unit) => F fu i) (G := fun i _ => some (cond (vC w.Pool.Used (w.Items.take i) (w.Items.drop i) == 0) (cond (decide ((w.Items.length : Int) < (w.Pool.Used.length : Int))) 15 0) (vC w.Pool.Used (w.Items.take i) (w.Items.drop i)))) (fun _ _ => True)
  (fun fu s _ => by rw [h0, List.drop_length]; rfl)
  (fun fu i s hi _ ih => by
   rw [h1 fu i hi, ih () trivial, List.drop_eq_getElem_cons hi, vC, List.take_succ_eq_append_getElem hi]
   cases hc : aae w.Pool.Used (w.Items.take i) w.Items[i] == 0 with
   | true => rfl
   | false => simp only [dP, hc]) (by omega) () trivial
 simpa using this
theorem ayV (w : aM) (hw : okL aE.good w.Items) (hu : w.Pool.Used.length ≤ 140737488351232) : tL w = some (afV w) := by
 unfold tL tE afV
 rw [alF _ hu]
 simp only [bB, iJ, cQ]
 by_cases hp : xL w.Pool = 0
 ·rw [an0 (F := fun fu i => kL fu (w.Items.length : Int) i w) w hw.1 (fun fu => by rw [kL, aY (by simp)]; simp only [cQ])
   (fun fu i hi => by rw [kL, aO (eM hi), avO w hw hp hi, bB, bW (by have := hw.1; omega), iJ])]
  simp only [cQ]
 ·have e : (xL w.Pool == 0) = false := by simpa using hp
  rw [e]; rfl
theorem aqj (w : aM) (hw : okL aE.good w.Items) (hu : w.Pool.Used.length < 1000000000000000) : pO w = some (afV w) := by
 unfold pO pZ afV
 rw [akj _ hu]
 simp only [bB, iJ, cQ]
 rw [an0 (F := fun fu i => iZ fu i w) w hw.1 (fun fu => by rw [iZ, aY (by simp)]; simp only [cQ])
   (fun fu i hi => by rw [iZ, aO (eM hi), apf w hw hu hi, bB, bW (by have := hw.1; omega), iJ])]
 simp only [cQ]
theorem avT (w : bO) (h : w.good) : aai w = some (aan w) := by
 have hm : w.Message.good := h.2
 unfold aai aan
 rw [akv _ _ (ajl hm), zF _ (xJ hm)]
 simp only [bB, lA, iJ, cQ, gt_iff_lt, zE]
theorem atv (w : bO) (h : w.good) : pH w = some (aan w) := by
 have hm : w.Message.good := h.2
 unfold pH aan
 rw [abD _ _ (ajl hm), adz _ (xJ hm)]
 simp only [bB, lA, iJ, cQ, gt_iff_lt, zE]
def qV (s : aI) : Int := rF id [aeh s, abE s.Subs, aaG s.Queue, afV s.Out, wL s.In.IDs, aan s.Will]
theorem aup (l : List Int) (hl : l.length < 1000000) : pJ l = some (rF id l) := by
 unfold pJ
 refine sM (F := fun fu i => iW fu l i) (g := fun r => some (rF id r)) (fun fu => by rw [iW, aY (by simp)]; rfl) (fun fu i hi ih => ?_) (by omega)
 rw [iW, aO (eM hi)]
 simp only [aO (inr hi), bZ hi]
 rw [bW (by omega), ih, rF, iJ, cQ]
 rfl
theorem ajB (s : aI) (h : s.good) : rZ s = some (qV s) := by
 obtain ⟨_, _, _, _, _, _, h1, h2, h3, h4, h5⟩ := id h
 unfold rZ qV
 rw [head_eq s h, aul s h1 h2, ayV s.Out h3.2.1 h3.2.2.1.1, ajK s.In h4, avT s.Will h5]
 simp only [bB, iJ, rF, id, cQ]
 cases hh : aeh s == 0
 ·rfl
 ·simp only [dE]
  cases hb : abE s.Subs == 0
  ·simp only [dP, bB, hb]
  ·simp only [dE, bB]
   cases hq : aaG s.Queue == 0
   ·simp only [dP]
   ·simp only [dE]
    cases hw : afV s.Out == 0
    ·rfl
    ·simp only [dE]
     cases hi : wL s.In.IDs == 0
     ·rfl
     ·simp only [dE]
      cases hl : aan s.Will == 0
      ·rfl
      ·have : aan s.Will = 0 := by simpa using hl
       rw [this]; rfl
theorem al4 (s : aI) (h : s.good) : kM s = some (qV s) := by
 obtain ⟨_, _, _, _, _, _, h1, h2, h3, h4, h5⟩ := id h
 have hu : okL (okI .i64) s.Out.Pool.Used := h3.2.2.1
 have hu1 := hu.1
 unfold kM qV
 rw [apm s h, anY _ h1, anJ _ h2, aqj s.Out h3.2.1 (by omega), akl s.In h4.1, atv s.Will h5]
 simp only [bB]
 rw [aup _ (by simp)]
 rfl
end Md
end PX
