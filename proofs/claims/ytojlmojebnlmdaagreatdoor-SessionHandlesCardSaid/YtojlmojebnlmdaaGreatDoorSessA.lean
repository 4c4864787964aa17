import Derived.Test.YtojlmojebnlmdaaGreatDoorInts
import Derived.Test.YtojlmojebnlmdaaGreatDoorPktC
import Derived.KernelRfl
set_option linter.unusedVariables false
set_option linter.unusedSimpArgs false
namespace PX
open Go
namespace Md
theorem mL : cA = some true := by kernel_rfl
theorem amJ {l : List aG} (h : l.length * 32 ≤ 140737488355328) : dW l = some l := by
 unfold dW
 cases l with
 | nil => simp only [List.isEmpty, cH]; exact afJ _
 | cons a l => simp only [List.isEmpty, dB, List.nil_append]; rw [aN (by simpa using h)]
theorem ar9 {l : List aF} (h : l.length * 32 ≤ 140737488355328) : fU l = some l := by
 unfold fU
 cases l with
 | nil => simp only [List.isEmpty, cH]; exact afJ _
 | cons a l => simp only [List.isEmpty, dB, List.nil_append]; rw [aN (by simpa using h)]
def air (s : aB) : Bool := (!s.Online && s.Conn != 0) || (s.Online && s.Until != 0)
def headE (s : aB) : Int :=
 cond (lN s.Client) (cond (s.User == [] || lN s.User) (cond (air s) 9 (cond (dL 0 1099511627776 s.Expiry) (cond (dL 0 1099511627776 s.Until) (cond (dL 0 1099511627776 s.Dropped) 0 1) 1) 1)) 11) 11
theorem aC0 (x y : Int) : nW x y = some (dL 0 y x) := by
 unfold nW dL
 simp only [uV, ge_iff_le]
theorem apH (s : aB) (h : s.good) : qT s = some (headE s) := by
 have h1 : okS s.Client := h.1
 have h2 : okS s.User := h.2.1
 unfold qT nB iT headE air
 simp only [vF _ (n7 h1), vF _ (n7 h2), aC0, bB, dG, fE, cF, adK, abH]
 try (cases lN s.Client <;> cases s.User == [] <;> cases lN s.User <;> cases s.Online <;> cases s.Conn == 0 <;> cases s.Until == 0 <;> rfl)
theorem auV (x : Int) : pF x = some (dL 0 2 x) := by
 unfold pF dL
 by_cases h0 : x = 0
 ·subst h0; rfl
 ·by_cases h1 : x = 1
  ·subst h1; rfl
  ·by_cases h2 : x = 2
   ·subst h2; rfl
   ·have e0 : (x == 0) = false := by simpa using h0
    have e1 : (x == 1) = false := by simpa using h1
    have e2 : (x == 2) = false := by simpa using h2
    rw [e0, e1, e2, dB, dB]
    congr 1
    symm
    rw [Bool.eq_false_iff]
    simp
    omega
theorem akQ (x : aF) (h : x.good) : oW x = some (uQ x) := by
 have h1 := n7 (show okS x.Filter from h.1)
 unfold oW uQ sU
 rw [ab2 _ h1, abP _ h1, auV]
 simp only [bB, fE, cF]
 cases xA x.Filter <;> rfl
def leO (p : Option Str) (f : Str) : Bool := match p with | none => false | some g => Op.bytesLess f g || f == g
def vQ : Option Str → List aF → Int
 | _, [] => 0
 | p, x :: r => cond (uQ x == 0) (cond (leO p x.Filter) 22 (vQ (some x.Filter) r)) (uQ x)
def subsE (l : List aF) : Int := cond (decide ((l.length : Int) > 32)) 5 (vQ none l)
def wY (l : List aF) (i : Nat) : Option Str := if i = 0 then none else some (l.getD (i - 1) default).Filter
theorem amm {l : List aF} {i : Nat} (h : i < l.length) : wY l (i + 1) = some l[i].Filter := by simp [wY, h]
theorem akj (p : bE) (hl : p.IDs.length ≤ 140737488351232) : pG p = some (checkI p.IDs) := by
 unfold pG
 rw [alV _ (by show p.IDs.length < _; omega) rfl]; rfl
theorem ao8 (l : List aF) (h : okL aF.good l) : qU l = some (subsE l) := by
 have hl := h.1
 unfold qU subsE
 rw [cF]
 refine congrArg _ ?_
 have := m6 (n := l.length) (F := fun fu i (_ : Unit) => gL fu l i) (G := fun i _ => some (vQ (wY l i) (l.drop i))) (fun _ _ => True)
  (fun fu s _ => by rw [List.drop_length, gL, aT (by simp)]; rfl)
  (fun fu i s hi _ ih => by
   have ih := ih () trivial
   rw [amm hi] at ih
   rw [gL, aN (dU hi)]
   simp only [aN (inr hi), bU hi, akQ _ (y9 h hi), bB, dG]
   rw [bM (by omega), ih, List.drop_eq_getElem_cons hi, vQ]
   cases uQ l[i] == 0 with
   | false => rfl
   | true =>
    simp only [cH]
    rcases Nat.eq_zero_or_pos i with hz | hpos
    ·have e0 : decide ((i : Int) > 0) = false := by simp; omega
     rw [e0]; simp [wY, hz, leO]
    ·have hq : i - 1 < l.length := by omega
     have e2 : IntKind.wrap .i64 ((i : Int) - 1) = ((i - 1 : Nat) : Int) := by rw [IntKind.wrap_i64]; omega
     have e0 : decide ((i : Int) > 0) = true := by simp; omega
     have e3 : wY l i = some l[i - 1].Filter := by simp [wY, show ¬ i = 0 by omega, hq]
     rw [e0, e2, e3]
     simp only [cH, aN (inr hq), bU hq, leO, cF]) (by omega) () trivial
 simpa [wY] using this
def wE (l : List aA) : Int := cond (decide ((l.length : Int) > 256)) 5 (eD hX l)
theorem an4 (l : List aA) (h : okL aA.good l) : pS l = some (wE l) := by
 have hl := h.1
 unfold pS wE
 rw [cF]
 refine congrArg _ ?_
 refine mZ (F := fun fu i => hH fu l i) (g := fun r => some (eD hX r)) (fun fu => by rw [hH, aT (by simp)]; rfl) (fun fu i hi ih => ?_) (by omega)
 rw [hH, aN (dU hi), aN (inr hi), bU hi, qX _ (l4 (y9 h hi)), bB, bM (by omega), ih, eD, dG, cF]
def ad2 (x : Int) : Int := cond (decide (x < 0)) 1 (cond (decide (x > 65535)) 1 0)
def poolE (p : aO) : Int := cond (decide ((p.Used.length : Int) > 32)) 5 (cond (lT 0 p.Used) (ad2 p.Last) 15)
theorem akh (p : aO) (hl : p.Used.length < 1000000000000000) : iG p = some (poolE p) := by
 unfold iG poolE
 rw [cF]
 refine congrArg _ ?_
 have := m6 (n := p.Used.length) (F := fun fu i (_ : Unit) => dO fu i p) (G := fun i _ => some (cond (lT (if i = 0 then 0 else p.Used.getD (i - 1) default) (p.Used.drop i)) (ad2 p.Last) 15)) (fun i _ => i = 0 ∨ 1 ≤ p.Used.getD (i - 1) default)
  (fun fu s _ => by
   rw [List.drop_length, dO, aT (by simp)]; unfold ad2; simp only [lT, cH, cF])
  (fun fu i s hi hp ih => by
   rw [dO, aN (dU hi)]
   simp only [aN (inr hi), bU hi]
   have e1 : (p.Used.getD (i + 1 - 1) default) = p.Used[i] := by simp [hi]
   rw [List.drop_eq_getElem_cons hi, lT]
   by_cases c0 : p.Used[i] < 1
   ·rw [aN (by simpa using c0)]
    rcases hp with rfl | hp
    ·rw [if_pos rfl, aN (x := false) (decide_eq_true (by omega))]; rfl
    ·rw [aN (x := false) (decide_eq_true (by split <;> omega))]; rfl
   ·have ih := ih () (.inr (by rw [e1]; omega))
    rw [bM (by omega), ih]
    simp only [Nat.add_one_ne_zero, if_false, e1]
    rw [aT (by simpa using c0)]
    by_cases c2 : 65535 < p.Used[i]
    ·rw [aN (x := some 15) (by simpa using c2), decide_eq_true c2]
     cases decide (p.Used[i] ≤ if i = 0 then 0 else p.Used.getD (i - 1) default) <;> rfl
    ·rw [aT (x := some 15) (by simpa using c2), decide_eq_false c2]
     rcases Nat.eq_zero_or_pos i with hz | hpos
     ·have e0 : decide ((i : Int) > 0) = false := by simp; omega
      rw [e0, if_pos hz, decide_eq_false (show ¬ p.Used[i] ≤ 0 by omega)]; rfl
     ·have hq : i - 1 < p.Used.length := by omega
      have e2 : IntKind.wrap .i64 ((i : Int) - 1) = ((i - 1 : Nat) : Int) := by rw [IntKind.wrap_i64]; omega
      have e3 : (p.Used.getD (i - 1) default) = p.Used[i - 1] := by simp [hq]
      have e0 : decide ((i : Int) > 0) = true := by simp; omega
      simp only [e0, cH, e2, aN (inr hq), bU hq, if_neg (show ¬ i = 0 by omega), e3]
      cases decide (p.Used[i] ≤ p.Used[i - 1]) <;> rfl) (by omega) () (.inl rfl)
 exact this
def vM (id : Int) : Int → List aD → Int
 | _, [] => -1
 | k, x :: r => cond (x.ID == id) k (vM id (k + 1) r)
theorem find_eq (l : List aD) (id : Int) (hl : l.length < 1000000000000000) : sA l id = some (vM id 0 l) := by
 unfold sA eL
 have := m6 (n := l.length) (F := fun fu i (_ : Unit) => cM fu l (l.length : Int) i id) (G := fun i _ => some (vM id (i : Int) (l.drop i), id)) (fun _ _ => True)
  (fun fu s _ => by rw [List.drop_length, cM, aT (by simp)]; rfl)
  (fun fu i s hi _ ih => by
   rw [cM, aN (dU hi), aN (inr hi), bU hi]
   unfold vU
   simp only [bB]
   rw [bM (by omega), ih () trivial, List.drop_eq_getElem_cons hi, vM]
   cases l[i].ID == id <;> simp [cH, dB]) (by omega) () trivial
 rw [show (0 : Int) = ((0 : Nat) : Int) from rfl] at *
 rw [this]
 simp [bB]
theorem amH (l : List aD) (id : Int) (hl : l.length < 1000000000000000) : qI l id = some (vM id 0 l) := by
 unfold qI
 have := m6 (n := l.length) (F := fun fu i (_ : Unit) => jY fu l id i) (G := fun i _ => some (vM id (i : Int) (l.drop i))) (fun _ _ => True)
  (fun fu s _ => by rw [List.drop_length, jY, aT (by simp)]; rfl)
  (fun fu i s hi _ ih => by
   rw [jY, aN (dU hi), aN (inr hi), bU hi, bM (by omega), ih () trivial, List.drop_eq_getElem_cons hi, vM]
   cases l[i].ID == id <;> simp [cH, dB]) (by omega) () trivial
 simpa using this
theorem aqb (id : Int) : ∀ (l : List aD) (k : Int) (i : Nat) (h : i < l.length), 0 ≤ k → l[i].ID = id → (vM id k l < k + i ↔ (l.take i).any (fun x => x.ID == id) = true)
 | x :: r, k, 0, h, hk, he => by
  rw [vM, show x.ID == id by simpa using he, cH]
  simp
 | x :: r, k, i + 1, h, hk, he => by
  rw [vM, List.take_succ_cons, List.any_cons]
  cases x.ID == id with
  | true => simp [cH]; omega
  | false =>
   rw [dB, Bool.false_or, ← aqb id r (k + 1) i (by simpa using h) (by omega) (by simpa using he)]
   have : k + ((i + 1 : Nat) : Int) = k + 1 + i := by omega
   rw [this]
def flightE (x : aD) : Int :=
 cond (hX x.Message == 0) (cond (x.Message.Level == 0) 14 (cond (x.State == 1) 0 (cond (x.State == 2) (cond (x.Message.Level == 1) 9 0) 9))) (hX x.Message)
def vP (used : List Int) (seen : List aD) (x : aD) : Int := cond (used.contains x.ID) (cond (seen.any fun y => y.ID == x.ID) 15 (flightE x)) 15
def qY (used : List Int) : List aD → List aD → Int
 | _, [] => 0
 | seen, x :: r => cond (vP used seen x == 0) (qY used (seen ++ [x]) r) (vP used seen x)
def aaU (w : aI) : Int :=
 cond (decide (w.Limit < 0)) 1 (cond (decide (w.Limit > 32)) 1 (cond (poolE w.Pool == 0) (cond (decide ((w.Items.length : Int) > 32)) 5 (cond (qY w.Pool.Used [] w.Items == 0) (cond (decide ((w.Items.length : Int) < (w.Pool.Used.length : Int))) 15 0) (qY w.Pool.Used [] w.Items))) (poolE w.Pool)))
theorem w7 {p : aO} (h : poolE p = 0) : p.Used.length ≤ 32 ∧ lT 0 p.Used = true ∧ 0 ≤ p.Last ∧ p.Last ≤ 65535 := by
 unfold poolE at h
 by_cases h1 : (p.Used.length : Int) > 32
 ·rw [aN (by simpa using h1)] at h; cases h
 ·rw [aT (by simpa using h1)] at h
  cases h2 : lT 0 p.Used with
  | false => rw [h2] at h; cases h
  | true =>
   rw [h2, cH] at h
   unfold ad2 at h
   by_cases h3 : p.Last < 0
   ·rw [aN (by simpa using h3)] at h; cases h
   ·rw [aT (by simpa using h3)] at h
    by_cases h4 : p.Last > 65535
    ·rw [aN (by simpa using h4)] at h; cases h
    ·exact ⟨by omega, rfl, by omega, by omega⟩
theorem apB (w : aI) (hw : okL aD.good w.Items) (hp : w.Pool.Used.length < 1000000000000000) {i : Nat} (hi : i < w.Items.length) : rC w (i : Int) = some (vP w.Pool.Used (w.Items.take i) w.Items[i]) := by
 have hl := hw.1
 have hg : (w.Items[i]).good := y9 hw hi
 have hm : (w.Items[i]).Message.good := hg.2.2
 have hd : decide (vM w.Items[i].ID 0 w.Items < (i : Int)) = (w.Items.take i).any fun y => y.ID == w.Items[i].ID := by
  rw [Bool.eq_iff_iff, ← aqb _ w.Items 0 i hi (by omega) rfl]; simp
 unfold rC rO vP flightE
 rw [aN (inr hi), bU hi, acR _ _ (by omega), amH _ _ (by omega)]
 simp only [bB, hd, qX _ (l4 hm), fE, dG, cF]
theorem aps {F : Nat → Int → Option Int} (w : aI) (hl : w.Items.length ≤ 140737488351232) (h0 : ∀ fu, F (fu + 1) (w.Items.length : Int) = some (cond (decide ((w.Items.length : Int) < (w.Pool.Used.length : Int))) 15 0))
  (h1 : ∀ fu i (hi : i < w.Items.length), F (fu + 1) (i : Int) = cond (vP w.Pool.Used (w.Items.take i) w.Items[i] == 0) (F fu ((i + 1 : Nat) : Int)) (some (vP w.Pool.Used (w.Items.take i) w.Items[i]))) :
  F fuel 0 = some (cond (qY w.Pool.Used [] w.Items == 0) (cond (decide ((w.Items.length : Int) < (w.Pool.Used.length : Int))) 15 0) (qY w.Pool.Used [] w.Items)) := by
 have := m6 (n := w.Items.length) (F := fun fu i (_ : Unit) => F fu i) (G := fun i _ => some (cond (qY w.Pool.Used (w.Items.take i) (w.Items.drop i) == 0) (cond (decide ((w.Items.length : Int) < (w.Pool.Used.length : Int))) 15 0) (qY w.Pool.Used (w.Items.take i) (w.Items.drop i)))) (fun _ _ => True)
  (fun fu s _ => by rw [h0, List.drop_length]; rfl)
  (fun fu i s hi _ ih => by
   rw [h1 fu i hi, ih () trivial, List.drop_eq_getElem_cons hi, qY, List.take_succ_eq_append_getElem hi]
   cases hc : vP w.Pool.Used (w.Items.take i) w.Items[i] == 0 with
   | true => rfl
   | false => simp only [dB, hc]) (by omega) () trivial
 simpa using this
theorem aqS (w : aI) (hw : okL aD.good w.Items) (hu : w.Pool.Used.length < 1000000000000000) : pI w = some (aaU w) := by
 unfold pI p9 aaU
 rw [akh _ hu]
 simp only [bB, dG, cF]
 rw [aps (F := fun fu i => hJ fu i w) w hw.1 (fun fu => by rw [hJ, aT (by simp)]; simp only [cF])
   (fun fu i hi => by rw [hJ, aN (dU hi), apB w hw hu hi, bB, bM (by have := hw.1; omega), dG])]
 simp only [cF]
theorem auS (w : aU) (h : w.good) : pH w = some (willE w) := by
 have hm : w.Message.good := h.2
 unfold pH willE
 rw [n6 _ _ (aeh hm), qX _ (l4 hm)]
 simp only [bB, fE, dG, cF, gt_iff_lt, qQ]
def oK (s : aB) : Int := eD id [headE s, subsE s.Subs, wE s.Queue, aaU s.Out, checkI s.In.IDs, willE s.Will]
theorem atL (l : List Int) (hl : l.length < 1000000) : pE l = some (eD id l) := by
 unfold pE
 refine mZ (F := fun fu i => g6 fu l i) (g := fun r => some (eD id r)) (fun fu => by rw [g6, aT (by simp)]; rfl) (fun fu i hi ih => ?_) (by omega)
 rw [g6, aN (dU hi)]
 simp only [aN (inr hi), bU hi]
 rw [bM (by omega), ih, eD, dG, cF]
 rfl
theorem wV (s : aB) (h : s.good) : iI s = some (oK s) := by
 obtain ⟨_, _, _, _, _, _, h1, h2, h3, h4, h5⟩ := id h
 have hu : okL (okI .i64) s.Out.Pool.Used := h3.2.2.1
 have hu1 := hu.1
 unfold iI oK
 rw [apH s h, ao8 _ h1, an4 _ h2, aqS s.Out h3.2.1 (by omega), akj s.In h4.1, auS s.Will h5]
 simp only [bB]
 rw [atL _ (by simp)]
 rfl
end Md
end PX
