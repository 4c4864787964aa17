import Derived.Test.YtojlmojebnlmdaaGreatDoorInts
import Derived.Test.YtojlmojebnlmdaaGreatDoorPktC
import Derived.KernelRfl
set_option linter.unusedVariables false
set_option linter.unusedSimpArgs false
namespace PX
open Go
namespace Md
theorem mL : cA = some true := by kernel_rfl
theorem amJ {l : List aG} (h : l.length * 32 ≤ 140737488355328) : dW l = some l := by
 unfold dW
 cases l with
 | nil => simp only [List.isEmpty, cH]; exact afJ _
 | cons a l => simp only [List.isEmpty, dB, List.nil_append]; rw [aN (by simpa using h)]
def air (s : aB) : Bool := (!s.Online && s.Conn != 0) || (s.Online && s.Until != 0)
def headE (s : aB) : Int :=
 cond (lN s.Client) (cond (s.User == [] || lN s.User) (cond (air s) 9 (cond (dL 0 1099511627776 s.Expiry) (cond (dL 0 1099511627776 s.Until) (cond (dL 0 1099511627776 s.Dropped) 0 1) 1) 1)) 11) 11
theorem awp (x : Int) : tO x = some (dL 0 1099511627776 x) := by
 unfold tO dL
 simp only [uV, ge_iff_le]
theorem head_eq (s : aB) (h : s.good) : pD s = some (headE s) := by
 have h1 : okS s.Client := h.1
 have h2 : okS s.User := h.2.1
 unfold pD lZ hQ headE air
 simp only [aiJ _ (n7 h1), aiJ _ (n7 h2), awp, bB, dG, fE, cF, gt_iff_lt, qQ, adK, abH]
 try (cases lN s.Client <;> cases s.User == [] <;> cases lN s.User <;> cases s.Online <;> cases s.Conn == 0 <;> cases s.Until == 0 <;> rfl)
theorem sub_eq (x : aF) (h : x.good) : nT x = some (uQ x) := by
 have h1 := n7 (show okS x.Filter from h.1)
 unfold nT uQ sP acw
 rw [ar5 _ h1, filter_eq, agE]
 simp only [bB, fE, cF, gt_iff_lt, qQ]
 cases hs : xA x.Filter with
 | none =>
  simp only [qF, Option.isSome, Bool.false_or, cH, dB, fE]
  cases vH x.Filter <;> cases hb : kH x.Filter uY <;> (try rw [show kH x.Filter ([36, 115, 104, 97, 114, 101, 47] : Str) = kH x.Filter uY from rfl, hb]) <;> cases x.NoLocal <;> simp [aa7, cF]
 | some y =>
  simp only [qF, Option.isSome, Bool.true_or, cH, dB]
def leO (p : Option Str) (f : Str) : Bool := match p with | none => false | some g => Op.bytesLess f g || f == g
def vQ : Option Str → List aF → Int
 | _, [] => 0
 | p, x :: r => cond (uQ x == 0) (cond (leO p x.Filter) 22 (vQ (some x.Filter) r)) (uQ x)
def subsE (l : List aF) : Int := cond (decide ((l.length : Int) > 32)) 5 (vQ none l)
def wY (l : List aF) (i : Nat) : Option Str := if i = 0 then none else some (l.getD (i - 1) default).Filter
theorem amm {l : List aF} {i : Nat} (h : i < l.length) : wY l (i + 1) = some l[i].Filter := by simp [wY, h]
def wE (l : List aA) : Int := cond (decide ((l.length : Int) > 256)) 5 (eD hX l)
theorem av9 (l : List aA) (h : okL aA.good l) : eS fuel l (l.length : Int) 0 = some (eD hX l) := by
 have hl := h.1
 refine mZ (F := fun fu i => eS fu l (l.length : Int) i) (g := fun r => some (eD hX r)) (fun fu => by rw [eS, aT (by simp)]; rfl) (fun fu i hi ih => ?_) (by omega)
 rw [eS, aN (dU hi), aN (inr hi), bU hi, uP _ (l4 (y9 h hi)), bB, bM (by omega), ih, eD, dG, cF]
theorem aul (s : aB) (h1 : okL aF.good s.Subs) (h2 : okL aA.good s.Queue) : oH s = some (cond (subsE s.Subs == 0) (wE s.Queue) (subsE s.Subs)) := by
 have hl := h1.1
 unfold oH subsE wE
 by_cases hc : (s.Subs.length : Int) > 32
 ·rw [show decide ((s.Subs.length : Int) > 32) = true by simpa using hc]; rfl
 ·rw [show decide ((s.Subs.length : Int) > 32) = false by simpa using hc]
  simp only [dB]
  have := m6 (n := s.Subs.length) (F := fun fu i (_ : Unit) => fN fu s.Subs (s.Subs.length : Int) i s) (G := fun i _ => some (cond (vQ (wY s.Subs i) (s.Subs.drop i) == 0) (cond (decide ((s.Queue.length : Int) > 256)) 5 (eD hX s.Queue)) (vQ (wY s.Subs i) (s.Subs.drop i)))) (fun _ _ => True)
   (fun fu u _ => by
    rw [List.drop_length, fN, aT (by simp), av9 _ h2]
    simp only [vQ, beq_self_eq_true, cH, cF])
   (fun fu i u hi _ ih => by
    have ih := ih () trivial
    rw [amm hi] at ih
    rw [fN, aN (dU hi)]
    simp only [aN (inr hi), bU hi, sub_eq _ (y9 h1 hi), bB, dG]
    rw [bM (by omega), ih, List.drop_eq_getElem_cons hi, vQ]
    cases hs : uQ s.Subs[i] == 0 with
    | false => simp only [dB, hs]
    | true =>
     simp only [cH]
     rcases Nat.eq_zero_or_pos i with hz | hpos
     ·have e0 : decide ((i : Int) > 0) = false := by simp; omega
      rw [e0]; simp [wY, hz, leO]
     ·have hq : i - 1 < s.Subs.length := by omega
      have e2 : IntKind.wrap .i64 ((i : Int) - 1) = ((i - 1 : Nat) : Int) := by rw [IntKind.wrap_i64]; omega
      have e0 : decide ((i : Int) > 0) = true := by simp; omega
      have e3 : wY s.Subs i = some s.Subs[i - 1].Filter := by simp [wY, show ¬ i = 0 by omega, hq]
      rw [e0, e2, e3]
      simp only [cH, aN (inr hq), bU hq, leO]
      cases Op.bytesLess s.Subs[i].Filter s.Subs[i - 1].Filter || s.Subs[i].Filter == s.Subs[i - 1].Filter <;> rfl) (by omega) () trivial
  simpa [wY] using this
def ad2 (x : Int) : Int := cond (decide (x < 0)) 1 (cond (decide (x > 65535)) 1 0)
def poolE (p : aO) : Int := cond (decide ((p.Used.length : Int) > 32)) 5 (cond (lT 0 p.Used) (ad2 p.Last) 15)
theorem al2 (p : aO) (hl : p.Used.length ≤ 140737488351232) : xU p = some (poolE p) := by
 unfold xU poolE
 rw [cF]
 refine congrArg _ ?_
 refine sC (l := p.Used) (F := fun fu i s => nO fu s p.Used (List.length p.Used : Int) i p) (g := fun l s => some (cond (lT s l) (ad2 p.Last) 15)) (fun _ _ => True) (fun fu s _ => ?_) (fun fu i s hi _ ih => ?_) (by omega) 0 trivial
 ·rw [nO, aT (by simp)]; unfold ad2; simp only [lT, cH, cF]
 ·rw [nO, aN (dU hi), aN (inr hi), bU hi, bM (by omega), ih _ trivial, lT]
  cases decide (p.Used[i] ≤ s) <;> simp only [cH, dB, gt_iff_lt] <;> cases decide (65535 < p.Used[i]) <;> rfl
theorem anC (p : aO) (x : Int) (h : lT 0 p.Used = true) (hl : p.Used.length ≤ 1000) : abM p x = some (p.Used.contains x) := by
 unfold abM
 rw [ad9 x (acT h) (by omega)]; rfl
def vM (id : Int) : Int → List aD → Int
 | _, [] => -1
 | k, x :: r => cond (x.ID == id) k (vM id (k + 1) r)
theorem find_eq (l : List aD) (id : Int) (hl : l.length < 1000000000000000) : sA l id = some (vM id 0 l) := by
 unfold sA eL
 have := m6 (n := l.length) (F := fun fu i (_ : Unit) => cM fu l (l.length : Int) i id) (G := fun i _ => some (vM id (i : Int) (l.drop i), id)) (fun _ _ => True)
  (fun fu s _ => by rw [List.drop_length, cM, aT (by simp)]; rfl)
  (fun fu i s hi _ ih => by
   rw [cM, aN (dU hi), aN (inr hi), bU hi]
   unfold vU
   simp only [bB]
   rw [bM (by omega), ih () trivial, List.drop_eq_getElem_cons hi, vM]
   cases l[i].ID == id <;> simp [cH, dB]) (by omega) () trivial
 rw [show (0 : Int) = ((0 : Nat) : Int) from rfl] at *
 rw [this]
 simp [bB]
theorem ap2 (id : Int) : ∀ (l : List aD) (k : Int), 0 ≤ k → (0 ≤ vM id k l ↔ l.any (fun x => x.ID == id) = true)
 | [], k, _ => by simp [vM]
 | x :: r, k, hk => by
  rw [vM, List.any_cons]
  cases x.ID == id with
  | true => simp [cH]; exact hk
  | false => rw [dB, Bool.false_or]; exact ap2 id r (k + 1) (by omega)
def flightE (x : aD) : Int :=
 cond (hX x.Message == 0) (cond (x.Message.Level == 0) 14 (cond (x.State == 1) 0 (cond (x.State == 2) (cond (x.Message.Level == 1) 9 0) 9))) (hX x.Message)
def vP (used : List Int) (seen : List aD) (x : aD) : Int := cond (used.contains x.ID) (cond (seen.any fun y => y.ID == x.ID) 15 (flightE x)) 15
def qY (used : List Int) : List aD → List aD → Int
 | _, [] => 0
 | seen, x :: r => cond (vP used seen x == 0) (qY used (seen ++ [x]) r) (vP used seen x)
def aaU (w : aI) : Int :=
 cond (decide (w.Limit < 0)) 1 (cond (decide (w.Limit > 32)) 1 (cond (poolE w.Pool == 0) (cond (decide ((w.Items.length : Int) > 32)) 5 (cond (qY w.Pool.Used [] w.Items == 0) (cond (decide ((w.Items.length : Int) < (w.Pool.Used.length : Int))) 15 0) (qY w.Pool.Used [] w.Items))) (poolE w.Pool)))
theorem w7 {p : aO} (h : poolE p = 0) : p.Used.length ≤ 32 ∧ lT 0 p.Used = true ∧ 0 ≤ p.Last ∧ p.Last ≤ 65535 := by
 unfold poolE at h
 by_cases h1 : (p.Used.length : Int) > 32
 ·rw [aN (by simpa using h1)] at h; cases h
 ·rw [aT (by simpa using h1)] at h
  cases h2 : lT 0 p.Used with
  | false => rw [h2] at h; cases h
  | true =>
   rw [h2, cH] at h
   unfold ad2 at h
   by_cases h3 : p.Last < 0
   ·rw [aN (by simpa using h3)] at h; cases h
   ·rw [aT (by simpa using h3)] at h
    by_cases h4 : p.Last > 65535
    ·rw [aN (by simpa using h4)] at h; cases h
    ·exact ⟨by omega, rfl, by omega, by omega⟩
theorem awc (w : aI) (hw : okL aD.good w.Items) (hp : poolE w.Pool = 0) {i : Nat} (hi : i < w.Items.length) : oE w (i : Int) = some (vP w.Pool.Used (w.Items.take i) w.Items[i]) := by
 obtain ⟨p1, p2, _, _⟩ := w7 hp
 have hl := hw.1
 have hg : (w.Items[i]).good := y9 hw hi
 have hm : (w.Items[i]).Message.good := hg.2.2
 have ec : bR w.Items none (some (i : Int)) = w.Items.take i := by simp [bR]
 have hd : decide (vM w.Items[i].ID 0 (w.Items.take i) ≥ 0) = (w.Items.take i).any fun y => y.ID == w.Items[i].ID := by
  rw [Bool.eq_iff_iff, ← ap2 _ _ 0 (by omega)]; simp
 unfold oE oU vP flightE
 rw [aN (inr hi), bU hi, anC _ _ p2 (by omega), aN (by simp; omega), ec, find_eq _ _ (by simp; omega)]
 simp only [bB, hd, uP _ (l4 hm), fE, dG, cF]
theorem aps {F : Nat → Int → Option Int} (w : aI) (hl : w.Items.length ≤ 140737488351232) (h0 : ∀ fu, F (fu + 1) (w.Items.length : Int) = some (cond (decide ((w.Items.length : Int) < (w.Pool.Used.length : Int))) 15 0))
  (h1 : ∀ fu i (hi : i < w.Items.length), F (fu + 1) (i : Int) = cond (vP w.Pool.Used (w.Items.take i) w.Items[i] == 0) (F fu ((i + 1 : Nat) : Int)) (some (vP w.Pool.Used (w.Items.take i) w.Items[i]))) :
  F fuel 0 = some (cond (qY w.Pool.Used [] w.Items == 0) (cond (decide ((w.Items.length : Int) < (w.Pool.Used.length : Int))) 15 0) (qY w.Pool.Used [] w.Items)) := by
 have := m6 (n := w.Items.length) (F := fun fu i (_ : Unit) => F fu i) (G := fun i _ => some (cond (qY w.Pool.Used (w.Items.take i) (w.Items.drop i) == 0) (cond (decide ((w.Items.length : Int) < (w.Pool.Used.length : Int))) 15 0) (qY w.Pool.Used (w.Items.take i) (w.Items.drop i)))) (fun _ _ => True)
  (fun fu s _ => by rw [h0, List.drop_length]; rfl)
  (fun fu i s hi _ ih => by
   rw [h1 fu i hi, ih () trivial, List.drop_eq_getElem_cons hi, qY, List.take_succ_eq_append_getElem hi]
   cases hc : vP w.Pool.Used (w.Items.take i) w.Items[i] == 0 with
   | true => rfl
   | false => simp only [dB, hc]) (by omega) () trivial
 simpa using this
theorem axo (w : aI) (hw : okL aD.good w.Items) (hu : w.Pool.Used.length ≤ 140737488351232) : tV w = some (aaU w) := by
 unfold tV tD aaU
 rw [al2 _ hu]
 simp only [bB, dG, cF]
 by_cases hp : poolE w.Pool = 0
 ·rw [aps (F := fun fu i => j2 fu (w.Items.length : Int) i w) w hw.1 (fun fu => by rw [j2, aT (by simp)]; simp only [cF])
   (fun fu i hi => by rw [j2, aN (dU hi), awc w hw hp hi, bB, bM (by have := hw.1; omega), dG])]
  simp only [cF]
 ·have e : (poolE w.Pool == 0) = false := by simpa using hp
  rw [e]; rfl
theorem avW (w : aU) (h : w.good) : zS w = some (willE w) := by
 have hm : w.Message.good := h.2
 unfold zS willE
 rw [ak7 _ _ (aeh hm), uP _ (l4 hm)]
 simp only [bB, fE, dG, cF, gt_iff_lt, qQ]
def oK (s : aB) : Int := eD id [headE s, subsE s.Subs, wE s.Queue, aaU s.Out, checkI s.In.IDs, willE s.Will]
theorem adb (s : aB) (h : s.good) : hY s = some (oK s) := by
 obtain ⟨_, _, _, _, _, _, h1, h2, h3, h4, h5⟩ := id h
 unfold hY oK
 rw [head_eq s h, aul s h1 h2, axo s.Out h3.2.1 h3.2.2.1.1, ajX s.In h4, avW s.Will h5]
 simp only [bB, dG, eD, id, cF]
 cases hh : headE s == 0
 ·rfl
 ·simp only [cH]
  cases hb : subsE s.Subs == 0
  ·simp only [dB, bB, hb]
  ·simp only [cH, bB]
   cases hq : wE s.Queue == 0
   ·simp only [dB]
   ·simp only [cH]
    cases hw : aaU s.Out == 0
    ·rfl
    ·simp only [cH]
     cases hi : checkI s.In.IDs == 0
     ·rfl
     ·simp only [cH]
      cases hl : willE s.Will == 0
      ·rfl
      ·have : willE s.Will = 0 := by simpa using hl
       rw [this]; rfl
end Md
end PX
