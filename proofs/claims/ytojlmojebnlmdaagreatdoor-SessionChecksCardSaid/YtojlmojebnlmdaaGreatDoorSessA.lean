import Derived.Test.YtojlmojebnlmdaaGreatDoorInts
import Derived.Test.YtojlmojebnlmdaaGreatDoorPktC
import Derived.KernelRfl
set_option linter.unusedVariables false
set_option linter.unusedSimpArgs false
namespace PX
open Go
namespace Md
theorem apw : pA = some true := by kernel_rfl
def ai7 (s : aD) : Bool := (!s.Online && s.Conn != 0) || (s.Online && s.Until != 0)
def aeM (s : aD) : Int :=
 cond (o7 s.Client) (cond (s.User == [] || o7 s.User) (cond (ai7 s) 9 (cond (hY 0 1099511627776 s.Expiry) (cond (hY 0 1099511627776 s.Until) (cond (hY 0 1099511627776 s.Dropped) 0 1) 1) 1)) 11) 11
theorem atG (x y : Int) : k8 x y = some (hY 0 y x) := by
 unfold k8 hY
 simp only [sQ, ge_iff_le]
theorem apt (x : Int) : pK x = some (hY 0 1099511627776 x) := by
 unfold pK hY
 simp only [sQ, ge_iff_le]
theorem head_eq (s : aD) (h : s.good) : mK s = some (aeM s) := by
 have h1 : okS s.Client := h.1
 have h2 : okS s.User := h.2.1
 unfold mK j7 fU aeM ai7
 simp only [aeO _ (sP h1), aeO _ (sP h2), apt, cW, fN, jE, bT, gt_iff_lt, tX, aaM, xI]
 try (cases o7 s.Client <;> cases s.User == [] <;> cases o7 s.User <;> cases s.Online <;> cases s.Conn == 0 <;> cases s.Until == 0 <;> rfl)
theorem akD (s : aD) (h : s.good) : nQ s = some (aeM s) := by
 have h1 : okS s.Client := h.1
 have h2 : okS s.User := h.2.1
 unfold nQ kV gL aeM ai7
 simp only [w3 _ (sP h1), w3 _ (sP h2), atG, cW, fN, jE, bT, aaM, xI]
 try (cases o7 s.Client <;> cases s.User == [] <;> cases o7 s.User <;> cases s.Online <;> cases s.Conn == 0 <;> cases s.Until == 0 <;> rfl)
theorem anM (x : Int) : mJ x = some (hY 0 2 x) := by
 unfold mJ hY
 by_cases h0 : x = 0
 ·subst h0; rfl
 ·by_cases h1 : x = 1
  ·subst h1; rfl
  ·by_cases h2 : x = 2
   ·subst h2; rfl
   ·have e0 : (x == 0) = false := by simpa using h0
    have e1 : (x == 1) = false := by simpa using h1
    have e2 : (x == 2) = false := by simpa using h2
    rw [e0, e1, e2, mX, mX]
    congr 1
    symm
    rw [Bool.eq_false_iff]
    simp
    omega
theorem al8 (x : aF) (h : x.good) : oR x = some (acJ x) := by
 have h1 := sP (show okS x.Filter from h.1)
 unfold oR acJ oJ
 rw [aiL _ h1, adl _ h1, anM]
 simp only [cW, jE, bT]
 cases sB x.Filter <;> rfl
theorem sub_eq (x : aF) (h : x.good) : lA x = some (acJ x) := by
 have h1 := sP (show okS x.Filter from h.1)
 unfold lA acJ oQ aby
 rw [ami _ h1, filter_eq, adm]
 simp only [cW, jE, bT, gt_iff_lt, tX]
 cases hs : sB x.Filter with
 | none =>
  simp only [nF, Option.isSome, Bool.false_or, gU, mX, jE]
  cases qN x.Filter <;> cases hb : iU x.Filter qG <;> (try rw [show iU x.Filter ([36, 115, 104, 97, 114, 101, 47] : Str) = iU x.Filter qG from rfl, hb]) <;> cases x.NoLocal <;> simp [wB, bT]
 | some y =>
  simp only [nF, Option.isSome, Bool.true_or, gU, mX]
def leO (p : Option Str) (f : Str) : Bool := match p with | none => false | some g => Op.bytesLess f g || f == g
def aa5 : Option Str → List aF → Int
 | _, [] => 0
 | p, x :: r => cond (acJ x == 0) (cond (leO p x.Filter) 22 (aa5 (some x.Filter) r)) (acJ x)
def ac9 (l : List aF) : Int := cond (decide ((l.length : Int) > 32)) 5 (aa5 none l)
def sH (l : List aF) (i : Nat) : Option Str := if i = 0 then none else some (l.getD (i - 1) default).Filter
theorem aic {l : List aF} {i : Nat} (h : i < l.length) : sH l (i + 1) = some l[i].Filter := by simp [sH, h]
theorem agv (p : aS) (hl : p.IDs.length ≤ 140737488351232) : mN p = some (xN p.IDs) := by
 unfold mN
 rw [ahG _ (by show p.IDs.length < _; omega) rfl]; rfl
theorem ajF (l : List aF) (h : okL aF.good l) : nK l = some (ac9 l) := by
 have hl := h.1
 unfold nK ac9
 rw [bT]
 refine congrArg _ ?_
 have := kN (n := l.length) (F := fun fu i (_ : Unit) => fA fu l i) (G := fun i _ => some (aa5 (sH l i) (l.drop i))) (fun _ _ => True)
  (fun fu s _ => by rw [List.drop_length, fA, aW (by simp)]; rfl)
  (fun fu i s hi _ ih => by
   have ih := ih () trivial
   rw [aic hi] at ih
   rw [fA, aQ (kP hi)]
   simp only [aQ (inr hi), cP hi, al8 _ (zG h hi), cW, fN]
   rw [bY (by omega), ih, List.drop_eq_getElem_cons hi, aa5]
   cases acJ l[i] == 0 with
   | false => rfl
   | true =>
    simp only [gU]
    rcases Nat.eq_zero_or_pos i with hz | hpos
    ·have e0 : decide ((i : Int) > 0) = false := by simp; omega
     rw [e0]; simp [sH, hz, leO]
    ·have hq : i - 1 < l.length := by omega
     have e2 : IntKind.wrap .i64 ((i : Int) - 1) = ((i - 1 : Nat) : Int) := by rw [IntKind.wrap_i64]; omega
     have e0 : decide ((i : Int) > 0) = true := by simp; omega
     have e3 : sH l i = some l[i - 1].Filter := by simp [sH, show ¬ i = 0 by omega, hq]
     rw [e0, e2, e3]
     simp only [gU, aQ (inr hq), cP hq, leO, bT]) (by omega) () trivial
 simpa [sH] using this
def acp (l : List aA) : Int := cond (decide ((l.length : Int) > 256)) 5 (mS oN l)
theorem aj8 (l : List aA) (h : okL aA.good l) : mH l = some (acp l) := by
 have hl := h.1
 unfold mH acp
 rw [bT]
 refine congrArg _ ?_
 refine uI (F := fun fu i => fW fu l i) (g := fun r => some (mS oN r)) (fun fu => by rw [fW, aW (by simp)]; rfl) (fun fu i hi ih => ?_) (by omega)
 rw [fW, aQ (kP hi), aQ (inr hi), cP hi, aaa _ (sI (zG h hi)), cW, bY (by omega), ih, mS, fN, bT]
theorem apG (l : List aA) (h : okL aA.good l) : dM fuel l (l.length : Int) 0 = some (mS oN l) := by
 have hl := h.1
 refine uI (F := fun fu i => dM fu l (l.length : Int) i) (g := fun r => some (mS oN r)) (fun fu => by rw [dM, aW (by simp)]; rfl) (fun fu i hi ih => ?_) (by omega)
 rw [dM, aQ (kP hi), aQ (inr hi), cP hi, tW _ (sI (zG h hi)), cW, bY (by omega), ih, mS, fN, bT]
theorem aov (s : aD) (h1 : okL aF.good s.Subs) (h2 : okL aA.good s.Queue) : lQ s = some (cond (ac9 s.Subs == 0) (acp s.Queue) (ac9 s.Subs)) := by
 have hl := h1.1
 unfold lQ ac9 acp
 by_cases hc : (s.Subs.length : Int) > 32
 ·rw [show decide ((s.Subs.length : Int) > 32) = true by simpa using hc]; rfl
 ·rw [show decide ((s.Subs.length : Int) > 32) = false by simpa using hc]
  simp only [mX]
  have := kN (n := s.Subs.length) (F := fun fu i (_ : Unit) => eH fu s.Subs (s.Subs.length : Int) i s) (G := fun i _ => some (cond (aa5 (sH s.Subs i) (s.Subs.drop i) == 0) (cond (decide ((s.Queue.length : Int) > 256)) 5 (mS oN s.Queue)) (aa5 (sH s.Subs i) (s.Subs.drop i)))) (fun _ _ => True)
   (fun fu u _ => by
    rw [List.drop_length, eH, aW (by simp), apG _ h2]
    simp only [aa5, beq_self_eq_true, gU, bT])
   (fun fu i u hi _ ih => by
    have ih := ih () trivial
    rw [aic hi] at ih
    rw [eH, aQ (kP hi)]
    simp only [aQ (inr hi), cP hi, sub_eq _ (zG h1 hi), cW, fN]
    rw [bY (by omega), ih, List.drop_eq_getElem_cons hi, aa5]
    cases hs : acJ s.Subs[i] == 0 with
    | false => simp only [mX, hs]
    | true =>
     simp only [gU]
     rcases Nat.eq_zero_or_pos i with hz | hpos
     ·have e0 : decide ((i : Int) > 0) = false := by simp; omega
      rw [e0]; simp [sH, hz, leO]
     ·have hq : i - 1 < s.Subs.length := by omega
      have e2 : IntKind.wrap .i64 ((i : Int) - 1) = ((i - 1 : Nat) : Int) := by rw [IntKind.wrap_i64]; omega
      have e0 : decide ((i : Int) > 0) = true := by simp; omega
      have e3 : sH s.Subs i = some s.Subs[i - 1].Filter := by simp [sH, show ¬ i = 0 by omega, hq]
      rw [e0, e2, e3]
      simp only [gU, aQ (inr hq), cP hq, leO]
      cases Op.bytesLess s.Subs[i].Filter s.Subs[i - 1].Filter || s.Subs[i].Filter == s.Subs[i - 1].Filter <;> rfl) (by omega) () trivial
  simpa [sH] using this
def aeJ (x : Int) : Int := cond (decide (x < 0)) 1 (cond (decide (x > 65535)) 1 0)
def vE (p : aJ) : Int := cond (decide ((p.Used.length : Int) > 32)) 5 (cond (oY 0 p.Used) (aeJ p.Last) 15)
theorem ahM (p : aJ) (hl : p.Used.length ≤ 140737488351232) : tF p = some (vE p) := by
 unfold tF vE
 rw [bT]
 refine congrArg _ ?_
 refine ahg (l := p.Used) (F := fun fu i s => k7 fu s p.Used (List.length p.Used : Int) i p) (g := fun l s => some (cond (oY s l) (aeJ p.Last) 15)) (fun _ _ => True) (fun fu s _ => ?_) (fun fu i s hi _ ih => ?_) (by omega) 0 trivial
 ·rw [k7, aW (by simp)]; unfold aeJ; simp only [oY, gU, bT]
 ·rw [k7, aQ (kP hi), aQ (inr hi), cP hi, bY (by omega), ih _ trivial, oY]
  cases decide (p.Used[i] ≤ s) <;> simp only [gU, mX, gt_iff_lt] <;> cases decide (65535 < p.Used[i]) <;> rfl
theorem agK (p : aJ) (hl : p.Used.length < 1000000000000000) : gH p = some (vE p) := by
 unfold gH vE
 rw [bT]
 refine congrArg _ ?_
 have := kN (n := p.Used.length) (F := fun fu i (_ : Unit) => cU fu i p) (G := fun i _ => some (cond (oY (if i = 0 then 0 else p.Used.getD (i - 1) default) (p.Used.drop i)) (aeJ p.Last) 15)) (fun i _ => i = 0 ∨ 1 ≤ p.Used.getD (i - 1) default)
  (fun fu s _ => by
   rw [List.drop_length, cU, aW (by simp)]; unfold aeJ; simp only [oY, gU, bT])
  (fun fu i s hi hp ih => by
   rw [cU, aQ (kP hi)]
   simp only [aQ (inr hi), cP hi]
   have e1 : (p.Used.getD (i + 1 - 1) default) = p.Used[i] := by simp [hi]
   rw [List.drop_eq_getElem_cons hi, oY]
   by_cases c0 : p.Used[i] < 1
   ·rw [aQ (by simpa using c0)]
    rcases hp with rfl | hp
    ·rw [if_pos rfl, aQ (x := false) (decide_eq_true (by omega))]; rfl
    ·rw [aQ (x := false) (decide_eq_true (by split <;> omega))]; rfl
   ·have ih := ih () (.inr (by rw [e1]; omega))
    rw [bY (by omega), ih]
    simp only [Nat.add_one_ne_zero, if_false, e1]
    rw [aW (by simpa using c0)]
    by_cases c2 : 65535 < p.Used[i]
    ·rw [aQ (x := some 15) (by simpa using c2), decide_eq_true c2]
     cases decide (p.Used[i] ≤ if i = 0 then 0 else p.Used.getD (i - 1) default) <;> rfl
    ·rw [aW (x := some 15) (by simpa using c2), decide_eq_false c2]
     rcases Nat.eq_zero_or_pos i with hz | hpos
     ·have e0 : decide ((i : Int) > 0) = false := by simp; omega
      rw [e0, if_pos hz, decide_eq_false (show ¬ p.Used[i] ≤ 0 by omega)]; rfl
     ·have hq : i - 1 < p.Used.length := by omega
      have e2 : IntKind.wrap .i64 ((i : Int) - 1) = ((i - 1 : Nat) : Int) := by rw [IntKind.wrap_i64]; omega
      have e3 : (p.Used.getD (i - 1) default) = p.Used[i - 1] := by simp [hq]
      have e0 : decide ((i : Int) > 0) = true := by simp; omega
      simp only [e0, gU, e2, aQ (inr hq), cP hq, if_neg (show ¬ i = 0 by omega), e3]
      cases decide (p.Used[i] ≤ p.Used[i - 1]) <;> rfl) (by omega) () (.inl rfl)
 exact this
theorem akb (p : aJ) (x : Int) (h : oY 0 p.Used = true) (hl : p.Used.length ≤ 1000) : xH p x = some (p.Used.contains x) := by
 unfold xH
 rw [amI x (ajw h) (by omega)]; rfl
def tU (id : Int) : Int → List aB → Int
 | _, [] => -1
 | k, x :: r => cond (x.ID == id) k (tU id (k + 1) r)
theorem find_eq (l : List aB) (id : Int) (hl : l.length < 1000000000000000) : n9 l id = some (tU id 0 l) := by
 unfold n9 dH
 have := kN (n := l.length) (F := fun fu i (_ : Unit) => bM fu l (l.length : Int) i id) (G := fun i _ => some (tU id (i : Int) (l.drop i), id)) (fun _ _ => True)
  (fun fu s _ => by rw [List.drop_length, bM, aW (by simp)]; rfl)
  (fun fu i s hi _ ih => by
   rw [bM, aQ (kP hi), aQ (inr hi), cP hi]
   unfold qY
   simp only [cW]
   rw [bY (by omega), ih () trivial, List.drop_eq_getElem_cons hi, tU]
   cases l[i].ID == id <;> simp [gU, mX]) (by omega) () trivial
 rw [show (0 : Int) = ((0 : Nat) : Int) from rfl] at *
 rw [this]
 simp [cW]
theorem amv (l : List aB) (id : Int) (hl : l.length < 1000000000000000) : pJ l id = some (tU id 0 l) := by
 unfold pJ
 have := kN (n := l.length) (F := fun fu i (_ : Unit) => iP fu l id i) (G := fun i _ => some (tU id (i : Int) (l.drop i))) (fun _ _ => True)
  (fun fu s _ => by rw [List.drop_length, iP, aW (by simp)]; rfl)
  (fun fu i s hi _ ih => by
   rw [iP, aQ (kP hi), aQ (inr hi), cP hi, bY (by omega), ih () trivial, List.drop_eq_getElem_cons hi, tU]
   cases l[i].ID == id <;> simp [gU, mX]) (by omega) () trivial
 simpa using this
theorem akZ (id : Int) : ∀ (l : List aB) (k : Int), 0 ≤ k → (0 ≤ tU id k l ↔ l.any (fun x => x.ID == id) = true)
 | [], k, _ => by simp [tU]
 | x :: r, k, hk => by
  rw [tU, List.any_cons]
  cases x.ID == id with
  | true => simp [gU]; exact hk
  | false => rw [mX, Bool.false_or]; exact akZ id r (k + 1) (by omega)
theorem akO (id : Int) : ∀ (l : List aB) (k : Int) (i : Nat) (h : i < l.length), 0 ≤ k → l[i].ID = id → (tU id k l < k + i ↔ (l.take i).any (fun x => x.ID == id) = true)
 | x :: r, k, 0, h, hk, he => by
  rw [tU, show x.ID == id by simpa using he, gU]
  simp
 | x :: r, k, i + 1, h, hk, he => by
  rw [tU, List.take_succ_cons, List.any_cons]
  cases x.ID == id with
  | true => simp [gU]; omega
  | false =>
   rw [mX, Bool.false_or, ← akO id r (k + 1) i (by simpa using h) (by omega) (by simpa using he)]
   have : k + ((i + 1 : Nat) : Int) = k + 1 + i := by omega
   rw [this]
def ahY (x : aB) : Int :=
 cond (oN x.Message == 0) (cond (x.Message.Level == 0) 14 (cond (x.State == 1) 0 (cond (x.State == 2) (cond (x.Message.Level == 1) 9 0) 9))) (oN x.Message)
def yZ (used : List Int) (seen : List aB) (x : aB) : Int := cond (used.contains x.ID) (cond (seen.any fun y => y.ID == x.ID) 15 (ahY x)) 15
def xM (used : List Int) : List aB → List aB → Int
 | _, [] => 0
 | seen, x :: r => cond (yZ used seen x == 0) (xM used (seen ++ [x]) r) (yZ used seen x)
def ahZ (w : aG) : Int :=
 cond (decide (w.Limit < 0)) 1 (cond (decide (w.Limit > 32)) 1 (cond (vE w.Pool == 0) (cond (decide ((w.Items.length : Int) > 32)) 5 (cond (xM w.Pool.Used [] w.Items == 0) (cond (decide ((w.Items.length : Int) < (w.Pool.Used.length : Int))) 15 0) (xM w.Pool.Used [] w.Items))) (vE w.Pool)))
theorem alm {p : aJ} (h : vE p = 0) : p.Used.length ≤ 32 ∧ oY 0 p.Used = true ∧ 0 ≤ p.Last ∧ p.Last ≤ 65535 := by
 unfold vE at h
 by_cases h1 : (p.Used.length : Int) > 32
 ·rw [aQ (by simpa using h1)] at h; cases h
 ·rw [aW (by simpa using h1)] at h
  cases h2 : oY 0 p.Used with
  | false => rw [h2] at h; cases h
  | true =>
   rw [h2, gU] at h
   unfold aeJ at h
   by_cases h3 : p.Last < 0
   ·rw [aQ (by simpa using h3)] at h; cases h
   ·rw [aW (by simpa using h3)] at h
    by_cases h4 : p.Last > 65535
    ·rw [aQ (by simpa using h4)] at h; cases h
    ·exact ⟨by omega, rfl, by omega, by omega⟩
theorem apb (w : aG) (hw : okL aB.good w.Items) (hp : vE w.Pool = 0) {i : Nat} (hi : i < w.Items.length) : lO w (i : Int) = some (yZ w.Pool.Used (w.Items.take i) w.Items[i]) := by
 obtain ⟨p1, p2, _, _⟩ := alm hp
 have hl := hw.1
 have hg : (w.Items[i]).good := zG hw hi
 have hm : (w.Items[i]).Message.good := hg.2.2
 have ec : bN w.Items none (some (i : Int)) = w.Items.take i := by simp [bN]
 have hd : decide (tU w.Items[i].ID 0 (w.Items.take i) ≥ 0) = (w.Items.take i).any fun y => y.ID == w.Items[i].ID := by
  rw [Bool.eq_iff_iff, ← akZ _ _ 0 (by omega)]; simp
 unfold lO l9 yZ ahY
 rw [aQ (inr hi), cP hi, akb _ _ p2 (by omega), aQ (by simp; omega), ec, find_eq _ _ (by simp; omega)]
 simp only [cW, hd, tW _ (sI hm), jE, fN, bT]
theorem akx (w : aG) (hw : okL aB.good w.Items) (hp : w.Pool.Used.length < 1000000000000000) {i : Nat} (hi : i < w.Items.length) : nN w (i : Int) = some (yZ w.Pool.Used (w.Items.take i) w.Items[i]) := by
 have hl := hw.1
 have hg : (w.Items[i]).good := zG hw hi
 have hm : (w.Items[i]).Message.good := hg.2.2
 have hd : decide (tU w.Items[i].ID 0 w.Items < (i : Int)) = (w.Items.take i).any fun y => y.ID == w.Items[i].ID := by
  rw [Bool.eq_iff_iff, ← akO _ w.Items 0 i hi (by omega) rfl]; simp
 unfold nN nU yZ ahY
 rw [aQ (inr hi), cP hi, ajM _ _ (by omega), amv _ _ (by omega)]
 simp only [cW, hd, aaa _ (sI hm), jE, fN, bT]
theorem ako {F : Nat → Int → Option Int} (w : aG) (hl : w.Items.length ≤ 140737488351232) (h0 : ∀ fu, F (fu + 1) (w.Items.length : Int) = some (cond (decide ((w.Items.length : Int) < (w.Pool.Used.length : Int))) 15 0))
  (h1 : ∀ fu i (hi : i < w.Items.length), F (fu + 1) (i : Int) = cond (yZ w.Pool.Used (w.Items.take i) w.Items[i] == 0) (F fu ((i + 1 : Nat) : Int)) (some (yZ w.Pool.Used (w.Items.take i) w.Items[i]))) :
  F fuel 0 = some (cond (xM w.Pool.Used [] w.Items == 0) (cond (decide ((w.Items.length : Int) < (w.Pool.Used.length : Int))) 15 0) (xM w.Pool.Used [] w.Items)) := by
 have := kN (n := w.Items.length) (F := fun fu i (_ : Unit) => F fu i) (G := fun i _ => some (cond (xM w.Pool.Used (w.Items.take i) (w.Items.drop i) == 0) (cond (decide ((w.Items.length : Int) < (w.Pool.Used.length : Int))) 15 0) (xM w.Pool.Used (w.Items.take i) (w.Items.drop i)))) (fun _ _ => True)
  (fun fu s _ => by rw [h0, List.drop_length]; rfl)
  (fun fu i s hi _ ih => by
   rw [h1 fu i hi, ih () trivial, List.drop_eq_getElem_cons hi, xM, List.take_succ_eq_append_getElem hi]
   cases hc : yZ w.Pool.Used (w.Items.take i) w.Items[i] == 0 with
   | true => rfl
   | false => simp only [mX, hc]) (by omega) () trivial
 simpa using this
theorem arI (w : aG) (hw : okL aB.good w.Items) (hu : w.Pool.Used.length ≤ 140737488351232) : pM w = some (ahZ w) := by
 unfold pM o8 ahZ
 rw [ahM _ hu]
 simp only [cW, fN, bT]
 by_cases hp : vE w.Pool = 0
 ·rw [ako (F := fun fu i => iR fu (w.Items.length : Int) i w) w hw.1 (fun fu => by rw [iR, aW (by simp)]; simp only [bT])
   (fun fu i hi => by rw [iR, aQ (kP hi), apb w hw hp hi, cW, bY (by have := hw.1; omega), fN])]
  simp only [bT]
 ·have e : (vE w.Pool == 0) = false := by simpa using hp
  rw [e]; rfl
theorem alj (w : aG) (hw : okL aB.good w.Items) (hu : w.Pool.Used.length < 1000000000000000) : mO w = some (ahZ w) := by
 unfold mO m6 ahZ
 rw [agK _ hu]
 simp only [cW, fN, bT]
 rw [ako (F := fun fu i => fR fu i w) w hw.1 (fun fu => by rw [fR, aW (by simp)]; simp only [bT])
   (fun fu i hi => by rw [fR, aQ (kP hi), akx w hw hu hi, cW, bY (by have := hw.1; omega), fN])]
 simp only [bT]
theorem apa (w : aN) (h : w.good) : vP w = some (aa4 w) := by
 have hm : w.Message.good := h.2
 unfold vP aa4
 rw [agy _ _ (afo hm), tW _ (sI hm)]
 simp only [cW, jE, fN, bT, gt_iff_lt, tX]
theorem aoj (w : aN) (h : w.good) : mM w = some (aa4 w) := by
 have hm : w.Message.good := h.2
 unfold mM aa4
 rw [akw _ _ (afo hm), aaa _ (sI hm)]
 simp only [cW, jE, fN, bT, gt_iff_lt, tX]
def ago (s : aD) : Int := mS id [aeM s, ac9 s.Subs, acp s.Queue, ahZ s.Out, xN s.In.IDs, aa4 s.Will]
theorem aoy (l : List Int) (hl : l.length < 1000000) : mI l = some (mS id l) := by
 unfold mI
 refine uI (F := fun fu i => fS fu l i) (g := fun r => some (mS id r)) (fun fu => by rw [fS, aW (by simp)]; rfl) (fun fu i hi ih => ?_) (by omega)
 rw [fS, aQ (kP hi)]
 simp only [aQ (inr hi), cP hi]
 rw [bY (by omega), ih, mS, fN, bT]
 rfl
theorem afC (s : aD) (h : s.good) : qE s = some (ago s) := by
 obtain ⟨_, _, _, _, _, _, h1, h2, h3, h4, h5⟩ := id h
 unfold qE ago
 rw [head_eq s h, aov s h1 h2, arI s.Out h3.2.1 h3.2.2.1.1, afS s.In h4, apa s.Will h5]
 simp only [cW, fN, mS, id, bT]
 cases hh : aeM s == 0
 ·rfl
 ·simp only [gU]
  cases hb : ac9 s.Subs == 0
  ·simp only [mX, cW, hb]
  ·simp only [gU, cW]
   cases hq : acp s.Queue == 0
   ·simp only [mX]
   ·simp only [gU]
    cases hw : ahZ s.Out == 0
    ·rfl
    ·simp only [gU]
     cases hi : xN s.In.IDs == 0
     ·rfl
     ·simp only [gU]
      cases hl : aa4 s.Will == 0
      ·rfl
      ·have : aa4 s.Will = 0 := by simpa using hl
       rw [this]; rfl
theorem ahw (s : aD) (h : s.good) : mT s = some (ago s) := by
 obtain ⟨_, _, _, _, _, _, h1, h2, h3, h4, h5⟩ := id h
 have hu : okL (okI .i64) s.Out.Pool.Used := h3.2.2.1
 have hu1 := hu.1
 unfold mT ago
 rw [akD s h, ajF _ h1, aj8 _ h2, alj s.Out h3.2.1 (by omega), agv s.In h4.1, aoj s.Will h5]
 simp only [cW]
 rw [aoy _ (by simp)]
 rfl
end Md
end PX
