import Derived.Test.YtmcpanmcgpjfiaaGreatDoorInts
import Derived.Test.YtmcpanmcgpjfiaaGreatDoorPktC
import Derived.KernelRfl
set_option linter.unusedVariables false
set_option linter.unusedSimpArgs false
namespace PX
open Go
namespace Md
def apX (s : aI) : Bool := (!s.Online && s.Conn != 0) || (s.Online && s.Until != 0)
def adg (s : aI) : Int :=
 cond (gS s.Client) (cond (s.User == [] || gS s.User) (cond (apX s) 9 (cond (fE 0 1099511627776 s.Expiry) (cond (fE 0 1099511627776 s.Until) (cond (fE 0 1099511627776 s.Dropped) 0 1) 1) 1)) 11) 11
theorem aDV (x y : Int) : pB x y = some (fE 0 y x) := by
 unfold pB fE
 simp only [vC, ge_iff_le]
theorem ayz (x : Int) : vQ x = some (fE 0 1099511627776 x) := by
 unfold vQ fE
 simp only [vC, ge_iff_le]
theorem head_eq (s : aI) (h : s.good) : rJ s = some (adg s) := by
 have h1 : okS s.Client := h.1
 have h2 : okS s.User := h.2.1
 unfold rJ oI jY adg apX
 simp only [adL _ (uQ h1), adL _ (uQ h2), ayz, aY, iH, lN, cS, gt_iff_lt, yC, acC, aai]
 try (cases gS s.Client <;> cases s.User == [] <;> cases gS s.User <;> cases s.Online <;> cases s.Conn == 0 <;> cases s.Until == 0 <;> rfl)
theorem aq8 (s : aI) (h : s.good) : sW s = some (adg s) := by
 have h1 : okS s.Client := h.1
 have h2 : okS s.User := h.2.1
 unfold sW o9 kK adg apX
 simp only [xF _ (uQ h1), xF _ (uQ h2), aDV, aY, iH, lN, cS, acC, aai]
 try (cases gS s.Client <;> cases s.User == [] <;> cases gS s.User <;> cases s.Online <;> cases s.Conn == 0 <;> cases s.Until == 0 <;> rfl)
theorem awv (x : Int) : rU x = some (fE 0 2 x) := by
 unfold rU fE
 by_cases h0 : x = 0
 ·subst h0; rfl
 ·by_cases h1 : x = 1
  ·subst h1; rfl
  ·by_cases h2 : x = 2
   ·subst h2; rfl
   ·have e0 : (x == 0) = false := by simpa using h0
    have e1 : (x == 1) = false := by simpa using h1
    have e2 : (x == 2) = false := by simpa using h2
    rw [e0, e1, e2, eW, eW]
    congr 1
    symm
    rw [Bool.eq_false_iff]
    simp
    omega
theorem asu (x : aK) (h : x.good) : uC x = some (aco x) := by
 have h1 := uQ (show okS x.Filter from h.1)
 unfold uC aco uA
 rw [aoj _ h1, ahQ _ h1, awv]
 simp only [aY, lN, cS]
 cases vL x.Filter <;> rfl
theorem sub_eq (x : aK) (h : x.good) : sQ x = some (aco x) := by
 have h1 := uQ (show okS x.Filter from h.1)
 unfold sQ aco uG vP
 rw [auL _ h1, filter_eq, ahU]
 simp only [aY, lN, cS, gt_iff_lt, yC]
 cases hs : vL x.Filter with
 | none =>
  simp only [sI, Option.isSome, Bool.false_or, eS, eW, lN]
  cases qN x.Filter <;> cases hb : mT x.Filter wU <;> (try rw [show mT x.Filter ([36, 115, 104, 97, 114, 101, 47] : Str) = mT x.Filter wU from rfl, hb]) <;> cases x.NoLocal <;> simp [zH, cS]
 | some y =>
  simp only [sI, Option.isSome, Bool.true_or, eS, eW]
def leO (p : Option Str) (f : Str) : Bool := match p with | none => false | some g => Op.bytesLess f g || f == g
def tH : Option Str → List aK → Int
 | _, [] => 0
 | p, x :: r => cond (aco x == 0) (cond (leO p x.Filter) 22 (tH (some x.Filter) r)) (aco x)
def acy (l : List aK) : Int := cond (decide ((l.length : Int) > 32)) 5 (tH none l)
def zR (l : List aK) (i : Nat) : Option Str := if i = 0 then none else some (l.getD (i - 1) default).Filter
theorem anT {l : List aK} {i : Nat} (h : i < l.length) : zR l (i + 1) = some l[i].Filter := by simp [zR, h]
theorem al9 (p : bO) (hl : p.IDs.length ≤ 140737488351232) : rS p = some (xY p.IDs) := by
 unfold rS
 rw [ant _ (by show p.IDs.length < _; omega) rfl]; rfl
theorem aph (l : List aK) (h : okL aK.good l) : sM l = some (acy l) := by
 have hl := h.1
 unfold sM acy
 rw [cS]
 refine congrArg _ ?_
 have := lR (n := l.length) (F := fun fu i (_ : Unit) => iZ fu l i) (G := fun i _ => some (tH (zR l i) (l.drop i))) (fun _ _ => True)
  (fun fu s _ => by rw [List.drop_length, iZ, aS (by simp)]; rfl)
  (fun fu i s hi _ ih => by
   have ih := ih () trivial
   rw [anT hi] at ih
   rw [iZ, aL (hI hi)]
   simp only [aL (inr hi), cI hi, asu _ (aaS h hi), aY, iH]
   rw [cF (by omega), ih, List.drop_eq_getElem_cons hi, tH]
   cases aco l[i] == 0 with
   | false => rfl
   | true =>
    simp only [eS]
    rcases Nat.eq_zero_or_pos i with hz | hpos
    ·have e0 : decide ((i : Int) > 0) = false := by simp; omega
     rw [e0]; simp [zR, hz, leO]
    ·have hq : i - 1 < l.length := by omega
     have e2 : IntKind.wrap .i64 ((i : Int) - 1) = ((i - 1 : Nat) : Int) := by rw [IntKind.wrap_i64]; omega
     have e0 : decide ((i : Int) > 0) = true := by simp; omega
     have e3 : zR l i = some l[i - 1].Filter := by simp [zR, show ¬ i = 0 by omega, hq]
     rw [e0, e2, e3]
     simp only [eS, aL (inr hq), cI hq, leO, cS]) (by omega) () trivial
 simpa [zR] using this
def abA (l : List aC) : Int := cond (decide ((l.length : Int) > 256)) 5 (sV checkM l)
theorem aoY (l : List aC) (h : okL aC.good l) : rL l = some (abA l) := by
 have hl := h.1
 unfold rL abA
 rw [cS]
 refine congrArg _ ?_
 refine vT (F := fun fu i => jV fu l i) (g := fun r => some (sV checkM r)) (fun fu => by rw [jV, aS (by simp)]; rfl) (fun fu i hi ih => ?_) (by omega)
 rw [jV, aL (hI hi), aL (inr hi), cI hi, ad3 _ (zG (aaS h hi)), aY, cF (by omega), ih, sV, iH, cS]
theorem ayk (l : List aC) (h : okL aC.good l) : gA fuel l (l.length : Int) 0 = some (sV checkM l) := by
 have hl := h.1
 refine vT (F := fun fu i => gA fu l (l.length : Int) i) (g := fun r => some (sV checkM r)) (fun fu => by rw [gA, aS (by simp)]; rfl) (fun fu i hi ih => ?_) (by omega)
 rw [gA, aL (hI hi), aL (inr hi), cI hi, aaC _ (zG (aaS h hi)), aY, cF (by omega), ih, sV, iH, cS]
theorem aw1 (s : aI) (h1 : okL aK.good s.Subs) (h2 : okL aC.good s.Queue) : qB s = some (cond (acy s.Subs == 0) (abA s.Queue) (acy s.Subs)) := by
 have hl := h1.1
 unfold qB acy abA
 by_cases hc : (s.Subs.length : Int) > 32
 ·rw [show decide ((s.Subs.length : Int) > 32) = true by simpa using hc]; rfl
 ·rw [show decide ((s.Subs.length : Int) > 32) = false by simpa using hc]
  simp only [eW]
  have := lR (n := s.Subs.length) (F := fun fu i (_ : Unit) => gZ fu s.Subs (s.Subs.length : Int) i s) (G := fun i _ => some (cond (tH (zR s.Subs i) (s.Subs.drop i) == 0) (cond (decide ((s.Queue.length : Int) > 256)) 5 (sV checkM s.Queue)) (tH (zR s.Subs i) (s.Subs.drop i)))) (fun _ _ => True)
   (fun fu u _ => by
    rw [List.drop_length, gZ, aS (by simp), ayk _ h2]
    simp only [tH, beq_self_eq_true, eS, cS])
   (fun fu i u hi _ ih => by
    have ih := ih () trivial
    rw [anT hi] at ih
    rw [gZ, aL (hI hi)]
    simp only [aL (inr hi), cI hi, sub_eq _ (aaS h1 hi), aY, iH]
    rw [cF (by omega), ih, List.drop_eq_getElem_cons hi, tH]
    cases hs : aco s.Subs[i] == 0 with
    | false => simp only [eW, hs]
    | true =>
     simp only [eS]
     rcases Nat.eq_zero_or_pos i with hz | hpos
     ·have e0 : decide ((i : Int) > 0) = false := by simp; omega
      rw [e0]; simp [zR, hz, leO]
     ·have hq : i - 1 < s.Subs.length := by omega
      have e2 : IntKind.wrap .i64 ((i : Int) - 1) = ((i - 1 : Nat) : Int) := by rw [IntKind.wrap_i64]; omega
      have e0 : decide ((i : Int) > 0) = true := by simp; omega
      have e3 : zR s.Subs i = some s.Subs[i - 1].Filter := by simp [zR, show ¬ i = 0 by omega, hq]
      rw [e0, e2, e3]
      simp only [eS, aL (inr hq), cI hq, leO]
      cases Op.bytesLess s.Subs[i].Filter s.Subs[i - 1].Filter || s.Subs[i].Filter == s.Subs[i - 1].Filter <;> rfl) (by omega) () trivial
  simpa [zR] using this
def ajO (x : Int) : Int := cond (decide (x < 0)) 1 (cond (decide (x > 65535)) 1 0)
def zJ (p : bE) : Int := cond (decide ((p.Used.length : Int) > 32)) 5 (cond (rX 0 p.Used) (ajO p.Last) 15)
theorem am5 (p : bE) (hl : p.Used.length ≤ 140737488351232) : aap p = some (zJ p) := by
 unfold aap zJ
 rw [cS]
 refine congrArg _ ?_
 refine uT (l := p.Used) (F := fun fu i s => pM fu s p.Used (List.length p.Used : Int) i p) (g := fun l s => some (cond (rX s l) (ajO p.Last) 15)) (fun _ _ => True) (fun fu s _ => ?_) (fun fu i s hi _ ih => ?_) (by omega) 0 trivial
 ·rw [pM, aS (by simp)]; unfold ajO; simp only [rX, eS, cS]
 ·rw [pM, aL (hI hi), aL (inr hi), cI hi, cF (by omega), ih _ trivial, rX]
  cases decide (p.Used[i] ≤ s) <;> simp only [eS, eW, gt_iff_lt] <;> cases decide (65535 < p.Used[i]) <;> rfl
theorem alz (p : bE) (hl : p.Used.length < 1000000000000000) : kD p = some (zJ p) := by
 unfold kD zJ
 rw [cS]
 refine congrArg _ ?_
 have := lR (n := p.Used.length) (F := fun fu i (_ : Unit) => eT fu i p) (G := fun i _ => some (cond (rX (if i = 0 then 0 else p.Used.getD (i - 1) default) (p.Used.drop i)) (ajO p.Last) 15)) (fun i _ => i = 0 ∨ 1 ≤ p.Used.getD (i - 1) default)
  (fun fu s _ => by
   rw [List.drop_length, eT, aS (by simp)]; unfold ajO; simp only [rX, eS, cS])
  (fun fu i s hi hp ih => by
   rw [eT, aL (hI hi)]
   simp only [aL (inr hi), cI hi]
   have e1 : (p.Used.getD (i + 1 - 1) default) = p.Used[i] := by simp [hi]
   rw [List.drop_eq_getElem_cons hi, rX]
   by_cases c0 : p.Used[i] < 1
   ·rw [aL (by simpa using c0)]
    rcases hp with rfl | hp
    ·rw [if_pos rfl, aL (x := false) (decide_eq_true (by omega))]; rfl
    ·rw [aL (x := false) (decide_eq_true (by split <;> omega))]; rfl
   ·have ih := ih () (.inr (by rw [e1]; omega))
    rw [cF (by omega), ih]
    simp only [Nat.add_one_ne_zero, if_false, e1]
    rw [aS (by simpa using c0)]
    by_cases c2 : 65535 < p.Used[i]
    ·rw [aL (x := some 15) (by simpa using c2), decide_eq_true c2]
     cases decide (p.Used[i] ≤ if i = 0 then 0 else p.Used.getD (i - 1) default) <;> rfl
    ·rw [aS (x := some 15) (by simpa using c2), decide_eq_false c2]
     rcases Nat.eq_zero_or_pos i with hz | hpos
     ·have e0 : decide ((i : Int) > 0) = false := by simp; omega
      rw [e0, if_pos hz, decide_eq_false (show ¬ p.Used[i] ≤ 0 by omega)]; rfl
     ·have hq : i - 1 < p.Used.length := by omega
      have e2 : IntKind.wrap .i64 ((i : Int) - 1) = ((i - 1 : Nat) : Int) := by rw [IntKind.wrap_i64]; omega
      have e3 : (p.Used.getD (i - 1) default) = p.Used[i - 1] := by simp [hq]
      have e0 : decide ((i : Int) > 0) = true := by simp; omega
      simp only [e0, eS, e2, aL (inr hq), cI hq, if_neg (show ¬ i = 0 by omega), e3]
      cases decide (p.Used[i] ≤ p.Used[i - 1]) <;> rfl) (by omega) () (.inl rfl)
 exact this
theorem aps (p : bE) (x : Int) (h : rX 0 p.Used = true) (hl : p.Used.length ≤ 1000) : acP p x = some (p.Used.contains x) := by
 unfold acP
 rw [atx x (ao2 h) (by omega)]; rfl
def aaB (id : Int) : Int → List aE → Int
 | _, [] => -1
 | k, x :: r => cond (x.ID == id) k (aaB id (k + 1) r)
theorem find_eq (l : List aE) (id : Int) (hl : l.length < 1000000000000000) : wY l id = some (aaB id 0 l) := by
 unfold wY fT
 have := lR (n := l.length) (F := fun fu i (_ : Unit) => c8 fu l (l.length : Int) i id) (G := fun i _ => some (aaB id (i : Int) (l.drop i), id)) (fun _ _ => True)
  (fun fu s _ => by rw [List.drop_length, c8, aS (by simp)]; rfl)
  (fun fu i s hi _ ih => by
   rw [c8, aL (hI hi), aL (inr hi), cI hi]
   unfold xH
   simp only [aY]
   rw [cF (by omega), ih () trivial, List.drop_eq_getElem_cons hi, aaB]
   cases l[i].ID == id <;> simp [eS, eW]) (by omega) () trivial
 rw [show (0 : Int) = ((0 : Nat) : Int) from rfl] at *
 rw [this]
 simp [aY]
theorem auU (l : List aE) (id : Int) (hl : l.length < 1000000000000000) : vE l id = some (aaB id 0 l) := by
 unfold vE
 have := lR (n := l.length) (F := fun fu i (_ : Unit) => mJ fu l id i) (G := fun i _ => some (aaB id (i : Int) (l.drop i))) (fun _ _ => True)
  (fun fu s _ => by rw [List.drop_length, mJ, aS (by simp)]; rfl)
  (fun fu i s hi _ ih => by
   rw [mJ, aL (hI hi), aL (inr hi), cI hi, cF (by omega), ih () trivial, List.drop_eq_getElem_cons hi, aaB]
   cases l[i].ID == id <;> simp [eS, eW]) (by omega) () trivial
 simpa using this
theorem ari (id : Int) : ∀ (l : List aE) (k : Int), 0 ≤ k → (0 ≤ aaB id k l ↔ l.any (fun x => x.ID == id) = true)
 | [], k, _ => by simp [aaB]
 | x :: r, k, hk => by
  rw [aaB, List.any_cons]
  cases x.ID == id with
  | true => simp [eS]; exact hk
  | false => rw [eW, Bool.false_or]; exact ari id r (k + 1) (by omega)
theorem arA (id : Int) : ∀ (l : List aE) (k : Int) (i : Nat) (h : i < l.length), 0 ≤ k → l[i].ID = id → (aaB id k l < k + i ↔ (l.take i).any (fun x => x.ID == id) = true)
 | x :: r, k, 0, h, hk, he => by
  rw [aaB, show x.ID == id by simpa using he, eS]
  simp
 | x :: r, k, i + 1, h, hk, he => by
  rw [aaB, List.take_succ_cons, List.any_cons]
  cases x.ID == id with
  | true => simp [eS]; omega
  | false =>
   rw [eW, Bool.false_or, ← arA id r (k + 1) i (by simpa using h) (by omega) (by simpa using he)]
   have : k + ((i + 1 : Nat) : Int) = k + 1 + i := by omega
   rw [this]
def adP (x : aE) : Int :=
 cond (checkM x.Message == 0) (cond (x.Message.Level == 0) 14 (cond (x.State == 1) 0 (cond (x.State == 2) (cond (x.Message.Level == 1) 9 0) 9))) (checkM x.Message)
def abO (used : List Int) (seen : List aE) (x : aE) : Int := cond (used.contains x.ID) (cond (seen.any fun y => y.ID == x.ID) 15 (adP x)) 15
def wX (used : List Int) : List aE → List aE → Int
 | _, [] => 0
 | seen, x :: r => cond (abO used seen x == 0) (wX used (seen ++ [x]) r) (abO used seen x)
def ahf (w : aO) : Int :=
 cond (decide (w.Limit < 0)) 1 (cond (decide (w.Limit > 32)) 1 (cond (zJ w.Pool == 0) (cond (decide ((w.Items.length : Int) > 32)) 5 (cond (wX w.Pool.Used [] w.Items == 0) (cond (decide ((w.Items.length : Int) < (w.Pool.Used.length : Int))) 15 0) (wX w.Pool.Used [] w.Items))) (zJ w.Pool)))
theorem adn {p : bE} (h : zJ p = 0) : p.Used.length ≤ 32 ∧ rX 0 p.Used = true ∧ 0 ≤ p.Last ∧ p.Last ≤ 65535 := by
 unfold zJ at h
 by_cases h1 : (p.Used.length : Int) > 32
 ·rw [aL (by simpa using h1)] at h; cases h
 ·rw [aS (by simpa using h1)] at h
  cases h2 : rX 0 p.Used with
  | false => rw [h2] at h; cases h
  | true =>
   rw [h2, eS] at h
   unfold ajO at h
   by_cases h3 : p.Last < 0
   ·rw [aL (by simpa using h3)] at h; cases h
   ·rw [aS (by simpa using h3)] at h
    by_cases h4 : p.Last > 65535
    ·rw [aL (by simpa using h4)] at h; cases h
    ·exact ⟨by omega, rfl, by omega, by omega⟩
theorem ays (w : aO) (hw : okL aE.good w.Items) (hp : zJ w.Pool = 0) {i : Nat} (hi : i < w.Items.length) : pZ w (i : Int) = some (abO w.Pool.Used (w.Items.take i) w.Items[i]) := by
 obtain ⟨p1, p2, _, _⟩ := adn hp
 have hl := hw.1
 have hg : (w.Items[i]).good := aaS hw hi
 have hm : (w.Items[i]).Message.good := hg.2.2
 have ec : dB w.Items none (some (i : Int)) = w.Items.take i := by simp [dB]
 have hd : decide (aaB w.Items[i].ID 0 (w.Items.take i) ≥ 0) = (w.Items.take i).any fun y => y.ID == w.Items[i].ID := by
  rw [Bool.eq_iff_iff, ← ari _ _ 0 (by omega)]; simp
 unfold pZ qO abO adP
 rw [aL (inr hi), cI hi, aps _ _ p2 (by omega), aL (by simp; omega), ec, find_eq _ _ (by simp; omega)]
 simp only [aY, hd, aaC _ (zG hm), lN, iH, cS]
theorem aq2 (w : aO) (hw : okL aE.good w.Items) (hp : w.Pool.Used.length < 1000000000000000) {i : Nat} (hi : i < w.Items.length) : s9 w (i : Int) = some (abO w.Pool.Used (w.Items.take i) w.Items[i]) := by
 have hl := hw.1
 have hg : (w.Items[i]).good := aaS hw hi
 have hm : (w.Items[i]).Message.good := hg.2.2
 have hd : decide (aaB w.Items[i].ID 0 w.Items < (i : Int)) = (w.Items.take i).any fun y => y.ID == w.Items[i].ID := by
  rw [Bool.eq_iff_iff, ← arA _ w.Items 0 i hi (by omega) rfl]; simp
 unfold s9 tN abO adP
 rw [aL (inr hi), cI hi, ao5 _ _ (by omega), auU _ _ (by omega)]
 simp only [aY, hd, ad3 _ (zG hm), lN, iH, cS]
theorem apg {F : Nat → Int → Option Int} (w : aO) (hl : w.Items.length ≤ 140737488351232) (h0 : ∀ fu, F (fu + 1) (w.Items.length : Int) = some (cond (decide ((w.Items.length : Int) < (w.Pool.Used.length : Int))) 15 0))
  (h1 : ∀ fu i (hi : i < w.Items.length), F (fu + 1) (i : Int) = cond (abO w.Pool.Used (w.Items.take i) w.Items[i] == 0) (F fu ((i + 1 : Nat) : Int)) (some (abO w.Pool.Used (w.Items.take i) w.Items[i]))) :
  F fuel 0 = some (cond (wX w.Pool.Used [] w.Items == 0) (cond (decide ((w.Items.length : Int) < (w.Pool.Used.length : Int))) 15 0) (wX w.Pool.Used [] w.Items)) := by
 have := lR (n := w.Items.length) (F := fun fu i (_ : Unit) => F fu i) (G := fun i _ => some (cond (wX w.Pool.Used (w.Items.take i) (w.Items.drop i) == 0) (cond (decide ((w.Items.length : Int) < (w.Pool.Used.length : Int))) 15 0) (wX w.Pool.Used (w.Items.take i) (w.Items.drop i)))) (fun _ _ => True)
  (fun fu s _ => by rw [h0, List.drop_length]; rfl)
  (fun fu i s hi _ ih => by
   rw [h1 fu i hi, ih () trivial, List.drop_eq_getElem_cons hi, wX, List.take_succ_eq_append_getElem hi]
   cases hc : abO w.Pool.Used (w.Items.take i) w.Items[i] == 0 with
   | true => rfl
   | false => simp only [eW, hc]) (by omega) () trivial
 simpa using this
theorem azM (w : aO) (hw : okL aE.good w.Items) (hu : w.Pool.Used.length ≤ 140737488351232) : vI w = some (ahf w) := by
 unfold vI vA ahf
 rw [am5 _ hu]
 simp only [aY, iH, cS]
 by_cases hp : zJ w.Pool = 0
 ·rw [apg (F := fun fu i => mL fu (w.Items.length : Int) i w) w hw.1 (fun fu => by rw [mL, aS (by simp)]; simp only [cS])
   (fun fu i hi => by rw [mL, aL (hI hi), ays w hw hp hi, aY, cF (by have := hw.1; omega), iH])]
  simp only [cS]
 ·have e : (zJ w.Pool == 0) = false := by simpa using hp
  rw [e]; rfl
theorem atr (w : aO) (hw : okL aE.good w.Items) (hu : w.Pool.Used.length < 1000000000000000) : rO w = some (ahf w) := by
 unfold rO sD ahf
 rw [alz _ hu]
 simp only [aY, iH, cS]
 rw [apg (F := fun fu i => jZ fu i w) w hw.1 (fun fu => by rw [jZ, aS (by simp)]; simp only [cS])
   (fun fu i hi => by rw [jZ, aL (hI hi), aq2 w hw hu hi, aY, cF (by have := hw.1; omega), iH])]
 simp only [cS]
theorem axZ (w : bM) (h : w.good) : abL w = some (zK w) := by
 have hm : w.Message.good := h.2
 unfold abL zK
 rw [aln _ _ (akj hm), aaC _ (zG hm)]
 simp only [aY, lN, iH, cS, gt_iff_lt, yC]
theorem av2 (w : bM) (h : w.good) : rT w = some (zK w) := by
 have hm : w.Message.good := h.2
 unfold rT zK
 rw [acF _ _ (akj hm), ad3 _ (zG hm)]
 simp only [aY, lN, iH, cS, gt_iff_lt, yC]
def jT (s : aI) : Int := sV id [adg s, acy s.Subs, abA s.Queue, ahf s.Out, xY s.In.IDs, zK s.Will]
theorem avq (l : List Int) (hl : l.length < 1000000) : rR l = some (sV id l) := by
 unfold rR
 refine vT (F := fun fu i => jW fu l i) (g := fun r => some (sV id r)) (fun fu => by rw [jW, aS (by simp)]; rfl) (fun fu i hi ih => ?_) (by omega)
 rw [jW, aL (hI hi)]
 simp only [aL (inr hi), cI hi]
 rw [cF (by omega), ih, sV, iH, cS]
 rfl
theorem aep (s : aI) (h : s.good) : m6 s = some (jT s) := by
 obtain ⟨_, _, _, _, _, _, h1, h2, h3, h4, h5⟩ := id h
 unfold m6 jT
 rw [head_eq s h, aw1 s h1 h2, azM s.Out h3.2.1 h3.2.2.1.1, ak9 s.In h4, axZ s.Will h5]
 simp only [aY, iH, sV, id, cS]
 cases hh : adg s == 0
 ·rfl
 ·simp only [eS]
  cases hb : acy s.Subs == 0
  ·simp only [eW, aY, hb]
  ·simp only [eS, aY]
   cases hq : abA s.Queue == 0
   ·simp only [eW]
   ·simp only [eS]
    cases hw : ahf s.Out == 0
    ·rfl
    ·simp only [eS]
     cases hi : xY s.In.IDs == 0
     ·rfl
     ·simp only [eS]
      cases hl : zK s.Will == 0
      ·rfl
      ·have : zK s.Will = 0 := by simpa using hl
       rw [this]; rfl
theorem acj (s : aI) (h : s.good) : fU s = some (jT s) := by
 obtain ⟨_, _, _, _, _, _, h1, h2, h3, h4, h5⟩ := id h
 have hu : okL (okI .i64) s.Out.Pool.Used := h3.2.2.1
 have hu1 := hu.1
 unfold fU jT
 rw [aq8 s h, aph _ h1, aoY _ h2, atr s.Out h3.2.1 (by omega), al9 s.In h4.1, av2 s.Will h5]
 simp only [aY]
 rw [avq _ (by simp)]
 rfl
end Md
end PX
