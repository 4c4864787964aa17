import Derived.Test.YtojlmojebnlmdaaGreatDoorInts
import Derived.Test.YtojlmojebnlmdaaGreatDoorPktC
import Derived.KernelRfl
set_option linter.unusedVariables false
set_option linter.unusedSimpArgs false
namespace PX
open Go
namespace Md
theorem agq : jW = some true := by kernel_rfl
theorem ali {l : List aD} (h : l.length * 32 ≤ 140737488355328) : cR l = some l := by
 unfold cR
 cases l with
 | nil => simp only [List.isEmpty, j4]; exact ab5 _
 | cons a l => simp only [List.isEmpty, oC, List.nil_append]; rw [aT (by simpa using h)]
theorem ale {l : List aF} (h : l.length * 32 ≤ 140737488355328) : eE l = some l := by
 unfold eE
 cases l with
 | nil => simp only [List.isEmpty, j4]; exact ab5 _
 | cons a l => simp only [List.isEmpty, oC, List.nil_append]; rw [aT (by simpa using h)]
def akM (s : aC) : Bool := (!s.Online && s.Conn != 0) || (s.Online && s.Until != 0)
def ahL (s : aC) : Int :=
 cond (tD s.Client) (cond (s.User == [] || tD s.User) (cond (akM s) 9 (cond (gJ 0 1099511627776 s.Expiry) (cond (gJ 0 1099511627776 s.Until) (cond (gJ 0 1099511627776 s.Dropped) 0 1) 1) 1)) 11) 11
theorem ar8 (x y : Int) : kF x y = some (gJ 0 y x) := by
 unfold kF gJ
 simp only [abt, ge_iff_le]
theorem ajb (s : aC) (h : s.good) : mI s = some (ahL s) := by
 have h1 : okS s.Client := h.1
 have h2 : okS s.User := h.2.1
 unfold mI kB gI ahL akM
 simp only [uW _ (abq h1), uW _ (abq h2), ar8, cL, oD, sY, eR, ahI, afz]
 try (cases tD s.Client <;> cases s.User == [] <;> cases tD s.User <;> cases s.Online <;> cases s.Conn == 0 <;> cases s.Until == 0 <;> rfl)
theorem al5 (x : Int) : lP x = some (gJ 0 2 x) := by
 unfold lP gJ
 by_cases h0 : x = 0
 ·subst h0; rfl
 ·by_cases h1 : x = 1
  ·subst h1; rfl
  ·by_cases h2 : x = 2
   ·subst h2; rfl
   ·have e0 : (x == 0) = false := by simpa using h0
    have e1 : (x == 1) = false := by simpa using h1
    have e2 : (x == 2) = false := by simpa using h2
    rw [e0, e1, e2, oC, oC]
    congr 1
    symm
    rw [Bool.eq_false_iff]
    simp
    omega
theorem ajQ (x : aF) (h : x.good) : nA x = some (agL x) := by
 have h1 := abq (show okS x.Filter from h.1)
 unfold nA agL nJ
 rw [ahl _ h1, aci _ h1, al5]
 simp only [cL, sY, eR]
 cases xE x.Filter <;> rfl
def leO (p : Option Str) (f : Str) : Bool := match p with | none => false | some g => Op.bytesLess f g || f == g
def afi : Option Str → List aF → Int
 | _, [] => 0
 | p, x :: r => cond (agL x == 0) (cond (leO p x.Filter) 22 (afi (some x.Filter) r)) (agL x)
def adL (l : List aF) : Int := cond (decide ((l.length : Int) > 32)) 5 (afi none l)
def abN (l : List aF) (i : Nat) : Option Str := if i = 0 then none else some (l.getD (i - 1) default).Filter
theorem akR {l : List aF} {i : Nat} (h : i < l.length) : abN l (i + 1) = some l[i].Filter := by simp [abN, h]
theorem afS (p : aU) (hl : p.IDs.length ≤ 140737488351232) : lS p = some (yF p.IDs) := by
 unfold lS
 rw [agt _ (by show p.IDs.length < _; omega) rfl]; rfl
theorem aiv (l : List aF) (h : okL aF.good l) : mO l = some (adL l) := by
 have hl := h.1
 unfold mO adL
 rw [eR]
 refine congrArg _ ?_
 have := oM (n := l.length) (F := fun fu i (_ : Unit) => eT fu l i) (G := fun i _ => some (afi (abN l i) (l.drop i))) (fun _ _ => True)
  (fun fu s _ => by rw [List.drop_length, eT, bE (by simp)]; rfl)
  (fun fu i s hi _ ih => by
   have ih := ih () trivial
   rw [akR hi] at ih
   rw [eT, aT (n4 hi)]
   simp only [aT (inr hi), fA hi, ajQ _ (ags h hi), cL, oD]
   rw [dC (by omega), ih, List.drop_eq_getElem_cons hi, afi]
   cases agL l[i] == 0 with
   | false => rfl
   | true =>
    simp only [j4]
    rcases Nat.eq_zero_or_pos i with hz | hpos
    ·have e0 : decide ((i : Int) > 0) = false := by simp; omega
     rw [e0]; simp [abN, hz, leO]
    ·have hq : i - 1 < l.length := by omega
     have e2 : IntKind.wrap .i64 ((i : Int) - 1) = ((i - 1 : Nat) : Int) := by rw [IntKind.wrap_i64]; omega
     have e0 : decide ((i : Int) > 0) = true := by simp; omega
     have e3 : abN l i = some l[i - 1].Filter := by simp [abN, show ¬ i = 0 by omega, hq]
     rw [e0, e2, e3]
     simp only [j4, aT (inr hq), fA hq, leO, eR]) (by omega) () trivial
 simpa [abN] using this
def aaG (l : List aA) : Int := cond (decide ((l.length : Int) > 256)) 5 (oF nM l)
theorem aiq (l : List aA) (h : okL aA.good l) : lV l = some (aaG l) := by
 have hl := h.1
 unfold lV aaG
 rw [eR]
 refine congrArg _ ?_
 refine zJ (F := fun fu i => fK fu l i) (g := fun r => some (oF nM r)) (fun fu => by rw [fK, bE (by simp)]; rfl) (fun fu i hi ih => ?_) (by omega)
 rw [fK, aT (n4 hi), aT (inr hi), fA hi, xU _ (abB (ags h hi)), cL, dC (by omega), ih, oF, oD, eR]
def ahz (x : Int) : Int := cond (decide (x < 0)) 1 (cond (decide (x > 65535)) 1 0)
def zX (p : aJ) : Int := cond (decide ((p.Used.length : Int) > 32)) 5 (cond (wB 0 p.Used) (ahz p.Last) 15)
theorem ae4 (p : aJ) (hl : p.Used.length < 1000000000000000) : fZ p = some (zX p) := by
 unfold fZ zX
 rw [eR]
 refine congrArg _ ?_
 have := oM (n := p.Used.length) (F := fun fu i (_ : Unit) => cO fu i p) (G := fun i _ => some (cond (wB (if i = 0 then 0 else p.Used.getD (i - 1) default) (p.Used.drop i)) (ahz p.Last) 15)) (fun i _ => i = 0 ∨ 1 ≤ p.Used.getD (i - 1) default)
  (fun fu s _ => by
   rw [List.drop_length, cO, bE (by simp)]; unfold ahz; simp only [wB, j4, eR])
  (fun fu i s hi hp ih => by
   rw [cO, aT (n4 hi)]
   simp only [aT (inr hi), fA hi]
   have e1 : (p.Used.getD (i + 1 - 1) default) = p.Used[i] := by simp [hi]
   rw [List.drop_eq_getElem_cons hi, wB]
   by_cases c0 : p.Used[i] < 1
   ·rw [aT (by simpa using c0)]
    rcases hp with rfl | hp
    ·rw [if_pos rfl, aT (x := false) (decide_eq_true (by omega))]; rfl
    ·rw [aT (x := false) (decide_eq_true (by split <;> omega))]; rfl
   ·have ih := ih () (.inr (by rw [e1]; omega))
    rw [dC (by omega), ih]
    simp only [Nat.add_one_ne_zero, if_false, e1]
    rw [bE (by simpa using c0)]
    by_cases c2 : 65535 < p.Used[i]
    ·rw [aT (x := some 15) (by simpa using c2), decide_eq_true c2]
     cases decide (p.Used[i] ≤ if i = 0 then 0 else p.Used.getD (i - 1) default) <;> rfl
    ·rw [bE (x := some 15) (by simpa using c2), decide_eq_false c2]
     rcases Nat.eq_zero_or_pos i with hz | hpos
     ·have e0 : decide ((i : Int) > 0) = false := by simp; omega
      rw [e0, if_pos hz, decide_eq_false (show ¬ p.Used[i] ≤ 0 by omega)]; rfl
     ·have hq : i - 1 < p.Used.length := by omega
      have e2 : IntKind.wrap .i64 ((i : Int) - 1) = ((i - 1 : Nat) : Int) := by rw [IntKind.wrap_i64]; omega
      have e3 : (p.Used.getD (i - 1) default) = p.Used[i - 1] := by simp [hq]
      have e0 : decide ((i : Int) > 0) = true := by simp; omega
      simp only [e0, j4, e2, aT (inr hq), fA hq, if_neg (show ¬ i = 0 by omega), e3]
      cases decide (p.Used[i] ≤ p.Used[i - 1]) <;> rfl) (by omega) () (.inl rfl)
 exact this
def acJ (id : Int) : Int → List aB → Int
 | _, [] => -1
 | k, x :: r => cond (x.ID == id) k (acJ id (k + 1) r)
theorem alg (l : List aB) (id : Int) (hl : l.length < 1000000000000000) : oJ l id = some (acJ id 0 l) := by
 unfold oJ
 have := oM (n := l.length) (F := fun fu i (_ : Unit) => iA fu l id i) (G := fun i _ => some (acJ id (i : Int) (l.drop i))) (fun _ _ => True)
  (fun fu s _ => by rw [List.drop_length, iA, bE (by simp)]; rfl)
  (fun fu i s hi _ ih => by
   rw [iA, aT (n4 hi), aT (inr hi), fA hi, dC (by omega), ih () trivial, List.drop_eq_getElem_cons hi, acJ]
   cases l[i].ID == id <;> simp [j4, oC]) (by omega) () trivial
 simpa using this
theorem ajm (id : Int) : ∀ (l : List aB) (k : Int) (i : Nat) (h : i < l.length), 0 ≤ k → l[i].ID = id → (acJ id k l < k + i ↔ (l.take i).any (fun x => x.ID == id) = true)
 | x :: r, k, 0, h, hk, he => by
  rw [acJ, show x.ID == id by simpa using he, j4]
  simp
 | x :: r, k, i + 1, h, hk, he => by
  rw [acJ, List.take_succ_cons, List.any_cons]
  cases x.ID == id with
  | true => simp [j4]; omega
  | false =>
   rw [oC, Bool.false_or, ← ajm id r (k + 1) i (by simpa using h) (by omega) (by simpa using he)]
   have : k + ((i + 1 : Nat) : Int) = k + 1 + i := by omega
   rw [this]
def aaQ (x : aB) : Int :=
 cond (nM x.Message == 0) (cond (x.Message.Level == 0) 14 (cond (x.State == 1) 0 (cond (x.State == 2) (cond (x.Message.Level == 1) 9 0) 9))) (nM x.Message)
def wX (used : List Int) (seen : List aB) (x : aB) : Int := cond (used.contains x.ID) (cond (seen.any fun y => y.ID == x.ID) 15 (aaQ x)) 15
def o7 (used : List Int) : List aB → List aB → Int
 | _, [] => 0
 | seen, x :: r => cond (wX used seen x == 0) (o7 used (seen ++ [x]) r) (wX used seen x)
def agA (w : aG) : Int :=
 cond (decide (w.Limit < 0)) 1 (cond (decide (w.Limit > 32)) 1 (cond (zX w.Pool == 0) (cond (decide ((w.Items.length : Int) > 32)) 5 (cond (o7 w.Pool.Used [] w.Items == 0) (cond (decide ((w.Items.length : Int) < (w.Pool.Used.length : Int))) 15 0) (o7 w.Pool.Used [] w.Items))) (zX w.Pool)))
theorem akt {p : aJ} (h : zX p = 0) : p.Used.length ≤ 32 ∧ wB 0 p.Used = true ∧ 0 ≤ p.Last ∧ p.Last ≤ 65535 := by
 unfold zX at h
 by_cases h1 : (p.Used.length : Int) > 32
 ·rw [aT (by simpa using h1)] at h; cases h
 ·rw [bE (by simpa using h1)] at h
  cases h2 : wB 0 p.Used with
  | false => rw [h2] at h; cases h
  | true =>
   rw [h2, j4] at h
   unfold ahz at h
   by_cases h3 : p.Last < 0
   ·rw [aT (by simpa using h3)] at h; cases h
   ·rw [bE (by simpa using h3)] at h
    by_cases h4 : p.Last > 65535
    ·rw [aT (by simpa using h4)] at h; cases h
    ·exact ⟨by omega, rfl, by omega, by omega⟩
theorem ajg (w : aG) (hw : okL aB.good w.Items) (hp : w.Pool.Used.length < 1000000000000000) {i : Nat} (hi : i < w.Items.length) : mK w (i : Int) = some (wX w.Pool.Used (w.Items.take i) w.Items[i]) := by
 have hl := hw.1
 have hg : (w.Items[i]).good := ags hw hi
 have hm : (w.Items[i]).Message.good := hg.2.2
 have hd : decide (acJ w.Items[i].ID 0 w.Items < (i : Int)) = (w.Items.take i).any fun y => y.ID == w.Items[i].ID := by
  rw [Bool.eq_iff_iff, ← ajm _ w.Items 0 i hi (by omega) rfl]; simp
 unfold mK mX wX aaQ
 rw [aT (inr hi), fA hi, ah2 _ _ (by omega), alg _ _ (by omega)]
 simp only [cL, hd, xU _ (abB hm), sY, oD, eR]
theorem al4 {F : Nat → Int → Option Int} (w : aG) (hl : w.Items.length ≤ 140737488351232) (h0 : ∀ fu, F (fu + 1) (w.Items.length : Int) = some (cond (decide ((w.Items.length : Int) < (w.Pool.Used.length : Int))) 15 0))
  (h1 : ∀ fu i (hi : i < w.Items.length), F (fu + 1) (i : Int) = cond (wX w.Pool.Used (w.Items.take i) w.Items[i] == 0) (F fu ((i + 1 : Nat) : Int)) (some (wX w.Pool.Used (w.Items.take i) w.Items[i]))) :
  F fuel 0 = some (cond (o7 w.Pool.Used [] w.Items == 0) (cond (decide ((w.Items.length : Int) < (w.Pool.Used.length : Int))) 15 0) (o7 w.Pool.Used [] w.Items)) := by
 have := oM (n := w.Items.length) (F := fun fu i (_ : Unit) => F fu i) (G := fun i _ => some (cond (o7 w.Pool.Used (w.Items.take i) (w.Items.drop i) == 0) (cond (decide ((w.Items.length : Int) < (w.Pool.Used.length : Int))) 15 0) (o7 w.Pool.Used (w.Items.take i) (w.Items.drop i)))) (fun _ _ => True)
  (fun fu s _ => by rw [h0, List.drop_length]; rfl)
  (fun fu i s hi _ ih => by
   rw [h1 fu i hi, ih () trivial, List.drop_eq_getElem_cons hi, o7, List.take_succ_eq_append_getElem hi]
   cases hc : wX w.Pool.Used (w.Items.take i) w.Items[i] == 0 with
   | true => rfl
   | false => simp only [oC, hc]) (by omega) () trivial
 simpa using this
theorem ako (w : aG) (hw : okL aB.good w.Items) (hu : w.Pool.Used.length < 1000000000000000) : lQ w = some (agA w) := by
 unfold lQ l9 agA
 rw [ae4 _ hu]
 simp only [cL, oD, eR]
 rw [al4 (F := fun fu i => fM fu i w) w hw.1 (fun fu => by rw [fM, bE (by simp)]; simp only [eR])
   (fun fu i hi => by rw [fM, aT (n4 hi), ajg w hw hu hi, cL, dC (by have := hw.1; omega), oD])]
 simp only [eR]
theorem amF (w : aN) (h : w.good) : lT w = some (abO w) := by
 have hm : w.Message.good := h.2
 unfold lT abO
 rw [ai3 _ _ (ai2 hm), xU _ (abB hm)]
 simp only [cL, sY, oD, eR, gt_iff_lt, aeA]
def xR (s : aC) : Int := oF id [ahL s, adL s.Subs, aaG s.Queue, agA s.Out, yF s.In.IDs, abO s.Will]
theorem amo (l : List Int) (hl : l.length < 1000000) : lR l = some (oF id l) := by
 unfold lR
 refine zJ (F := fun fu i => fL fu l i) (g := fun r => some (oF id r)) (fun fu => by rw [fL, bE (by simp)]; rfl) (fun fu i hi ih => ?_) (by omega)
 rw [fL, aT (n4 hi)]
 simp only [aT (inr hi), fA hi]
 rw [dC (by omega), ih, oF, oD, eR]
 rfl
theorem agi (s : aC) (h : s.good) : lO s = some (xR s) := by
 obtain ⟨_, _, _, _, _, _, h1, h2, h3, h4, h5⟩ := id h
 have hu : okL (okI .i64) s.Out.Pool.Used := h3.2.2.1
 have hu1 := hu.1
 unfold lO xR
 rw [ajb s h, aiv _ h1, aiq _ h2, ako s.Out h3.2.1 (by omega), afS s.In h4.1, amF s.Will h5]
 simp only [cL]
 rw [amo _ (by simp)]
 rfl
end Md
end PX
