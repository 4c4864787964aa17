import Derived.Test.YtojlmojebnlmdaaGreatDoorInts
import Derived.Test.YtojlmojebnlmdaaGreatDoorPktC
import Derived.KernelRfl
set_option linter.unusedVariables false
set_option linter.unusedSimpArgs false
namespace PX
open Go
namespace Md
theorem ako : j9 = some true := by kernel_rfl
theorem amb {l : List aD} (h : l.length * 32 ≤ 140737488355328) : cO l = some l := by
 unfold cO
 cases l with
 | nil => simp only [List.isEmpty, j1]; exact acP _
 | cons a l => simp only [List.isEmpty, nL, List.nil_append]; rw [aR (by simpa using h)]
theorem amE {l : List aF} (h : l.length * 32 ≤ 140737488355328) : eH l = some l := by
 unfold eH
 cases l with
 | nil => simp only [List.isEmpty, j1]; exact acP _
 | cons a l => simp only [List.isEmpty, nL, List.nil_append]; rw [aR (by simpa using h)]
def amx (s : aC) : Bool := (!s.Online && s.Conn != 0) || (s.Online && s.Until != 0)
def aiF (s : aC) : Int :=
 cond (uK s.Client) (cond (s.User == [] || uK s.User) (cond (amx s) 9 (cond (jI 0 1099511627776 s.Expiry) (cond (jI 0 1099511627776 s.Until) (cond (jI 0 1099511627776 s.Dropped) 0 1) 1) 1)) 11) 11
theorem atD (x y : Int) : kU x y = some (jI 0 y x) := by
 unfold kU jI
 simp only [aeK, ge_iff_le]
theorem aj5 (s : aC) (h : s.good) : m8 s = some (aiF s) := by
 have h1 : okS s.Client := h.1
 have h2 : okS s.User := h.2.1
 unfold m8 kP gN aiF amx
 simp only [wA _ (acz h1), wA _ (acz h2), atD, dC, n8, uG, eU, aix, afX]
 try (cases uK s.Client <;> cases s.User == [] <;> cases uK s.User <;> cases s.Online <;> cases s.Conn == 0 <;> cases s.Until == 0 <;> rfl)
theorem anb (x : Int) : l8 x = some (jI 0 2 x) := by
 unfold l8 jI
 by_cases h0 : x = 0
 ·subst h0; rfl
 ·by_cases h1 : x = 1
  ·subst h1; rfl
  ·by_cases h2 : x = 2
   ·subst h2; rfl
   ·have e0 : (x == 0) = false := by simpa using h0
    have e1 : (x == 1) = false := by simpa using h1
    have e2 : (x == 2) = false := by simpa using h2
    rw [e0, e1, e2, nL, nL]
    congr 1
    symm
    rw [Bool.eq_false_iff]
    simp
    omega
theorem ak1 (x : aF) (h : x.good) : n4 x = some (ahv x) := by
 have h1 := acz (show okS x.Filter from h.1)
 unfold n4 ahv n7
 rw [aio _ h1, ac1 _ h1, anb]
 simp only [dC, uG, eU]
 cases yO x.Filter <;> rfl
def leO (p : Option Str) (f : Str) : Bool := match p with | none => false | some g => Op.bytesLess f g || f == g
def agO : Option Str → List aF → Int
 | _, [] => 0
 | p, x :: r => cond (ahv x == 0) (cond (leO p x.Filter) 22 (agO (some x.Filter) r)) (ahv x)
def aeH (l : List aF) : Int := cond (decide ((l.length : Int) > 32)) 5 (agO none l)
def acR (l : List aF) (i : Nat) : Option Str := if i = 0 then none else some (l.getD (i - 1) default).Filter
theorem al7 {l : List aF} {i : Nat} (h : i < l.length) : acR l (i + 1) = some l[i].Filter := by simp [acR, h]
theorem afQ (p : aQ) (hl : p.IDs.length ≤ 140737488351232) : mG p = some (y7 p.IDs) := by
 unfold mG
 rw [ahD _ (by show p.IDs.length < _; omega) rfl]; rfl
theorem ajO (l : List aF) (h : okL aF.good l) : nO l = some (aeH l) := by
 have hl := h.1
 unfold nO aeH
 rw [eU]
 refine congrArg _ ?_
 have := pH (n := l.length) (F := fun fu i (_ : Unit) => eW fu l i) (G := fun i _ => some (agO (acR l i) (l.drop i))) (fun _ _ => True)
  (fun fu s _ => by rw [List.drop_length, eW, bD (by simp)]; rfl)
  (fun fu i s hi _ ih => by
   have ih := ih () trivial
   rw [al7 hi] at ih
   rw [eW, aR (nK hi)]
   simp only [aR (inr hi), dD hi, ak1 _ (ag9 h hi), dC, n8]
   rw [dA (by omega), ih, List.drop_eq_getElem_cons hi, agO]
   cases ahv l[i] == 0 with
   | false => rfl
   | true =>
    simp only [j1]
    rcases Nat.eq_zero_or_pos i with hz | hpos
    ·have e0 : decide ((i : Int) > 0) = false := by simp; omega
     rw [e0]; simp [acR, hz, leO]
    ·have hq : i - 1 < l.length := by omega
     have e2 : IntKind.wrap .i64 ((i : Int) - 1) = ((i - 1 : Nat) : Int) := by rw [IntKind.wrap_i64]; omega
     have e0 : decide ((i : Int) > 0) = true := by simp; omega
     have e3 : acR l i = some l[i - 1].Filter := by simp [acR, show ¬ i = 0 by omega, hq]
     rw [e0, e2, e3]
     simp only [j1, aR (inr hq), dD hq, leO, eU]) (by omega) () trivial
 simpa [acR] using this
def abe (l : List aA) : Int := cond (decide ((l.length : Int) > 256)) 5 (pD m7 l)
theorem aiQ (l : List aA) (h : okL aA.good l) : l6 l = some (abe l) := by
 have hl := h.1
 unfold l6 abe
 rw [eU]
 refine congrArg _ ?_
 refine tG (F := fun fu i => fQ fu l i) (g := fun r => some (pD m7 r)) (fun fu => by rw [fQ, bD (by simp)]; rfl) (fun fu i hi ih => ?_) (by omega)
 rw [fQ, aR (nK hi), aR (inr hi), dD hi, tQ _ (yA (ag9 h hi)), dC, dA (by omega), ih, pD, n8, eU]
def aiK (x : Int) : Int := cond (decide (x < 0)) 1 (cond (decide (x > 65535)) 1 0)
def aaG (p : aJ) : Int := cond (decide ((p.Used.length : Int) > 32)) 5 (cond (w7 0 p.Used) (aiK p.Last) 15)
theorem afW (p : aJ) (hl : p.Used.length < 1000000000000000) : gF p = some (aaG p) := by
 unfold gF aaG
 rw [eU]
 refine congrArg _ ?_
 have := pH (n := p.Used.length) (F := fun fu i (_ : Unit) => cK fu i p) (G := fun i _ => some (cond (w7 (if i = 0 then 0 else p.Used.getD (i - 1) default) (p.Used.drop i)) (aiK p.Last) 15)) (fun i _ => i = 0 ∨ 1 ≤ p.Used.getD (i - 1) default)
  (fun fu s _ => by
   rw [List.drop_length, cK, bD (by simp)]; unfold aiK; simp only [w7, j1, eU])
  (fun fu i s hi hp ih => by
   rw [cK, aR (nK hi)]
   simp only [aR (inr hi), dD hi]
   have e1 : (p.Used.getD (i + 1 - 1) default) = p.Used[i] := by simp [hi]
   rw [List.drop_eq_getElem_cons hi, w7]
   by_cases c0 : p.Used[i] < 1
   ·rw [aR (by simpa using c0)]
    rcases hp with rfl | hp
    ·rw [if_pos rfl, aR (x := false) (decide_eq_true (by omega))]; rfl
    ·rw [aR (x := false) (decide_eq_true (by split <;> omega))]; rfl
   ·have ih := ih () (.inr (by rw [e1]; omega))
    rw [dA (by omega), ih]
    simp only [Nat.add_one_ne_zero, if_false, e1]
    rw [bD (by simpa using c0)]
    by_cases c2 : 65535 < p.Used[i]
    ·rw [aR (x := some 15) (by simpa using c2), decide_eq_true c2]
     cases decide (p.Used[i] ≤ if i = 0 then 0 else p.Used.getD (i - 1) default) <;> rfl
    ·rw [bD (x := some 15) (by simpa using c2), decide_eq_false c2]
     rcases Nat.eq_zero_or_pos i with hz | hpos
     ·have e0 : decide ((i : Int) > 0) = false := by simp; omega
      rw [e0, if_pos hz, decide_eq_false (show ¬ p.Used[i] ≤ 0 by omega)]; rfl
     ·have hq : i - 1 < p.Used.length := by omega
      have e2 : IntKind.wrap .i64 ((i : Int) - 1) = ((i - 1 : Nat) : Int) := by rw [IntKind.wrap_i64]; omega
      have e3 : (p.Used.getD (i - 1) default) = p.Used[i - 1] := by simp [hq]
      have e0 : decide ((i : Int) > 0) = true := by simp; omega
      simp only [e0, j1, e2, aR (inr hq), dD hq, if_neg (show ¬ i = 0 by omega), e3]
      cases decide (p.Used[i] ≤ p.Used[i - 1]) <;> rfl) (by omega) () (.inl rfl)
 exact this
def adF (id : Int) : Int → List aB → Int
 | _, [] => -1
 | k, x :: r => cond (x.ID == id) k (adF id (k + 1) r)
theorem ams (l : List aB) (id : Int) (hl : l.length < 1000000000000000) : o9 l id = some (adF id 0 l) := by
 unfold o9
 have := pH (n := l.length) (F := fun fu i (_ : Unit) => iS fu l id i) (G := fun i _ => some (adF id (i : Int) (l.drop i))) (fun _ _ => True)
  (fun fu s _ => by rw [List.drop_length, iS, bD (by simp)]; rfl)
  (fun fu i s hi _ ih => by
   rw [iS, aR (nK hi), aR (inr hi), dD hi, dA (by omega), ih () trivial, List.drop_eq_getElem_cons hi, adF]
   cases l[i].ID == id <;> simp [j1, nL]) (by omega) () trivial
 simpa using this
theorem akn (id : Int) : ∀ (l : List aB) (k : Int) (i : Nat) (h : i < l.length), 0 ≤ k → l[i].ID = id → (adF id k l < k + i ↔ (l.take i).any (fun x => x.ID == id) = true)
 | x :: r, k, 0, h, hk, he => by
  rw [adF, show x.ID == id by simpa using he, j1]
  simp
 | x :: r, k, i + 1, h, hk, he => by
  rw [adF, List.take_succ_cons, List.any_cons]
  cases x.ID == id with
  | true => simp [j1]; omega
  | false =>
   rw [nL, Bool.false_or, ← akn id r (k + 1) i (by simpa using h) (by omega) (by simpa using he)]
   have : k + ((i + 1 : Nat) : Int) = k + 1 + i := by omega
   rw [this]
def abB (x : aB) : Int :=
 cond (m7 x.Message == 0) (cond (x.Message.Level == 0) 14 (cond (x.State == 1) 0 (cond (x.State == 2) (cond (x.Message.Level == 1) 9 0) 9))) (m7 x.Message)
def yF (used : List Int) (seen : List aB) (x : aB) : Int := cond (used.contains x.ID) (cond (seen.any fun y => y.ID == x.ID) 15 (abB x)) 15
def pW (used : List Int) : List aB → List aB → Int
 | _, [] => 0
 | seen, x :: r => cond (yF used seen x == 0) (pW used (seen ++ [x]) r) (yF used seen x)
def ahh (w : aG) : Int :=
 cond (decide (w.Limit < 0)) 1 (cond (decide (w.Limit > 32)) 1 (cond (aaG w.Pool == 0) (cond (decide ((w.Items.length : Int) > 32)) 5 (cond (pW w.Pool.Used [] w.Items == 0) (cond (decide ((w.Items.length : Int) < (w.Pool.Used.length : Int))) 15 0) (pW w.Pool.Used [] w.Items))) (aaG w.Pool)))
theorem aky {p : aJ} (h : aaG p = 0) : p.Used.length ≤ 32 ∧ w7 0 p.Used = true ∧ 0 ≤ p.Last ∧ p.Last ≤ 65535 := by
 unfold aaG at h
 by_cases h1 : (p.Used.length : Int) > 32
 ·rw [aR (by simpa using h1)] at h; cases h
 ·rw [bD (by simpa using h1)] at h
  cases h2 : w7 0 p.Used with
  | false => rw [h2] at h; cases h
  | true =>
   rw [h2, j1] at h
   unfold aiK at h
   by_cases h3 : p.Last < 0
   ·rw [aR (by simpa using h3)] at h; cases h
   ·rw [bD (by simpa using h3)] at h
    by_cases h4 : p.Last > 65535
    ·rw [aR (by simpa using h4)] at h; cases h
    ·exact ⟨by omega, rfl, by omega, by omega⟩
theorem akk (w : aG) (hw : okL aB.good w.Items) (hp : w.Pool.Used.length < 1000000000000000) {i : Nat} (hi : i < w.Items.length) : nB w (i : Int) = some (yF w.Pool.Used (w.Items.take i) w.Items[i]) := by
 have hl := hw.1
 have hg : (w.Items[i]).good := ag9 hw hi
 have hm : (w.Items[i]).Message.good := hg.2.2
 have hd : decide (adF w.Items[i].ID 0 w.Items < (i : Int)) = (w.Items.take i).any fun y => y.ID == w.Items[i].ID := by
  rw [Bool.eq_iff_iff, ← akn _ w.Items 0 i hi (by omega) rfl]; simp
 unfold nB nV yF abB
 rw [aR (inr hi), dD hi, ajF _ _ (by omega), ams _ _ (by omega)]
 simp only [dC, hd, tQ _ (yA hm), uG, n8, eU]
theorem aoa {F : Nat → Int → Option Int} (w : aG) (hl : w.Items.length ≤ 140737488351232) (h0 : ∀ fu, F (fu + 1) (w.Items.length : Int) = some (cond (decide ((w.Items.length : Int) < (w.Pool.Used.length : Int))) 15 0))
  (h1 : ∀ fu i (hi : i < w.Items.length), F (fu + 1) (i : Int) = cond (yF w.Pool.Used (w.Items.take i) w.Items[i] == 0) (F fu ((i + 1 : Nat) : Int)) (some (yF w.Pool.Used (w.Items.take i) w.Items[i]))) :
  F fuel 0 = some (cond (pW w.Pool.Used [] w.Items == 0) (cond (decide ((w.Items.length : Int) < (w.Pool.Used.length : Int))) 15 0) (pW w.Pool.Used [] w.Items)) := by
 have := pH (n := w.Items.length) (F := fun fu i (_ : Unit) => F fu i) (G := fun i _ => some (cond (pW w.Pool.Used (w.Items.take i) (w.Items.drop i) == 0) (cond (decide ((w.Items.length : Int) < (w.Pool.Used.length : Int))) 15 0) (pW w.Pool.Used (w.Items.take i) (w.Items.drop i)))) (fun _ _ => True)
  (fun fu s _ => by rw [h0, List.drop_length]; rfl)
  (fun fu i s hi _ ih => by
   rw [h1 fu i hi, ih () trivial, List.drop_eq_getElem_cons hi, pW, List.take_succ_eq_append_getElem hi]
   cases hc : yF w.Pool.Used (w.Items.take i) w.Items[i] == 0 with
   | true => rfl
   | false => simp only [nL, hc]) (by omega) () trivial
 simpa using this
theorem alA (w : aG) (hw : okL aB.good w.Items) (hu : w.Pool.Used.length < 1000000000000000) : l9 w = some (ahh w) := by
 unfold l9 mS ahh
 rw [afW _ hu]
 simp only [dC, n8, eU]
 rw [aoa (F := fun fu i => fS fu i w) w hw.1 (fun fu => by rw [fS, bD (by simp)]; simp only [eU])
   (fun fu i hi => by rw [fS, aR (nK hi), akk w hw hu hi, dC, dA (by have := hw.1; omega), n8])]
 simp only [eU]
theorem am3 (w : aN) (h : w.good) : mF w = some (acy w) := by
 have hm : w.Message.good := h.2
 unfold mF acy
 rw [wH _ _ (akh hm), tQ _ (yA hm)]
 simp only [dC, uG, n8, eU, gt_iff_lt, afy]
def aeu (s : aC) : Int := pD id [aiF s, aeH s.Subs, abe s.Queue, ahh s.Out, y7 s.In.IDs, acy s.Will]
theorem ane (l : List Int) (hl : l.length < 1000000) : mB l = some (pD id l) := by
 unfold mB
 refine tG (F := fun fu i => fU fu l i) (g := fun r => some (pD id r)) (fun fu => by rw [fU, bD (by simp)]; rfl) (fun fu i hi ih => ?_) (by omega)
 rw [fU, aR (nK hi)]
 simp only [aR (inr hi), dD hi]
 rw [dA (by omega), ih, pD, n8, eU]
 rfl
theorem ahp (s : aC) (h : s.good) : mE s = some (aeu s) := by
 obtain ⟨_, _, _, _, _, _, h1, h2, h3, h4, h5⟩ := id h
 have hu : okL (okI .i64) s.Out.Pool.Used := h3.2.2.1
 have hu1 := hu.1
 unfold mE aeu
 rw [aj5 s h, ajO _ h1, aiQ _ h2, alA s.Out h3.2.1 (by omega), afQ s.In h4.1, am3 s.Will h5]
 simp only [dC]
 rw [ane _ (by simp)]
 rfl
end Md
end PX
