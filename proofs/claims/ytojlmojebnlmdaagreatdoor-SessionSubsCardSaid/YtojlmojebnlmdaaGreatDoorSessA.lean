import Derived.Test.YtojlmojebnlmdaaGreatDoorInts
import Derived.Test.YtojlmojebnlmdaaGreatDoorPktC
import Derived.KernelRfl
set_option linter.unusedVariables false
set_option linter.unusedSimpArgs false
namespace PX
open Go
namespace Md
theorem ale : m6 = some true := by kernel_rfl
theorem amN {l : List aE} (h : l.length * 32 ≤ 140737488355328) : cX l = some l := by
 unfold cX
 cases l with
 | nil => simp only [List.isEmpty, jU]; exact adh _
 | cons a l => simp only [List.isEmpty, lA, List.nil_append]; rw [aO (by simpa using h)]
theorem anr {l : List aD} (h : l.length * 32 ≤ 140737488355328) : eN l = some l := by
 unfold eN
 cases l with
 | nil => simp only [List.isEmpty, jU]; exact adh _
 | cons a l => simp only [List.isEmpty, lA, List.nil_append]; rw [aO (by simpa using h)]
def amL (s : aB) : Bool := (!s.Online && s.Conn != 0) || (s.Online && s.Until != 0)
def ajj (s : aB) : Int :=
 cond (rH s.Client) (cond (s.User == [] || rH s.User) (cond (amL s) 9 (cond (j1 0 1099511627776 s.Expiry) (cond (j1 0 1099511627776 s.Until) (cond (j1 0 1099511627776 s.Dropped) 0 1) 1) 1)) 11) 11
theorem as9 (x y : Int) : lP x y = some (j1 0 y x) := by
 unfold lP j1
 simp only [afg, ge_iff_le]
theorem akW (s : aB) (h : s.good) : nZ s = some (ajj s) := by
 have h1 : okS s.Client := h.1
 have h2 : okS s.User := h.2.1
 unfold nZ lM gX ajj amL
 simp only [w5 _ (zF h1), w5 _ (zF h2), as9, bY, oQ, rS, eH, aji, agG]
 try (cases rH s.Client <;> cases s.User == [] <;> cases rH s.User <;> cases s.Online <;> cases s.Conn == 0 <;> cases s.Until == 0 <;> rfl)
theorem anR (x : Int) : m9 x = some (j1 0 2 x) := by
 unfold m9 j1
 by_cases h0 : x = 0
 ·subst h0; rfl
 ·by_cases h1 : x = 1
  ·subst h1; rfl
  ·by_cases h2 : x = 2
   ·subst h2; rfl
   ·have e0 : (x == 0) = false := by simpa using h0
    have e1 : (x == 1) = false := by simpa using h1
    have e2 : (x == 2) = false := by simpa using h2
    rw [e0, e1, e2, lA, lA]
    congr 1
    symm
    rw [Bool.eq_false_iff]
    simp
    omega
theorem agR (x : aD) (h : x.good) : mD x = some (wO x) := by
 have h1 := zF (show okS x.Filter from h.1)
 unfold mD wO oR
 rw [ai2 _ h1, adE _ h1, anR]
 simp only [bY, rS, eH]
 cases sP x.Filter <;> rfl
theorem sub_eq (x : aD) (h : x.good) : n7 x = some (wO x) := by
 have h1 := zF (show okS x.Filter from h.1)
 unfold n7 wO oX ab2
 rw [amY _ h1, filter_eq, adA]
 simp only [bY, rS, eH, gt_iff_lt, acN]
 cases hs : sP x.Filter with
 | none =>
  simp only [nS, Option.isSome, Bool.false_or, jU, lA, rS]
  cases qX x.Filter <;> cases hb : jO x.Filter qU <;> (try rw [show jO x.Filter ([36, 115, 104, 97, 114, 101, 47] : Str) = jO x.Filter qU from rfl, hb]) <;> cases x.NoLocal <;> simp [afi, eH]
 | some y =>
  simp only [nS, Option.isSome, Bool.true_or, jU, lA]
def leO (p : Option Str) (f : Str) : Bool := match p with | none => false | some g => Op.bytesLess f g || f == g
def w4 : Option Str → List aD → Int
 | _, [] => 0
 | p, x :: r => cond (wO x == 0) (cond (leO p x.Filter) 22 (w4 (some x.Filter) r)) (wO x)
def afb (l : List aD) : Int := cond (decide ((l.length : Int) > 32)) 5 (w4 none l)
def acF (l : List aD) (i : Nat) : Option Str := if i = 0 then none else some (l.getD (i - 1) default).Filter
theorem amD {l : List aD} {i : Nat} (h : i < l.length) : acF l (i + 1) = some l[i].Filter := by simp [acF, h]
theorem agx (p : aR) (hl : p.IDs.length ≤ 140737488351232) : m0 p = some (aaB p.IDs) := by
 unfold m0
 rw [aia _ (by show p.IDs.length < _; omega) rfl]; rfl
theorem akh (l : List aD) (h : okL aD.good l) : n4 l = some (afb l) := by
 have hl := h.1
 unfold n4 afb
 rw [eH]
 refine congrArg _ ?_
 have := o0 (n := l.length) (F := fun fu i (_ : Unit) => fE fu l i) (G := fun i _ => some (w4 (acF l i) (l.drop i))) (fun _ _ => True)
  (fun fu s _ => by rw [List.drop_length, fE, aT (by simp)]; rfl)
  (fun fu i s hi _ ih => by
   have ih := ih () trivial
   rw [amD hi] at ih
   rw [fE, aO (jX hi)]
   simp only [aO (inr hi), cE hi, agR _ (ahP h hi), bY, oQ]
   rw [bU (by omega), ih, List.drop_eq_getElem_cons hi, w4]
   cases wO l[i] == 0 with
   | false => rfl
   | true =>
    simp only [jU]
    rcases Nat.eq_zero_or_pos i with hz | hpos
    ·have e0 : decide ((i : Int) > 0) = false := by simp; omega
     rw [e0]; simp [acF, hz, leO]
    ·have hq : i - 1 < l.length := by omega
     have e2 : IntKind.wrap .i64 ((i : Int) - 1) = ((i - 1 : Nat) : Int) := by rw [IntKind.wrap_i64]; omega
     have e0 : decide ((i : Int) > 0) = true := by simp; omega
     have e3 : acF l i = some l[i - 1].Filter := by simp [acF, show ¬ i = 0 by omega, hq]
     rw [e0, e2, e3]
     simp only [jU, aO (inr hq), cE hq, leO, eH]) (by omega) () trivial
 simpa [acF] using this
def acp (l : List aA) : Int := cond (decide ((l.length : Int) > 256)) 5 (pP oL l)
theorem aku (l : List aA) (h : okL aA.good l) : mU l = some (acp l) := by
 have hl := h.1
 unfold mU acp
 rw [eH]
 refine congrArg _ ?_
 refine uO (F := fun fu i => gF fu l i) (g := fun r => some (pP oL r)) (fun fu => by rw [gF, aT (by simp)]; rfl) (fun fu i hi ih => ?_) (by omega)
 rw [gF, aO (jX hi), aO (inr hi), cE hi, zR _ (adk (ahP h hi)), bY, bU (by omega), ih, pP, oQ, eH]
def ajn (x : Int) : Int := cond (decide (x < 0)) 1 (cond (decide (x > 65535)) 1 0)
def aa0 (p : aJ) : Int := cond (decide ((p.Used.length : Int) > 32)) 5 (cond (yA 0 p.Used) (ajn p.Last) 15)
theorem agz (p : aJ) (hl : p.Used.length < 1000000000000000) : gR p = some (aa0 p) := by
 unfold gR aa0
 rw [eH]
 refine congrArg _ ?_
 have := o0 (n := p.Used.length) (F := fun fu i (_ : Unit) => cS fu i p) (G := fun i _ => some (cond (yA (if i = 0 then 0 else p.Used.getD (i - 1) default) (p.Used.drop i)) (ajn p.Last) 15)) (fun i _ => i = 0 ∨ 1 ≤ p.Used.getD (i - 1) default)
  (fun fu s _ => by
   rw [List.drop_length, cS, aT (by simp)]; unfold ajn; simp only [yA, jU, eH])
  (fun fu i s hi hp ih => by
   rw [cS, aO (jX hi)]
   simp only [aO (inr hi), cE hi]
   have e1 : (p.Used.getD (i + 1 - 1) default) = p.Used[i] := by simp [hi]
   rw [List.drop_eq_getElem_cons hi, yA]
   by_cases c0 : p.Used[i] < 1
   ·rw [aO (by simpa using c0)]
    rcases hp with rfl | hp
    ·rw [if_pos rfl, aO (x := false) (decide_eq_true (by omega))]; rfl
    ·rw [aO (x := false) (decide_eq_true (by split <;> omega))]; rfl
   ·have ih := ih () (.inr (by rw [e1]; omega))
    rw [bU (by omega), ih]
    simp only [Nat.add_one_ne_zero, if_false, e1]
    rw [aT (by simpa using c0)]
    by_cases c2 : 65535 < p.Used[i]
    ·rw [aO (x := some 15) (by simpa using c2), decide_eq_true c2]
     cases decide (p.Used[i] ≤ if i = 0 then 0 else p.Used.getD (i - 1) default) <;> rfl
    ·rw [aT (x := some 15) (by simpa using c2), decide_eq_false c2]
     rcases Nat.eq_zero_or_pos i with hz | hpos
     ·have e0 : decide ((i : Int) > 0) = false := by simp; omega
      rw [e0, if_pos hz, decide_eq_false (show ¬ p.Used[i] ≤ 0 by omega)]; rfl
     ·have hq : i - 1 < p.Used.length := by omega
      have e2 : IntKind.wrap .i64 ((i : Int) - 1) = ((i - 1 : Nat) : Int) := by rw [IntKind.wrap_i64]; omega
      have e3 : (p.Used.getD (i - 1) default) = p.Used[i - 1] := by simp [hq]
      have e0 : decide ((i : Int) > 0) = true := by simp; omega
      simp only [e0, jU, e2, aO (inr hq), cE hq, if_neg (show ¬ i = 0 by omega), e3]
      cases decide (p.Used[i] ≤ p.Used[i - 1]) <;> rfl) (by omega) () (.inl rfl)
 exact this
def aey (id : Int) : Int → List aC → Int
 | _, [] => -1
 | k, x :: r => cond (x.ID == id) k (aey id (k + 1) r)
theorem am8 (l : List aC) (id : Int) (hl : l.length < 1000000000000000) : pW l id = some (aey id 0 l) := by
 unfold pW
 have := o0 (n := l.length) (F := fun fu i (_ : Unit) => jA fu l id i) (G := fun i _ => some (aey id (i : Int) (l.drop i))) (fun _ _ => True)
  (fun fu s _ => by rw [List.drop_length, jA, aT (by simp)]; rfl)
  (fun fu i s hi _ ih => by
   rw [jA, aO (jX hi), aO (inr hi), cE hi, bU (by omega), ih () trivial, List.drop_eq_getElem_cons hi, aey]
   cases l[i].ID == id <;> simp [jU, lA]) (by omega) () trivial
 simpa using this
theorem ala (id : Int) : ∀ (l : List aC) (k : Int) (i : Nat) (h : i < l.length), 0 ≤ k → l[i].ID = id → (aey id k l < k + i ↔ (l.take i).any (fun x => x.ID == id) = true)
 | x :: r, k, 0, h, hk, he => by
  rw [aey, show x.ID == id by simpa using he, jU]
  simp
 | x :: r, k, i + 1, h, hk, he => by
  rw [aey, List.take_succ_cons, List.any_cons]
  cases x.ID == id with
  | true => simp [jU]; omega
  | false =>
   rw [lA, Bool.false_or, ← ala id r (k + 1) i (by simpa using h) (by omega) (by simpa using he)]
   have : k + ((i + 1 : Nat) : Int) = k + 1 + i := by omega
   rw [this]
def ab6 (x : aC) : Int :=
 cond (oL x.Message == 0) (cond (x.Message.Level == 0) 14 (cond (x.State == 1) 0 (cond (x.State == 2) (cond (x.Message.Level == 1) 9 0) 9))) (oL x.Message)
def zA (used : List Int) (seen : List aC) (x : aC) : Int := cond (used.contains x.ID) (cond (seen.any fun y => y.ID == x.ID) 15 (ab6 x)) 15
def qT (used : List Int) : List aC → List aC → Int
 | _, [] => 0
 | seen, x :: r => cond (zA used seen x == 0) (qT used (seen ++ [x]) r) (zA used seen x)
def ahR (w : aG) : Int :=
 cond (decide (w.Limit < 0)) 1 (cond (decide (w.Limit > 32)) 1 (cond (aa0 w.Pool == 0) (cond (decide ((w.Items.length : Int) > 32)) 5 (cond (qT w.Pool.Used [] w.Items == 0) (cond (decide ((w.Items.length : Int) < (w.Pool.Used.length : Int))) 15 0) (qT w.Pool.Used [] w.Items))) (aa0 w.Pool)))
theorem ama {p : aJ} (h : aa0 p = 0) : p.Used.length ≤ 32 ∧ yA 0 p.Used = true ∧ 0 ≤ p.Last ∧ p.Last ≤ 65535 := by
 unfold aa0 at h
 by_cases h1 : (p.Used.length : Int) > 32
 ·rw [aO (by simpa using h1)] at h; cases h
 ·rw [aT (by simpa using h1)] at h
  cases h2 : yA 0 p.Used with
  | false => rw [h2] at h; cases h
  | true =>
   rw [h2, jU] at h
   unfold ajn at h
   by_cases h3 : p.Last < 0
   ·rw [aO (by simpa using h3)] at h; cases h
   ·rw [aT (by simpa using h3)] at h
    by_cases h4 : p.Last > 65535
    ·rw [aO (by simpa using h4)] at h; cases h
    ·exact ⟨by omega, rfl, by omega, by omega⟩
theorem akT (w : aG) (hw : okL aC.good w.Items) (hp : w.Pool.Used.length < 1000000000000000) {i : Nat} (hi : i < w.Items.length) : n3 w (i : Int) = some (zA w.Pool.Used (w.Items.take i) w.Items[i]) := by
 have hl := hw.1
 have hg : (w.Items[i]).good := ahP hw hi
 have hm : (w.Items[i]).Message.good := hg.2.2
 have hd : decide (aey w.Items[i].ID 0 w.Items < (i : Int)) = (w.Items.take i).any fun y => y.ID == w.Items[i].ID := by
  rw [Bool.eq_iff_iff, ← ala _ w.Items 0 i hi (by omega) rfl]; simp
 unfold n3 oA zA ab6
 rw [aO (inr hi), cE hi, aky _ _ (by omega), am8 _ _ (by omega)]
 simp only [bY, hd, zR _ (adk hm), rS, oQ, eH]
theorem aov {F : Nat → Int → Option Int} (w : aG) (hl : w.Items.length ≤ 140737488351232) (h0 : ∀ fu, F (fu + 1) (w.Items.length : Int) = some (cond (decide ((w.Items.length : Int) < (w.Pool.Used.length : Int))) 15 0))
  (h1 : ∀ fu i (hi : i < w.Items.length), F (fu + 1) (i : Int) = cond (zA w.Pool.Used (w.Items.take i) w.Items[i] == 0) (F fu ((i + 1 : Nat) : Int)) (some (zA w.Pool.Used (w.Items.take i) w.Items[i]))) :
  F fuel 0 = some (cond (qT w.Pool.Used [] w.Items == 0) (cond (decide ((w.Items.length : Int) < (w.Pool.Used.length : Int))) 15 0) (qT w.Pool.Used [] w.Items)) := by
 have := o0 (n := w.Items.length) (F := fun fu i (_ : Unit) => F fu i) (G := fun i _ => some (cond (qT w.Pool.Used (w.Items.take i) (w.Items.drop i) == 0) (cond (decide ((w.Items.length : Int) < (w.Pool.Used.length : Int))) 15 0) (qT w.Pool.Used (w.Items.take i) (w.Items.drop i)))) (fun _ _ => True)
  (fun fu s _ => by rw [h0, List.drop_length]; rfl)
  (fun fu i s hi _ ih => by
   rw [h1 fu i hi, ih () trivial, List.drop_eq_getElem_cons hi, qT, List.take_succ_eq_append_getElem hi]
   cases hc : zA w.Pool.Used (w.Items.take i) w.Items[i] == 0 with
   | true => rfl
   | false => simp only [lA, hc]) (by omega) () trivial
 simpa using this
theorem aml (w : aG) (hw : okL aC.good w.Items) (hu : w.Pool.Used.length < 1000000000000000) : m8 w = some (ahR w) := by
 unfold m8 nE ahR
 rw [agz _ hu]
 simp only [bY, oQ, eH]
 rw [aov (F := fun fu i => gD fu i w) w hw.1 (fun fu => by rw [gD, aT (by simp)]; simp only [eH])
   (fun fu i hi => by rw [gD, aO (jX hi), akT w hw hu hi, bY, bU (by have := hw.1; omega), oQ])]
 simp only [eH]
theorem an4 (w : aN) (h : w.good) : m7 w = some (acZ w) := by
 have hm : w.Message.good := h.2
 unfold m7 acZ
 rw [w1 _ _ (ak0 hm), zR _ (adk hm)]
 simp only [bY, rS, oQ, eH, gt_iff_lt, acN]
def aeI (s : aB) : Int := pP id [ajj s, afb s.Subs, acp s.Queue, ahR s.Out, aaB s.In.IDs, acZ s.Will]
theorem anH (l : List Int) (hl : l.length < 1000000) : mY l = some (pP id l) := by
 unfold mY
 refine uO (F := fun fu i => fZ fu l i) (g := fun r => some (pP id r)) (fun fu => by rw [fZ, aT (by simp)]; rfl) (fun fu i hi ih => ?_) (by omega)
 rw [fZ, aO (jX hi)]
 simp only [aO (inr hi), cE hi]
 rw [bU (by omega), ih, pP, oQ, eH]
 rfl
theorem ahQ (s : aB) (h : s.good) : mZ s = some (aeI s) := by
 obtain ⟨_, _, _, _, _, _, h1, h2, h3, h4, h5⟩ := id h
 have hu : okL (okI .i64) s.Out.Pool.Used := h3.2.2.1
 have hu1 := hu.1
 unfold mZ aeI
 rw [akW s h, akh _ h1, aku _ h2, aml s.Out h3.2.1 (by omega), agx s.In h4.1, an4 s.Will h5]
 simp only [bY]
 rw [anH _ (by simp)]
 rfl
end Md
end PX
