import Derived.Test.YthjloglncbnhfaaGreatDoorSessP
import Derived.KernelRfl
import Derived.Test.YthjloglncbnhfaaGreatDoorPXd
set_option linter.unusedVariables false
set_option linter.unusedSimpArgs false
namespace PX
open Go
namespace Md
theorem ahL (id : Int) : ∀ (l : List aC) (k : Int), (xK id k l = -1 ∧ ∀ x ∈ l, x.ID ≠ id) ∨ ∃ A f B, l = A ++ f :: B ∧ f.ID = id ∧ xK id k l = k + A.length
 | [], _ => .inl ⟨rfl, by simp⟩
 | x :: r, k => by
  rw [xK]
  by_cases e : x.ID = id
  ·rw [aM (by simpa using e)]
   exact .inr ⟨[], x, r, rfl, e, by simp⟩
  ·rw [aS (by simpa using e)]
   rcases ahL id r (k + 1) with ⟨h1, h2⟩ | ⟨A, f, B, h1, h2, h3⟩
   ·exact .inl ⟨h1, by intro y hy; rcases List.mem_cons.1 hy with rfl | hy; exact e; exact h2 y hy⟩
   ·refine .inr ⟨x :: A, f, B, by rw [h1]; rfl, h2, ?_⟩
    rw [h3, List.length_cons]; omega
def rO (id : Int) : aA := aA.mk 6 id false (aB.mk ([] : Str) ([] : Str) 0 false 0 0 ([] : Str) 0 ([] : List aE)) ([] : Str) ([] : Str) false 0 0 0 (aT.mk false 0 (aB.mk ([] : Str) ([] : Str) 0 false 0 0 ([] : Str) 0 ([] : List aE))) false 0 ([] : List aN) ([] : List Str) ([] : List Int)
theorem abP (id : Int) : o8 id = some (rO id) := rfl
theorem vF (id : Int) : lB id = some (rO id) := rfl
def n8 (w : aG) (A : List aC) (f : aC) (B : List aC) : aG := aG.mk w.Limit (A ++ B) ⟨w.Pool.Used.filter (fun y => y != f.ID), w.Pool.Last⟩
def qF (w : aG) (A : List aC) (f : aC) (B : List aC) : aG := aG.mk w.Limit (A ++ aC.mk f.ID 2 f.Message :: B) w.Pool
theorem filter_lt {x : Int} {l : List Int} (hm : x ∈ l) : (l.filter fun y => y != x).length < l.length := by
 rcases Nat.lt_or_ge (l.filter fun y => y != x).length l.length with q | q
 ·exact q
 ·have := List.filter_eq_self.1 (List.Sublist.eq_of_length_le List.filter_sublist q) x hm
  simp at this
theorem att {p : aK} (h : poolE p = 0) {x : Int} (hx : x ∈ p.Used) : aap p x = some (⟨p.Used.filter (fun y => y != x), p.Last⟩, true) := by
 obtain ⟨h1, ha, _, _⟩ := acs h
 have hc : p.Used.contains x = true := by simpa using hx
 unfold aap
 rw [yS (by omega), bC, yT x (yL ha) (by omega), bC, hc]
 have hlt : mE p.Used x < p.Used.length := by
  have e := congrArg List.length (zB ha hc)
  have := filter_lt hx
  have hle := ain p.Used x
  rcases Nat.lt_or_ge (mE p.Used x) p.Used.length with h' | h'
  ·exact h'
  ·have h2 : mE p.Used x = p.Used.length := by omega
   rw [h2] at e
   simp at e
   omega
 rw [bV, bN (by omega)]
 unfold jO ajh
 rw [aM (by simp; omega), bC, ← zB ha hc]
 rfl
theorem af5 {w : aG} {A B : List aC} {f : aC} (e : w.Items = A ++ f :: B) : A.length < w.Items.length ∧ w.Items.getD A.length default = f ∧ w.Items.take A.length = A ∧ w.Items.drop (A.length + 1) = B := by
 rw [e]
 refine ⟨by simp, by simp, by simp, ?_⟩
 rw [show A ++ f :: B = (A ++ [f]) ++ B by simp, show A.length + 1 = (A ++ [f]).length by simp, List.drop_left]
theorem amp {w : aG} (h : WOK w) {A B : List aC} {f : aC} (e : w.Items = A ++ f :: B) : oX w (A.length : Int) = some (n8 w A f B) ∧ nO w (A.length : Int) = some (n8 w A f B) := by
 obtain ⟨h1, h2, h3, h4⟩ := af5 e
 have hl := h.len
 have hu := h.used
 have hx : f.ID ∈ w.Pool.Used := h.mem f (by rw [e]; simp)
 have t1 : Int.toNat (A.length : Int) = A.length := by simp
 have t2 : Int.toNat ((A.length + 1 : Nat) : Int) = A.length + 1 := by simp
 constructor
 ·unfold oX
  rw [aM (inr h1), t1, h2, att h.pool hx, bC, yV h.lit, bC, bN (by omega)]
  unfold iZ ajh
  rw [aM (by simp; omega), bC, t1, t2, h3, h4]; rfl
 ·unfold nO
  have c1 : bQ w.Items none (some (A.length : Int)) = A := by simp [bQ, h3]
  have c2 : bQ w.Items (some ((A.length + 1 : Nat) : Int)) none = B := by
   rw [← h4]; simp [bQ]
  have hB : A.length + (B.length + 1) = w.Items.length := by rw [e]; simp
  rw [aM (inr h1), t1, h2, agE _ _ (by omega), bC, aM (by simp; omega), c1, aM (by simp; omega), bN (by omega), aM (by simp; omega), c2, aM (by simp; omega)]
  rfl
theorem ahh {w : aG} (h : WOK w) {A B : List aC} {f : aC} (e : w.Items = A ++ f :: B) : l9 w (A.length : Int) = some (qF w A f B) := by
 obtain ⟨h1, h2, h3, h4⟩ := af5 e
 have hl := h.len
 have t1 : Int.toNat (A.length : Int) = A.length := by simp
 have c1 : bQ w.Items none (some (A.length : Int)) = A := by simp [bQ, h3]
 have c2 : bQ w.Items (some ((A.length + 1 : Nat) : Int)) none = B := by
  rw [← h4]; simp [bQ]
 have hB : A.length + (B.length + 1) = w.Items.length := by rw [e]; simp
 unfold l9
 rw [c1, bN (by omega), c2, t1, h2, aM (by simp; omega), aM (by simp; omega), aM (inr h1), aM (inr h1), aM (by simp; omega), aM (by simp; omega), aM (by simp; omega)]
 simp [qF]
theorem arv {w : aG} (h : WOK w) {A B : List aC} {f : aC} (e : w.Items = A ++ f :: B) : ((A ++ B).map (·.ID)).Nodup ∧ ∀ y ∈ A ++ B, y.ID ≠ f.ID := by
 have hn := h.nodup
 rw [e] at hn
 constructor
 ·refine List.Pairwise.sublist ?_ hn
  exact List.Sublist.map _ (List.Sublist.append (List.Sublist.refl _) (List.sublist_cons_self _ _))
 ·rw [List.map_append, List.map_cons, List.nodup_append, List.nodup_cons] at hn
  obtain ⟨_, ⟨h2, _⟩, h3⟩ := hn
  intro y hy
  rcases List.mem_append.1 hy with hy | hy
  ·exact h3 _ (List.mem_map_of_mem hy) _ (by simp)
  ·intro q
   exact h2 (by rw [← q]; exact List.mem_map_of_mem hy)
theorem acv {w : aG} (h : WOK w) {A B : List aC} {f : aC} (e : w.Items = A ++ f :: B) : WOK (n8 w A f B) := by
 obtain ⟨n1, n2⟩ := arv h e
 have hl := h.len
 have hu := h.used
 have hB : A.length + (B.length + 1) = w.Items.length := by rw [e]; simp
 have hx : f.ID ∈ w.Pool.Used := h.mem f (by rw [e]; simp)
 have hlt := filter_lt hx
 obtain ⟨q1, q2, q3, q4⟩ := acs h.pool
 have sub : ∀ y ∈ A ++ B, y ∈ w.Items := fun y hy => by
  rw [e]
  rcases List.mem_append.1 hy with hy | hy
  ·simp [hy]
  ·simp [hy]
 refine ⟨⟨h.g.1, ⟨by simp [n8]; omega, fun y hy => h.g.2.1.2 y (sub y hy)⟩, ⟨by show (List.filter _ _).length ≤ _; omega, fun y hy => h.g.2.2.1.2 y (List.mem_filter.1 hy).1⟩, h.g.2.2.2⟩, h.l0, h.l1, ?_, by simp [n8]; omega, by simp only [n8, List.length_append]; omega, ?_, n1, fun y hy => h.ok y (sub y hy)⟩
 ·unfold poolE am5 n8
  simp only
  rw [aS (by simp; omega), ace q2, bV, aS (by simp; omega), aS (by simp; omega)]
 ·intro y hy
  exact List.mem_filter.2 ⟨h.mem y (sub y hy), by simpa using n2 y hy⟩
theorem adf {f : aC} (h : flightE f = 0) : g8 f.Message = 0 ∧ f.Message.Level ≠ 0 ∧ (f.State = 1 ∨ (f.State = 2 ∧ f.Message.Level ≠ 1)) := by
 have h0 := abj h
 unfold flightE at h
 rw [aM (by simpa using h0)] at h
 have h1 : f.Message.Level ≠ 0 := by
  intro c
  rw [aM (by simpa using c)] at h; cases h
 rw [aS (by simpa using h1)] at h
 refine ⟨h0, h1, ?_⟩
 by_cases c : f.State = 1
 ·exact .inl c
 ·rw [aS (by simpa using c)] at h
  by_cases d : f.State = 2
  ·rw [aM (by simpa using d)] at h
   refine .inr ⟨d, fun q => ?_⟩
   rw [aM (by simpa using q)] at h; cases h
  ·rw [aS (by simpa using d)] at h; cases h
theorem amh {m : aB} (h : g8 m = 0) : 0 ≤ m.Level ∧ m.Level ≤ 2 := by
 unfold g8 at h
 have h := cz2 (cz1 h (by decide)) (by decide)
 rw [← ak2]
 cases hr : dU 0 2 m.Level with
 | true => rfl
 | false => rw [hr] at h; cases h
theorem ai5 {w : aG} (h : WOK w) {A B : List aC} {f : aC} (e : w.Items = A ++ f :: B) (hv : f.Message.Level ≠ 1) : WOK (qF w A f B) := by
 have hn := h.nodup
 have hl := h.len
 have hu := h.used
 have hB : A.length + (B.length + 1) = w.Items.length := by rw [e]; simp
 have hf : f ∈ w.Items := by rw [e]; simp
 have gf := h.g.2.1.2 f hf
 obtain ⟨f1, f2, f3⟩ := adf (h.ok f hf)
 have cases3 : ∀ {P : aC → Prop}, P (aC.mk f.ID 2 f.Message) → (∀ y ∈ w.Items, P y) → ∀ y ∈ A ++ aC.mk f.ID 2 f.Message :: B, P y := fun {P} p1 p2 y hy => by
  rcases List.mem_append.1 hy with hy | hy
  ·exact p2 y (by rw [e]; simp [hy])
  ·rcases List.mem_cons.1 hy with rfl | hy
   ·exact p1
   ·exact p2 y (by rw [e]; simp [hy])
 have hlen : (A ++ aC.mk f.ID 2 f.Message :: B).length = w.Items.length := by rw [← hB]; simp
 refine ⟨⟨h.g.1, ⟨by show (A ++ _ :: B).length ≤ _; omega, cases3 ⟨gf.1, afL (x := 2) (by decide) (by decide), gf.2.2⟩ h.g.2.1.2⟩, h.g.2.2⟩, h.l0, h.l1, h.pool, by show (A ++ _ :: B).length ≤ _; omega, by show w.Pool.Used.length ≤ (A ++ _ :: B).length; omega, cases3 (h.mem f hf) h.mem, ?_, cases3 ?_ h.ok⟩
 ·show ((A ++ aC.mk f.ID 2 f.Message :: B).map (·.ID)).Nodup
  rw [e] at hn
  simpa using hn
 ·unfold flightE
  rw [aM (by simpa using f1), aS (by simpa using f2), aS (by rfl), aM (by rfl), aS (by simpa using hv)]
end Md
end PX
set_option linter.unusedVariables false
set_option linter.unusedSimpArgs false
namespace PX
open Go
namespace Md
def kQ (f : aC) : aA := cond (f.State == 2) (rO f.ID) (ady f.ID true f.Message)
theorem arp (w : aG) (h : aqn w) : sM w = some (w.Items.map kQ) := by
 obtain ⟨h1, h2, h3⟩ := h
 unfold sM
 have := pV (l := w.Items) (F := fun fu i (a : List aA) => iD fu (w.Items.length : Int) i w a) (g := fun l a => some (a ++ l.map kQ)) (fun i a => a.length ≤ i)
  (fun fu a _ => by rw [iD, aS (by simp)]; simp)
  (fun fu i a hi ha ih => by
   have hm := h2 _ (List.getElem_mem hi)
   rw [iD, aM (gX hi), aM (inr hi), cB hi, bN (by omega)]
   unfold n4
   rw [aci hm]
   simp only [bC, abP]
   cases e : w.Items[i].State == 2 with
   | true =>
    have : kQ w.Items[i] = rO w.Items[i].ID := by unfold kQ; rw [e]; rfl
    rw [bV, aM (by simp; omega), ih _ (by simp; omega), List.map_cons, this]; simp
   | false =>
    have : kQ w.Items[i] = ady w.Items[i].ID true w.Items[i].Message := by unfold kQ; rw [e]; rfl
    rw [bO, aM (by simp; omega), ih _ (by simp; omega), List.map_cons, this]; simp [ady]) (by omega) [] (Nat.le_refl _)
 simpa using this
theorem amH (w : aG) (h : aqn w) : lL w = some (w.Items.map kQ) := by
 obtain ⟨h1, h2, h3⟩ := h
 unfold lL
 have := pV (l := w.Items) (F := fun fu i (a : List aA) => fT fu i w a) (g := fun l a => some (a ++ l.map kQ)) (fun i a => a.length ≤ i)
  (fun fu a _ => by rw [fT, aS (by simp)]; simp)
  (fun fu i a hi ha ih => by
   rw [fT, aM (gX hi)]
   simp only [aM (inr hi), cB hi]
   rw [bN (by omega)]
   unfold nT
   simp only [bC, vF]
   cases e : w.Items[i].State == 2 with
   | true =>
    have : kQ w.Items[i] = rO w.Items[i].ID := by unfold kQ; rw [e]; rfl
    rw [bV, aM (by simp; omega), ih _ (by simp; omega), List.map_cons, this]; simp
   | false =>
    have : kQ w.Items[i] = ady w.Items[i].ID true w.Items[i].Message := by unfold kQ; rw [e]; rfl
    rw [bO, aM (by simp; omega), ih _ (by simp; omega), List.map_cons, this]; simp [ady]) (by omega) [] (Nat.le_refl _)
 simpa using this
def av8 (w : aG) (n : Int) : aG := aG.mk n w.Items w.Pool
end Md
end PX
set_option linter.unusedVariables false
set_option linter.unusedSimpArgs false
namespace PX
open Go
namespace Md
theorem alw (p : aJ) (x : Int) (h : n7 0 p.IDs = true) (hl : p.IDs.length ≤ 1000) : xO p x = some (p.IDs.contains x) := by
 unfold xO
 rw [yT x (yL h) (by omega)]; rfl
theorem aov (p : aJ) (x : Int) (hl : p.IDs.length < 100000000000000000) : sA p x = some (p.IDs.contains x) := by
 unfold sA
 rw [adE _ _ hl]; rfl
def ag5 (l : List Int) (x : Int) : List Int := l.filter fun y => y != x
theorem aoG {l : List Int} (x : Int) (h : n7 0 l = true) (hl : l.length ≤ 1000) : mS l x = some (ag5 l x) := by
 unfold mS jO ag5
 rw [yS (by omega)]
 simp only [bC, yT x (yL h) (by omega)]
 have hc := ain l x
 cases hh : l.contains x with
 | false => rw [bO, ao3 hh]
 | true =>
  have hlt : mE l x < l.length := by
   have e := congrArg List.length (zB h hh)
   rcases Nat.lt_or_ge (mE l x) l.length with h' | h'
   ·exact h'
   ·have : mE l x = l.length := by omega
    have e2 := congrArg List.length (zB h hh)
    rw [this] at e2
    have hm : x ∈ l := by simpa using hh
    have : (l.filter fun y => y != x).length < l.length := by
     rcases Nat.lt_or_ge (l.filter fun y => y != x).length l.length with q | q
     ·exact q
     ·have := List.filter_eq_self.1 (List.Sublist.eq_of_length_le List.filter_sublist q) x hm
      simp at this
    simp at e2
    omega
  rw [bV, bN (by omega)]
  unfold ajh
  rw [aM (by simp; omega), bC, ← zB h hh]
  rfl
abbrev abo : aJ := aJ.mk ([] : List Int)
def qK (l : List Int) (p : aA) : aJ × aA × Int :=
 cond (p.Kind != 6) (abo, uQ 0 0, 10) (cond (decide (p.ID < 1)) (abo, uQ 0 0, 15) (cond (decide (p.ID > 65535)) (abo, uQ 0 0, 15) (aJ.mk (ag5 l p.ID), uQ 7 p.ID, 0)))
theorem apJ (b : aJ) (p : aA) (h : n7 0 b.IDs = true) (hl : b.IDs.length ≤ 1000) : sD b p = some (qK b.IDs p) := by
 unfold sD rT qK
 rw [aoG _ h hl]
 simp only [bC, cV]
 rfl
theorem ajg (b : aJ) (p : aA) (hl : b.IDs.length ≤ 1000) : iV b p = some (qK b.IDs p) := by
 unfold iV oC qK
 rw [agE _ _ (by show b.IDs.length * 8 < _; omega)]
 simp only [bC, cV]
 rfl
theorem asS (l : List Int) (x : Int) : (ag5 l x).length ≤ l.length := List.length_filter_le _ _
theorem asE (l : List Int) (p : aA) (h : p.good) : (qK l p).2.1.good := by
 have z : okI .i64 0 := gR (by decide) (by decide)
 unfold qK
 cases p.Kind != 6 <;> simp only [bV, bO]
 ·cases decide (p.ID < 1) <;> simp only [bV, bO]
  ·cases decide (p.ID > 65535) <;> simp only [bV, bO]
   ·exact sC (gR (by decide) (by decide)) h.2.1
   ·exact sC z z
  ·exact sC z z
 ·exact sC z z
theorem atJ (l : List Int) (p : aA) : (qK l p).1.IDs.length ≤ l.length := by
 unfold qK
 cases p.Kind != 6 <;> simp only [bV, bO] <;> try exact Nat.zero_le _
 cases decide (p.ID < 1) <;> simp only [bV, bO] <;> try exact Nat.zero_le _
 cases decide (p.ID > 65535) <;> simp only [bV, bO] <;> try exact Nat.zero_le _
 exact asS _ _
theorem atN (l : List Int) (p : aA) (h : n7 0 l = true) : n7 0 (qK l p).1.IDs = true := by
 unfold qK
 cases p.Kind != 6 <;> simp only [bV, bO] <;> try rfl
 cases decide (p.ID < 1) <;> simp only [bV, bO] <;> try rfl
 cases decide (p.ID > 65535) <;> simp only [bV, bO] <;> try rfl
 exact ace h
theorem atS (l : List Int) (x : Int) (hl : l.length ≤ 1000) : qZ l x = some (jN l x) := by
 unfold qZ
 have fin : ∀ (i : Nat) (w : List Int), i ≤ l.length → w.length ≤ i → kL l x (i : Int) w = some (w ++ [x] ++ l.drop i) := fun i w hi hw => by
  rw [kL, aM (by simp; omega), aM (by simp; omega), aM (by simp [bQ]; omega)]
  simp [bQ]
 have := pV (l := l) (F := fun fu i (w : List Int) => jA fu l x i w) (g := fun r w => some (w ++ (r.takeWhile fun y => decide (y < x)) ++ [x] ++ r.dropWhile fun y => decide (y < x))) (fun i w => w.length ≤ i)
  (fun fu s hs => by rw [jA, aS (by simp), fin _ _ (Nat.le_refl _) hs]; simp)
  (fun fu i s hi hp ih => by
   rw [jA, aM (gX hi), aM (inr hi), cB hi]
   by_cases e : l[i] < x
   ·rw [aM (by simpa using e), rC, aM (inr hi), cB hi, aM (by simp; omega), bN (by omega), ih _ (by simp; omega)]
    simp [List.takeWhile, List.dropWhile, e]
   ·rw [aS (by simpa using e), fin _ _ (by omega) hp, List.drop_eq_getElem_cons hi]
    simp [List.takeWhile, List.dropWhile, e]) (by omega) [] (Nat.le_refl _)
 simpa [jN] using this
theorem insert_eq {l : List Int} (x : Int) (h : n7 0 l = true) (hl : l.length ≤ 1000) : nK l x = some (cond (l.contains x) l (jN l x)) := by
 unfold nK hH
 rw [yT x (yL h) (by omega), yS (by omega)]
 simp only [bC]
 cases l.contains x with
 | true => rfl
 | false =>
  have hc := ain l x
  simp only [bO]
  unfold ane
  rw [aM (by simp; omega), bC]
  unfold jN
  rw [← ael, ← ahU]
  rfl
theorem al8 {p : aA} (h : nL p = 0) (hk : p.Kind = 3) : (p.Message.Level = 0 ∨ p.Message.Level = 1 ∨ p.Message.Level = 2) ∧ (p.Message.Level ≠ 0 → 1 ≤ p.ID ∧ p.ID ≤ 65535) := by
 unfold nL at h
 rw [hk, aM (by decide)] at h
 cases hu : decide (p = aco p) with
 | false => rw [hu] at h; cases h
 | true =>
  rw [hu, bV] at h
  unfold amZ at h
  rw [hk] at h
  have h : yP p = 0 := h
  unfold yP at h
  cases hm : (g8 p.Message == 0) with
  | false => rw [hm, bO] at h; rw [h] at hm; cases hm
  | true =>
   rw [hm, bV] at h
   have hm : g8 p.Message = 0 := by simpa using hm
   have hl : dU 0 2 p.Message.Level = true := by
    unfold g8 at hm
    cases h1 : afM p.Message.Topic <;> rw [h1] at hm <;> simp only [bV, bO] at hm <;> try (cases hm; done)
    cases h2 : decide (256 < (p.Message.Payload.length : Int)) <;> rw [h2] at hm <;> simp only [bV, bO] at hm <;> try (cases hm; done)
    cases h3 : dU 0 2 p.Message.Level
    ·rw [h3] at hm; cases hm
    ·rfl
   have hl := aa8.1 hl
   refine ⟨by omega, fun hz => ?_⟩
   rw [aS (by simpa using hz)] at h
   unfold nR at h
   cases hi : dU 1 65535 p.ID with
   | false => rw [hi] at h; cases h
   | true => exact aa8.1 hi
def tA (l : List Int) (p : aA) : aJ × Bool × List aA × Int :=
 cond (p.Kind == 3) (cond (nL p == 0) (cond (p.Message.Level == 0) (aJ.mk l, true, [], 0) (cond (p.Message.Level == 1) (aJ.mk l, true, [uQ 4 p.ID], 0)
  (cond (l.contains p.ID) (aJ.mk l, false, [uQ 5 p.ID], 0) (cond (decide ((l.length : Int) ≥ 32)) (abo, false, [], 6) (aJ.mk (jN l p.ID), true, [uQ 5 p.ID], 0))))) (abo, false, [], nL p)) (abo, false, [], 10)
theorem aqG (b : aJ) (p : aA) (h : p.good) (ha : n7 0 b.IDs = true) (hl : b.IDs.length ≤ 1000) : tU b p = some (tA b.IDs p) := by
 unfold tU tA
 by_cases hk : p.Kind = 3
 ·have e : (p.Kind == 3) = true := by simpa using hk
  rw [dG, e, wA _ h]
  simp only [bV, bC, dG]
  by_cases hc : nL p = 0
  ·have e2 : (nL p == 0) = true := by simpa using hc
   rw [e2]
   simp only [bV]
   obtain ⟨hlev, _⟩ := al8 hc hk
   have hans : acE p = cond (p.Message.Level == 1) (uQ 4 p.ID, true) (cond (p.Message.Level == 2) (uQ 5 p.ID, true) (uQ 0 0, false)) := by
    unfold acE yQ
    rw [hk]
    cases p.Message.Level == 1 <;> cases p.Message.Level == 2 <;> rfl
   unfold pI mZ oE
   rw [yS (by omega), insert_eq _ ha hl, arF, hans, alw _ _ ha hl]
   rcases hlev with hv | hv | hv <;> rw [hv]
   ·rfl
   ·rfl
   ·cases hh : b.IDs.contains p.ID with
    | true => rfl
    | false =>
     cases hf : decide ((b.IDs.length : Int) ≥ 32) with
     | true => simp [bC]
     | false => simp [bC]
  ·have e2 : (nL p == 0) = false := by simpa using hc
   rw [e2]; rfl
 ·have e : (p.Kind == 3) = false := by simpa using hk
  rw [dG, e]; rfl
theorem ako (b : aJ) (p : aA) (h : p.good) (hl : b.IDs.length ≤ 1000) : jS b p = some (tA b.IDs p) := by
 unfold jS tA lN
 rw [yF _ h]
 simp only [bC, dG, aov _ _ (show b.IDs.length < 100000000000000000 by omega), atS _ _ hl, cV]
 rfl
def okB15 (l : List Int) : Prop := n7 0 l = true ∧ l.length ≤ 32
theorem arE (l : List Int) (p : aA) (h : okB15 l) : okB15 (tA l p).1.IDs := by
 have z : okB15 [] := ⟨rfl, by simp⟩
 unfold tA
 by_cases hk : p.Kind = 3
 ·by_cases hc : nL p = 0
  ·obtain ⟨hlev, hid⟩ := al8 hc hk
   rw [aM (by simpa using hk), aM (by simpa using hc)]
   by_cases h0 : p.Message.Level = 0
   ·rw [aM (by simpa using h0)]; exact h
   ·rw [aS (by simpa using h0)]
    cases p.Message.Level == 1 <;> simp only [bV, bO]
    ·cases hh : l.contains p.ID <;> simp only [bV, bO]
     ·by_cases hf : (l.length : Int) ≥ 32
      ·rw [aM (by simpa using hf)]; exact z
      ·rw [aS (by simpa using hf)]
       refine ⟨ajO h.1 (by have := hid h0; omega) (hid h0).2 (fun hm => ?_), ?_⟩
       ·rw [← List.contains_iff_mem, hh] at hm; cases hm
       ·show (jN l p.ID).length ≤ 32
        rw [agx]; omega
     ·exact h
    ·exact h
  ·rw [aM (by simpa using hk), aS (by simpa using hc)]; exact z
 ·rw [aS (by simpa using hk)]; exact z
theorem ard (l : List Int) (p : aA) (h : okB15 l) : okB15 (qK l p).1.IDs := ⟨atN _ _ h.1, by have := atJ l p; have := h.2; omega⟩
def apW (b : aJ) (p : aA) : aJ × Bool × Bool :=
 cond (p.Kind == 6) (cond ((qK b.IDs p).2.2 == 0) ((qK b.IDs p).1, false, true) (b, false, true)) (cond ((tA b.IDs p).2.2.2 == 0) ((tA b.IDs p).1, (tA b.IDs p).2.1, true) (b, false, true))
end Md
end PX
set_option linter.unusedVariables false
set_option linter.unusedSimpArgs false
namespace PX
open Go
namespace Md
theorem alu : cY = some true := by kernel_rfl
def stOf (c : client_Client) : brokerref51_State := brokerref51_State.mk c.name c.out.Limit c.state c.out c.in_ c.waiting c.count c.last
structure COK (c : client_Client) : Prop where
 name : okS c.name
 out : WOK c.out
 inb : okB15 c.in_.IDs
 wait : ∀ m ∈ c.waiting, okT m
 tot : c.waiting.length + c.out.Items.length ≤ 288
def apN (c : client_Client) (q : List aB) : client_Client := client_Client.mk c.name c.state c.out c.in_ q c.count c.last
def alH (c : client_Client) (w : aG) : client_Client := client_Client.mk c.name c.state w c.in_ c.waiting c.count c.last
def aj5 (c : client_Client) (b : aJ) : client_Client := client_Client.mk c.name c.state c.out b c.waiting c.count c.last
def qP (c : client_Client) (s : Int) : client_Client := client_Client.mk c.name s c.out c.in_ c.waiting c.count c.last
theorem wO {m : aB} (h : m.Props.length ≤ 1000) : kT m = some m := by
 unfold kT
 rw [alT (by omega)]; rfl
theorem asw (l : List Int) (p : aA) (h : okI .i64 p.ID) : (∀ q ∈ (tA l p).2.2.1, q.good) ∧ (tA l p).2.2.1.length ≤ 1 := by
 have k4 : (uQ 4 p.ID).good := sC (gR (by decide) (by decide)) h
 have k5 : (uQ 5 p.ID).good := sC (gR (by decide) (by decide)) h
 have n : (∀ q ∈ ([] : List aA), q.good) ∧ ([] : List aA).length ≤ 1 := ⟨by simp, by simp⟩
 have o : ∀ x : aA, x.good → (∀ q ∈ [x], q.good) ∧ [x].length ≤ 1 := fun x hx => ⟨by simpa using hx, by simp⟩
 unfold tA
 cases p.Kind == 3 <;> simp only [bV, bO] <;> try exact n
 cases nL p == 0 <;> simp only [bV, bO] <;> try exact n
 cases p.Message.Level == 0 <;> simp only [bV, bO] <;> try exact n
 cases p.Message.Level == 1 <;> simp only [bV, bO]
 ·cases l.contains p.ID <;> simp only [bV, bO]
  ·cases decide ((l.length : Int) ≥ 32) <;> simp only [bV, bO]
   ·exact o _ k5
   ·exact n
  ·exact o _ k5
 ·exact o _ k4
theorem ahp {id : Int} {dup : Bool} {m : aB} (hi : okI .i64 id) (hm : m.good) : (ady id dup m).good :=
 have z : okI .i64 0 := gR (by decide) (by decide)
 have e : okS [] := tZ (by simp)
 ⟨gR (x := 3) (by decide) (by decide), hi, hm, e, e, z, z, z, ⟨z, gA⟩, z, dE, dE, dE⟩
theorem ah0 {id : Int} (hi : okI .i64 id) : (rO id).good := sC (gR (by decide) (by decide)) hi
theorem apH {f : aC} (h : f.good) : (kQ f).good := by
 unfold kQ
 cases f.State == 2
 ·exact ahp h.1 h.2.2
 ·exact ah0 h.1
theorem aqD {w : aG} (h : WOK w) (p : aA) : ∃ r, mG w p = some r ∧ eN w p = some r ∧ (r.2.2 = 0 → WOK r.1 ∧ r.1.Limit = w.Limit ∧ r.1.Items.length ≤ w.Items.length) ∧ (∀ q ∈ r.2.1, q = rO p.ID) ∧ r.2.1.length ≤ 1 := by
 have hl := h.len
 unfold mG eN g6
 rw [find_eq _ _ (by omega), alW _ _ (by omega)]
 simp only [bC, dG]
 rcases ahL p.ID w.Items 0 with ⟨e1, e2⟩ | ⟨A, f, B, e1, e2, e3⟩
 ·rw [e1]
  have d1 : decide ((-1 : Int) ≥ 0) = false := rfl
  have d2 : decide ((-1 : Int) < 0) = true := rfl
  unfold iA
  simp only [d1, d2, bV, bO, yV h.lit, bC, abP, vF]
  cases k4 : p.Kind == 4 with
  | true =>
   have : p.Kind = 4 := by simpa using k4
   have k5 : (p.Kind == 5) = false := by rw [this]; rfl
   rw [k5]
   exact ⟨(w, [], 0), rfl, rfl, fun _ => ⟨h, rfl, Nat.le_refl _⟩, by simp, by simp⟩
  | false =>
   cases k5 : p.Kind == 5 with
   | true => exact ⟨(w, [rO p.ID], 0), rfl, rfl, fun _ => ⟨h, rfl, Nat.le_refl _⟩, by intro q hq; rw [List.mem_singleton] at hq; exact hq, by simp⟩
   | false =>
    cases k7 : p.Kind == 7 with
    | true => exact ⟨(w, [], 0), rfl, rfl, fun _ => ⟨h, rfl, Nat.le_refl _⟩, by simp, by simp⟩
    | false => exact ⟨(abt, [], 10), rfl, rfl, by simp, by simp, by simp⟩
 ·rw [e3]
  have hi := af5 e1
  have ht : (0 : Int) + (A.length : Int) = (A.length : Int) := by omega
  have d1 : decide ((A.length : Int) ≥ 0) = true := by simp
  have d2 : decide ((A.length : Int) < 0) = false := by simp
  have t1 : Int.toNat (A.length : Int) = A.length := by simp
  rw [ht, d1, d2]
  unfold iA iO
  have hr : decide ((A.length : Int) < (w.Items.length : Int)) = true := decide_eq_true (by have := hi.1; omega)
  have hr0 : decide (0 ≤ (A.length : Int)) = true := decide_eq_true (by omega)
  obtain ⟨m1, m2⟩ := amp h e1
  simp only [bV, bO, hr, hr0, Bool.and_self, t1, hi.2.1, d2, yV h.lit, bC, abP, vF, m1, m2, ahh h e1, e2]
  obtain ⟨f1, f2, f3⟩ := adf (h.ok f (by rw [e1]; simp))
  have lv := amh f1
  have hset : aG.mk w.Limit (w.Items.set A.length (aC.mk p.ID 2 f.Message)) w.Pool = qF w A f B := by
   rw [e1, List.set_append_right _ _ (Nat.le_refl _), ← e2]
   simp [qF]
  rw [hset]
  cases k4 : p.Kind == 4 with
  | true =>
   have : p.Kind = 4 := by simpa using k4
   have k5 : (p.Kind == 5) = false := by rw [this]; rfl
   have k7 : (p.Kind == 7) = false := by rw [this]; rfl
   rw [k5, k7]
   cases hv : f.Message.Level == 1 with
   | true => exact ⟨(n8 w A f B, [], 0), rfl, rfl, fun _ => ⟨acv h e1, rfl, by rw [e1]; simp [n8]⟩, by simp, by simp⟩
   | false => exact ⟨(abt, [], 23), rfl, rfl, by simp, by simp, by simp⟩
  | false =>
   cases k5 : p.Kind == 5 with
   | true =>
    have : p.Kind = 5 := by simpa using k5
    have k7 : (p.Kind == 7) = false := by rw [this]; rfl
    rw [k7]
    cases hv : f.Message.Level == 1 with
    | true =>
     have : (f.Message.Level == 2) = false := by
      have : f.Message.Level = 1 := by simpa using hv
      rw [this]; rfl
     rw [this]
     exact ⟨(abt, [], 23), rfl, rfl, by simp, by simp, by simp⟩
    | false =>
     have h1 : f.Message.Level ≠ 1 := by simpa using hv
     have : (f.Message.Level == 2) = true := by simp; omega
     rw [this]
     exact ⟨(qF w A f B, [rO p.ID], 0), rfl, rfl, fun _ => ⟨ai5 h e1 h1, rfl, by rw [e1]; simp [qF]⟩, by intro q hq; rw [List.mem_singleton] at hq; exact hq, by simp⟩
   | false =>
    cases k7 : p.Kind == 7 with
    | true =>
     rcases f3 with f3 | ⟨f3, f4⟩
     ·have s2 : (f.State == 2) = false := by rw [f3]; rfl
      have s1 : (f.State == 1) = true := by rw [f3]; rfl
      rw [s1, s2]
      refine ⟨(abt, [], 23), rfl, ?_, by simp, by simp, by simp⟩
      cases f.Message.Level == 1 <;> rfl
     ·have s2 : (f.State == 2) = true := by rw [f3]; rfl
      have s1 : (f.State == 1) = false := by rw [f3]; rfl
      have hv : (f.Message.Level == 1) = false := by simpa using f4
      rw [s1, s2, hv]
      exact ⟨(n8 w A f B, [], 0), rfl, rfl, fun _ => ⟨acv h e1, rfl, by rw [e1]; simp [n8]⟩, by simp, by simp⟩
    | false => exact ⟨(abt, [], 10), rfl, rfl, by simp, by simp, by simp⟩
theorem COK.wq {c : client_Client} (h : COK c) {q : List aB} (hq : ∀ m ∈ q, okT m) (hl : q.length + c.out.Items.length ≤ 288) : COK (apN c q) := ⟨h.name, h.out, h.inb, hq, hl⟩
theorem COK.wo {c : client_Client} (h : COK c) {w : aG} (hw : WOK w) (hl : c.waiting.length + w.Items.length ≤ 288) : COK (alH c w) := ⟨h.name, hw, h.inb, h.wait, hl⟩
theorem COK.wi {c : client_Client} (h : COK c) {b : aJ} (hb : okB15 b.IDs) : COK (aj5 c b) := ⟨h.name, h.out, hb, h.wait, h.tot⟩
theorem COK.ws {c : client_Client} (h : COK c) (s : Int) : COK (qP c s) := ⟨h.name, h.out, h.inb, h.wait, h.tot⟩
def Kept (c d : client_Client) : Prop := d.out.Limit = c.out.Limit ∧ d.name = c.name ∧ d.count = c.count ∧ d.state = c.state ∧ d.last = c.last ∧ d.in_ = c.in_
theorem Kept.asb (c : client_Client) : Kept c c := ⟨rfl, rfl, rfl, rfl, rfl, rfl⟩
theorem apS : ∀ (q : List aB) (c : client_Client) (z : brokerref51_State) (pre acc : List aA) (f1 f2 : Nat), c.waiting = q → q.length < f1 → q.length < f2 → COK c → pre.length ≤ 1000 → acc.length + q.length ≤ 1000 → (∀ p ∈ acc, p.good) →
  ∃ c' L, fB f1 c (pre ++ acc) = some (pre ++ L, c') ∧ jC f2 (stOf c) z acc = some (stOf c', L) ∧ COK c' ∧ (∀ p ∈ L, p.good) ∧ L.length ≤ 1000 ∧ Kept c c' := by
 intro q
 induction q with
 | nil =>
  intro c z pre acc f1 f2 hq h1 h2 hc hp ha hg
  obtain ⟨f1, rfl⟩ : ∃ n, f1 = n + 1 := ⟨f1 - 1, by omega⟩
  obtain ⟨f2, rfl⟩ : ∃ n, f2 = n + 1 := ⟨f2 - 1, by omega⟩
  have hq2 : (stOf c).Waiting = [] := hq
  have hs2 : (stOf c).Phase = c.state := rfl
  refine ⟨c, acc, ?_, ?_, hc, hg, by omega, Kept.asb c⟩
  ·rw [fB, hq]; cases c.state == 2 <;> rfl
  ·rw [jC, hq2, hs2]; cases c.state == 2 <;> rfl
 | cons m t ih =>
  intro c z pre acc f1 f2 hq h1 h2 hc hp ha hg
  obtain ⟨f1, rfl⟩ : ∃ n, f1 = n + 1 := ⟨f1 - 1, by simp at h1; omega⟩
  obtain ⟨f2, rfl⟩ : ∃ n, f2 = n + 1 := ⟨f2 - 1, by simp at h2; omega⟩
  simp only [List.length_cons] at h1 h2 ha
  have htot := hc.tot
  rw [hq] at htot
  simp only [List.length_cons] at htot
  have hm : okT m := hc.wait m (by rw [hq]; simp)
  have ht : ∀ x ∈ t, okT x := fun x hx => hc.wait x (by rw [hq]; simp [hx])
  have hpr := wY hm.1
  have hq2 : (stOf c).Waiting = m :: t := hq
  have hs2 : (stOf c).Phase = c.state := rfl
  have hcut : bQ (m :: t) (some 1) none = t := by simp [bQ]
  have hc0 : (decide (((m :: t).length : Int) > 0)) = true := by simp
  have hc1 : decide (0 ≤ 0) = true := rfl
  have hc2 : decide (0 ≤ 1) = true := rfl
  have hc3 : decide ((1 : Int) ≤ ((m :: t).length : Int)) = true := by simp; omega
  have hc4 : decide ((0 : Int) < ((m :: t).length : Int)) = true := by simp
  have hgd : List.getD (m :: t) (Int.toNat 0) default = m := rfl
  rw [fB, jC, hs2]
  cases hs : c.state == 2 with
  | false => exact ⟨c, acc, rfl, rfl, hc, hg, by omega, Kept.asb c⟩
  | true =>
   unfold lV jE rJ
   rw [hq, hq2]
   simp only [hc0, hc1, hc2, hc3, hc4, Bool.and_self, bV, hgd, hcut]
   by_cases hv : m.Level = 0
   ·have hv' : (m.Level == 0) = true := by simpa using hv
    simp only [hv', bV]
    rw [wO (by omega), bC, aM (by simp; omega), aM (by simp; omega)]
    have := ih (apN c t) z pre (acc ++ [ady 0 false m]) f1 f2 rfl (by omega) (by omega) (hc.wq ht (by omega)) hp (by simp; omega) (fun p hp' => by
     rcases List.mem_append.1 hp' with h | h
     ·exact hg p h
     ·rw [List.mem_singleton] at h; rw [h]; exact ahp (gR (by decide) (by decide)) hm.2)
    rw [← List.append_assoc] at this
    exact this
   ·have hv' : (m.Level == 0) = false := by simpa using hv
    simp only [hv', bO]
    have ho : (stOf c).Out = c.out := rfl
    rw [ho, (ais hc.out).2]
    by_cases cc : c.out.Limit ≤ c.out.Items.length
    ·refine ⟨c, acc, ?_, ?_, hc, hg, by omega, Kept.asb c⟩
     ·unfold qG
      rw [aS (by simpa using hv), (ais hc.out).1, if_pos cc]; rfl
     ·rw [if_pos cc]; rfl
    ·obtain ⟨x, x0, x1, x2, e1, e2⟩ := start_eq hc.out (by omega) hm hv
     have hz : (c.out.Limit - (c.out.Items.length : Int) == 0) = false := by simp; omega
     rw [e1, e2, if_neg cc]
     have hz2 : ((0 : Int) != 0) = false := rfl
     simp only [bC, hz, hz2, bO]
     rw [aM (by simp; omega), aM (by simp; omega)]
     have := ih (apN (alH c (begun c.out m x)) t) z pre (acc ++ [ady x false m]) f1 f2 rfl (by omega) (by omega) ⟨hc.name, asm hc.out (by omega) hm hv x0 x1 x2, hc.inb, ht, by show t.length + (c.out.Items ++ [_]).length ≤ 288; simp; omega⟩ hp (by simp; omega) (fun p hp' => by
      rcases List.mem_append.1 hp' with h | h
      ·exact hg p h
      ·rw [List.mem_singleton] at h; rw [h]; exact ahp (afL (by omega) (by omega)) hm.2)
     rw [← List.append_assoc] at this
     exact this
theorem ajC {c : client_Client} (h : COK c) (pre : List aA) (hp : pre.length ≤ 1000) :
  ∃ c' L, cK c pre = some (pre ++ L, c') ∧ eY (stOf c) = some (stOf c', L) ∧ COK c' ∧ (∀ p ∈ L, p.good) ∧ L.length ≤ 1000 ∧ Kept c c' := by
 have ht := h.tot
 have := apS c.waiting c ((brokerref51_State.mk ([] : Str) 0 0 (aG.mk 0 ([] : List aC) (aK.mk ([] : List Int) 0)) (aJ.mk ([] : List Int)) ([] : List aB) 0 0)) pre [] fuel fuel rfl (by unfold fuel; omega) (by unfold fuel; omega) h hp (by simp; omega) (by simp)
 rw [List.append_nil] at this
 exact this
end Md
end PX
set_option linter.unusedVariables false
set_option linter.unusedSimpArgs false
namespace PX
open Go
namespace Md
theorem api {n : Int} (h0 : 1 ≤ n) (h1 : n ≤ 32) : kP n = some (aG.mk n [] (aK.mk [] 0)) ∧ jD n = some (aG.mk n [] (aK.mk [] 0)) := by
 constructor
 ·unfold kP
  rw [aS (by simp; omega), if_neg (by omega)]
 ·unfold jD
  rw [aS (by simp; omega), aS (by simp; omega)]
def ag7 (n : Int) : aG := aG.mk n [] (aK.mk [] 0)
theorem apb {n : Int} (h0 : 0 ≤ n) (h1 : n ≤ 32) : WOK (ag7 n) := ⟨⟨afL (x := n) (by omega) (by omega), dE, dE, gR (x := 0) (by decide) (by decide)⟩, h0, h1, rfl, Nat.zero_le _, Nat.le_refl _, by simp [ag7], List.nodup_nil, by simp [ag7]⟩
structure LOK (c : client_Client) : Prop extends COK c where
 l1 : 1 ≤ c.out.Limit
def rF (l : List aC) : List aB := (l.filter fun f => f.State == 1).map (·.Message)
theorem arI (l : List aC) : (rF l).length ≤ l.length := by
 unfold rF; rw [List.length_map]; exact List.length_filter_le _ _
theorem aqN (items : List aC) (hl : items.length ≤ 1000) (hp : ∀ f ∈ items, f.Message.Props.length ≤ 1000) (c : client_Client) (hw : c.waiting.length ≤ 1000) :
  ∃ X : List aB → Option ((List aA) × (List aB) × Int × client_Client), (X = fun w => Option.bind (kP c.out.Limit) fun r3 => Option.bind (cK ((client_Client.mk c.name c.state r3 (aJ.mk ([] : List Int)) (w ++ c.waiting) c.count c.last)) ([] : List aA)) fun r4 => some (r4.1, [], 0, r4.2)) ∧
  cW fuel items (items.length : Int) 0 c [] = X (rF items) := by
 refine ⟨_, rfl, ?_⟩
 have := pV (l := items) (F := fun fu i (a : List aB) => cW fu items (items.length : Int) i c a) (g := fun l a => Option.bind (kP c.out.Limit) fun r3 => Option.bind (cK ((client_Client.mk c.name c.state r3 (aJ.mk ([] : List Int)) ((a ++ rF l) ++ c.waiting) c.count c.last)) ([] : List aA)) fun r4 => some (r4.1, [], 0, r4.2)) (fun i a => a.length ≤ i)
  (fun fu a ha => by
   have ha : a.length ≤ items.length := ha
   rw [cW, aS (by simp), aM (by simp; omega)]; simp [rF])
  (fun fu i a hi ha ih => by
   have hm := hp _ (List.getElem_mem hi)
   rw [cW, aM (gX hi), aM (inr hi), cB hi, bN (by omega), wO hm]
   simp only [bC]
   cases e : items[i].State == 1 with
   | true =>
    rw [bV, aM (by simp; omega), ih _ (by simp; omega)]
    simp only [rF, List.filter_cons, e, if_true, List.map_cons, List.append_assoc, List.singleton_append]
   | false =>
    rw [bO, ih _ (by omega)]
    simp only [rF, List.filter_cons, e]
    rfl) (by omega) [] (Nat.le_refl _)
 simpa using this
theorem amy (b0 b1 : brokerref51_State) (hl : b0.Out.Items.length ≤ 1000) (hw : b0.Waiting.length ≤ 1000) :
  dP fuel 0 b0 b1 [] = Option.bind (jD b0.Limit) fun r2 => eD ((brokerref51_State.mk b0.Name b0.Limit b0.Phase r2 (aJ.mk ([] : List Int)) (rF b0.Out.Items ++ b0.Waiting) b0.Seq b0.Last)) b1 ([] : List aA) := by
 have := pV (l := b0.Out.Items) (F := fun fu i (a : List aB) => dP fu i b0 b1 a) (g := fun l a => Option.bind (jD b0.Limit) fun r2 => eD ((brokerref51_State.mk b0.Name b0.Limit b0.Phase r2 (aJ.mk ([] : List Int)) ((a ++ rF l) ++ b0.Waiting) b0.Seq b0.Last)) b1 ([] : List aA)) (fun i a => a.length ≤ i)
  (fun fu a ha => by
   have ha : a.length ≤ b0.Out.Items.length := ha
   rw [dP, aS (by simp), aM (by simp; omega)]; simp [rF])
  (fun fu i a hi ha ih => by
   rw [dP, aM (gX hi)]
   simp only [aM (inr hi), cB hi]
   rw [bN (by omega)]
   cases e : b0.Out.Items[i].State == 1 with
   | true =>
    rw [bV, aM (by simp; omega), ih _ (by simp; omega)]
    simp only [rF, List.filter_cons, e, if_true, List.map_cons, List.append_assoc, List.singleton_append]
   | false =>
    rw [bO, ih _ (by omega)]
    simp only [rF, List.filter_cons, e]
    rfl) (by omega) [] (Nat.le_refl _)
 simpa using this
theorem aq6 {c : client_Client} (h : COK c) (z : brokerref51_State) (pre : List aA) (hp : pre.length ≤ 1000) :
  ∃ c' L, cK c pre = some (pre ++ L, c') ∧ eY (stOf c) = some (stOf c', L) ∧ eD (stOf c) z pre = some (stOf c', pre ++ L) ∧ COK c' ∧ (∀ p ∈ L, p.good) ∧ L.length ≤ 1000 ∧ Kept c c' := by
 obtain ⟨c', L, e1, e2, h1, h2, h3, h4⟩ := ajC h pre hp
 refine ⟨c', L, e1, e2, ?_, h1, h2, h3, h4⟩
 unfold eD
 rw [e2, bC, aM (by simp; omega)]
theorem at5 {c : client_Client} (h : COK c) : ∀ m ∈ rF c.out.Items ++ c.waiting, okT m := by
 intro m hm
 rcases List.mem_append.1 hm with hm | hm
 ·unfold rF at hm
  obtain ⟨f, hf, rfl⟩ := List.mem_map.1 hm
  have hf := (List.mem_filter.1 hf).1
  exact ⟨abj (h.out.ok f hf), (h.out.g.2.1.2 f hf).2.2⟩
 ·exact h.wait m hm
theorem aoJ {w : aG} (h : WOK w) : ∀ f ∈ w.Items, f.Message.Props.length ≤ 1000 := fun f hf => by
 have := wY (abj (h.ok f hf)); omega
theorem aqv {c : client_Client} (h : LOK c) (p : aA) :
  ∃ c' L, hY c p = some (L, [], 0, c') ∧ lA (stOf c) p = some (stOf c', L) ∧ LOK c' ∧ (∀ q ∈ L, q.good) ∧ L.length ≤ 2000 := by
 have ht := h.tot
 have hi := h.out.len
 have hl1 := h.l1
 have hl2 := h.out.l1
 unfold hY lA
 cases hcd : p.Code != 0 with
 | true => exact ⟨qP c 0, [], rfl, rfl, ⟨h.toCOK.ws 0, hl1⟩, by simp, by simp⟩
 | false =>
  cases hpr : p.Present with
  | true =>
   simp only [bV, bO]
   have hres : lL (stOf c).Out = some (c.out.Items.map kQ) := amH _ h.out.lit
   rw [arp _ h.out.lit, hres]
   simp only [bC]
   obtain ⟨c', L, e1, e2, e3, h1, h2, h3, h4⟩ := aq6 (h.toCOK.ws 2) ((brokerref51_State.mk ([] : Str) 0 0 (aG.mk 0 ([] : List aC) (aK.mk ([] : List Int) 0)) (aJ.mk ([] : List Int)) ([] : List aB) 0 0)) (c.out.Items.map kQ) (by rw [List.length_map]; omega)
   refine ⟨c', c.out.Items.map kQ ++ L, ?_, e3, ⟨h1, ?_⟩, fun q hq => ?_, by rw [List.length_append, List.length_map]; omega⟩
   ·have e1' : cK (client_Client.mk c.name 2 c.out c.in_ c.waiting c.count c.last) (c.out.Items.map kQ) = some (c.out.Items.map kQ ++ L, c') := e1
    rw [e1']; rfl
   ·rw [h4.1]; exact hl1
   ·rcases List.mem_append.1 hq with hq | hq
    ·obtain ⟨f, hf, rfl⟩ := List.mem_map.1 hq
     exact apH (h.out.g.2.1.2 f hf)
    ·exact h2 q hq
  | false =>
   simp only [bO]
   obtain ⟨X, hX, e1⟩ := aqN c.out.Items (by omega) (aoJ h.out) (qP c 2) (by show c.waiting.length ≤ 1000; omega)
   have e1' : cW fuel c.out.Items (c.out.Items.length : Int) 0 (client_Client.mk c.name 2 c.out c.in_ c.waiting c.count c.last) [] = X (rF c.out.Items) := e1
   have e2 := amy (stOf (qP c 2)) ((brokerref51_State.mk ([] : Str) 0 0 (aG.mk 0 ([] : List aC) (aK.mk ([] : List Int) 0)) (aJ.mk ([] : List Int)) ([] : List aB) 0 0)) (by show c.out.Items.length ≤ 1000; omega) (by show c.waiting.length ≤ 1000; omega)
   obtain ⟨n1, n2⟩ := api hl1 hl2
   have n1' : kP (qP c 2).out.Limit = some (ag7 c.out.Limit) := n1
   have n2' : jD (stOf (qP c 2)).Limit = some (ag7 c.out.Limit) := n2
   have hbl := arI c.out.Items
   have hc2 : COK (client_Client.mk c.name 2 (ag7 c.out.Limit) (aJ.mk []) (rF c.out.Items ++ c.waiting) c.count c.last) := ⟨h.name, apb (by omega) hl2, ⟨rfl, Nat.zero_le _⟩, at5 h.toCOK, by show (rF c.out.Items ++ c.waiting).length + 0 ≤ 288; rw [List.length_append]; omega⟩
   obtain ⟨c', L, f1, f2, f3, h1, h2, h3, h4⟩ := aq6 hc2 ((brokerref51_State.mk ([] : Str) 0 0 (aG.mk 0 ([] : List aC) (aK.mk ([] : List Int) 0)) (aJ.mk ([] : List Int)) ([] : List aB) 0 0)) [] (by simp)
   refine ⟨c', L, ?_, ?_, ⟨h1, by rw [h4.1]; exact hl1⟩, h2, by omega⟩
   ·rw [e1', hX]
    show Option.bind (kP (qP c 2).out.Limit) _ = _
    rw [n1', bC]
    have f1' : cK (client_Client.mk (qP c 2).name (qP c 2).state (ag7 c.out.Limit) (aJ.mk ([] : List Int)) (rF c.out.Items ++ (qP c 2).waiting) (qP c 2).count (qP c 2).last) [] = some ([] ++ L, c') := f1
    rw [f1']; rfl
   ·refine Eq.trans e2 ?_
    rw [n2', bC]
    exact f3
end Md
end PX
set_option linter.unusedVariables false
set_option linter.unusedSimpArgs false
namespace PX
open Go
namespace Md
structure Told (c : client_Client) (p : aA) (A : Option ((List aA) × (List aB) × Int × client_Client)) (B : Option (brokerref51_State × (List aA) × (List aB) × Int)) : Prop where
 ex : ∃ c' L M e, A = some (L, M, e, c') ∧ B = some (stOf c', L, M, e) ∧ LOK c' ∧ (∀ q ∈ L, q.good) ∧ L.length ≤ 2001 ∧ (M = [] ∨ M = [p.Message])
theorem uS {c : client_Client} {p : aA} (h : LOK c) (e : Int) : Told c p (some ([], [], e, c)) (some (stOf c, [], [], e)) := ⟨c, [], [], e, rfl, rfl, h, by simp, by simp, .inl rfl⟩
theorem auH {c : client_Client} (h : LOK c) (p : aA) (g : p.good) : Told c p (g9 c p) (Option.bind (eN (stOf c).Out p) fun r5 =>
   cond (r5.2.2 != 0) (some (stOf c, [], [], r5.2.2)) (
   Option.bind (eY (brokerref51_State.mk (stOf c).Name (stOf c).Limit (stOf c).Phase r5.1 (stOf c).In (stOf c).Waiting (stOf c).Seq (stOf c).Last)) fun r6 =>
   cond (decide (List.length r5.2.1 * 416 ≤ 140737488355328)) (
    cond (decide ((List.length r5.2.1 + List.length r6.2) * 416 ≤ 140737488355328)) (
     some (r6.1, (r5.2.1 ++ r6.2), [], 0)) none) none)) := by
 obtain ⟨r, e1, e2, h1, h2, h3⟩ := aqD h.out p
 unfold g9
 have e2' : eN (stOf c).Out p = some r := e2
 rw [e1, e2']
 simp only [bC]
 cases he : r.2.2 != 0 with
 | true => exact uS h _
 | false =>
  have hz : r.2.2 = 0 := by simpa using he
  obtain ⟨q1, q2, q3⟩ := h1 hz
  have ht := h.tot
  have hc := h.toCOK.wo q1 (by omega)
  obtain ⟨c', L, f1, f2, k1, k2, k3, k4⟩ := ajC hc r.2.1 (by omega)
  simp only [bO]
  have f1' : cK (client_Client.mk c.name c.state r.1 c.in_ c.waiting c.count c.last) r.2.1 = some (r.2.1 ++ L, c') := f1
  have f2' : eY (brokerref51_State.mk (stOf c).Name (stOf c).Limit (stOf c).Phase r.1 (stOf c).In (stOf c).Waiting (stOf c).Seq (stOf c).Last) = some (stOf c', L) := by
   have : brokerref51_State.mk (stOf c).Name (stOf c).Limit (stOf c).Phase r.1 (stOf c).In (stOf c).Waiting (stOf c).Seq (stOf c).Last = stOf (alH c r.1) := by
    show brokerref51_State.mk c.name c.out.Limit c.state r.1 c.in_ c.waiting c.count c.last = brokerref51_State.mk c.name r.1.Limit c.state r.1 c.in_ c.waiting c.count c.last
    rw [q2]
   rw [this]; exact f2
  rw [f1', f2']
  simp only [bC]
  rw [aM (by simp; omega), aM (by simp; omega)]
  refine ⟨c', r.2.1 ++ L, [], 0, rfl, rfl, ⟨k1, ?_⟩, fun q hq => ?_, by rw [List.length_append]; omega, .inl rfl⟩
  ·rw [k4.1]; show 1 ≤ r.1.Limit; rw [q2]; exact h.l1
  ·rcases List.mem_append.1 hq with hq | hq
   ·rw [h2 q hq]; exact ah0 g.2.1
   ·exact k2 q hq
theorem aur {c : client_Client} (h : LOK c) (p : aA) (g : p.good) (hp : p.Message.Props.length ≤ 1000) : Told c p (jR c p) (Option.bind (jS (stOf c).In p) fun r3 =>
   cond (r3.2.2.2 != 0) (
    some (stOf c, [], [], r3.2.2.2)) (
   cond r3.2.1 (
    some ((brokerref51_State.mk (stOf c).Name (stOf c).Limit (stOf c).Phase (stOf c).Out r3.1 (stOf c).Waiting (stOf c).Seq (stOf c).Last), r3.2.2.1, [p.Message], 0)) (
   some ((brokerref51_State.mk (stOf c).Name (stOf c).Limit (stOf c).Phase (stOf c).Out r3.1 (stOf c).Waiting (stOf c).Seq (stOf c).Last), r3.2.2.1, [], 0)))) := by
 have hb := h.inb
 have e2 : jS (stOf c).In p = some (tA c.in_.IDs p) := ako _ _ g (by have := hb.2; show c.in_.IDs.length ≤ 1000; omega)
 unfold jR
 rw [aqG _ _ g hb.1 (by have := hb.2; omega), e2]
 simp only [bC]
 obtain ⟨a1, a2⟩ := asw c.in_.IDs p g.2.1
 have hk := h.toCOK.wi (arE c.in_.IDs p hb)
 cases he : (tA c.in_.IDs p).2.2.2 != 0 with
 | true => exact uS h _
 | false =>
  simp only [bO]
  cases hd : (tA c.in_.IDs p).2.1 with
  | false => exact ⟨aj5 c (tA c.in_.IDs p).1, (tA c.in_.IDs p).2.2.1, [], 0, rfl, rfl, ⟨hk, h.l1⟩, a1, by omega, .inl rfl⟩
  | true =>
   simp only [Bool.not_true, bO, bV]
   rw [wO hp]
   exact ⟨aj5 c (tA c.in_.IDs p).1, (tA c.in_.IDs p).2.2.1, [p.Message], 0, rfl, rfl, ⟨hk, h.l1⟩, a1, by omega, .inr rfl⟩
theorem auk {c : client_Client} (h : LOK c) (p : aA) (g : p.good) : Told c p (jP c p) (Option.bind (iV (stOf c).In p) fun r4 =>
   cond (r4.2.2 != 0) (
    some (stOf c, [], [], r4.2.2)) (
   some ((brokerref51_State.mk (stOf c).Name (stOf c).Limit (stOf c).Phase (stOf c).Out r4.1 (stOf c).Waiting (stOf c).Seq (stOf c).Last), [r4.2.1], [], 0))) := by
 have hb := h.inb
 have e2 : iV (stOf c).In p = some (qK c.in_.IDs p) := ajg _ _ (by have := hb.2; show c.in_.IDs.length ≤ 1000; omega)
 unfold jP
 rw [apJ _ _ hb.1 (by have := hb.2; omega), e2]
 simp only [bC]
 have hk := h.toCOK.wi (ard c.in_.IDs p hb)
 cases he : (qK c.in_.IDs p).2.2 != 0 with
 | true => exact uS h _
 | false => exact ⟨aj5 c (qK c.in_.IDs p).1, [(qK c.in_.IDs p).2.1], [], 0, rfl, rfl, ⟨hk, h.l1⟩, by intro q hq; rw [List.mem_singleton] at hq; rw [hq]; exact asE _ _ g, by simp, .inl rfl⟩
theorem ave {c : client_Client} (h : LOK c) (p : aA) (g : p.good) (hp : p.Message.Props.length ≤ 1000) (z : brokerref51_State) : Told c p (fS p c) (dK (stOf c) p z) := by
 have id4 : ∀ (x : Option ((List aA) × (List aB) × Int × client_Client)), (Option.bind x fun r => some (r.1, r.2.1, r.2.2.1, r.2.2.2)) = x := fun x => by cases x <;> rfl
 have ack := auH h p g
 have pub := aur h p g hp
 have rel := auk h p g
 unfold fS kU dK
 simp only [id4]
 cases k2 : p.Kind == 2 with
 | true =>
  obtain ⟨c', L, e1, e2, h1, h2, h3⟩ := aqv h p
  simp only [bV]
  show Told c p (hY c p) _
  rw [e1, e2]
  exact ⟨c', L, [], 0, rfl, rfl, h1, h2, by omega, .inl rfl⟩
 | false =>
  cases k3 : p.Kind == 3 with
  | true => simp only [bO, bV]; exact pub
  | false =>
   cases k6 : p.Kind == 6 with
   | true => simp only [bO, bV]; exact rel
   | false =>
    cases k4 : p.Kind == 4 with
    | true => simp only [bO, bV]; exact ack
    | false =>
     cases k5 : p.Kind == 5 with
     | true => simp only [bO, bV]; exact ack
     | false =>
      cases k7 : p.Kind == 7 with
      | true => simp only [bO, bV]; exact ack
      | false =>
       cases k14 : p.Kind == 14 with
       | true => simp only [bO, bV]; exact ⟨qP c 0, [], [], 0, rfl, rfl, ⟨h.toCOK.ws 0, h.l1⟩, by simp, by simp, .inl rfl⟩
       | false => simp only [bO]; exact uS h 0
abbrev z51 : brokerref51_State := (brokerref51_State.mk ([] : Str) 0 0 (aG.mk 0 ([] : List aC) (aK.mk ([] : List Int) 0)) (aJ.mk ([] : List Int)) ([] : List aB) 0 0)
theorem aqA {c : client_Client} (h : LOK c) (p : aA) (g : p.good) (hp : p.Message.Props.length ≤ 1000) : Told c p (dX c p) (nN (stOf c) p) := by
 have r9 := ave h p g hp
 unfold dX nN fV
 have hs : (stOf c).Phase = c.state := rfl
 rw [wA _ g, yF _ g, ajw, amJ, hs]
 simp only [bC]
 cases s0 : c.state == 0 with
 | true => exact uS h 9
 | false =>
  cases hk : nL p != 0 with
  | true => exact uS h _
  | false =>
   simp only [bO]
   cases hb : afU p.Kind with
   | false => cases c.state == 1 <;> cases p.Kind != 2 <;> exact uS h 23
   | true =>
    cases s1 : c.state == 1 with
    | true =>
     have s2 : (c.state == 2) = false := by
      have : c.state = 1 := by simpa using s1
      rw [this]; rfl
     rw [s2]
     cases k2 : p.Kind != 2 with
     | true =>
      cases k14 : p.Kind != 14 with
      | true => exact uS h 23
      | false => exact r9 z51
     | false => exact r9 z51
    | false =>
     cases s2 : c.state == 2 with
     | true =>
      cases k2 : p.Kind == 2 with
      | true => exact uS h 23
      | false => exact r9 z51
     | false => exact r9 z51
def ahX (c : client_Client) (m : aB) : aB := aB.mk m.Topic m.Payload m.Level m.Retain m.Priority m.Expires c.name (IntKind.wrap .i64 (c.count + 1)) m.Props
theorem aph (x : Int) : okI .i64 (IntKind.wrap .i64 x) := by
 simp only [okI, Go.Lit.wf]
 simp only [IntKind.wrap, Go.IntKind.min, Go.IntKind.max, Go.IntKind.signed, Go.IntKind.bits, Bool.and_eq_true, decide_eq_true_eq, if_true]
 split <;> rename_i h <;> simp only [true_and, Nat.reduceSub, Int.reducePow] at h ⊢
 ·have := of_decide_eq_true h; omega
 ·have h : ¬ (x % 18446744073709551616 ≥ 9223372036854775808) := fun g => h (decide_eq_true g)
  omega
theorem arP {c : client_Client} (h : COK c) {m : aB} (g : m.good) : (ahX c m).good := ⟨g.1, g.2.1, g.2.2.1, g.2.2.2.1, g.2.2.2.2.1, h.name, aph _, g.2.2.2.2.2.2.2⟩
theorem arB {l : List aB} (h : l.length * 112 ≤ 140737488355328) : dZ l = some l := by
 unfold dZ
 cases l with
 | nil => simp only [List.isEmpty, bV]; exact agd _
 | cons a l => simp only [List.isEmpty, bO, List.nil_append]; rw [aM (by simpa using h)]
theorem aqK {c : client_Client} (h : LOK c) (m : aB) (g : m.good) (hp : m.Props.length ≤ 1000) :
  ∃ c' L e, eK c m = some (L, e, c') ∧ nP (stOf c) m = some (stOf c', L, e) ∧ LOK c' ∧ (∀ q ∈ L, q.good) ∧ L.length ≤ 1000 := by
 have hg := arP h.toCOK g
 have hf := uT hg
 have ht := h.tot
 have hw : (stOf c).Waiting = c.waiting := rfl
 unfold eK nP
 rw [wO hp, bC]
 have e1 : g5 (aB.mk m.Topic m.Payload m.Level m.Retain m.Priority m.Expires c.name (IntKind.wrap .i64 (c.count + 1)) m.Props) = some (g8 (ahX c m)) := uI _ hf
 have e2 : gC (aB.mk m.Topic m.Payload m.Level m.Retain m.Priority m.Expires (stOf c).Name (IntKind.wrap .i64 ((stOf c).Seq + 1)) m.Props) = some (g8 (ahX c m)) := aaC _ hf
 rw [e1, e2, hw]
 simp only [bC]
 cases he : g8 (ahX c m) != 0 with
 | true => exact ⟨c, [], _, rfl, rfl, h, by simp, by simp⟩
 | false =>
  have hz : g8 (ahX c m) = 0 := by simpa using he
  cases hl : decide ((c.waiting.length : Int) ≥ 256) with
  | true => exact ⟨c, [], 6, rfl, rfl, h, by simp, by simp⟩
  | false =>
   have hl' : c.waiting.length < 256 := by
    have : (c.waiting.length : Int) < 256 := by simpa using hl
    omega
   have hi := h.out.len
   simp only [bO]
   rw [arB (by omega), bC, aM (by simp; omega), aM (by simp; omega), aM (by simp; omega)]
   have hc : COK (client_Client.mk c.name c.state c.out c.in_ (c.waiting ++ [ahX c m]) (IntKind.wrap .i64 (c.count + 1)) c.last) := ⟨h.name, h.out, h.inb, fun x hx => by
    rcases List.mem_append.1 hx with hx | hx
    ·exact h.wait x hx
    ·rw [List.mem_singleton] at hx; rw [hx]; exact ⟨hz, hg⟩, by show (c.waiting ++ [_]).length + c.out.Items.length ≤ 288; rw [List.length_append]; simp; omega⟩
   obtain ⟨c', L, f1, f2, k1, k2, k3, k4⟩ := ajC hc [] (by simp)
   refine ⟨c', L, 0, ?_, ?_, ⟨k1, by rw [k4.1]; exact h.l1⟩, k2, k3⟩
   ·show Option.bind (cK (client_Client.mk c.name c.state c.out c.in_ (c.waiting ++ [ahX c m]) (IntKind.wrap .i64 (c.count + 1)) c.last) []) _ = _
    rw [f1]; rfl
   ·show Option.bind (eY (stOf (client_Client.mk c.name c.state c.out c.in_ (c.waiting ++ [ahX c m]) (IntKind.wrap .i64 (c.count + 1)) c.last))) _ = _
    rw [f2]; rfl
theorem aqJ {c : client_Client} (h : LOK c) (b : Bool) (w : aT) (g : w.good) (hp : w.Message.Props.length ≤ 1000) :
  ∃ c' L e, fP c b w = some (L, e, c') ∧ nM (stOf c) b w = some (stOf c', L, e) ∧ LOK c' ∧ (∀ q ∈ L, q.good) ∧ L.length ≤ 1000 := by
 have hs : (stOf c).Phase = c.state := rfl
 unfold fP nM
 rw [wO hp, bC, hs]
 cases s0 : c.state != 0 with
 | true => exact ⟨c, [], 9, rfl, rfl, h, by simp, by simp⟩
 | false =>
  have hg : (aA.mk 1 0 false (aB.mk ([] : Str) ([] : Str) 0 false 0 0 ([] : Str) 0 ([] : List aE)) c.name ([] : Str) b 0 1099511627776 c.out.Limit (aT.mk w.Set w.Delay w.Message) false 0 ([] : List aN) ([] : List Str) ([] : List Int)).good :=
   have z : okI .i64 0 := gR (by decide) (by decide)
   ⟨gR (x := 1) (by decide) (by decide), z, gA, h.name, tZ (by simp), z, afL (x := 1099511627776) (by decide) (by decide), h.out.g.1, g, z, dE, dE, dE⟩
  have e1 := wA _ hg
  have e2 := yF _ hg
  simp only [bO]
  rw [e1]
  have e2' : dY (aA.mk 1 0 false (aB.mk ([] : Str) ([] : Str) 0 false 0 0 ([] : Str) 0 ([] : List aE)) (stOf c).Name ([] : Str) b 0 1099511627776 (stOf c).Limit w false 0 ([] : List aN) ([] : List Str) ([] : List Int)) = some _ := e2
  rw [e2']
  simp only [bC]
  cases hk : nL (aA.mk 1 0 false (aB.mk ([] : Str) ([] : Str) 0 false 0 0 ([] : Str) 0 ([] : List aE)) c.name ([] : Str) b 0 1099511627776 c.out.Limit (aT.mk w.Set w.Delay w.Message) false 0 ([] : List aN) ([] : List Str) ([] : List Int)) != 0 with
  | true => exact ⟨c, [], _, rfl, rfl, h, by simp, by simp⟩
  | false => exact ⟨qP c 1, [_], 0, rfl, rfl, ⟨h.toCOK.ws 1, h.l1⟩, by intro q hq; rw [List.mem_singleton] at hq; rw [hq]; exact hg, by simp⟩
def idP (p : aA) (x : Int) : aA := aA.mk p.Kind x p.Dup p.Message p.Client p.User p.Clean p.Keep p.Expiry p.Window p.Will p.Present p.Code p.Subs p.Filters p.Codes
theorem amm {c : client_Client} (h : LOK c) (p : aA) (g : p.good) :
  ∃ c' L e, hZ c p = some (L, e, c') ∧ kK (stOf c) p = some (stOf c', L, e) ∧ LOK c' ∧ (∀ q ∈ L, q.good) ∧ L.length ≤ 1000 := by
 have hs : (stOf c).Phase = c.state := rfl
 unfold hZ kK
 have hg : (idP p (IntKind.wrap .i64 ((Int.tmod c.last 65535) + 1))).good := ⟨g.1, aph _, g.2.2⟩
 have e1 : mC (aA.mk p.Kind (IntKind.wrap .i64 ((Int.tmod c.last 65535) + 1)) p.Dup p.Message p.Client p.User p.Clean p.Keep p.Expiry p.Window p.Will p.Present p.Code p.Subs p.Filters p.Codes) = some (nL (idP p (IntKind.wrap .i64 ((Int.tmod c.last 65535) + 1)))) := wA _ hg
 have e2 : dY (aA.mk p.Kind (IntKind.wrap .i64 ((Int.tmod (stOf c).Last 65535) + 1)) p.Dup p.Message p.Client p.User p.Clean p.Keep p.Expiry p.Window p.Will p.Present p.Code p.Subs p.Filters p.Codes) = some (nL (idP p (IntKind.wrap .i64 ((Int.tmod c.last 65535) + 1)))) := yF _ hg
 rw [e1, e2, hs]
 simp only [bC]
 cases s0 : c.state != 2 with
 | true => exact ⟨c, [], 9, rfl, rfl, h, by simp, by simp⟩
 | false =>
  simp only [bO]
  cases hk : nL (idP p (IntKind.wrap .i64 ((Int.tmod c.last 65535) + 1))) != 0 with
  | true => exact ⟨c, [], _, rfl, rfl, h, by simp, by simp⟩
  | false => exact ⟨client_Client.mk c.name c.state c.out c.in_ c.waiting c.count (IntKind.wrap .i64 ((Int.tmod c.last 65535) + 1)), [_], 0, rfl, rfl, ⟨⟨h.name, h.out, h.inb, h.wait, h.tot⟩, h.l1⟩, by intro q hq; rw [List.mem_singleton] at hq; rw [hq]; exact hg, by simp⟩
end Md
end PX
set_option linter.unusedVariables false
set_option linter.unusedSimpArgs false
namespace PX
open Go
namespace Md
theorem atz {Q R S : Type} (a : Q) (f : Q → Option S) (g : R → Option S) : ab9 (some (.inl a)) f g = f a := rfl
theorem atx {Q R S : Type} (a : R) (f : Q → Option S) (g : R → Option S) : ab9 (some (.inr a)) f g = g a := rfl
def anr (s : Str) (n : Int) : client_Client := client_Client.mk s 0 (ag7 n) (aJ.mk []) [] 0 0
theorem atM {s : Str} (h : okS s) {n : Int} (h0 : 1 ≤ n) (h1 : n ≤ 32) : LOK (anr s n) := ⟨⟨h, apb (by omega) h1, ⟨rfl, Nat.zero_le _⟩, by simp [anr], Nat.zero_le _⟩, h0⟩
theorem au6 {s : Str} (h : okS s) (n : Int) : (∃ e, e ≠ 0 ∧ qC s n = some (.inl e) ∧ jG s n = some (z51, e)) ∨ (sY s = true ∧ 1 ≤ n ∧ n ≤ 32 ∧ qC s n = some (.inr (0, anr s n)) ∧ jG s n = some (stOf (anr s n), 0)) := by
 unfold qC jG
 rw [afo s (by have : s.length ≤ _ := h; omega), yB s (by have : s.length ≤ _ := h; omega)]
 simp only [bC]
 cases hn : sY s with
 | false => exact .inl ⟨11, by decide, rfl, rfl⟩
 | true =>
  simp only [Bool.not_true, bO]
  cases h1 : decide (n < 1) with
  | true => exact .inl ⟨1, by decide, rfl, rfl⟩
  | false =>
   cases h2 : decide (n > 32) with
   | true => exact .inl ⟨1, by decide, rfl, rfl⟩
   | false =>
    have h1 : ¬ n < 1 := of_decide_eq_false h1
    have h2 : ¬ n > 32 := of_decide_eq_false h2
    obtain ⟨e1, e2⟩ := api (n := n) (by omega) (by omega)
    rw [e1, e2]
    exact .inr ⟨by trivial, by omega, by omega, rfl, rfl⟩
end Md
end PX
