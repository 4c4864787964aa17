import Derived.Test.YtojlmojebnlmdaaGreatDoorSlowB
set_option linter.unusedVariables false
set_option linter.unusedSimpArgs false
namespace PX
open Go
namespace Md
structure rK (s : aB) : Prop where
 subs : s.Subs.length ≤ 1000
 queue : s.Queue.length ≤ 1000
 qp : ∀ m ∈ s.Queue, m.Props.length ≤ 1000
 items : s.Out.Items.length ≤ 1000
 ip : ∀ f ∈ s.Out.Items, f.Message.Props.length ≤ 1000
 used : s.Out.Pool.Used.length ≤ 1000
 ids : s.In.IDs.length ≤ 1000
 will : s.Will.Message.Props.length ≤ 1000
theorem sJ {m : aA} (h : m.Props.length ≤ 1000) : iE m = some m := by
 unfold iE
 rw [amb (by omega), bD]
theorem atM (s z : aB) (h : rK s) (u : List aF) (q : List aA) : ∀ (k i fu : Nat), i + k = s.Out.Items.length → k < fu →
  jW fu s.Out.Items (s.Out.Items.length : Int) (i : Int) s.Client s.User s.Online s.Conn s.Expiry s.Until s.Dropped s.Out.Limit s.Out.Items s.Out.Pool.Used s.Out.Pool.Last s.In.IDs s.Will.Set s.Will.Delay s.Will.Message.Topic s.Will.Message.Payload s.Will.Message.Level s.Will.Message.Retain s.Will.Message.Priority s.Will.Message.Expires s.Will.Message.From s.Will.Message.Seq s.Will.Message.Props z (s.Out.Items.take i) u q = some (aB.mk s.Client s.User s.Online s.Conn s.Expiry s.Until s.Dropped u q s.Out s.In s.Will) := by
 intro k
 have h1 := h.items
 induction k with
 | zero =>
  intro i fu hi hf
  obtain ⟨fu, rfl⟩ : ∃ n, fu = n + 1 := ⟨fu - 1, by omega⟩
  rw [jW, aU (mX (by omega)), List.take_of_length_le (by omega), abB (by have := h.used; omega), bD, abB (by have := h.ids; omega), bD, sJ h.will, bD]
 | succ k ih =>
  intro i fu hi hf
  obtain ⟨fu, rfl⟩ : ∃ n, fu = n + 1 := ⟨fu - 1, by omega⟩
  have hil : i < s.Out.Items.length := by omega
  rw [jW, aO (eA hil), aO (inr hil), bV hil, sJ (h.ip _ (List.getElem_mem _)), bD, aO (by simp; omega), bN (by omega), abi]
  exact ih (i + 1) fu (by omega) (by omega)
theorem awo (s z : aB) (h : rK s) (u : List aF) : ∀ (k i fu : Nat), i + k = s.Queue.length → k < fu →
  kQ fu s.Queue (s.Queue.length : Int) (i : Int) s.Client s.User s.Online s.Conn s.Expiry s.Until s.Dropped s.Queue s.Out.Limit s.Out.Items s.Out.Pool.Used s.Out.Pool.Last s.In.IDs s.Will.Set s.Will.Delay s.Will.Message.Topic s.Will.Message.Payload s.Will.Message.Level s.Will.Message.Retain s.Will.Message.Priority s.Will.Message.Expires s.Will.Message.From s.Will.Message.Seq s.Will.Message.Props z (s.Queue.take i) u = some (aB.mk s.Client s.User s.Online s.Conn s.Expiry s.Until s.Dropped u s.Queue s.Out s.In s.Will) := by
 intro k
 have h1 := h.queue
 induction k with
 | zero =>
  intro i fu hi hf
  obtain ⟨fu, rfl⟩ : ∃ n, fu = n + 1 := ⟨fu - 1, by omega⟩
  rw [kQ, aU (mX (by omega)), List.take_of_length_le (by omega), aO (by have := h.items; simp; omega)]
  exact atM s z h u s.Queue s.Out.Items.length 0 fuel (by omega) (by have := h.items; rw [fX]; omega)
 | succ k ih =>
  intro i fu hi hf
  obtain ⟨fu, rfl⟩ : ∃ n, fu = n + 1 := ⟨fu - 1, by omega⟩
  have hil : i < s.Queue.length := by omega
  rw [kQ, aO (eA hil), aO (inr hil), bV hil, sJ (h.qp _ (List.getElem_mem _)), bD, aO (by simp; omega), bN (by omega), abi]
  exact ih (i + 1) fu (by omega) (by omega)
theorem uA (s : aB) (h : rK s) : gO s = some s := by
 unfold gO
 rw [arX (by have := h.subs; omega), bD, aO (by have := h.queue; simp; omega)]
 exact awo s _ h s.Subs s.Queue.length 0 fuel (by omega) (by have := h.queue; rw [fX]; omega)
theorem apI (s : aB) (n : Int) : iZ s n = fK s n := by
 unfold iZ fK
 by_cases h : 1099511627776 < IntKind.wrap .i64 (s.Dropped + n)
 ·rw [if_pos h, aO (by simpa using h)]
 ·rw [if_neg h, aU (by simpa using h)]
def nV (s : aB) (n : Int) : aB := aB.mk s.Client s.User s.Online s.Conn s.Expiry s.Until (if 1099511627776 < IntKind.wrap .i64 (s.Dropped + n) then 1099511627776 else IntKind.wrap .i64 (s.Dropped + n)) s.Subs s.Queue s.Out s.In s.Will
theorem drop_eq (s : aB) (n : Int) : iZ s n = some (nV s n) := rfl
theorem aen (s : aB) (n : Int) : fK s n = some (nV s n) := by rw [← apI]; rfl
def lv (m : aA) : Bool := m.Level != 0
theorem aoz (m : aA) : mJ m = some (!lv m) := by
 unfold mJ lv
 cases h : m.Level == 0 <;> simp [bne, h]
theorem asK (l : List aA) (hl : l.length ≤ 1000) : ∀ (k j fu i : Nat) (w : List aA), j + k = l.length → k < fu → i ≤ j → w.length = l.length → w.take i = (l.take j).filter lv → w.drop j = l.drop j →
  cC fu (i : Int) (j : Int) w = some (l.filter lv) := by
 intro k
 induction k with
 | zero =>
  intro j fu i w hj hf hij hw ht hd
  obtain ⟨fu, rfl⟩ : ∃ n, fu = n + 1 := ⟨fu - 1, by omega⟩
  have hjl : j = l.length := by omega
  rw [cC, aU (mX (by omega)), aO (by simp; omega), aO (by simp; omega)]
  congr 1
  have e : Int.toNat (i : Int) = i := by simp
  rw [e, List.append_assoc, List.take_append_of_le_length (by simp; omega), List.take_take, Nat.min_self, ht, hjl, List.take_length]
 | succ k ih =>
  intro j fu i w hj hf hij hw ht hd
  obtain ⟨fu, rfl⟩ : ∃ n, fu = n + 1 := ⟨fu - 1, by omega⟩
  have hjw : j < w.length := by omega
  have hjl : j < l.length := by omega
  have hx : w[j] = l[j] := by
   have h1 := List.drop_eq_getElem_cons hjw
   have h2 := List.drop_eq_getElem_cons hjl
   rw [hd, h2] at h1
   exact (List.cons.inj h1).1.symm
  have hd' : w.drop (j + 1) = l.drop (j + 1) := by
   have h1 := List.drop_eq_getElem_cons hjw
   have h2 := List.drop_eq_getElem_cons hjl
   rw [hd, h2] at h1
   exact (List.cons.inj h1).2.symm
  rw [cC, aO (eA hjw), aO (inr hjw), bV hjw, aoz, bD, hx]
  have hfl : (l.take (j + 1)).filter lv = (l.take j).filter lv ++ [l[j]].filter lv := by rw [List.take_succ_eq_append_getElem hjl, List.filter_append]
  cases hv : lv l[j] with
  | true =>
   have e : Int.toNat (i : Int) = i := by simp
   rw [aO (by rfl), aO (by simp; omega), bN (by omega), bN (by omega), e]
   refine ih (j + 1) fu (i + 1) _ (by omega) (by omega) (by omega) (by simpa using hw) ?_ ?_
   ·rw [hfl, ← ht]
    have hi : i < (w.set i l[j]).length := by simp; omega
    rw [List.take_succ_eq_append_getElem hi, List.take_set_of_le (Nat.le_refl _)]
    simp [hv]
   ·rw [List.drop_set_of_lt (by omega)]; exact hd'
  | false =>
   rw [aU (by rfl), bN (by omega)]
   refine ih (j + 1) fu i w (by omega) (by omega) (by omega) hw ?_ hd'
   rw [hfl, ht]; simp [hv]
theorem arC (l : List aA) (hl : l.length ≤ 1000) : ∃ r, dE l = some r ∧ ((r = -1 ∧ l.filter lv = l) ∨ ∃ i : Nat, r = i ∧ i < l.length ∧ (l.take i).filter lv = l.take i ∧ (∀ h : i < l.length, lv l[i] = false)) := by
 unfold dE
 have key : ∀ (k i fu : Nat), i + k = l.length → k < fu → (l.take i).filter lv = l.take i → ∃ r, cH fu l (l.length : Int) (i : Int) = some r ∧ ((r = -1 ∧ l.filter lv = l) ∨ ∃ i : Nat, r = i ∧ i < l.length ∧ (l.take i).filter lv = l.take i ∧ (∀ h : i < l.length, lv l[i] = false)) := by
  intro k
  induction k with
  | zero =>
   intro i fu hi hf ht
   obtain ⟨fu, rfl⟩ : ∃ n, fu = n + 1 := ⟨fu - 1, by omega⟩
   rw [cH, aU (mX (by omega))]
   refine ⟨-1, rfl, .inl ⟨rfl, ?_⟩⟩
   rwa [List.take_of_length_le (by omega)] at ht
  | succ k ih =>
   intro i fu hi hf ht
   obtain ⟨fu, rfl⟩ : ∃ n, fu = n + 1 := ⟨fu - 1, by omega⟩
   have hil : i < l.length := by omega
   rw [cH, aO (eA hil), aO (inr hil), bV hil, aoz, bD]
   cases hv : lv l[i] with
   | false => exact ⟨i, by rw [aO (by rfl)], .inr ⟨i, rfl, hil, ht, fun _ => hv⟩⟩
   | true =>
    rw [aU (by rfl), bN (by omega)]
    refine ih (i + 1) fu (by omega) (by omega) ?_
    rw [List.take_succ_eq_append_getElem hil, List.filter_append, ht]; simp [hv]
 exact key l.length 0 fuel (by omega) (by rw [fX]; omega) (by simp)
theorem awj (l : List aA) (hl : l.length ≤ 1000) : dC l = some (l.filter lv) := by
 unfold dC
 obtain ⟨r, h1, h2⟩ := arC l hl
 rw [h1, bD]
 rcases h2 with ⟨rfl, h2⟩ | ⟨i, rfl, h2, h3, h4⟩
 ·rw [aO (by rfl), h2]
 ·rw [aU (by simp <;> omega), bN (by omega)]
  refine asK l hl (l.length - (i + 1)) (i + 1) fuel i l (by omega) (by rw [fX]; omega) (by omega) rfl ?_ rfl
  rw [List.take_succ_eq_append_getElem h2, List.filter_append, h3]; simp [h4 h2]
def acb (s : aB) (now : Int) : aB :=
 nV (aB.mk s.Client s.User false 0 s.Expiry (if 1099511627776 < IntKind.wrap .i64 (now + s.Expiry) then 1099511627776 else IntKind.wrap .i64 (now + s.Expiry)) s.Dropped s.Subs (s.Queue.filter lv) s.Out s.In s.Will) (IntKind.wrap .i64 ((s.Queue.length : Int) - ((s.Queue.filter lv).length : Int)))
theorem aj1 (s : aB) (h : rK s) (now : Int) : j5 s now = some (acb s now) := by
 unfold j5 acb
 rw [uA s h, bD, awj _ h.queue, bD, drop_eq, bD]
theorem afD {α : Type} {f : α → Int} : ∀ {l : List α}, eB f l = 0 → ∀ x ∈ l, f x = 0
 | [], _, _, h => by simp at h
 | y :: r, h, x, hx => by
  rw [eB] at h
  by_cases e : f y = 0
  ·rw [aO (by simpa using e)] at h
   rcases List.mem_cons.1 hx with rfl | hx
   ·exact e
   ·exact afD h x hx
  ·rw [aU (by simpa using e)] at h; exact absurd h e
theorem cz1 {b : Bool} {x y : Int} (h : cond b x y = 0) (hy : y ≠ 0) : x = 0 := by cases b with | true => exact h | false => exact absurd h hy
theorem cz2 {b : Bool} {x y : Int} (h : cond b x y = 0) (hx : x ≠ 0) : y = 0 := by cases b with | true => exact absurd h hx | false => exact h
theorem cz3 {b : Bool} {x y : Int} {P : Prop} (h : cond b x y = 0) (h1 : x = 0 → P) (h2 : y = 0 → P) : P := by cases b with | true => exact h1 h | false => exact h2 h
theorem l5 {m : aA} (h : gT m = 0) : m.Props.length ≤ 8 := by
 have key : abt m.Props = 0 → m.Props.length ≤ 8 := fun h => by
  unfold abt at h
  by_cases c : 8 < m.Props.length
  ·rw [aO (by simpa using c)] at h; cases h
  ·omega
 unfold gT at h
 have h := cz2 (cz1 h (by decide)) (by decide)
 have h := cz1 (cz1 (cz1 h (by decide)) (by decide)) (by decide)
 exact cz3 h (fun h => key (cz1 h (by decide))) (fun h => key (cz1 (cz1 h (by decide)) (by decide)))
theorem aek {x : aD} (h : flightE x = 0) : gT x.Message = 0 := by
 unfold flightE at h
 by_cases e : gT x.Message = 0
 ·exact e
 ·rw [aU (by simpa using e)] at h; exact h
theorem akL {used : List Int} : ∀ {l seen : List aD}, qZ used seen l = 0 → ∀ x ∈ l, flightE x = 0
 | [], _, _, _, h => by simp at h
 | y :: r, seen, h, x, hx => by
  rw [qZ] at h
  by_cases e : vY used seen y = 0
  ·rw [aO (by simpa using e)] at h
   rcases List.mem_cons.1 hx with rfl | hx
   ·unfold vY at e
    cases hu : used.contains x.ID <;> rw [hu] at e <;> simp only [cA, cS] at e
    ·cases e
    ·cases hs : (seen.any fun y => y.ID == x.ID) <;> rw [hs] at e <;> simp only [cA, cS] at e
     ·exact e
     ·cases e
   ·exact akL h x hx
  ·rw [aU (by simpa using e)] at h; exact absurd h e
theorem api {w : aI} (h : aaL w = 0) : poolE w.Pool = 0 ∧ w.Items.length ≤ 32 ∧ qZ w.Pool.Used [] w.Items = 0 := by
 unfold aaL at h
 cases h1 : decide (w.Limit < 0) <;> rw [h1] at h <;> simp only [cA, cS] at h <;> try (cases h; done)
 cases h2 : decide (w.Limit > 32) <;> rw [h2] at h <;> simp only [cA, cS] at h <;> try (cases h; done)
 by_cases e : poolE w.Pool = 0
 ·rw [aO (by simpa using e)] at h
  by_cases c : (w.Items.length : Int) > 32
  ·rw [aO (by simpa using c)] at h; cases h
  ·rw [aU (by simpa using c)] at h
   by_cases d : qZ w.Pool.Used [] w.Items = 0
   ·exact ⟨e, by omega, d⟩
   ·rw [aU (by simpa using d)] at h; exact absurd h d
 ·rw [aU (by simpa using e)] at h; exact absurd h e
theorem adL {w : aT} (h : willE w = 0) : w.Message.Props.length ≤ 8 := by
 unfold willE at h
 cases h0 : w.Set <;> rw [h0] at h <;> simp only [cA, cS] at h
 ·cases h1 : (w.Delay == 0) <;> rw [h1] at h <;> simp only [cA, cS] at h <;> try (cases h; done)
  by_cases e : w.Message = aiu
  ·rw [e]; decide
  ·rw [decide_eq_false e] at h; cases h
 ·cases h1 : dF 0 1099511627776 w.Delay <;> rw [h1] at h <;> simp only [cA, cS] at h <;> try (cases h; done)
  exact l5 h
theorem ad6 {s : aB} (h : tI s = 0) : headE s = 0 ∧ subsE s.Subs = 0 ∧ wQ s.Queue = 0 ∧ aaL s.Out = 0 ∧ checkI s.In.IDs = 0 ∧ willE s.Will = 0 := by
 have := afD (f := id) h
 exact ⟨this _ (.head _), this _ (.tail _ (.head _)), this _ (.tail _ (.tail _ (.head _))), this _ (.tail _ (.tail _ (.tail _ (.head _)))), this _ (.tail _ (.tail _ (.tail _ (.tail _ (.head _))))), this _ (.tail _ (.tail _ (.tail _ (.tail _ (.tail _ (.head _))))))⟩
theorem af1 {l : List aA} (h : wQ l = 0) : l.length ≤ 256 ∧ ∀ m ∈ l, gT m = 0 := by
 unfold wQ at h
 by_cases c : (l.length : Int) > 256
 ·rw [aO (by simpa using c)] at h; cases h
 ·rw [aU (by simpa using c)] at h; exact ⟨by omega, afD h⟩
theorem asm {l : List aF} (h : subsE l = 0) : l.length ≤ 32 ∧ ab9 none l = 0 := by
 unfold subsE at h
 by_cases c : (l.length : Int) > 32
 ·rw [aO (by simpa using c)] at h; cases h
 ·rw [aU (by simpa using c)] at h; exact ⟨by omega, h⟩
theorem anm {s : aB} (h : tI s = 0) : rK s := by
 obtain ⟨_, h1, h2, h3, h4, h5⟩ := ad6 h
 obtain ⟨a1, a2⟩ := af1 h2
 obtain ⟨b1, b2, b3⟩ := api h3
 have b4 := w9 b1
 have c1 := apw h4
 refine ⟨by have := (asm h1).1; omega, by omega, fun m hm => by have := l5 (a2 m hm); omega, by omega, fun f hf => by have := l5 (aek (akL b3 f hf)); omega, by omega, by omega, by have := adL h5; omega⟩
end Md
end PX
