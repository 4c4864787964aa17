import Derived.Test.YtahbfpamckocmaaGreatDoorSlowB
set_option linter.unusedVariables false
set_option linter.unusedSimpArgs false
namespace PX
open Go
namespace Md
structure rH (s : aC) : Prop where
 subs : s.Subs.length ≤ 1000
 queue : s.Queue.length ≤ 1000
 qp : ∀ m ∈ s.Queue, m.Props.length ≤ 1000
 items : s.Out.Items.length ≤ 1000
 ip : ∀ f ∈ s.Out.Items, f.Message.Props.length ≤ 1000
 used : s.Out.Pool.Used.length ≤ 1000
 ids : s.In.IDs.length ≤ 1000
 will : s.Will.Message.Props.length ≤ 1000
theorem tR {m : aA} (h : m.Props.length ≤ 1000) : hY m = some m := by
 unfold hY
 rw [aiP (by omega), aU]
theorem apT (s z : aC) (h : rH s) (u : List aG) (q : List aA) : ∀ (k i fu : Nat), i + k = s.Out.Items.length → k < fu →
  jL fu s.Out.Items (s.Out.Items.length : Int) (i : Int) s.Client s.User s.Online s.Conn s.Expiry s.Until s.Dropped s.Out.Limit s.Out.Items s.Out.Pool.Used s.Out.Pool.Last s.In.IDs s.Will.Set s.Will.Delay s.Will.Message.Topic s.Will.Message.Payload s.Will.Message.Level s.Will.Message.Retain s.Will.Message.Priority s.Will.Message.Expires s.Will.Message.From s.Will.Message.Seq s.Will.Message.Props z (s.Out.Items.take i) u q = some (aC.mk s.Client s.User s.Online s.Conn s.Expiry s.Until s.Dropped u q s.Out s.In s.Will) := by
 intro k
 have h1 := h.items
 induction k with
 | zero =>
  intro i fu hi hf
  obtain ⟨fu, rfl⟩ : ∃ n, fu = n + 1 := ⟨fu - 1, by omega⟩
  rw [jL, aN (zG (by omega)), List.take_of_length_le (by omega), zC (by have := h.used; omega), aU, zC (by have := h.ids; omega), aU, tR h.will, aU]
 | succ k ih =>
  intro i fu hi hf
  obtain ⟨fu, rfl⟩ : ∃ n, fu = n + 1 := ⟨fu - 1, by omega⟩
  have hil : i < s.Out.Items.length := by omega
  rw [jL, aM (lL hil), aM (inr hil), dV hil, tR (h.ip _ (List.getElem_mem _)), aU, aM (by simp; omega), cG (by omega), zA]
  exact ih (i + 1) fu (by omega) (by omega)
theorem aro (s z : aC) (h : rH s) (u : List aG) : ∀ (k i fu : Nat), i + k = s.Queue.length → k < fu →
  j0 fu s.Queue (s.Queue.length : Int) (i : Int) s.Client s.User s.Online s.Conn s.Expiry s.Until s.Dropped s.Queue s.Out.Limit s.Out.Items s.Out.Pool.Used s.Out.Pool.Last s.In.IDs s.Will.Set s.Will.Delay s.Will.Message.Topic s.Will.Message.Payload s.Will.Message.Level s.Will.Message.Retain s.Will.Message.Priority s.Will.Message.Expires s.Will.Message.From s.Will.Message.Seq s.Will.Message.Props z (s.Queue.take i) u = some (aC.mk s.Client s.User s.Online s.Conn s.Expiry s.Until s.Dropped u s.Queue s.Out s.In s.Will) := by
 intro k
 have h1 := h.queue
 induction k with
 | zero =>
  intro i fu hi hf
  obtain ⟨fu, rfl⟩ : ∃ n, fu = n + 1 := ⟨fu - 1, by omega⟩
  rw [j0, aN (zG (by omega)), List.take_of_length_le (by omega), aM (by have := h.items; simp; omega)]
  exact apT s z h u s.Queue s.Out.Items.length 0 fuel (by omega) (by have := h.items; rw [fU]; omega)
 | succ k ih =>
  intro i fu hi hf
  obtain ⟨fu, rfl⟩ : ∃ n, fu = n + 1 := ⟨fu - 1, by omega⟩
  have hil : i < s.Queue.length := by omega
  rw [j0, aM (lL hil), aM (inr hil), dV hil, tR (h.qp _ (List.getElem_mem _)), aU, aM (by simp; omega), cG (by omega), zA]
  exact ih (i + 1) fu (by omega) (by omega)
theorem qM (s : aC) (h : rH s) : jA s = some s := by
 unfold jA
 rw [aoH (by have := h.subs; omega), aU, aM (by have := h.queue; simp; omega)]
 exact aro s _ h s.Subs s.Queue.length 0 fuel (by omega) (by have := h.queue; rw [fU]; omega)
def pY (s : aC) (n : Int) : aC := aC.mk s.Client s.User s.Online s.Conn s.Expiry s.Until (if 1099511627776 < IntKind.wrap .i64 (s.Dropped + n) then 1099511627776 else IntKind.wrap .i64 (s.Dropped + n)) s.Subs s.Queue s.Out s.In s.Will
theorem drop_eq (s : aC) (n : Int) : kU s n = some (pY s n) := rfl
def lv (m : aA) : Bool := m.Level != 0
theorem akg (m : aA) : lA m = some (!lv m) := by
 unfold lA lv
 cases h : m.Level == 0 <;> simp [bne, h]
theorem anK (l : List aA) (hl : l.length ≤ 1000) : ∀ (k j fu i : Nat) (w : List aA), j + k = l.length → k < fu → i ≤ j → w.length = l.length → w.take i = (l.take j).filter lv → w.drop j = l.drop j →
  bV fu (i : Int) (j : Int) w = some (l.filter lv) := by
 intro k
 induction k with
 | zero =>
  intro j fu i w hj hf hij hw ht hd
  obtain ⟨fu, rfl⟩ : ∃ n, fu = n + 1 := ⟨fu - 1, by omega⟩
  have hjl : j = l.length := by omega
  rw [bV, aN (zG (by omega)), aM (by simp; omega), aM (by simp; omega)]
  congr 1
  have e : Int.toNat (i : Int) = i := by simp
  rw [e, List.append_assoc, List.take_append_of_le_length (by simp; omega), List.take_take, Nat.min_self, ht, hjl, List.take_length]
 | succ k ih =>
  intro j fu i w hj hf hij hw ht hd
  obtain ⟨fu, rfl⟩ : ∃ n, fu = n + 1 := ⟨fu - 1, by omega⟩
  have hjw : j < w.length := by omega
  have hjl : j < l.length := by omega
  have hx : w[j] = l[j] := by
   have h1 := List.drop_eq_getElem_cons hjw
   have h2 := List.drop_eq_getElem_cons hjl
   rw [hd, h2] at h1
   exact (List.cons.inj h1).1.symm
  have hd' : w.drop (j + 1) = l.drop (j + 1) := by
   have h1 := List.drop_eq_getElem_cons hjw
   have h2 := List.drop_eq_getElem_cons hjl
   rw [hd, h2] at h1
   exact (List.cons.inj h1).2.symm
  rw [bV, aM (lL hjw), aM (inr hjw), dV hjw, akg, aU, hx]
  have hfl : (l.take (j + 1)).filter lv = (l.take j).filter lv ++ [l[j]].filter lv := by rw [List.take_succ_eq_append_getElem hjl, List.filter_append]
  cases hv : lv l[j] with
  | true =>
   have e : Int.toNat (i : Int) = i := by simp
   rw [aM (by rfl), aM (by simp; omega), cG (by omega), cG (by omega), e]
   refine ih (j + 1) fu (i + 1) _ (by omega) (by omega) (by omega) (by simpa using hw) ?_ ?_
   ·rw [hfl, ← ht]
    have hi : i < (w.set i l[j]).length := by simp; omega
    rw [List.take_succ_eq_append_getElem hi, List.take_set_of_le (Nat.le_refl _)]
    simp [hv]
   ·rw [List.drop_set_of_lt (by omega)]; exact hd'
  | false =>
   rw [aN (by rfl), cG (by omega)]
   refine ih (j + 1) fu i w (by omega) (by omega) (by omega) hw ?_ hd'
   rw [hfl, ht]; simp [hv]
theorem amy (l : List aA) (hl : l.length ≤ 1000) : ∃ r, dM l = some r ∧ ((r = -1 ∧ l.filter lv = l) ∨ ∃ i : Nat, r = i ∧ i < l.length ∧ (l.take i).filter lv = l.take i ∧ (∀ h : i < l.length, lv l[i] = false)) := by
 unfold dM
 have key : ∀ (k i fu : Nat), i + k = l.length → k < fu → (l.take i).filter lv = l.take i → ∃ r, cD fu l (l.length : Int) (i : Int) = some r ∧ ((r = -1 ∧ l.filter lv = l) ∨ ∃ i : Nat, r = i ∧ i < l.length ∧ (l.take i).filter lv = l.take i ∧ (∀ h : i < l.length, lv l[i] = false)) := by
  intro k
  induction k with
  | zero =>
   intro i fu hi hf ht
   obtain ⟨fu, rfl⟩ : ∃ n, fu = n + 1 := ⟨fu - 1, by omega⟩
   rw [cD, aN (zG (by omega))]
   refine ⟨-1, rfl, .inl ⟨rfl, ?_⟩⟩
   rwa [List.take_of_length_le (by omega)] at ht
  | succ k ih =>
   intro i fu hi hf ht
   obtain ⟨fu, rfl⟩ : ∃ n, fu = n + 1 := ⟨fu - 1, by omega⟩
   have hil : i < l.length := by omega
   rw [cD, aM (lL hil), aM (inr hil), dV hil, akg, aU]
   cases hv : lv l[i] with
   | false => exact ⟨i, by rw [aM (by rfl)], .inr ⟨i, rfl, hil, ht, fun _ => hv⟩⟩
   | true =>
    rw [aN (by rfl), cG (by omega)]
    refine ih (i + 1) fu (by omega) (by omega) ?_
    rw [List.take_succ_eq_append_getElem hil, List.filter_append, ht]; simp [hv]
 exact key l.length 0 fuel (by omega) (by rw [fU]; omega) (by simp)
theorem arL (l : List aA) (hl : l.length ≤ 1000) : dJ l = some (l.filter lv) := by
 unfold dJ
 obtain ⟨r, h1, h2⟩ := amy l hl
 rw [h1, aU]
 rcases h2 with ⟨rfl, h2⟩ | ⟨i, rfl, h2, h3, h4⟩
 ·rw [aM (by rfl), h2]
 ·rw [aN (by simp <;> omega), cG (by omega)]
  refine anK l hl (l.length - (i + 1)) (i + 1) fuel i l (by omega) (by rw [fU]; omega) (by omega) rfl ?_ rfl
  rw [List.take_succ_eq_append_getElem h2, List.filter_append, h3]; simp [h4 h2]
def fV (s : aC) (now : Int) : aC :=
 pY (aC.mk s.Client s.User false 0 s.Expiry (if 1099511627776 < IntKind.wrap .i64 (now + s.Expiry) then 1099511627776 else IntKind.wrap .i64 (now + s.Expiry)) s.Dropped s.Subs (s.Queue.filter lv) s.Out s.In s.Will) (IntKind.wrap .i64 ((s.Queue.length : Int) - ((s.Queue.filter lv).length : Int)))
theorem am9 (s : aC) (h : rH s) (now : Int) : m7 s now = some (fV s now) := by
 unfold m7 fV
 rw [qM s h, aU, arL _ h.queue, aU, drop_eq, aU]
theorem ac4 {α : Type} {f : α → Int} : ∀ {l : List α}, oC f l = 0 → ∀ x ∈ l, f x = 0
 | [], _, _, h => by simp at h
 | y :: r, h, x, hx => by
  rw [oC] at h
  by_cases e : f y = 0
  ·rw [aM (by simpa using e)] at h
   rcases List.mem_cons.1 hx with rfl | hx
   ·exact e
   ·exact ac4 h x hx
  ·rw [aN (by simpa using e)] at h; exact absurd h e
theorem cz1 {b : Bool} {x y : Int} (h : cond b x y = 0) (hy : y ≠ 0) : x = 0 := by cases b with | true => exact h | false => exact absurd h hy
theorem cz2 {b : Bool} {x y : Int} (h : cond b x y = 0) (hx : x ≠ 0) : y = 0 := by cases b with | true => exact absurd h hx | false => exact h
theorem cz3 {b : Bool} {x y : Int} {P : Prop} (h : cond b x y = 0) (h1 : x = 0 → P) (h2 : y = 0 → P) : P := by cases b with | true => exact h1 h | false => exact h2 h
theorem mM {m : aA} (h : checkM m = 0) : m.Props.length ≤ 8 := by
 have key : uO m.Props = 0 → m.Props.length ≤ 8 := fun h => by
  unfold uO at h
  by_cases c : 8 < m.Props.length
  ·rw [aM (by simpa using c)] at h; cases h
  ·omega
 unfold checkM at h
 have h := cz2 (cz1 h (by decide)) (by decide)
 have h := cz1 (cz1 (cz1 h (by decide)) (by decide)) (by decide)
 exact cz3 h (fun h => key (cz1 h (by decide))) (fun h => key (cz1 (cz1 h (by decide)) (by decide)))
theorem uJ {x : aB} (h : flightE x = 0) : checkM x.Message = 0 := by
 unfold flightE at h
 by_cases e : checkM x.Message = 0
 ·exact e
 ·rw [aN (by simpa using e)] at h; exact h
theorem zU {used : List Int} : ∀ {l seen : List aB}, oV used seen l = 0 → ∀ x ∈ l, flightE x = 0
 | [], _, _, _, h => by simp at h
 | y :: r, seen, h, x, hx => by
  rw [oV] at h
  by_cases e : uV used seen y = 0
  ·rw [aM (by simpa using e)] at h
   rcases List.mem_cons.1 hx with rfl | hx
   ·unfold uV at e
    cases hu : used.contains x.ID <;> rw [hu] at e <;> simp only [cS, dL] at e
    ·cases e
    ·cases hs : (seen.any fun y => y.ID == x.ID) <;> rw [hs] at e <;> simp only [cS, dL] at e
     ·exact e
     ·cases e
   ·exact zU h x hx
  ·rw [aN (by simpa using e)] at h; exact absurd h e
theorem acS {w : aH} (h : aaB w = 0) : poolE w.Pool = 0 ∧ w.Items.length ≤ 32 ∧ oV w.Pool.Used [] w.Items = 0 := by
 unfold aaB at h
 cases h1 : decide (w.Limit < 0) <;> rw [h1] at h <;> simp only [cS, dL] at h <;> try (cases h; done)
 cases h2 : decide (w.Limit > 32) <;> rw [h2] at h <;> simp only [cS, dL] at h <;> try (cases h; done)
 by_cases e : poolE w.Pool = 0
 ·rw [aM (by simpa using e)] at h
  by_cases c : (w.Items.length : Int) > 32
  ·rw [aM (by simpa using c)] at h; cases h
  ·rw [aN (by simpa using c)] at h
   by_cases d : oV w.Pool.Used [] w.Items = 0
   ·exact ⟨e, by omega, d⟩
   ·rw [aN (by simpa using d)] at h; exact absurd h d
 ·rw [aN (by simpa using e)] at h; exact absurd h e
theorem aeg {w : aV} (h : willE w = 0) : w.Message.Props.length ≤ 8 := by
 unfold willE at h
 cases h0 : w.Set <;> rw [h0] at h <;> simp only [cS, dL] at h
 ·cases h1 : (w.Delay == 0) <;> rw [h1] at h <;> simp only [cS, dL] at h <;> try (cases h; done)
  by_cases e : w.Message = lP
  ·rw [e]; decide
  ·rw [decide_eq_false e] at h; cases h
 ·cases h1 : eL 0 1099511627776 w.Delay <;> rw [h1] at h <;> simp only [cS, dL] at h <;> try (cases h; done)
  exact mM h
theorem yG {s : aC} (h : jG s = 0) : headE s = 0 ∧ subsE s.Subs = 0 ∧ wP s.Queue = 0 ∧ aaB s.Out = 0 ∧ checkI s.In.IDs = 0 ∧ willE s.Will = 0 := by
 have := ac4 (f := id) h
 exact ⟨this _ (.head _), this _ (.tail _ (.head _)), this _ (.tail _ (.tail _ (.head _))), this _ (.tail _ (.tail _ (.tail _ (.head _)))), this _ (.tail _ (.tail _ (.tail _ (.tail _ (.head _))))), this _ (.tail _ (.tail _ (.tail _ (.tail _ (.tail _ (.head _))))))⟩
theorem aaa {l : List aA} (h : wP l = 0) : l.length ≤ 256 ∧ ∀ m ∈ l, checkM m = 0 := by
 unfold wP at h
 by_cases c : (l.length : Int) > 256
 ·rw [aM (by simpa using c)] at h; cases h
 ·rw [aN (by simpa using c)] at h; exact ⟨by omega, ac4 h⟩
theorem ae8 {l : List aG} (h : subsE l = 0) : l.length ≤ 32 ∧ pX none l = 0 := by
 unfold subsE at h
 by_cases c : (l.length : Int) > 32
 ·rw [aM (by simpa using c)] at h; cases h
 ·rw [aN (by simpa using c)] at h; exact ⟨by omega, h⟩
theorem aqh {s : aC} (h : jG s = 0) : rH s := by
 obtain ⟨_, h1, h2, h3, h4, h5⟩ := yG h
 obtain ⟨a1, a2⟩ := aaa h2
 obtain ⟨b1, b2, b3⟩ := acS h3
 have b4 := pL b1
 have c1 := abU h4
 refine ⟨by have := (ae8 h1).1; omega, by omega, fun m hm => by have := mM (a2 m hm); omega, by omega, fun f hf => by have := mM (uJ (zU b3 f hf)); omega, by omega, by omega, by have := aeg h5; omega⟩
end Md
end PX
