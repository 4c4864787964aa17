import Derived.Test.YtojlmojebnlmdaaGreatDoorSlowB
set_option linter.unusedVariables false
set_option linter.unusedSimpArgs false
namespace PX
open Go
namespace Md
structure afI (s : aC) : Prop where
 subs : s.Subs.length ≤ 1000
 queue : s.Queue.length ≤ 1000
 qp : ∀ m ∈ s.Queue, m.Props.length ≤ 1000
 items : s.Out.Items.length ≤ 1000
 ip : ∀ f ∈ s.Out.Items, f.Message.Props.length ≤ 1000
 used : s.Out.Pool.Used.length ≤ 1000
 ids : s.In.IDs.length ≤ 1000
 will : s.Will.Message.Props.length ≤ 1000
theorem abr {m : aA} (h : m.Props.length ≤ 1000) : fS m = some m := by
 unfold fS
 rw [ali (by omega), cL]
theorem amE (s z : aC) (h : afI s) (u : List aF) (q : List aA) : ∀ (k i fu : Nat), i + k = s.Out.Items.length → k < fu →
  iC fu s.Out.Items (s.Out.Items.length : Int) (i : Int) s.Client s.User s.Online s.Conn s.Expiry s.Until s.Dropped s.Out.Limit s.Out.Items s.Out.Pool.Used s.Out.Pool.Last s.In.IDs s.Will.Set s.Will.Delay s.Will.Message.Topic s.Will.Message.Payload s.Will.Message.Level s.Will.Message.Retain s.Will.Message.Priority s.Will.Message.Expires s.Will.Message.From s.Will.Message.Seq s.Will.Message.Props z (s.Out.Items.take i) u q = some (aC.mk s.Client s.User s.Online s.Conn s.Expiry s.Until s.Dropped u q s.Out s.In s.Will) := by
 intro k
 have h1 := h.items
 induction k with
 | zero =>
  intro i fu hi hf
  obtain ⟨fu, rfl⟩ : ∃ n, fu = n + 1 := ⟨fu - 1, by omega⟩
  rw [iC, bE (v8 (by omega)), List.take_of_length_le (by omega), agR (by have := h.used; omega), cL, agR (by have := h.ids; omega), cL, abr h.will, cL]
 | succ k ih =>
  intro i fu hi hf
  obtain ⟨fu, rfl⟩ : ∃ n, fu = n + 1 := ⟨fu - 1, by omega⟩
  have hil : i < s.Out.Items.length := by omega
  rw [iC, aT (n4 hil), aT (inr hil), fA hil, abr (h.ip _ (List.getElem_mem _)), cL, aT (by simp; omega), dC (by omega), ac1]
  exact ih (i + 1) fu (by omega) (by omega)
theorem anO (s z : aC) (h : afI s) (u : List aF) : ∀ (k i fu : Nat), i + k = s.Queue.length → k < fu →
  iV fu s.Queue (s.Queue.length : Int) (i : Int) s.Client s.User s.Online s.Conn s.Expiry s.Until s.Dropped s.Queue s.Out.Limit s.Out.Items s.Out.Pool.Used s.Out.Pool.Last s.In.IDs s.Will.Set s.Will.Delay s.Will.Message.Topic s.Will.Message.Payload s.Will.Message.Level s.Will.Message.Retain s.Will.Message.Priority s.Will.Message.Expires s.Will.Message.From s.Will.Message.Seq s.Will.Message.Props z (s.Queue.take i) u = some (aC.mk s.Client s.User s.Online s.Conn s.Expiry s.Until s.Dropped u s.Queue s.Out s.In s.Will) := by
 intro k
 have h1 := h.queue
 induction k with
 | zero =>
  intro i fu hi hf
  obtain ⟨fu, rfl⟩ : ∃ n, fu = n + 1 := ⟨fu - 1, by omega⟩
  rw [iV, bE (v8 (by omega)), List.take_of_length_le (by omega), aT (by have := h.items; simp; omega)]
  exact amE s z h u s.Queue s.Out.Items.length 0 fuel (by omega) (by have := h.items; rw [o8]; omega)
 | succ k ih =>
  intro i fu hi hf
  obtain ⟨fu, rfl⟩ : ∃ n, fu = n + 1 := ⟨fu - 1, by omega⟩
  have hil : i < s.Queue.length := by omega
  rw [iV, aT (n4 hil), aT (inr hil), fA hil, abr (h.qp _ (List.getElem_mem _)), cL, aT (by simp; omega), dC (by omega), ac1]
  exact ih (i + 1) fu (by omega) (by omega)
theorem alq (s : aC) (h : afI s) : fP s = some s := by
 unfold fP
 rw [ale (by have := h.subs; omega), cL, aT (by have := h.queue; simp; omega)]
 exact anO s _ h s.Subs s.Queue.length 0 fuel (by omega) (by have := h.queue; rw [o8]; omega)
def ajE (s : aC) (n : Int) : aC := aC.mk s.Client s.User s.Online s.Conn s.Expiry s.Until (if 1099511627776 < IntKind.wrap .i64 (s.Dropped + n) then 1099511627776 else IntKind.wrap .i64 (s.Dropped + n)) s.Subs s.Queue s.Out s.In s.Will
theorem drop_eq (s : aC) (n : Int) : jO s n = some (ajE s n) := rfl
def lv (m : aA) : Bool := m.Level != 0
theorem aih (m : aA) : jU m = some (!lv m) := by
 unfold jU lv
 cases h : m.Level == 0 <;> simp [bne, h]
theorem akE (l : List aA) (hl : l.length ≤ 1000) : ∀ (k j fu i : Nat) (w : List aA), j + k = l.length → k < fu → i ≤ j → w.length = l.length → w.take i = (l.take j).filter lv → w.drop j = l.drop j →
  bI fu (i : Int) (j : Int) w = some (l.filter lv) := by
 intro k
 induction k with
 | zero =>
  intro j fu i w hj hf hij hw ht hd
  obtain ⟨fu, rfl⟩ : ∃ n, fu = n + 1 := ⟨fu - 1, by omega⟩
  have hjl : j = l.length := by omega
  rw [bI, bE (v8 (by omega)), aT (by simp; omega), aT (by simp; omega)]
  congr 1
  have e : Int.toNat (i : Int) = i := by simp
  rw [e, List.append_assoc, List.take_append_of_le_length (by simp; omega), List.take_take, Nat.min_self, ht, hjl, List.take_length]
 | succ k ih =>
  intro j fu i w hj hf hij hw ht hd
  obtain ⟨fu, rfl⟩ : ∃ n, fu = n + 1 := ⟨fu - 1, by omega⟩
  have hjw : j < w.length := by omega
  have hjl : j < l.length := by omega
  have hx : w[j] = l[j] := by
   have h1 := List.drop_eq_getElem_cons hjw
   have h2 := List.drop_eq_getElem_cons hjl
   rw [hd, h2] at h1
   exact (List.cons.inj h1).1.symm
  have hd' : w.drop (j + 1) = l.drop (j + 1) := by
   have h1 := List.drop_eq_getElem_cons hjw
   have h2 := List.drop_eq_getElem_cons hjl
   rw [hd, h2] at h1
   exact (List.cons.inj h1).2.symm
  rw [bI, aT (n4 hjw), aT (inr hjw), fA hjw, aih, cL, hx]
  have hfl : (l.take (j + 1)).filter lv = (l.take j).filter lv ++ [l[j]].filter lv := by rw [List.take_succ_eq_append_getElem hjl, List.filter_append]
  cases hv : lv l[j] with
  | true =>
   have e : Int.toNat (i : Int) = i := by simp
   rw [aT (by rfl), aT (by simp; omega), dC (by omega), dC (by omega), e]
   refine ih (j + 1) fu (i + 1) _ (by omega) (by omega) (by omega) (by simpa using hw) ?_ ?_
   ·rw [hfl, ← ht]
    have hi : i < (w.set i l[j]).length := by simp; omega
    rw [List.take_succ_eq_append_getElem hi, List.take_set_of_le (Nat.le_refl _)]
    simp [hv]
   ·rw [List.drop_set_of_lt (by omega)]; exact hd'
  | false =>
   rw [bE (by rfl), dC (by omega)]
   refine ih (j + 1) fu i w (by omega) (by omega) (by omega) hw ?_ hd'
   rw [hfl, ht]; simp [hv]
theorem ajH (l : List aA) (hl : l.length ≤ 1000) : ∃ r, cF l = some r ∧ ((r = -1 ∧ l.filter lv = l) ∨ ∃ i : Nat, r = i ∧ i < l.length ∧ (l.take i).filter lv = l.take i ∧ (∀ h : i < l.length, lv l[i] = false)) := by
 unfold cF
 have key : ∀ (k i fu : Nat), i + k = l.length → k < fu → (l.take i).filter lv = l.take i → ∃ r, bK fu l (l.length : Int) (i : Int) = some r ∧ ((r = -1 ∧ l.filter lv = l) ∨ ∃ i : Nat, r = i ∧ i < l.length ∧ (l.take i).filter lv = l.take i ∧ (∀ h : i < l.length, lv l[i] = false)) := by
  intro k
  induction k with
  | zero =>
   intro i fu hi hf ht
   obtain ⟨fu, rfl⟩ : ∃ n, fu = n + 1 := ⟨fu - 1, by omega⟩
   rw [bK, bE (v8 (by omega))]
   refine ⟨-1, rfl, .inl ⟨rfl, ?_⟩⟩
   rwa [List.take_of_length_le (by omega)] at ht
  | succ k ih =>
   intro i fu hi hf ht
   obtain ⟨fu, rfl⟩ : ∃ n, fu = n + 1 := ⟨fu - 1, by omega⟩
   have hil : i < l.length := by omega
   rw [bK, aT (n4 hil), aT (inr hil), fA hil, aih, cL]
   cases hv : lv l[i] with
   | false => exact ⟨i, by rw [aT (by rfl)], .inr ⟨i, rfl, hil, ht, fun _ => hv⟩⟩
   | true =>
    rw [bE (by rfl), dC (by omega)]
    refine ih (i + 1) fu (by omega) (by omega) ?_
    rw [List.take_succ_eq_append_getElem hil, List.filter_append, ht]; simp [hv]
 exact key l.length 0 fuel (by omega) (by rw [o8]; omega) (by simp)
theorem anV (l : List aA) (hl : l.length ≤ 1000) : cA l = some (l.filter lv) := by
 unfold cA
 obtain ⟨r, h1, h2⟩ := ajH l hl
 rw [h1, cL]
 rcases h2 with ⟨rfl, h2⟩ | ⟨i, rfl, h2, h3, h4⟩
 ·rw [aT (by rfl), h2]
 ·rw [bE (by simp <;> omega), dC (by omega)]
  refine akE l hl (l.length - (i + 1)) (i + 1) fuel i l (by omega) (by rw [o8]; omega) (by omega) rfl ?_ rfl
  rw [List.take_succ_eq_append_getElem h2, List.filter_append, h3]; simp [h4 h2]
def ajF (s : aC) (now : Int) : aC :=
 ajE (aC.mk s.Client s.User false 0 s.Expiry (if 1099511627776 < IntKind.wrap .i64 (now + s.Expiry) then 1099511627776 else IntKind.wrap .i64 (now + s.Expiry)) s.Dropped s.Subs (s.Queue.filter lv) s.Out s.In s.Will) (IntKind.wrap .i64 ((s.Queue.length : Int) - ((s.Queue.filter lv).length : Int)))
theorem ajB (s : aC) (h : afI s) (now : Int) : kW s now = some (ajF s now) := by
 unfold kW ajF
 rw [alq s h, cL, anV _ h.queue, cL, drop_eq, cL]
theorem abR {α : Type} {f : α → Int} : ∀ {l : List α}, oF f l = 0 → ∀ x ∈ l, f x = 0
 | [], _, _, h => by simp at h
 | y :: r, h, x, hx => by
  rw [oF] at h
  by_cases e : f y = 0
  ·rw [aT (by simpa using e)] at h
   rcases List.mem_cons.1 hx with rfl | hx
   ·exact e
   ·exact abR h x hx
  ·rw [bE (by simpa using e)] at h; exact absurd h e
theorem cz1 {b : Bool} {x y : Int} (h : cond b x y = 0) (hy : y ≠ 0) : x = 0 := by cases b with | true => exact h | false => exact absurd h hy
theorem cz2 {b : Bool} {x y : Int} (h : cond b x y = 0) (hx : x ≠ 0) : y = 0 := by cases b with | true => exact absurd h hx | false => exact h
theorem cz3 {b : Bool} {x y : Int} {P : Prop} (h : cond b x y = 0) (h1 : x = 0 → P) (h2 : y = 0 → P) : P := by cases b with | true => exact h1 h | false => exact h2 h
theorem yK {m : aA} (h : nM m = 0) : m.Props.length ≤ 8 := by
 have key : aaX m.Props = 0 → m.Props.length ≤ 8 := fun h => by
  unfold aaX at h
  by_cases c : 8 < m.Props.length
  ·rw [aT (by simpa using c)] at h; cases h
  ·omega
 unfold nM at h
 have h := cz2 (cz1 h (by decide)) (by decide)
 have h := cz1 (cz1 (cz1 h (by decide)) (by decide)) (by decide)
 exact cz3 h (fun h => key (cz1 h (by decide))) (fun h => key (cz1 (cz1 h (by decide)) (by decide)))
theorem ajd {x : aB} (h : aaQ x = 0) : nM x.Message = 0 := by
 unfold aaQ at h
 by_cases e : nM x.Message = 0
 ·exact e
 ·rw [bE (by simpa using e)] at h; exact h
theorem ae3 {used : List Int} : ∀ {l seen : List aB}, o7 used seen l = 0 → ∀ x ∈ l, aaQ x = 0
 | [], _, _, _, h => by simp at h
 | y :: r, seen, h, x, hx => by
  rw [o7] at h
  by_cases e : wX used seen y = 0
  ·rw [aT (by simpa using e)] at h
   rcases List.mem_cons.1 hx with rfl | hx
   ·unfold wX at e
    cases hu : used.contains x.ID <;> rw [hu] at e <;> simp only [j4, oC] at e
    ·cases e
    ·cases hs : (seen.any fun y => y.ID == x.ID) <;> rw [hs] at e <;> simp only [j4, oC] at e
     ·exact e
     ·cases e
   ·exact ae3 h x hx
  ·rw [bE (by simpa using e)] at h; exact absurd h e
theorem amD {w : aG} (h : agA w = 0) : zX w.Pool = 0 ∧ w.Items.length ≤ 32 ∧ o7 w.Pool.Used [] w.Items = 0 := by
 unfold agA at h
 cases h1 : decide (w.Limit < 0) <;> rw [h1] at h <;> simp only [j4, oC] at h <;> try (cases h; done)
 cases h2 : decide (w.Limit > 32) <;> rw [h2] at h <;> simp only [j4, oC] at h <;> try (cases h; done)
 by_cases e : zX w.Pool = 0
 ·rw [aT (by simpa using e)] at h
  by_cases c : (w.Items.length : Int) > 32
  ·rw [aT (by simpa using c)] at h; cases h
  ·rw [bE (by simpa using c)] at h
   by_cases d : o7 w.Pool.Used [] w.Items = 0
   ·exact ⟨e, by omega, d⟩
   ·rw [bE (by simpa using d)] at h; exact absurd h d
 ·rw [bE (by simpa using e)] at h; exact absurd h e
theorem alA {w : aN} (h : abO w = 0) : w.Message.Props.length ≤ 8 := by
 unfold abO at h
 cases h0 : w.Set <;> rw [h0] at h <;> simp only [j4, oC] at h
 ·cases h1 : (w.Delay == 0) <;> rw [h1] at h <;> simp only [j4, oC] at h <;> try (cases h; done)
  by_cases e : w.Message = ahD
  ·rw [e]; decide
  ·rw [decide_eq_false e] at h; cases h
 ·cases h1 : gJ 0 1099511627776 w.Delay <;> rw [h1] at h <;> simp only [j4, oC] at h <;> try (cases h; done)
  exact yK h
theorem aja {s : aC} (h : xR s = 0) : ahL s = 0 ∧ adL s.Subs = 0 ∧ aaG s.Queue = 0 ∧ agA s.Out = 0 ∧ yF s.In.IDs = 0 ∧ abO s.Will = 0 := by
 have := abR (f := id) h
 exact ⟨this _ (.head _), this _ (.tail _ (.head _)), this _ (.tail _ (.tail _ (.head _))), this _ (.tail _ (.tail _ (.tail _ (.head _)))), this _ (.tail _ (.tail _ (.tail _ (.tail _ (.head _))))), this _ (.tail _ (.tail _ (.tail _ (.tail _ (.tail _ (.head _))))))⟩
theorem aj6 {l : List aA} (h : aaG l = 0) : l.length ≤ 256 ∧ ∀ m ∈ l, nM m = 0 := by
 unfold aaG at h
 by_cases c : (l.length : Int) > 256
 ·rw [aT (by simpa using c)] at h; cases h
 ·rw [bE (by simpa using c)] at h; exact ⟨by omega, abR h⟩
theorem akQ {l : List aF} (h : adL l = 0) : l.length ≤ 32 ∧ afi none l = 0 := by
 unfold adL at h
 by_cases c : (l.length : Int) > 32
 ·rw [aT (by simpa using c)] at h; cases h
 ·rw [bE (by simpa using c)] at h; exact ⟨by omega, h⟩
theorem alL {s : aC} (h : xR s = 0) : afI s := by
 obtain ⟨_, h1, h2, h3, h4, h5⟩ := aja h
 obtain ⟨a1, a2⟩ := aj6 h2
 obtain ⟨b1, b2, b3⟩ := amD h3
 have b4 := akt b1
 have c1 := ai0 h4
 refine ⟨by have := (akQ h1).1; omega, by omega, fun m hm => by have := yK (a2 m hm); omega, by omega, fun f hf => by have := yK (ajd (ae3 b3 f hf)); omega, by omega, by omega, by have := alA h5; omega⟩
theorem afh (x : Int) : iR x = some (gJ 0 1099511627776 x) := by
 unfold iR gJ
 simp only [abt, ge_iff_le]
theorem akx (s : aC) (x : Int) (h : s.good) : lL s x = some (decide (xR s = 0 ∧ gJ 0 1099511627776 x = true)) := by
 unfold lL
 rw [agi s h, cL, afh, cL]
 by_cases c : xR s = 0
 ·rw [aT (by simpa using c)]; cases gJ 0 1099511627776 x <;> simp [c]
 ·rw [bE (by simpa using c)]; simp [c]
end Md
end PX
