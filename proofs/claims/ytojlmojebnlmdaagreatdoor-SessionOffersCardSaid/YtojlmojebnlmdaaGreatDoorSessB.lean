import Derived.Test.YtojlmojebnlmdaaGreatDoorSlowB
set_option linter.unusedVariables false
set_option linter.unusedSimpArgs false
namespace PX
open Go
namespace Md
structure rE (s : aC) : Prop where
 subs : s.Subs.length ≤ 1000
 queue : s.Queue.length ≤ 1000
 qp : ∀ m ∈ s.Queue, m.Props.length ≤ 1000
 items : s.Out.Items.length ≤ 1000
 ip : ∀ f ∈ s.Out.Items, f.Message.Props.length ≤ 1000
 used : s.Out.Pool.Used.length ≤ 1000
 ids : s.In.IDs.length ≤ 1000
 will : s.Will.Message.Props.length ≤ 1000
theorem acT {m : aA} (h : m.Props.length ≤ 1000) : gA m = some m := by
 unfold gA
 rw [amb (by omega), dC]
theorem anJ (s z : aC) (h : rE s) (u : List aF) (q : List aA) : ∀ (k i fu : Nat), i + k = s.Out.Items.length → k < fu →
  iU fu s.Out.Items (s.Out.Items.length : Int) (i : Int) s.Client s.User s.Online s.Conn s.Expiry s.Until s.Dropped s.Out.Limit s.Out.Items s.Out.Pool.Used s.Out.Pool.Last s.In.IDs s.Will.Set s.Will.Delay s.Will.Message.Topic s.Will.Message.Payload s.Will.Message.Level s.Will.Message.Retain s.Will.Message.Priority s.Will.Message.Expires s.Will.Message.From s.Will.Message.Seq s.Will.Message.Props z (s.Out.Items.take i) u q = some (aC.mk s.Client s.User s.Online s.Conn s.Expiry s.Until s.Dropped u q s.Out s.In s.Will) := by
 intro k
 have h1 := h.items
 induction k with
 | zero =>
  intro i fu hi hf
  obtain ⟨fu, rfl⟩ : ∃ n, fu = n + 1 := ⟨fu - 1, by omega⟩
  rw [iU, bD (xC (by omega)), List.take_of_length_le (by omega), ahT (by have := h.used; omega), dC, ahT (by have := h.ids; omega), dC, acT h.will, dC]
 | succ k ih =>
  intro i fu hi hf
  obtain ⟨fu, rfl⟩ : ∃ n, fu = n + 1 := ⟨fu - 1, by omega⟩
  have hil : i < s.Out.Items.length := by omega
  rw [iU, aR (nK hil), aR (inr hil), dD hil, acT (h.ip _ (List.getElem_mem _)), dC, aR (by simp; omega), dA (by omega), aau]
  exact ih (i + 1) fu (by omega) (by omega)
theorem ao2 (s z : aC) (h : rE s) (u : List aF) : ∀ (k i fu : Nat), i + k = s.Queue.length → k < fu →
  jG fu s.Queue (s.Queue.length : Int) (i : Int) s.Client s.User s.Online s.Conn s.Expiry s.Until s.Dropped s.Queue s.Out.Limit s.Out.Items s.Out.Pool.Used s.Out.Pool.Last s.In.IDs s.Will.Set s.Will.Delay s.Will.Message.Topic s.Will.Message.Payload s.Will.Message.Level s.Will.Message.Retain s.Will.Message.Priority s.Will.Message.Expires s.Will.Message.From s.Will.Message.Seq s.Will.Message.Props z (s.Queue.take i) u = some (aC.mk s.Client s.User s.Online s.Conn s.Expiry s.Until s.Dropped u s.Queue s.Out s.In s.Will) := by
 intro k
 have h1 := h.queue
 induction k with
 | zero =>
  intro i fu hi hf
  obtain ⟨fu, rfl⟩ : ∃ n, fu = n + 1 := ⟨fu - 1, by omega⟩
  rw [jG, bD (xC (by omega)), List.take_of_length_le (by omega), aR (by have := h.items; simp; omega)]
  exact anJ s z h u s.Queue s.Out.Items.length 0 fuel (by omega) (by have := h.items; rw [p8]; omega)
 | succ k ih =>
  intro i fu hi hf
  obtain ⟨fu, rfl⟩ : ∃ n, fu = n + 1 := ⟨fu - 1, by omega⟩
  have hil : i < s.Queue.length := by omega
  rw [jG, aR (nK hil), aR (inr hil), dD hil, acT (h.qp _ (List.getElem_mem _)), dC, aR (by simp; omega), dA (by omega), aau]
  exact ih (i + 1) fu (by omega) (by omega)
theorem alL (s : aC) (h : rE s) : fX s = some s := by
 unfold fX
 rw [amE (by have := h.subs; omega), dC, aR (by have := h.queue; simp; omega)]
 exact ao2 s _ h s.Subs s.Queue.length 0 fuel (by omega) (by have := h.queue; rw [p8]; omega)
theorem aj7 (s : aC) (n : Int) : gW s n = gL s n := by
 unfold gW gL
 by_cases h : 1099511627776 < IntKind.wrap .i64 (s.Dropped + n)
 ·rw [if_pos h, aR (by simpa using h)]
 ·rw [if_neg h, bD (by simpa using h)]
def aeC (s : aC) (n : Int) : aC := aC.mk s.Client s.User s.Online s.Conn s.Expiry s.Until (if 1099511627776 < IntKind.wrap .i64 (s.Dropped + n) then 1099511627776 else IntKind.wrap .i64 (s.Dropped + n)) s.Subs s.Queue s.Out s.In s.Will
theorem drop_eq (s : aC) (n : Int) : gW s n = some (aeC s n) := rfl
theorem ajY (s : aC) (n : Int) : gL s n = some (aeC s n) := by rw [← aj7]; rfl
def lv (m : aA) : Bool := m.Level != 0
def av1 (s : aC) (now : Int) : aC :=
 aeC (aC.mk s.Client s.User false 0 s.Expiry (if 1099511627776 < IntKind.wrap .i64 (now + s.Expiry) then 1099511627776 else IntKind.wrap .i64 (now + s.Expiry)) s.Dropped s.Subs (s.Queue.filter lv) s.Out s.In s.Will) (IntKind.wrap .i64 ((s.Queue.length : Int) - ((s.Queue.filter lv).length : Int)))
theorem acN {α : Type} {f : α → Int} : ∀ {l : List α}, pD f l = 0 → ∀ x ∈ l, f x = 0
 | [], _, _, h => by simp at h
 | y :: r, h, x, hx => by
  rw [pD] at h
  by_cases e : f y = 0
  ·rw [aR (by simpa using e)] at h
   rcases List.mem_cons.1 hx with rfl | hx
   ·exact e
   ·exact acN h x hx
  ·rw [bD (by simpa using e)] at h; exact absurd h e
theorem cz1 {b : Bool} {x y : Int} (h : cond b x y = 0) (hy : y ≠ 0) : x = 0 := by cases b with | true => exact h | false => exact absurd h hy
theorem cz2 {b : Bool} {x y : Int} (h : cond b x y = 0) (hx : x ≠ 0) : y = 0 := by cases b with | true => exact absurd h hx | false => exact h
theorem cz3 {b : Bool} {x y : Int} {P : Prop} (h : cond b x y = 0) (h1 : x = 0 → P) (h2 : y = 0 → P) : P := by cases b with | true => exact h1 h | false => exact h2 h
theorem uE {m : aA} (h : m7 m = 0) : m.Props.length ≤ 8 := by
 have key : abj m.Props = 0 → m.Props.length ≤ 8 := fun h => by
  unfold abj at h
  by_cases c : 8 < m.Props.length
  ·rw [aR (by simpa using c)] at h; cases h
  ·omega
 unfold m7 at h
 have h := cz2 (cz1 h (by decide)) (by decide)
 have h := cz1 (cz1 (cz1 h (by decide)) (by decide)) (by decide)
 exact cz3 h (fun h => key (cz1 h (by decide))) (fun h => key (cz1 (cz1 h (by decide)) (by decide)))
theorem aj8 {x : aB} (h : abB x = 0) : m7 x.Message = 0 := by
 unfold abB at h
 by_cases e : m7 x.Message = 0
 ·exact e
 ·rw [bD (by simpa using e)] at h; exact h
theorem agi {used : List Int} : ∀ {l seen : List aB}, pW used seen l = 0 → ∀ x ∈ l, abB x = 0
 | [], _, _, _, h => by simp at h
 | y :: r, seen, h, x, hx => by
  rw [pW] at h
  by_cases e : yF used seen y = 0
  ·rw [aR (by simpa using e)] at h
   rcases List.mem_cons.1 hx with rfl | hx
   ·unfold yF at e
    cases hu : used.contains x.ID <;> rw [hu] at e <;> simp only [j1, nL] at e
    ·cases e
    ·cases hs : (seen.any fun y => y.ID == x.ID) <;> rw [hs] at e <;> simp only [j1, nL] at e
     ·exact e
     ·cases e
   ·exact agi h x hx
  ·rw [bD (by simpa using e)] at h; exact absurd h e
theorem anl {w : aG} (h : ahh w = 0) : aaG w.Pool = 0 ∧ w.Items.length ≤ 32 ∧ pW w.Pool.Used [] w.Items = 0 := by
 unfold ahh at h
 cases h1 : decide (w.Limit < 0) <;> rw [h1] at h <;> simp only [j1, nL] at h <;> try (cases h; done)
 cases h2 : decide (w.Limit > 32) <;> rw [h2] at h <;> simp only [j1, nL] at h <;> try (cases h; done)
 by_cases e : aaG w.Pool = 0
 ·rw [aR (by simpa using e)] at h
  by_cases c : (w.Items.length : Int) > 32
  ·rw [aR (by simpa using c)] at h; cases h
  ·rw [bD (by simpa using c)] at h
   by_cases d : pW w.Pool.Used [] w.Items = 0
   ·exact ⟨e, by omega, d⟩
   ·rw [bD (by simpa using d)] at h; exact absurd h d
 ·rw [bD (by simpa using e)] at h; exact absurd h e
theorem amu {w : aN} (h : acy w = 0) : w.Message.Props.length ≤ 8 := by
 unfold acy at h
 cases h0 : w.Set <;> rw [h0] at h <;> simp only [j1, nL] at h
 ·cases h1 : (w.Delay == 0) <;> rw [h1] at h <;> simp only [j1, nL] at h <;> try (cases h; done)
  by_cases e : w.Message = aiC
  ·rw [e]; decide
  ·rw [decide_eq_false e] at h; cases h
 ·cases h1 : jI 0 1099511627776 w.Delay <;> rw [h1] at h <;> simp only [j1, nL] at h <;> try (cases h; done)
  exact uE h
theorem ae7 {s : aC} (h : aeu s = 0) : aiF s = 0 ∧ aeH s.Subs = 0 ∧ abe s.Queue = 0 ∧ ahh s.Out = 0 ∧ y7 s.In.IDs = 0 ∧ acy s.Will = 0 := by
 have := acN (f := id) h
 exact ⟨this _ (.head _), this _ (.tail _ (.head _)), this _ (.tail _ (.tail _ (.head _))), this _ (.tail _ (.tail _ (.tail _ (.head _)))), this _ (.tail _ (.tail _ (.tail _ (.tail _ (.head _))))), this _ (.tail _ (.tail _ (.tail _ (.tail _ (.tail _ (.head _))))))⟩
theorem agS {l : List aA} (h : abe l = 0) : l.length ≤ 256 ∧ ∀ m ∈ l, m7 m = 0 := by
 unfold abe at h
 by_cases c : (l.length : Int) > 256
 ·rw [aR (by simpa using c)] at h; cases h
 ·rw [bD (by simpa using c)] at h; exact ⟨by omega, acN h⟩
theorem alK {l : List aF} (h : aeH l = 0) : l.length ≤ 32 ∧ agO none l = 0 := by
 unfold aeH at h
 by_cases c : (l.length : Int) > 32
 ·rw [aR (by simpa using c)] at h; cases h
 ·rw [bD (by simpa using c)] at h; exact ⟨by omega, h⟩
theorem amS {s : aC} (h : aeu s = 0) : rE s := by
 obtain ⟨_, h1, h2, h3, h4, h5⟩ := ae7 h
 obtain ⟨a1, a2⟩ := agS h2
 obtain ⟨b1, b2, b3⟩ := anl h3
 have b4 := aky b1
 have c1 := aj3 h4
 refine ⟨by have := (alK h1).1; omega, by omega, fun m hm => by have := uE (a2 m hm); omega, by omega, fun f hf => by have := uE (aj8 (agi b3 f hf)); omega, by omega, by omega, by have := amu h5; omega⟩
end Md
end PX
