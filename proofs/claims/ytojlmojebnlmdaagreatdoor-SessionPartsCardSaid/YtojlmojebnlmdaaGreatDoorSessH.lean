import Derived.Test.YtojlmojebnlmdaaGreatDoorSessP
set_option linter.unusedVariables false
set_option linter.unusedSimpArgs false
namespace PX
open Go
namespace Md
theorem ahb (id : Int) : ∀ (l : List aD) (k : Int), (vK id k l = -1 ∧ ∀ x ∈ l, x.ID ≠ id) ∨ ∃ A f B, l = A ++ f :: B ∧ f.ID = id ∧ vK id k l = k + A.length
 | [], _ => .inl ⟨rfl, by simp⟩
 | x :: r, k => by
  rw [vK]
  by_cases e : x.ID = id
  ·rw [aO (by simpa using e)]
   exact .inr ⟨[], x, r, rfl, e, by simp⟩
  ·rw [aU (by simpa using e)]
   rcases ahb id r (k + 1) with ⟨h1, h2⟩ | ⟨A, f, B, h1, h2, h3⟩
   ·exact .inl ⟨h1, by intro y hy; rcases List.mem_cons.1 hy with rfl | hy; exact e; exact h2 y hy⟩
   ·refine .inr ⟨x :: A, f, B, by rw [h1]; rfl, h2, ?_⟩
    rw [h3, List.length_cons]; omega
def vG (id : Int) : aC := aC.mk 6 id false (aA.mk ([] : Str) ([] : Str) 0 false 0 0 ([] : Str) 0 ([] : List aG)) ([] : Str) ([] : Str) false 0 0 0 (aT.mk false 0 (aA.mk ([] : Str) ([] : Str) 0 false 0 0 ([] : Str) 0 ([] : List aG))) false 0 ([] : List aF) ([] : List Str) ([] : List Int)
theorem ad2 (id : Int) : oO id = some (vG id) := rfl
def nO (w : aI) (A : List aD) (f : aD) (B : List aD) : aI := aI.mk w.Limit (A ++ B) ⟨w.Pool.Used.filter (fun y => y != f.ID), w.Pool.Last⟩
def p9 (w : aI) (A : List aD) (f : aD) (B : List aD) : aI := aI.mk w.Limit (A ++ aD.mk f.ID 2 f.Message :: B) w.Pool
theorem filter_lt {x : Int} {l : List Int} (hm : x ∈ l) : (l.filter fun y => y != x).length < l.length := by
 rcases Nat.lt_or_ge (l.filter fun y => y != x).length l.length with q | q
 ·exact q
 ·have := List.filter_eq_self.1 (List.Sublist.eq_of_length_le List.filter_sublist q) x hm
  simp at this
theorem awe {p : aN} (h : poolE p = 0) {x : Int} (hx : x ∈ p.Used) : zT p x = some (⟨p.Used.filter (fun y => y != x), p.Last⟩, true) := by
 obtain ⟨h1, ha, _, _⟩ := w9 h
 have hc : p.Used.contains x = true := by simpa using hx
 unfold zT
 rw [abB (by omega), bD, adP x (adg ha) (by omega), bD, hc]
 have hlt : oB p.Used x < p.Used.length := by
  have e := congrArg List.length (ahF ha hc)
  have := filter_lt hx
  have hle := ap8 p.Used x
  rcases Nat.lt_or_ge (oB p.Used x) p.Used.length with h' | h'
  ·exact h'
  ·have h2 : oB p.Used x = p.Used.length := by omega
   rw [h2] at e
   simp at e
   omega
 rw [cA, bN (by omega)]
 unfold qF ajp
 rw [aO (by simp; omega), bD, ← ahF ha hc]
 rfl
theorem afG {w : aI} {A B : List aD} {f : aD} (e : w.Items = A ++ f :: B) : A.length < w.Items.length ∧ w.Items.getD A.length default = f ∧ w.Items.take A.length = A ∧ w.Items.drop (A.length + 1) = B := by
 rw [e]
 refine ⟨by simp, by simp, by simp, ?_⟩
 rw [show A ++ f :: B = (A ++ [f]) ++ B by simp, show A.length + 1 = (A ++ [f]).length by simp, List.drop_left]
theorem amh {w : aI} (h : WOK w) {A B : List aD} {f : aD} (e : w.Items = A ++ f :: B) : oM w (A.length : Int) = some (nO w A f B) ∧ nF w (A.length : Int) = some (nO w A f B) := by
 obtain ⟨h1, h2, h3, h4⟩ := afG e
 have hl := h.len
 have hu := h.used
 have hx : f.ID ∈ w.Pool.Used := h.mem f (by rw [e]; simp)
 have t1 : Int.toNat (A.length : Int) = A.length := by simp
 have t2 : Int.toNat ((A.length + 1 : Nat) : Int) = A.length + 1 := by simp
 constructor
 ·unfold oM
  rw [aO (inr h1), t1, h2, awe h.pool hx, bD, abw h.lit, bD, bN (by omega)]
  unfold iO ajp
  rw [aO (by simp; omega), bD, t1, t2, h3, h4]; rfl
 ·unfold nF
  have c1 : bQ w.Items none (some (A.length : Int)) = A := by simp [bQ, h3]
  have c2 : bQ w.Items (some ((A.length + 1 : Nat) : Int)) none = B := by
   rw [← h4]; simp [bQ]
  have hB : A.length + (B.length + 1) = w.Items.length := by rw [e]; simp
  rw [aO (inr h1), t1, h2, amC _ _ (by omega), bD, aO (by simp; omega), c1, aO (by simp; omega), bN (by omega), aO (by simp; omega), c2, aO (by simp; omega)]
  rfl
theorem amn {w : aI} (h : WOK w) {A B : List aD} {f : aD} (e : w.Items = A ++ f :: B) : ((A ++ B).map (·.ID)).Nodup ∧ ∀ y ∈ A ++ B, y.ID ≠ f.ID := by
 have hn := h.nodup
 rw [e] at hn
 constructor
 ·refine List.Pairwise.sublist ?_ hn
  exact List.Sublist.map _ (List.Sublist.append (List.Sublist.refl _) (List.sublist_cons_self _ _))
 ·rw [List.map_append, List.map_cons, List.nodup_append, List.nodup_cons] at hn
  obtain ⟨_, ⟨h2, _⟩, h3⟩ := hn
  intro y hy
  rcases List.mem_append.1 hy with hy | hy
  ·exact h3 _ (List.mem_map_of_mem hy) _ (by simp)
  ·intro q
   exact h2 (by rw [← q]; exact List.mem_map_of_mem hy)
theorem ab8 {w : aI} (h : WOK w) {A B : List aD} {f : aD} (e : w.Items = A ++ f :: B) : WOK (nO w A f B) := by
 obtain ⟨n1, n2⟩ := amn h e
 have hl := h.len
 have hu := h.used
 have hB : A.length + (B.length + 1) = w.Items.length := by rw [e]; simp
 have hx : f.ID ∈ w.Pool.Used := h.mem f (by rw [e]; simp)
 have hlt := filter_lt hx
 obtain ⟨q1, q2, q3, q4⟩ := w9 h.pool
 have sub : ∀ y ∈ A ++ B, y ∈ w.Items := fun y hy => by
  rw [e]
  rcases List.mem_append.1 hy with hy | hy
  ·simp [hy]
  ·simp [hy]
 refine ⟨⟨h.g.1, ⟨by simp [nO]; omega, fun y hy => h.g.2.1.2 y (sub y hy)⟩, ⟨by show (List.filter _ _).length ≤ _; omega, fun y hy => h.g.2.2.1.2 y (List.mem_filter.1 hy).1⟩, h.g.2.2.2⟩, h.l0, h.l1, ?_, by simp [nO]; omega, by simp only [nO, List.length_append]; omega, ?_, n1, fun y hy => h.ok y (sub y hy)⟩
 ·unfold poolE adV nO
  simp only
  rw [aU (by simp; omega), afW q2, cA, aU (by simp; omega), aU (by simp; omega)]
 ·intro y hy
  exact List.mem_filter.2 ⟨h.mem y (sub y hy), by simpa using n2 y hy⟩
theorem acC {f : aD} (h : flightE f = 0) : gT f.Message = 0 ∧ f.Message.Level ≠ 0 ∧ (f.State = 1 ∨ (f.State = 2 ∧ f.Message.Level ≠ 1)) := by
 have h0 := aek h
 unfold flightE at h
 rw [aO (by simpa using h0)] at h
 have h1 : f.Message.Level ≠ 0 := by
  intro c
  rw [aO (by simpa using c)] at h; cases h
 rw [aU (by simpa using h1)] at h
 refine ⟨h0, h1, ?_⟩
 by_cases c : f.State = 1
 ·exact .inl c
 ·rw [aU (by simpa using c)] at h
  by_cases d : f.State = 2
  ·rw [aO (by simpa using d)] at h
   refine .inr ⟨d, fun q => ?_⟩
   rw [aO (by simpa using q)] at h; cases h
  ·rw [aU (by simpa using d)] at h; cases h
theorem amz {m : aA} (h : gT m = 0) : 0 ≤ m.Level ∧ m.Level ≤ 2 := by
 unfold gT at h
 have h := cz2 (cz1 h (by decide)) (by decide)
 rw [← tT]
 cases hr : dF 0 2 m.Level with
 | true => rfl
 | false => rw [hr] at h; cases h
theorem ai0 {w : aI} (h : WOK w) {A B : List aD} {f : aD} (e : w.Items = A ++ f :: B) (hv : f.Message.Level ≠ 1) : WOK (p9 w A f B) := by
 have hn := h.nodup
 have hl := h.len
 have hu := h.used
 have hB : A.length + (B.length + 1) = w.Items.length := by rw [e]; simp
 have hf : f ∈ w.Items := by rw [e]; simp
 have gf := h.g.2.1.2 f hf
 obtain ⟨f1, f2, f3⟩ := acC (h.ok f hf)
 have cases3 : ∀ {P : aD → Prop}, P (aD.mk f.ID 2 f.Message) → (∀ y ∈ w.Items, P y) → ∀ y ∈ A ++ aD.mk f.ID 2 f.Message :: B, P y := fun {P} p1 p2 y hy => by
  rcases List.mem_append.1 hy with hy | hy
  ·exact p2 y (by rw [e]; simp [hy])
  ·rcases List.mem_cons.1 hy with rfl | hy
   ·exact p1
   ·exact p2 y (by rw [e]; simp [hy])
 have hlen : (A ++ aD.mk f.ID 2 f.Message :: B).length = w.Items.length := by rw [← hB]; simp
 refine ⟨⟨h.g.1, ⟨by show (A ++ _ :: B).length ≤ _; omega, cases3 ⟨gf.1, nB (x := 2) (by decide) (by decide), gf.2.2⟩ h.g.2.1.2⟩, h.g.2.2⟩, h.l0, h.l1, h.pool, by show (A ++ _ :: B).length ≤ _; omega, by show w.Pool.Used.length ≤ (A ++ _ :: B).length; omega, cases3 (h.mem f hf) h.mem, ?_, cases3 ?_ h.ok⟩
 ·show ((A ++ aD.mk f.ID 2 f.Message :: B).map (·.ID)).Nodup
  rw [e] at hn
  simpa using hn
 ·unfold flightE
  rw [aO (by simpa using f1), aU (by simpa using f2), aU (by rfl), aO (by rfl), aU (by simpa using hv)]
end Md
end PX
