import Derived.Test.YtahbfpamckocmaaGreatDoorSessP
set_option linter.unusedVariables false
set_option linter.unusedSimpArgs false
namespace PX
open Go
namespace Md
theorem ajd (id : Int) : ∀ (l : List aB) (k : Int), (wQ id k l = -1 ∧ ∀ x ∈ l, x.ID ≠ id) ∨ ∃ A f B, l = A ++ f :: B ∧ f.ID = id ∧ wQ id k l = k + A.length
 | [], _ => .inl ⟨rfl, by simp⟩
 | x :: r, k => by
  rw [wQ]
  by_cases e : x.ID = id
  ·rw [aM (by simpa using e)]
   exact .inr ⟨[], x, r, rfl, e, by simp⟩
  ·rw [aN (by simpa using e)]
   rcases ajd id r (k + 1) with ⟨h1, h2⟩ | ⟨A, f, B, h1, h2, h3⟩
   ·exact .inl ⟨h1, by intro y hy; rcases List.mem_cons.1 hy with rfl | hy; exact e; exact h2 y hy⟩
   ·refine .inr ⟨x :: A, f, B, by rw [h1]; rfl, h2, ?_⟩
    rw [h3, List.length_cons]; omega
def aat (id : Int) : aF := aF.mk 6 id false (aA.mk ([] : Str) ([] : Str) 0 false 0 0 ([] : Str) 0 ([] : List aD)) ([] : Str) ([] : Str) false 0 0 0 (aV.mk false 0 (aA.mk ([] : Str) ([] : Str) 0 false 0 0 ([] : Str) 0 ([] : List aD))) false 0 ([] : List aG) ([] : List Str) ([] : List Int)
theorem ad3 (id : Int) : mV id = some (aat id) := rfl
theorem adZ (id : Int) : pOK (aat id) := ⟨Nat.zero_le _, Nat.zero_le _, rfl, rfl, rfl⟩
def s9 (w : aH) (A : List aB) (f : aB) (B : List aB) : aH := aH.mk w.Limit (A ++ B) ⟨w.Pool.Used.filter (fun y => y != f.ID), w.Pool.Last⟩
def abt (w : aH) (A : List aB) (f : aB) (B : List aB) : aH := aH.mk w.Limit (A ++ aB.mk f.ID 2 f.Message :: B) w.Pool
theorem filter_lt {x : Int} {l : List Int} (hm : x ∈ l) : (l.filter fun y => y != x).length < l.length := by
 rcases Nat.lt_or_ge (l.filter fun y => y != x).length l.length with q | q
 ·exact q
 ·have := List.filter_eq_self.1 (List.Sublist.eq_of_length_le List.filter_sublist q) x hm
  simp at this
theorem ard {p : aQ} (h : poolE p = 0) {x : Int} (hx : x ∈ p.Used) : wO p x = some (⟨p.Used.filter (fun y => y != x), p.Last⟩, true) := by
 obtain ⟨h1, ha, _, _⟩ := pL h
 have hc : p.Used.contains x = true := by simpa using hx
 unfold wO
 rw [zC (by omega), aU, abv x (aax ha) (by omega), aU, hc]
 have hlt : mO p.Used x < p.Used.length := by
  have e := congrArg List.length (ae6 ha hc)
  have := filter_lt hx
  have hle := alW p.Used x
  rcases Nat.lt_or_ge (mO p.Used x) p.Used.length with h' | h'
  ·exact h'
  ·have h2 : mO p.Used x = p.Used.length := by omega
   rw [h2] at e
   simp at e
   omega
 rw [cS, cG (by omega)]
 unfold oR aiD
 rw [aM (by simp; omega), aU, ← ae6 ha hc]
 rfl
theorem aks {w : aH} {A B : List aB} {f : aB} (e : w.Items = A ++ f :: B) : A.length < w.Items.length ∧ w.Items.getD A.length default = f ∧ w.Items.take A.length = A ∧ w.Items.drop (A.length + 1) = B := by
 rw [e]
 refine ⟨by simp, by simp, by simp, ?_⟩
 rw [show A ++ f :: B = (A ++ [f]) ++ B by simp, show A.length + 1 = (A ++ [f]).length by simp, List.drop_left]
theorem anU {w : aH} (h : WOK w) {A B : List aB} {f : aB} (e : w.Items = A ++ f :: B) : ((A ++ B).map (·.ID)).Nodup ∧ ∀ y ∈ A ++ B, y.ID ≠ f.ID := by
 have hn := h.nodup
 rw [e] at hn
 constructor
 ·refine List.Pairwise.sublist ?_ hn
  exact List.Sublist.map _ (List.Sublist.append (List.Sublist.refl _) (List.sublist_cons_self _ _))
 ·rw [List.map_append, List.map_cons, List.nodup_append, List.nodup_cons] at hn
  obtain ⟨_, ⟨h2, _⟩, h3⟩ := hn
  intro y hy
  rcases List.mem_append.1 hy with hy | hy
  ·exact h3 _ (List.mem_map_of_mem hy) _ (by simp)
  ·intro q
   exact h2 (by rw [← q]; exact List.mem_map_of_mem hy)
theorem ahj {w : aH} (h : WOK w) {A B : List aB} {f : aB} (e : w.Items = A ++ f :: B) : WOK (s9 w A f B) := by
 obtain ⟨n1, n2⟩ := anU h e
 have hl := h.len
 have hu := h.used
 have hB : A.length + (B.length + 1) = w.Items.length := by rw [e]; simp
 have hx : f.ID ∈ w.Pool.Used := h.mem f (by rw [e]; simp)
 have hlt := filter_lt hx
 obtain ⟨q1, q2, q3, q4⟩ := pL h.pool
 have sub : ∀ y ∈ A ++ B, y ∈ w.Items := fun y hy => by
  rw [e]
  rcases List.mem_append.1 hy with hy | hy
  ·simp [hy]
  ·simp [hy]
 refine ⟨⟨h.g.1, ⟨by simp [s9]; omega, fun y hy => h.g.2.1.2 y (sub y hy)⟩, ⟨by show (List.filter _ _).length ≤ _; omega, fun y hy => h.g.2.2.1.2 y (List.mem_filter.1 hy).1⟩, h.g.2.2.2⟩, h.l0, h.l1, ?_, by simp [s9]; omega, by simp only [s9, List.length_append]; omega, ?_, n1, fun y hy => h.ok y (sub y hy)⟩
 ·unfold poolE aff s9
  simp only
  rw [aN (by simp; omega), acC q2, cS, aN (by simp; omega), aN (by simp; omega)]
 ·intro y hy
  exact List.mem_filter.2 ⟨h.mem y (sub y hy), by simpa using n2 y hy⟩
theorem adQ {f : aB} (h : flightE f = 0) : checkM f.Message = 0 ∧ f.Message.Level ≠ 0 ∧ (f.State = 1 ∨ (f.State = 2 ∧ f.Message.Level ≠ 1)) := by
 have h0 := uJ h
 unfold flightE at h
 rw [aM (by simpa using h0)] at h
 have h1 : f.Message.Level ≠ 0 := by
  intro c
  rw [aM (by simpa using c)] at h; cases h
 rw [aN (by simpa using h1)] at h
 refine ⟨h0, h1, ?_⟩
 by_cases c : f.State = 1
 ·exact .inl c
 ·rw [aN (by simpa using c)] at h
  by_cases d : f.State = 2
  ·rw [aM (by simpa using d)] at h
   refine .inr ⟨d, fun q => ?_⟩
   rw [aM (by simpa using q)] at h; cases h
  ·rw [aN (by simpa using d)] at h; cases h
theorem anN {m : aA} (h : checkM m = 0) : 0 ≤ m.Level ∧ m.Level ≤ 2 := by
 unfold checkM at h
 have h := cz2 (cz1 h (by decide)) (by decide)
 rw [← tJ]
 cases hr : eL 0 2 m.Level with
 | true => rfl
 | false => rw [hr] at h; cases h
theorem alF {w : aH} (h : WOK w) {A B : List aB} {f : aB} (e : w.Items = A ++ f :: B) (hv : f.Message.Level ≠ 1) : WOK (abt w A f B) := by
 have hn := h.nodup
 have hl := h.len
 have hu := h.used
 have hB : A.length + (B.length + 1) = w.Items.length := by rw [e]; simp
 have hf : f ∈ w.Items := by rw [e]; simp
 have gf := h.g.2.1.2 f hf
 obtain ⟨f1, f2, f3⟩ := adQ (h.ok f hf)
 have cases3 : ∀ {P : aB → Prop}, P (aB.mk f.ID 2 f.Message) → (∀ y ∈ w.Items, P y) → ∀ y ∈ A ++ aB.mk f.ID 2 f.Message :: B, P y := fun {P} p1 p2 y hy => by
  rcases List.mem_append.1 hy with hy | hy
  ·exact p2 y (by rw [e]; simp [hy])
  ·rcases List.mem_cons.1 hy with rfl | hy
   ·exact p1
   ·exact p2 y (by rw [e]; simp [hy])
 have hlen : (A ++ aB.mk f.ID 2 f.Message :: B).length = w.Items.length := by rw [← hB]; simp
 refine ⟨⟨h.g.1, ⟨by show (A ++ _ :: B).length ≤ _; omega, cases3 ⟨gf.1, kD (x := 2) (by decide) (by decide), gf.2.2⟩ h.g.2.1.2⟩, h.g.2.2⟩, h.l0, h.l1, h.pool, by show (A ++ _ :: B).length ≤ _; omega, by show w.Pool.Used.length ≤ (A ++ _ :: B).length; omega, cases3 (h.mem f hf) h.mem, ?_, cases3 ?_ h.ok⟩
 ·show ((A ++ aB.mk f.ID 2 f.Message :: B).map (·.ID)).Nodup
  rw [e] at hn
  simpa using hn
 ·unfold flightE
  rw [aM (by simpa using f1), aN (by simpa using f2), aN (by rfl), aM (by rfl), aN (by simpa using hv)]
end Md
end PX
