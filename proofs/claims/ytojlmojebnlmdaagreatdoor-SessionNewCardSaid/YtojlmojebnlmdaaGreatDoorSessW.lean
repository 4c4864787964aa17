import Derived.Test.YtojlmojebnlmdaaGreatDoorSessC
set_option linter.unusedVariables false
set_option linter.unusedSimpArgs false
namespace PX
open Go
namespace Md
def cnd (l : Int) (k : Nat) : Int := (l + k) % 65535 + 1
def okT (m : aA) : Prop := hX m = 0 ∧ m.good
structure WOK (w : aI) : Prop where
 g : w.good
 l0 : 0 ≤ w.Limit
 l1 : w.Limit ≤ 32
 pool : poolE w.Pool = 0
 len : w.Items.length ≤ 32
 used : w.Pool.Used.length ≤ w.Items.length
 mem : ∀ x ∈ w.Items, x.ID ∈ w.Pool.Used
 nodup : (w.Items.map (·.ID)).Nodup
 ok : ∀ x ∈ w.Items, flightE x = 0
theorem aju {used : List Int} : ∀ {l seen : List aD}, qY used seen l = 0 ↔ (∀ x ∈ l, x.ID ∈ used ∧ flightE x = 0 ∧ x.ID ∉ seen.map (·.ID)) ∧ (l.map (·.ID)).Nodup
 | [], _ => by simp [qY]
 | x :: r, seen => by
  have h1 : vP used seen x = 0 ↔ x.ID ∈ used ∧ flightE x = 0 ∧ x.ID ∉ seen.map (·.ID) := by
   unfold vP
   by_cases a : x.ID ∈ used
   ·rw [aN (by simpa using a)]
    by_cases b : x.ID ∈ seen.map (·.ID)
    ·rw [aN (by simpa using b)]; simp [b]
    ·have : (seen.any fun y => y.ID == x.ID) = false := by
      rw [Bool.eq_false_iff]; intro h; apply b; simpa using h
     rw [this, dB]; simp [a, b]
   ·rw [aT (by simpa using a)]; simp [a]
  rw [qY]
  by_cases e : vP used seen x = 0
  ·rw [aN (by simpa using e), aju, List.map_cons, List.nodup_cons]
   have e1 := h1.1 e
   constructor
   ·rintro ⟨q1, q2⟩
    refine ⟨?_, ?_, q2⟩
    ·intro y hy
     rcases List.mem_cons.1 hy with rfl | hy
     ·exact e1
     ·have := q1 y hy; simp at this ⊢; exact ⟨this.1, this.2.1, this.2.2.1⟩
    ·intro hm
     obtain ⟨y, hy, he⟩ := List.mem_map.1 hm
     have := (q1 y hy).2.2
     simp [he] at this
   ·rintro ⟨q1, q2, q3⟩
    refine ⟨?_, q3⟩
    intro y hy
    have := q1 y (by simp [hy])
    refine ⟨this.1, this.2.1, ?_⟩
    rw [List.map_append, List.mem_append]
    rintro (h | h)
    ·exact this.2.2 h
    ·simp at h
     exact q2 (List.mem_map.2 ⟨y, hy, h⟩)
  ·rw [aT (by simpa using e)]
   constructor
   ·intro h; exact absurd h e
   ·rintro ⟨q1, _⟩; exact absurd (h1.2 (q1 x (by simp))) e
theorem WOK.zero {w : aI} (h : WOK w) : aaU w = 0 := by
 unfold aaU
 have h0 := h.l0
 have h1 := h.l1
 have h2 := h.len
 have h3 := h.used
 rw [aT (by simp; omega), aT (by simp; omega), h.pool, aN (by rfl), aT (by simp; omega), aju.2 ⟨fun x hx => ⟨h.mem x hx, h.ok x hx, by simp⟩, h.nodup⟩, aN (by rfl), aT (by simp; omega)]
def ars (w : aI) : Prop := w.Items.length ≤ 1000 ∧ (∀ f ∈ w.Items, f.Message.Props.length ≤ 1000) ∧ w.Pool.Used.length ≤ 1000
theorem WOK.lit {w : aI} (h : WOK w) : ars w := by
 have h2 := h.len
 have h3 := h.used
 refine ⟨by omega, fun f hf => ?_, by omega⟩
 have := qW (aeb (h.ok f hf)); omega
def ak6 : aI := aI.mk 0 ([] : List aD) (aO.mk ([] : List Int) 0)
def aev (id : Int) (dup : Bool) (m : aA) : aC := aC.mk 3 id dup m ([] : Str) ([] : Str) false 0 0 0 (aU.mk false 0 (aA.mk ([] : Str) ([] : Str) 0 false 0 0 ([] : Str) 0 ([] : List aG))) false 0 ([] : List aF) ([] : List Str) ([] : List Int)
def begun (w : aI) (m : aA) (x : Int) : aI := aI.mk w.Limit (w.Items ++ [aD.mk x 1 m]) ⟨m8 w.Pool.Used x, x⟩
theorem abD {x : Int} (h0 : -9223372036854775808 ≤ x) (h1 : x ≤ 9223372036854775807) : okI .i64 x := by
 simp only [okI, Go.Lit.wf, Go.IntKind.min, Go.IntKind.max, Go.IntKind.signed, Go.IntKind.bits, Bool.and_eq_true, decide_eq_true_eq, if_true]
 omega
end Md
end PX
