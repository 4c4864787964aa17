import Derived.Test.YtojlmojebnlmdaaGreatDoorSessH
set_option linter.unusedVariables false
set_option linter.unusedSimpArgs false
namespace PX
open Go
namespace Md
theorem apU {p : aC} (g : p.good) (hk : p.Kind = 1) : ∃ b : Bool, j1 p = some (cond b (rG p) 28) := by
 have hu : ∃ u, uN p = some u := by
  obtain ⟨k, a2, a3, a4, a5, a6, a7, a8, a9, a10, a11, a12, a13, a14, a15, a16⟩ := p
  cases hk
  exact ⟨_, rfl⟩
 obtain ⟨u, hu⟩ := hu
 refine ⟨decide (p = u), ?_⟩
 unfold j1 qC
 rw [hu, hk, aT (by rfl), aT (by rfl), bB, aov p u g, bB]
 cases decide (p = u) with
 | false => rfl
 | true => rw [alw p g]; rfl
theorem aab {p : aC} (h : rG p = 0) : lN p.Client = true ∧ (p.User == [] || lN p.User) = true ∧ (0 ≤ p.Expiry ∧ p.Expiry ≤ 1099511627776) ∧ (1 ≤ p.Window ∧ p.Window ≤ 32) ∧ willE p.Will = 0 := by
 have key : alb p = 0 → (0 ≤ p.Expiry ∧ p.Expiry ≤ 1099511627776) ∧ (1 ≤ p.Window ∧ p.Window ≤ 32) ∧ willE p.Will = 0 := fun h => by
  rw [← abb, ← abb]
  unfold alb at h
  have h := cz1 h (by decide)
  have h1 : dL 0 1099511627776 p.Expiry = true := by
   cases e : dL 0 1099511627776 p.Expiry with
   | true => rfl
   | false => rw [e] at h; cases h
  have h := cz1 h (by decide)
  have h2 : dL 1 32 p.Window = true := by
   cases e : dL 1 32 p.Window with
   | true => rfl
   | false => rw [e] at h; cases h
  exact ⟨h1, h2, cz1 h (by decide)⟩
 unfold rG at h
 cases e1 : lN p.Client with
 | false => rw [e1] at h; cases h
 | true =>
  rw [e1, cH] at h
  cases e2 : p.User == [] with
  | true => rw [e2, cH] at h; exact ⟨rfl, rfl, key h⟩
  | false =>
   rw [e2, dB] at h
   cases e3 : lN p.User with
   | false => rw [e3] at h; cases h
   | true => rw [e3, cH] at h; exact ⟨rfl, rfl, key h⟩
theorem ajk {p : aC} (g : p.good) (hk : p.Kind = 1) : ∃ c, j1 p = some c ∧ (c = 0 → rG p = 0) := by
 obtain ⟨b, hb⟩ := apU g hk
 refine ⟨_, hb, fun h => ?_⟩
 cases b with
 | true => exact h
 | false => cases h
def atH (p : aC) (conn : Int) : aB := aB.mk p.Client p.User true conn p.Expiry 0 0 ([] : List aF) ([] : List aA) (aI.mk p.Window ([] : List aD) (aO.mk ([] : List Int) 0)) (bE.mk ([] : List Int)) p.Will
theorem ar0 {p : aC} (h : rG p = 0) (conn : Int) : aHh p conn = some (atH p conn) ∧ sG p conn = some (atH p conn) := by
 obtain ⟨h1, h2, h3, h4, h5⟩ := aab h
 have hw := ahn h5
 constructor
 ·unfold aHh zR
  rw [wU (by omega), bB, aT (by simp; omega), bB, if_neg (by omega)]; rfl
 ·unfold sG vO
  rw [aT (by simp; omega), aT (by simp; omega)]; rfl
theorem aza {p : aC} (g : p.good) (h : rG p = 0) {conn : Int} (hc : okI .i64 conn) : SOK (atH p conn) := by
 obtain ⟨h1, h2, h3, h4, h5⟩ := aab h
 obtain ⟨_, _, _, g4, g5, _, g7, g8, g9, _⟩ := g
 have z : okI .i64 0 := abD (by decide) (by decide)
 have nl : ∀ {α : Type} (P : α → Prop), okL P [] := fun P => ⟨by simp, by simp⟩
 refine ⟨⟨g4, g5, hc, g7, z, z, nl _, nl _, ⟨g8, nl _, nl _, z⟩, nl _, g9⟩, wB.2 ⟨h1, h2, rfl, h3, ?_, ?_⟩, rfl, Nat.zero_le _, ?_, ⟨⟨g8, nl _, nl _, z⟩, ?_, ?_, rfl, Nat.zero_le _, Nat.le_refl _, ?_, List.Pairwise.nil, ?_⟩, rfl, h5⟩
 ·exact ⟨Int.le_refl _, by show (0 : Int) ≤ _; decide⟩
 ·exact ⟨Int.le_refl _, by show (0 : Int) ≤ _; decide⟩
 ·intro m hm; cases hm
 ·show 0 ≤ p.Window; omega
 ·exact h4.2
 ·intro m hm; cases hm
 ·intro m hm; cases hm
def mD (f : aD) : aC := cond (f.State == 2) (yX f.ID) (aev f.ID true f.Message)
def ari (w : aI) (n : Int) : aI := aI.mk n w.Items w.Pool
def au0 (s : aB) (p : aC) (conn : Int) : aB := aB.mk s.Client p.User true conn p.Expiry 0 s.Dropped s.Subs s.Queue (ari s.Out p.Window) s.In p.Will
end Md
end PX
