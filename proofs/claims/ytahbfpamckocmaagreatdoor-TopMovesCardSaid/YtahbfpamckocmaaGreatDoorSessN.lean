import Derived.Test.YtahbfpamckocmaaGreatDoorSessH
set_option linter.unusedVariables false
set_option linter.unusedSimpArgs false
namespace PX
open Go
namespace Md
theorem wK {p : aF} (h : oJ p = 0) : fE p.Client = true ∧ (p.User == [] || fE p.User) = true ∧ (0 ≤ p.Expiry ∧ p.Expiry ≤ 1099511627776) ∧ (1 ≤ p.Window ∧ p.Window ≤ 32) ∧ willE p.Will = 0 := by
 have key : afm p = 0 → (0 ≤ p.Expiry ∧ p.Expiry ≤ 1099511627776) ∧ (1 ≤ p.Window ∧ p.Window ≤ 32) ∧ willE p.Will = 0 := fun h => by
  rw [← tJ, ← tJ]
  unfold afm at h
  have h := cz1 h (by decide)
  have h1 : eL 0 1099511627776 p.Expiry = true := by
   cases e : eL 0 1099511627776 p.Expiry with
   | true => rfl
   | false => rw [e] at h; cases h
  have h := cz1 h (by decide)
  have h2 : eL 1 32 p.Window = true := by
   cases e : eL 1 32 p.Window with
   | true => rfl
   | false => rw [e] at h; cases h
  exact ⟨h1, h2, cz1 h (by decide)⟩
 unfold oJ at h
 cases e1 : fE p.Client with
 | false => rw [e1] at h; cases h
 | true =>
  rw [e1, cS] at h
  cases e2 : p.User == [] with
  | true => rw [e2, cS] at h; exact ⟨rfl, rfl, key h⟩
  | false =>
   rw [e2, dL] at h
   cases e3 : fE p.User with
   | false => rw [e3] at h; cases h
   | true => rw [e3, cS] at h; exact ⟨rfl, rfl, key h⟩
def apy (p : aF) (conn : Int) : aC := aC.mk p.Client p.User true conn p.Expiry 0 0 ([] : List aG) ([] : List aA) (aH.mk p.Window ([] : List aB) (aQ.mk ([] : List Int) 0)) (bG.mk ([] : List Int)) p.Will
theorem ar5 {p : aF} (g : p.good) (h : oJ p = 0) {conn : Int} (hc : okI .i64 conn) : SOK (apy p conn) := by
 obtain ⟨h1, h2, h3, h4, h5⟩ := wK h
 obtain ⟨_, _, _, g4, g5, _, g7, g8, g9, _⟩ := g
 have z : okI .i64 0 := kD (by decide) (by decide)
 have nl : ∀ {α : Type} (P : α → Prop), okL P [] := fun P => ⟨by simp, by simp⟩
 refine ⟨⟨g4, g5, hc, g7, z, z, nl _, nl _, ⟨g8, nl _, nl _, z⟩, nl _, g9⟩, oM.2 ⟨h1, h2, rfl, h3, ?_, ?_⟩, rfl, Nat.zero_le _, ?_, ⟨⟨g8, nl _, nl _, z⟩, ?_, ?_, rfl, Nat.zero_le _, Nat.le_refl _, ?_, List.Pairwise.nil, ?_⟩, rfl, h5⟩
 ·exact ⟨Int.le_refl _, by show (0 : Int) ≤ _; decide⟩
 ·exact ⟨Int.le_refl _, by show (0 : Int) ≤ _; decide⟩
 ·intro m hm; cases hm
 ·show 0 ≤ p.Window; omega
 ·exact h4.2
 ·intro m hm; cases hm
 ·intro m hm; cases hm
def qH (f : aB) : aF := cond (f.State == 2) (aat f.ID) (aeK f.ID true f.Message)
theorem anZ (w : aH) (h : apV w) : m5 w = some (w.Items.map qH) := by
 obtain ⟨h1, h2, h3⟩ := h
 unfold m5
 have := tO (l := w.Items) (F := fun fu i (a : List aF) => gV fu (w.Items.length : Int) i w a) (g := fun l a => some (a ++ l.map qH)) (fun i a => a.length ≤ i)
  (fun fu a _ => by rw [gV, aN (by simp)]; simp)
  (fun fu i a hi ha ih => by
   have hm := h2 _ (List.getElem_mem hi)
   rw [gV, aM (lL hi), aM (inr hi), dV hi, cG (by omega)]
   unfold lV
   rw [zY hm]
   simp only [aU, ad3]
   cases e : w.Items[i].State == 2 with
   | true =>
    have : qH w.Items[i] = aat w.Items[i].ID := by unfold qH; rw [e]; rfl
    rw [cS, aM (by simp; omega), ih _ (by simp; omega), List.map_cons, this]; simp
   | false =>
    have : qH w.Items[i] = aeK w.Items[i].ID true w.Items[i].Message := by unfold qH; rw [e]; rfl
    rw [dL, aM (by simp; omega), ih _ (by simp; omega), List.map_cons, this]; simp [aeK]) (by omega) [] (Nat.le_refl _)
 simpa using this
def aqW (w : aH) (n : Int) : aH := aH.mk n w.Items w.Pool
def ana (s : aC) (p : aF) (conn : Int) : aC := aC.mk s.Client p.User true conn p.Expiry 0 s.Dropped s.Subs s.Queue (aqW s.Out p.Window) s.In p.Will
theorem arB {s : aC} (h : SOK s) {p : aF} (g : p.good) (hc : oJ p = 0) {conn : Int} (hi : okI .i64 conn) : SOK (ana s p conn) := by
 obtain ⟨h1, h2, h3, h4, h5⟩ := wK hc
 obtain ⟨_, _, _, g4, g5, _, g7, g8, g9, _⟩ := g
 obtain ⟨a1, _, _, _, _, a6⟩ := oM.1 h.head
 have z : okI .i64 0 := kD (by decide) (by decide)
 have w := h.win
 refine ⟨⟨h.g.1, g5, hi, g7, z, h.g.2.2.2.2.2.1, h.g.2.2.2.2.2.2.1, h.g.2.2.2.2.2.2.2.1, ⟨g8, w.g.2⟩, h.g.2.2.2.2.2.2.2.2.2.1, g9⟩, oM.2 ⟨a1, h2, rfl, h3, ?_, a6⟩, h.subs, h.qlen, h.q, ⟨⟨g8, w.g.2⟩, ?_, h4.2, w.pool, w.len, w.used, w.mem, w.nodup, w.ok⟩, h.inb, h5⟩
 ·exact ⟨Int.le_refl _, by show (0 : Int) ≤ _; decide⟩
 ·show 0 ≤ p.Window; omega
theorem are {s : aC} (h : SOK s) {now : Int} (hn : 0 ≤ now ∧ now ≤ 1099511627776) : SOK (fV s now) := by
 obtain ⟨a1, a2, a3, a4, a5, a6⟩ := oM.1 h.head
 have hq := h.qlen
 have hf := List.length_filter_le lv s.Queue
 have z : okI .i64 0 := kD (by decide) (by decide)
 have e : IntKind.wrap .i64 ((s.Queue.length : Int) - ((s.Queue.filter lv).length : Int)) = (s.Queue.length : Int) - ((s.Queue.filter lv).length : Int) := by rw [IntKind.wrap_i64]; omega
 have e2 : IntKind.wrap .i64 (now + s.Expiry) = now + s.Expiry := by rw [IntKind.wrap_i64]; omega
 unfold fV
 rw [e, e2]
 have hu : 0 ≤ (if 1099511627776 < now + s.Expiry then (1099511627776 : Int) else now + s.Expiry) ∧ (if 1099511627776 < now + s.Expiry then (1099511627776 : Int) else now + s.Expiry) ≤ 1099511627776 := by split <;> omega
 refine SOK.drop ?_ (by omega) (by omega)
 have gu : okI .i64 (if 1099511627776 < now + s.Expiry then (1099511627776 : Int) else now + s.Expiry) := kD (by omega) (by omega)
 refine ⟨⟨h.g.1, h.g.2.1, z, h.g.2.2.2.1, gu, h.g.2.2.2.2.2.1, h.g.2.2.2.2.2.2.1, ⟨by show (List.filter _ _).length ≤ _; omega, fun m hm => (h.q m (List.mem_filter.1 hm).1).2⟩, h.g.2.2.2.2.2.2.2.2⟩, oM.2 ⟨a1, a2, rfl, a4, hu, a6⟩, h.subs, by show (List.filter _ _).length ≤ _; omega, fun m hm => h.q m (List.mem_filter.1 hm).1, h.win, h.inb, h.will⟩
end Md
end PX
