import Derived.Test.YtojlmojebnlmdaaGreatDoorSessH
set_option linter.unusedVariables false
set_option linter.unusedSimpArgs false
namespace PX
open Go
namespace Md
theorem wK {p : aC} (h : lR p = 0) : j3 p.Client = true ∧ (p.User == [] || j3 p.User) = true ∧ (0 ≤ p.Expiry ∧ p.Expiry ≤ 1099511627776) ∧ (1 ≤ p.Window ∧ p.Window ≤ 32) ∧ willE p.Will = 0 := by
 have key : ait p = 0 → (0 ≤ p.Expiry ∧ p.Expiry ≤ 1099511627776) ∧ (1 ≤ p.Window ∧ p.Window ≤ 32) ∧ willE p.Will = 0 := fun h => by
  rw [← tT, ← tT]
  unfold ait at h
  have h := cz1 h (by decide)
  have h1 : dF 0 1099511627776 p.Expiry = true := by
   cases e : dF 0 1099511627776 p.Expiry with
   | true => rfl
   | false => rw [e] at h; cases h
  have h := cz1 h (by decide)
  have h2 : dF 1 32 p.Window = true := by
   cases e : dF 1 32 p.Window with
   | true => rfl
   | false => rw [e] at h; cases h
  exact ⟨h1, h2, cz1 h (by decide)⟩
 unfold lR at h
 cases e1 : j3 p.Client with
 | false => rw [e1] at h; cases h
 | true =>
  rw [e1, cA] at h
  cases e2 : p.User == [] with
  | true => rw [e2, cA] at h; exact ⟨rfl, rfl, key h⟩
  | false =>
   rw [e2, cS] at h
   cases e3 : j3 p.User with
   | false => rw [e3] at h; cases h
   | true => rw [e3, cA] at h; exact ⟨rfl, rfl, key h⟩
def ajD (p : aC) (conn : Int) : aB := aB.mk p.Client p.User true conn p.Expiry 0 0 ([] : List aF) ([] : List aA) (aI.mk p.Window ([] : List aD) (aN.mk ([] : List Int) 0)) (bE.mk ([] : List Int)) p.Will
theorem azT {p : aC} (h : lR p = 0) (conn : Int) : p7 p conn = some (ajD p conn) ∧ rW p conn = some (ajD p conn) := by
 obtain ⟨h1, h2, h3, h4, h5⟩ := wK h
 have hw := adL h5
 constructor
 ·unfold p7 aax
  rw [sJ (by omega), bD, aU (by simp; omega), bD, if_neg (by omega)]; rfl
 ·unfold rW vV
  rw [aU (by simp; omega), aU (by simp; omega)]; rfl
theorem azA {p : aC} (g : p.good) (h : lR p = 0) {conn : Int} (hc : okI .i64 conn) : SOK (ajD p conn) := by
 obtain ⟨h1, h2, h3, h4, h5⟩ := wK h
 obtain ⟨_, _, _, g4, g5, _, g7, g8, g9, _⟩ := g
 have z : okI .i64 0 := nB (by decide) (by decide)
 have nl : ∀ {α : Type} (P : α → Prop), okL P [] := fun P => ⟨by simp, by simp⟩
 refine ⟨⟨g4, g5, hc, g7, z, z, nl _, nl _, ⟨g8, nl _, nl _, z⟩, nl _, g9⟩, lW.2 ⟨h1, h2, rfl, h3, ?_, ?_⟩, rfl, Nat.zero_le _, ?_, ⟨⟨g8, nl _, nl _, z⟩, ?_, ?_, rfl, Nat.zero_le _, Nat.le_refl _, ?_, List.Pairwise.nil, ?_⟩, rfl, h5⟩
 ·exact ⟨Int.le_refl _, by show (0 : Int) ≤ _; decide⟩
 ·exact ⟨Int.le_refl _, by show (0 : Int) ≤ _; decide⟩
 ·intro m hm; cases hm
 ·show 0 ≤ p.Window; omega
 ·exact h4.2
 ·intro m hm; cases hm
 ·intro m hm; cases hm
def hX (f : aD) : aC := cond (f.State == 2) (vG f.ID) (yY f.ID true f.Message)
theorem alZ (w : aI) (h : ari w) : lP w = some (w.Items.map hX) := by
 obtain ⟨h1, h2, h3⟩ := h
 unfold lP
 have := rY (l := w.Items) (F := fun fu i (a : List aC) => gU fu (w.Items.length : Int) i w a) (g := fun l a => some (a ++ l.map hX)) (fun i a => a.length ≤ i)
  (fun fu a _ => by rw [gU, aU (by simp)]; simp)
  (fun fu i a hi ha ih => by
   have hm := h2 _ (List.getElem_mem hi)
   rw [gU, aO (eA hi), aO (inr hi), bV hi, bN (by omega)]
   unfold nK
   rw [acf hm]
   simp only [bD, ad2]
   cases e : w.Items[i].State == 2 with
   | true =>
    have : hX w.Items[i] = vG w.Items[i].ID := by unfold hX; rw [e]; rfl
    rw [cA, aO (by simp; omega), ih _ (by simp; omega), List.map_cons, this]; simp
   | false =>
    have : hX w.Items[i] = yY w.Items[i].ID true w.Items[i].Message := by unfold hX; rw [e]; rfl
    rw [cS, aO (by simp; omega), ih _ (by simp; omega), List.map_cons, this]; simp [yY]) (by omega) [] (Nat.le_refl _)
 simpa using this
def amV (w : aI) (n : Int) : aI := aI.mk n w.Items w.Pool
def avx (s : aB) (p : aC) (conn : Int) : aB := aB.mk s.Client p.User true conn p.Expiry 0 s.Dropped s.Subs s.Queue (amV s.Out p.Window) s.In p.Will
theorem ap3 {s : aB} (h : SOK s) {p : aC} (g : p.good) (hc : lR p = 0) {conn : Int} (hi : okI .i64 conn) : SOK (avx s p conn) := by
 obtain ⟨h1, h2, h3, h4, h5⟩ := wK hc
 obtain ⟨_, _, _, g4, g5, _, g7, g8, g9, _⟩ := g
 obtain ⟨a1, _, _, _, _, a6⟩ := lW.1 h.head
 have z : okI .i64 0 := nB (by decide) (by decide)
 have w := h.win
 refine ⟨⟨h.g.1, g5, hi, g7, z, h.g.2.2.2.2.2.1, h.g.2.2.2.2.2.2.1, h.g.2.2.2.2.2.2.2.1, ⟨g8, w.g.2⟩, h.g.2.2.2.2.2.2.2.2.2.1, g9⟩, lW.2 ⟨a1, h2, rfl, h3, ?_, a6⟩, h.subs, h.qlen, h.q, ⟨⟨g8, w.g.2⟩, ?_, h4.2, w.pool, w.len, w.used, w.mem, w.nodup, w.ok⟩, h.inb, h5⟩
 ·exact ⟨Int.le_refl _, by show (0 : Int) ≤ _; decide⟩
 ·show 0 ≤ p.Window; omega
theorem ap1 {s : aB} (h : SOK s) {now : Int} (hn : 0 ≤ now ∧ now ≤ 1099511627776) : SOK (acb s now) := by
 obtain ⟨a1, a2, a3, a4, a5, a6⟩ := lW.1 h.head
 have hq := h.qlen
 have hf := List.length_filter_le lv s.Queue
 have z : okI .i64 0 := nB (by decide) (by decide)
 have e : IntKind.wrap .i64 ((s.Queue.length : Int) - ((s.Queue.filter lv).length : Int)) = (s.Queue.length : Int) - ((s.Queue.filter lv).length : Int) := by rw [IntKind.wrap_i64]; omega
 have e2 : IntKind.wrap .i64 (now + s.Expiry) = now + s.Expiry := by rw [IntKind.wrap_i64]; omega
 unfold acb
 rw [e, e2]
 have hu : 0 ≤ (if 1099511627776 < now + s.Expiry then (1099511627776 : Int) else now + s.Expiry) ∧ (if 1099511627776 < now + s.Expiry then (1099511627776 : Int) else now + s.Expiry) ≤ 1099511627776 := by split <;> omega
 refine SOK.drop ?_ (by omega) (by omega)
 have gu : okI .i64 (if 1099511627776 < now + s.Expiry then (1099511627776 : Int) else now + s.Expiry) := nB (by omega) (by omega)
 refine ⟨⟨h.g.1, h.g.2.1, z, h.g.2.2.2.1, gu, h.g.2.2.2.2.2.1, h.g.2.2.2.2.2.2.1, ⟨by show (List.filter _ _).length ≤ _; omega, fun m hm => (h.q m (List.mem_filter.1 hm).1).2⟩, h.g.2.2.2.2.2.2.2.2⟩, lW.2 ⟨a1, a2, rfl, a4, hu, a6⟩, h.subs, by show (List.filter _ _).length ≤ _; omega, fun m hm => h.q m (List.mem_filter.1 hm).1, h.win, h.inb, h.will⟩
end Md
end PX
