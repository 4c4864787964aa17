import Derived.Test.YtojlmojebnlmdaaGreatDoorSessW
set_option linter.unusedVariables false
set_option linter.unusedSimpArgs false
namespace PX
open Go
namespace Md
structure SOK (s : aB) : Prop where
 g : s.good
 head : headE s = 0
 subs : subsE s.Subs = 0
 qlen : s.Queue.length ≤ 256
 q : ∀ m ∈ s.Queue, okT m
 win : WOK s.Out
 inb : checkI s.In.IDs = 0
 will : willE s.Will = 0
theorem ajE {α : Type} {f : α → Int} : ∀ {l : List α}, (∀ x ∈ l, f x = 0) → eB f l = 0
 | [], _ => rfl
 | x :: r, h => by rw [eB, h x (by simp), aO (by rfl)]; exact ajE fun y hy => h y (by simp [hy])
theorem SOK.check {s : aB} (h : SOK s) : tI s = 0 := by
 unfold tI
 refine ajE ?_
 have hq : wQ s.Queue = 0 := by
  have := h.qlen
  unfold wQ
  rw [aU (by simp; omega)]
  exact ajE fun m hm => (h.q m hm).1
 intro x hx
 simp only [List.mem_cons, List.not_mem_nil, or_false] at hx
 rcases hx with rfl | rfl | rfl | rfl | rfl | rfl
 ·exact h.head
 ·exact h.subs
 ·exact hq
 ·exact h.win.zero
 ·exact h.inb
 ·exact h.will
theorem SOK.wX {s : aB} (h : SOK s) : rK s := anm h.check
theorem tT {a b x : Int} : dF a b x = true ↔ a ≤ x ∧ x ≤ b := by unfold dF; simp
theorem lW {s : aB} : headE s = 0 ↔ j3 s.Client = true ∧ (s.User == [] || j3 s.User) = true ∧ ahD s = false ∧ (0 ≤ s.Expiry ∧ s.Expiry ≤ 1099511627776) ∧ (0 ≤ s.Until ∧ s.Until ≤ 1099511627776) ∧ (0 ≤ s.Dropped ∧ s.Dropped ≤ 1099511627776) := by
 rw [← tT, ← tT, ← tT]
 unfold headE
 cases j3 s.Client <;> cases (s.User == [] || j3 s.User) <;> cases ahD s <;> cases dF 0 1099511627776 s.Expiry <;> cases dF 0 1099511627776 s.Until <;> cases dF 0 1099511627776 s.Dropped <;> simp
theorem head_drop {s : aB} (h : headE s = 0) {n : Int} (h0 : 0 ≤ n) (h1 : n ≤ 1099511627776) : headE (nV s n) = 0 := by
 obtain ⟨a1, a2, a3, a4, a5, a6⟩ := lW.1 h
 have e : IntKind.wrap .i64 (s.Dropped + n) = s.Dropped + n := by rw [IntKind.wrap_i64]; omega
 refine lW.2 ⟨a1, a2, a3, a4, a5, ?_⟩
 show 0 ≤ (if 1099511627776 < IntKind.wrap .i64 (s.Dropped + n) then 1099511627776 else IntKind.wrap .i64 (s.Dropped + n)) ∧ (if 1099511627776 < IntKind.wrap .i64 (s.Dropped + n) then 1099511627776 else IntKind.wrap .i64 (s.Dropped + n)) ≤ 1099511627776
 rw [e]
 split <;> omega
def am7 : aB := aB.mk ([] : Str) ([] : Str) false 0 0 0 0 ([] : List aF) ([] : List aA) (aI.mk 0 ([] : List aD) (aN.mk ([] : List Int) 0)) (bE.mk ([] : List Int)) (aT.mk false 0 (aA.mk ([] : Str) ([] : Str) 0 false 0 0 ([] : Str) 0 ([] : List aG)))
def tA (s : aB) (q : List aA) : aB := aB.mk s.Client s.User s.Online s.Conn s.Expiry s.Until s.Dropped s.Subs q s.Out s.In s.Will
def yQ (s : aB) (w : aI) : aB := aB.mk s.Client s.User s.Online s.Conn s.Expiry s.Until s.Dropped s.Subs s.Queue w s.In s.Will
theorem SOK.queue {s : aB} (h : SOK s) {q : List aA} (hl : q.length ≤ 256) (hq : ∀ m ∈ q, okT m) : SOK (tA s q) := ⟨⟨h.g.1, h.g.2.1, h.g.2.2.1, h.g.2.2.2.1, h.g.2.2.2.2.1, h.g.2.2.2.2.2.1, h.g.2.2.2.2.2.2.1, ⟨by show q.length ≤ _; omega, fun m hm => (hq m hm).2⟩, h.g.2.2.2.2.2.2.2.2⟩, h.head, h.subs, hl, hq, h.win, h.inb, h.will⟩
theorem SOK.out {s : aB} (h : SOK s) {w : aI} (hw : WOK w) : SOK (yQ s w) := ⟨⟨h.g.1, h.g.2.1, h.g.2.2.1, h.g.2.2.2.1, h.g.2.2.2.2.1, h.g.2.2.2.2.2.1, h.g.2.2.2.2.2.2.1, h.g.2.2.2.2.2.2.2.1, hw.g, h.g.2.2.2.2.2.2.2.2.2⟩, h.head, h.subs, h.qlen, h.q, hw, h.inb, h.will⟩
theorem SOK.drop {s : aB} (h : SOK s) {n : Int} (h0 : 0 ≤ n) (h1 : n ≤ 1099511627776) : SOK (nV s n) := ⟨⟨h.g.1, h.g.2.1, h.g.2.2.1, h.g.2.2.2.1, h.g.2.2.2.2.1, by have q := (lW.1 (head_drop h.head h0 h1)).2.2.2.2.2; exact nB (by omega) (by omega), h.g.2.2.2.2.2.2⟩, head_drop h.head h0 h1, h.subs, h.qlen, h.q, h.win, h.inb, h.will⟩
def pOK (p : aC) : Prop := p.Message.Props.length ≤ 1000 ∧ p.Will.Message.Props.length ≤ 1000 ∧ p.Subs = [] ∧ p.Filters = [] ∧ p.Codes = []
theorem ao6 {id : Int} {dup : Bool} {m : aA} (h : m.Props.length ≤ 1000) : pOK (yY id dup m) := ⟨h, Nat.zero_le _, rfl, rfl, rfl⟩
theorem alX (now : Int) (pre : List aC) (hpre : pre.length ≤ 1000) : ∀ (q : List aA) (s z z' : aB) (acc : List aC) (f1 f2 : Nat), s.Queue = q → q.length < f1 → q.length < f2 → SOK s → (∀ p ∈ acc, pOK p) → acc.length + q.length ≤ 1000 →
  ∃ r, eE f1 now s z (pre ++ acc) = some (r.1, pre ++ r.2) ∧ eF f2 now s z' acc = some r ∧ SOK r.1 ∧ (∀ p ∈ r.2, pOK p) ∧ r.2.length ≤ 1000 := by
 intro q
 induction q with
 | nil =>
  intro s z z' acc f1 f2 hq h1 h2 hs ha hl
  obtain ⟨f1, rfl⟩ : ∃ n, f1 = n + 1 := ⟨f1 - 1, by omega⟩
  obtain ⟨f2, rfl⟩ : ∃ n, f2 = n + 1 := ⟨f2 - 1, by omega⟩
  refine ⟨(s, acc), ?_, ?_, hs, ha, by simpa using hl⟩
  ·rw [eE, hq]; rfl
  ·rw [eF, hq]; rfl
 | cons m t ih =>
  intro s z z' acc f1 f2 hq h1 h2 hs ha hl
  obtain ⟨f1, rfl⟩ : ∃ n, f1 = n + 1 := ⟨f1 - 1, by simp at h1; omega⟩
  obtain ⟨f2, rfl⟩ : ∃ n, f2 = n + 1 := ⟨f2 - 1, by simp at h2; omega⟩
  simp only [List.length_cons] at h1 h2 hl
  have hql := hs.qlen
  rw [hq] at hql
  simp only [List.length_cons] at hql
  have hm : okT m := hs.q m (by rw [hq]; simp)
  have ht : ∀ x ∈ t, okT x := fun x hx => hs.q x (by rw [hq]; simp [hx])
  have hp := l5 hm.1
  have hc : bQ (m :: t) (some 1) none = t := by simp [bQ]
  have hc0 : (decide (((m :: t).length : Int) > 0)) = true := by simp
  have hc1 : decide (0 ≤ 0) = true := rfl
  have hc2 : decide (0 ≤ 1) = true := rfl
  have hc3 : decide ((1 : Int) ≤ ((m :: t).length : Int)) = true := by simp; omega
  have hg : List.getD (m :: t) (Int.toNat 0) default = m := rfl
  rw [eE, eF, hq, hg, agw, alF]
  simp only [hc0, hc1, hc2, hc3, Bool.and_self, cA, bD, drop_eq, aen]
  have hd : (nV s 1).Queue = m :: t := hq
  rw [hd, hc]
  simp only [hc1, hc2, hc3, Bool.and_self, cA]
  cases hlv : !live now m with
  | true =>
   simp only [cA]
   exact ih (tA (nV s 1) t) z z' acc f1 f2 rfl (by omega) (by omega) ((hs.drop (by omega) (by omega)).queue (by omega) ht) ha (by omega)
  | false =>
   simp only [cS]
   by_cases hv : m.Level = 0
   ·have hv' : (m.Level == 0) = true := by simpa using hv
    simp only [hv', cA]
    rw [sJ (by omega), bD, aO (by simp; omega), aO (by simp; omega)]
    have := ih (tA s t) z z' (acc ++ [yY 0 false m]) f1 f2 rfl (by omega) (by omega) (hs.queue (by omega) ht) (fun p hp' => by
     rcases List.mem_append.1 hp' with h | h
     ·exact ha p h
     ·rw [List.mem_singleton] at h; rw [h]; exact ao6 (by omega)) (by simp; omega)
    rw [← List.append_assoc] at this
    exact this
   ·have hv' : (m.Level == 0) = false := by simpa using hv
    simp only [hv', cS]
    by_cases c : s.Out.Limit ≤ s.Out.Items.length
    ·refine ⟨(s, acc), ?_, ?_, hs, ha, by show acc.length ≤ 1000; omega⟩
     ·unfold nL
      rw [aU (by simpa using hv), (acn hs.win).1, if_pos c]; rfl
     ·rw [(acn hs.win).2, if_pos c]; rfl
    ·obtain ⟨x, x0, x1, x2, e1, e2⟩ := start_eq hs.win (by omega) hm hv
     have hz : (s.Out.Limit - (s.Out.Items.length : Int) == 0) = false := by simp; omega
     rw [e1, e2, (acn hs.win).2, if_neg c]
     simp only [bD, hz, cS]
     rw [aU (by rfl), aO (by simp; omega), aO (by simp; omega)]
     have := ih (tA (yQ s (begun s.Out m x)) t) z z' (acc ++ [yY x false m]) f1 f2 rfl (by omega) (by omega) ((hs.out (anI hs.win (by omega) hm hv x0 x1 x2)).queue (by omega) ht) (fun p hp' => by
      rcases List.mem_append.1 hp' with h | h
      ·exact ha p h
      ·rw [List.mem_singleton] at h; rw [h]; exact ao6 (by omega)) (by simp; omega)
     rw [← List.append_assoc] at this
     exact this
theorem alb (s : aB) (now : Int) (pre : List aC) : ∃ z, hR s now pre = eE fuel now s z pre := ⟨_, rfl⟩
theorem aoX (s : aB) (now : Int) : ∃ z, gX s now = cond (!s.Online) (some (s, [])) (eF fuel now s z []) := ⟨_, rfl⟩
theorem alx (s : aB) (now : Int) (h : SOK s) (pre : List aC) (hpre : pre.length ≤ 1000) : ∃ r, (s.Online = true → hR s now pre = some (r.1, pre ++ r.2)) ∧ lZ s now = some r ∧ gX s now = some r ∧ SOK r.1 ∧ (∀ p ∈ r.2, pOK p) ∧ r.2.length ≤ 1000 ∧ (s.Online = false → r = (s, [])) := by
 obtain ⟨z, hz⟩ := aoX s now
 unfold lZ
 rw [uA s h.wX, hz]
 simp only [bD]
 have hq := h.qlen
 cases ho : s.Online with
 | false => exact ⟨(s, []), by simp, rfl, rfl, h, by simp, by simp, fun _ => rfl⟩
 | true =>
  obtain ⟨z1, h1⟩ := alb s now pre
  obtain ⟨z2, h2⟩ := alb s now []
  have hf : s.Queue.length < fuel := by rw [fX]; omega
  rw [h1, h2]
  generalize fuel = fu at hf
  obtain ⟨r, e1, e2, r1, r2, r3⟩ := alX now pre hpre s.Queue s z1 z [] fu fu rfl hf hf h (by simp) (by simp; omega)
  obtain ⟨r', e1', e2', _⟩ := alX now [] (by simp) s.Queue s z2 z [] fu fu rfl hf hf h (by simp) (by simp; omega)
  obtain rfl : r = r' := by rw [e2] at e2'; exact Option.some.inj e2'
  rw [List.append_nil] at e1 e1'
  rw [List.nil_append] at e1'
  refine ⟨r, fun _ => e1, ?_, e2, r1, r2, r3, by simp⟩
  simp only [Bool.not_true, cS]
  rw [e1']; rfl
theorem SOK.ajf {s : aB} (h : SOK s) : hY s = some 0 := by rw [ajv s h.g, h.check]
end Md
end PX
