import Derived.Test.YtahbfpamckocmaaGreatDoorSessW
set_option linter.unusedVariables false
set_option linter.unusedSimpArgs false
namespace PX
open Go
namespace Md
structure SOK (s : aC) : Prop where
 g : s.good
 head : headE s = 0
 subs : subsE s.Subs = 0
 qlen : s.Queue.length ≤ 256
 q : ∀ m ∈ s.Queue, okT m
 win : WOK s.Out
 inb : checkI s.In.IDs = 0
 will : willE s.Will = 0
theorem agq {α : Type} {f : α → Int} : ∀ {l : List α}, (∀ x ∈ l, f x = 0) → oC f l = 0
 | [], _ => rfl
 | x :: r, h => by rw [oC, h x (by simp), aM (by rfl)]; exact agq fun y hy => h y (by simp [hy])
theorem SOK.check {s : aC} (h : SOK s) : jG s = 0 := by
 unfold jG
 refine agq ?_
 have hq : wP s.Queue = 0 := by
  have := h.qlen
  unfold wP
  rw [aN (by simp; omega)]
  exact agq fun m hm => (h.q m hm).1
 intro x hx
 simp only [List.mem_cons, List.not_mem_nil, or_false] at hx
 rcases hx with rfl | rfl | rfl | rfl | rfl | rfl
 ·exact h.head
 ·exact h.subs
 ·exact hq
 ·exact h.win.zero
 ·exact h.inb
 ·exact h.will
theorem SOK.abk {s : aC} (h : SOK s) : rH s := aqh h.check
theorem tJ {a b x : Int} : eL a b x = true ↔ a ≤ x ∧ x ≤ b := by unfold eL; simp
theorem oM {s : aC} : headE s = 0 ↔ fE s.Client = true ∧ (s.User == [] || fE s.User) = true ∧ ahH s = false ∧ (0 ≤ s.Expiry ∧ s.Expiry ≤ 1099511627776) ∧ (0 ≤ s.Until ∧ s.Until ≤ 1099511627776) ∧ (0 ≤ s.Dropped ∧ s.Dropped ≤ 1099511627776) := by
 rw [← tJ, ← tJ, ← tJ]
 unfold headE
 cases fE s.Client <;> cases (s.User == [] || fE s.User) <;> cases ahH s <;> cases eL 0 1099511627776 s.Expiry <;> cases eL 0 1099511627776 s.Until <;> cases eL 0 1099511627776 s.Dropped <;> simp
theorem head_drop {s : aC} (h : headE s = 0) {n : Int} (h0 : 0 ≤ n) (h1 : n ≤ 1099511627776) : headE (pY s n) = 0 := by
 obtain ⟨a1, a2, a3, a4, a5, a6⟩ := oM.1 h
 have e : IntKind.wrap .i64 (s.Dropped + n) = s.Dropped + n := by rw [IntKind.wrap_i64]; omega
 refine oM.2 ⟨a1, a2, a3, a4, a5, ?_⟩
 show 0 ≤ (if 1099511627776 < IntKind.wrap .i64 (s.Dropped + n) then 1099511627776 else IntKind.wrap .i64 (s.Dropped + n)) ∧ (if 1099511627776 < IntKind.wrap .i64 (s.Dropped + n) then 1099511627776 else IntKind.wrap .i64 (s.Dropped + n)) ≤ 1099511627776
 rw [e]
 split <;> omega
def anA : aC := aC.mk ([] : Str) ([] : Str) false 0 0 0 0 ([] : List aG) ([] : List aA) (aH.mk 0 ([] : List aB) (aQ.mk ([] : List Int) 0)) (bG.mk ([] : List Int)) (aV.mk false 0 (aA.mk ([] : Str) ([] : Str) 0 false 0 0 ([] : Str) 0 ([] : List aD)))
def rG (s : aC) (q : List aA) : aC := aC.mk s.Client s.User s.Online s.Conn s.Expiry s.Until s.Dropped s.Subs q s.Out s.In s.Will
def zP (s : aC) (w : aH) : aC := aC.mk s.Client s.User s.Online s.Conn s.Expiry s.Until s.Dropped s.Subs s.Queue w s.In s.Will
theorem SOK.queue {s : aC} (h : SOK s) {q : List aA} (hl : q.length ≤ 256) (hq : ∀ m ∈ q, okT m) : SOK (rG s q) := ⟨⟨h.g.1, h.g.2.1, h.g.2.2.1, h.g.2.2.2.1, h.g.2.2.2.2.1, h.g.2.2.2.2.2.1, h.g.2.2.2.2.2.2.1, ⟨by show q.length ≤ _; omega, fun m hm => (hq m hm).2⟩, h.g.2.2.2.2.2.2.2.2⟩, h.head, h.subs, hl, hq, h.win, h.inb, h.will⟩
theorem SOK.out {s : aC} (h : SOK s) {w : aH} (hw : WOK w) : SOK (zP s w) := ⟨⟨h.g.1, h.g.2.1, h.g.2.2.1, h.g.2.2.2.1, h.g.2.2.2.2.1, h.g.2.2.2.2.2.1, h.g.2.2.2.2.2.2.1, h.g.2.2.2.2.2.2.2.1, hw.g, h.g.2.2.2.2.2.2.2.2.2⟩, h.head, h.subs, h.qlen, h.q, hw, h.inb, h.will⟩
theorem SOK.drop {s : aC} (h : SOK s) {n : Int} (h0 : 0 ≤ n) (h1 : n ≤ 1099511627776) : SOK (pY s n) := ⟨⟨h.g.1, h.g.2.1, h.g.2.2.1, h.g.2.2.2.1, h.g.2.2.2.2.1, by have q := (oM.1 (head_drop h.head h0 h1)).2.2.2.2.2; exact kD (by omega) (by omega), h.g.2.2.2.2.2.2⟩, head_drop h.head h0 h1, h.subs, h.qlen, h.q, h.win, h.inb, h.will⟩
def pOK (p : aF) : Prop := p.Message.Props.length ≤ 1000 ∧ p.Will.Message.Props.length ≤ 1000 ∧ p.Subs = [] ∧ p.Filters = [] ∧ p.Codes = []
theorem aru (s : aC) (now : Int) (pre : List aF) : ∃ z, kP s now pre = fC fuel now s z pre := ⟨_, rfl⟩
theorem SOK.apb {s : aC} (h : SOK s) : hJ s = some 0 := by rw [vA s h.g, h.check]
end Md
end PX
