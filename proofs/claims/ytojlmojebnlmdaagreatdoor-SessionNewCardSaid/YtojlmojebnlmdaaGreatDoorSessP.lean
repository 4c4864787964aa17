import Derived.Test.YtojlmojebnlmdaaGreatDoorSessW
set_option linter.unusedVariables false
set_option linter.unusedSimpArgs false
namespace PX
open Go
namespace Md
structure SOK (s : aB) : Prop where
 g : s.good
 head : headE s = 0
 subs : subsE s.Subs = 0
 qlen : s.Queue.length ≤ 256
 q : ∀ m ∈ s.Queue, okT m
 win : WOK s.Out
 inb : checkI s.In.IDs = 0
 will : willE s.Will = 0
theorem ajI {α : Type} {f : α → Int} : ∀ {l : List α}, (∀ x ∈ l, f x = 0) → eD f l = 0
 | [], _ => rfl
 | x :: r, h => by rw [eD, h x (by simp), aN (by rfl)]; exact ajI fun y hy => h y (by simp [hy])
theorem SOK.check {s : aB} (h : SOK s) : oK s = 0 := by
 unfold oK
 refine ajI ?_
 have hq : wE s.Queue = 0 := by
  have := h.qlen
  unfold wE
  rw [aT (by simp; omega)]
  exact ajI fun m hm => (h.q m hm).1
 intro x hx
 simp only [List.mem_cons, List.not_mem_nil, or_false] at hx
 rcases hx with rfl | rfl | rfl | rfl | rfl | rfl
 ·exact h.head
 ·exact h.subs
 ·exact hq
 ·exact h.win.zero
 ·exact h.inb
 ·exact h.will
theorem SOK.abk {s : aB} (h : SOK s) : jV s := afK h.check
theorem abb {a b x : Int} : dL a b x = true ↔ a ≤ x ∧ x ≤ b := by unfold dL; simp
theorem wB {s : aB} : headE s = 0 ↔ lN s.Client = true ∧ (s.User == [] || lN s.User) = true ∧ air s = false ∧ (0 ≤ s.Expiry ∧ s.Expiry ≤ 1099511627776) ∧ (0 ≤ s.Until ∧ s.Until ≤ 1099511627776) ∧ (0 ≤ s.Dropped ∧ s.Dropped ≤ 1099511627776) := by
 rw [← abb, ← abb, ← abb]
 unfold headE
 cases lN s.Client <;> cases (s.User == [] || lN s.User) <;> cases air s <;> cases dL 0 1099511627776 s.Expiry <;> cases dL 0 1099511627776 s.Until <;> cases dL 0 1099511627776 s.Dropped <;> simp
theorem head_drop {s : aB} (h : headE s = 0) {n : Int} (h0 : 0 ≤ n) (h1 : n ≤ 1099511627776) : headE (xB s n) = 0 := by
 obtain ⟨a1, a2, a3, a4, a5, a6⟩ := wB.1 h
 have e : IntKind.wrap .i64 (s.Dropped + n) = s.Dropped + n := by rw [IntKind.wrap_i64]; omega
 refine wB.2 ⟨a1, a2, a3, a4, a5, ?_⟩
 show 0 ≤ (if 1099511627776 < IntKind.wrap .i64 (s.Dropped + n) then 1099511627776 else IntKind.wrap .i64 (s.Dropped + n)) ∧ (if 1099511627776 < IntKind.wrap .i64 (s.Dropped + n) then 1099511627776 else IntKind.wrap .i64 (s.Dropped + n)) ≤ 1099511627776
 rw [e]
 split <;> omega
def zO : aB := aB.mk ([] : Str) ([] : Str) false 0 0 0 0 ([] : List aF) ([] : List aA) (aI.mk 0 ([] : List aD) (aO.mk ([] : List Int) 0)) (bE.mk ([] : List Int)) (aU.mk false 0 (aA.mk ([] : Str) ([] : Str) 0 false 0 0 ([] : Str) 0 ([] : List aG)))
def ana (s : aB) (q : List aA) : aB := aB.mk s.Client s.User s.Online s.Conn s.Expiry s.Until s.Dropped s.Subs q s.Out s.In s.Will
def ani (s : aB) (w : aI) : aB := aB.mk s.Client s.User s.Online s.Conn s.Expiry s.Until s.Dropped s.Subs s.Queue w s.In s.Will
theorem SOK.queue {s : aB} (h : SOK s) {q : List aA} (hl : q.length ≤ 256) (hq : ∀ m ∈ q, okT m) : SOK (ana s q) := ⟨⟨h.g.1, h.g.2.1, h.g.2.2.1, h.g.2.2.2.1, h.g.2.2.2.2.1, h.g.2.2.2.2.2.1, h.g.2.2.2.2.2.2.1, ⟨by show q.length ≤ _; omega, fun m hm => (hq m hm).2⟩, h.g.2.2.2.2.2.2.2.2⟩, h.head, h.subs, hl, hq, h.win, h.inb, h.will⟩
theorem SOK.out {s : aB} (h : SOK s) {w : aI} (hw : WOK w) : SOK (ani s w) := ⟨⟨h.g.1, h.g.2.1, h.g.2.2.1, h.g.2.2.2.1, h.g.2.2.2.2.1, h.g.2.2.2.2.2.1, h.g.2.2.2.2.2.2.1, h.g.2.2.2.2.2.2.2.1, hw.g, h.g.2.2.2.2.2.2.2.2.2⟩, h.head, h.subs, h.qlen, h.q, hw, h.inb, h.will⟩
theorem SOK.drop {s : aB} (h : SOK s) {n : Int} (h0 : 0 ≤ n) (h1 : n ≤ 1099511627776) : SOK (xB s n) := ⟨⟨h.g.1, h.g.2.1, h.g.2.2.1, h.g.2.2.2.1, h.g.2.2.2.2.1, by have q := (wB.1 (head_drop h.head h0 h1)).2.2.2.2.2; exact abD (by omega) (by omega), h.g.2.2.2.2.2.2⟩, head_drop h.head h0 h1, h.subs, h.qlen, h.q, h.win, h.inb, h.will⟩
def pOK (p : aC) : Prop := p.Message.Props.length ≤ 1000 ∧ p.Will.Message.Props.length ≤ 1000 ∧ p.Subs = [] ∧ p.Filters = [] ∧ p.Codes = []
theorem SOK.af2 {s : aB} (h : SOK s) : hY s = some 0 := by rw [adb s h.g, h.check]
end Md
end PX
