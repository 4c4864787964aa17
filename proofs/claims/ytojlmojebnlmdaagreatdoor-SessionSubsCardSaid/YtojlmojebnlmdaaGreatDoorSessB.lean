import Derived.Test.YtojlmojebnlmdaaGreatDoorSlowB
set_option linter.unusedVariables false
set_option linter.unusedSimpArgs false
namespace PX
open Go
namespace Md
structure qK (s : aB) : Prop where
 subs : s.Subs.length ≤ 1000
 queue : s.Queue.length ≤ 1000
 qp : ∀ m ∈ s.Queue, m.Props.length ≤ 1000
 items : s.Out.Items.length ≤ 1000
 ip : ∀ f ∈ s.Out.Items, f.Message.Props.length ≤ 1000
 used : s.Out.Pool.Used.length ≤ 1000
 ids : s.In.IDs.length ≤ 1000
 will : s.Will.Message.Props.length ≤ 1000
theorem acV {m : aA} (h : m.Props.length ≤ 1000) : gK m = some m := by
 unfold gK
 rw [amN (by omega), bY]
theorem aon (s z : aB) (h : qK s) (u : List aD) (q : List aA) : ∀ (k i fu : Nat), i + k = s.Out.Items.length → k < fu →
  jB fu s.Out.Items (s.Out.Items.length : Int) (i : Int) s.Client s.User s.Online s.Conn s.Expiry s.Until s.Dropped s.Out.Limit s.Out.Items s.Out.Pool.Used s.Out.Pool.Last s.In.IDs s.Will.Set s.Will.Delay s.Will.Message.Topic s.Will.Message.Payload s.Will.Message.Level s.Will.Message.Retain s.Will.Message.Priority s.Will.Message.Expires s.Will.Message.From s.Will.Message.Seq s.Will.Message.Props z (s.Out.Items.take i) u q = some (aB.mk s.Client s.User s.Online s.Conn s.Expiry s.Until s.Dropped u q s.Out s.In s.Will) := by
 intro k
 have h1 := h.items
 induction k with
 | zero =>
  intro i fu hi hf
  obtain ⟨fu, rfl⟩ : ∃ n, fu = n + 1 := ⟨fu - 1, by omega⟩
  rw [jB, aT (tB (by omega)), List.take_of_length_le (by omega), aiD (by have := h.used; omega), bY, aiD (by have := h.ids; omega), bY, acV h.will, bY]
 | succ k ih =>
  intro i fu hi hf
  obtain ⟨fu, rfl⟩ : ∃ n, fu = n + 1 := ⟨fu - 1, by omega⟩
  have hil : i < s.Out.Items.length := by omega
  rw [jB, aO (jX hil), aO (inr hil), cE hil, acV (h.ip _ (List.getElem_mem _)), bY, aO (by simp; omega), bU (by omega), aaU]
  exact ih (i + 1) fu (by omega) (by omega)
theorem aqd (s z : aB) (h : qK s) (u : List aD) : ∀ (k i fu : Nat), i + k = s.Queue.length → k < fu →
  jZ fu s.Queue (s.Queue.length : Int) (i : Int) s.Client s.User s.Online s.Conn s.Expiry s.Until s.Dropped s.Queue s.Out.Limit s.Out.Items s.Out.Pool.Used s.Out.Pool.Last s.In.IDs s.Will.Set s.Will.Delay s.Will.Message.Topic s.Will.Message.Payload s.Will.Message.Level s.Will.Message.Retain s.Will.Message.Priority s.Will.Message.Expires s.Will.Message.From s.Will.Message.Seq s.Will.Message.Props z (s.Queue.take i) u = some (aB.mk s.Client s.User s.Online s.Conn s.Expiry s.Until s.Dropped u s.Queue s.Out s.In s.Will) := by
 intro k
 have h1 := h.queue
 induction k with
 | zero =>
  intro i fu hi hf
  obtain ⟨fu, rfl⟩ : ∃ n, fu = n + 1 := ⟨fu - 1, by omega⟩
  rw [jZ, aT (tB (by omega)), List.take_of_length_le (by omega), aO (by have := h.items; simp; omega)]
  exact aon s z h u s.Queue s.Out.Items.length 0 fuel (by omega) (by have := h.items; rw [j8]; omega)
 | succ k ih =>
  intro i fu hi hf
  obtain ⟨fu, rfl⟩ : ∃ n, fu = n + 1 := ⟨fu - 1, by omega⟩
  have hil : i < s.Queue.length := by omega
  rw [jZ, aO (jX hil), aO (inr hil), cE hil, acV (h.qp _ (List.getElem_mem _)), bY, aO (by simp; omega), bU (by omega), aaU]
  exact ih (i + 1) fu (by omega) (by omega)
theorem aiE (s : aB) (h : qK s) : fL s = some s := by
 unfold fL
 rw [anr (by have := h.subs; omega), bY, aO (by have := h.queue; simp; omega)]
 exact aqd s _ h s.Subs s.Queue.length 0 fuel (by omega) (by have := h.queue; rw [j8]; omega)
def at2 (s : aB) (n : Int) : aB := aB.mk s.Client s.User s.Online s.Conn s.Expiry s.Until (if 1099511627776 < IntKind.wrap .i64 (s.Dropped + n) then 1099511627776 else IntKind.wrap .i64 (s.Dropped + n)) s.Subs s.Queue s.Out s.In s.Will
def lv (m : aA) : Bool := m.Level != 0
def aw8 (s : aB) (now : Int) : aB :=
 at2 (aB.mk s.Client s.User false 0 s.Expiry (if 1099511627776 < IntKind.wrap .i64 (now + s.Expiry) then 1099511627776 else IntKind.wrap .i64 (now + s.Expiry)) s.Dropped s.Subs (s.Queue.filter lv) s.Out s.In s.Will) (IntKind.wrap .i64 ((s.Queue.length : Int) - ((s.Queue.filter lv).length : Int)))
theorem adv {α : Type} {f : α → Int} : ∀ {l : List α}, pP f l = 0 → ∀ x ∈ l, f x = 0
 | [], _, _, h => by simp at h
 | y :: r, h, x, hx => by
  rw [pP] at h
  by_cases e : f y = 0
  ·rw [aO (by simpa using e)] at h
   rcases List.mem_cons.1 hx with rfl | hx
   ·exact e
   ·exact adv h x hx
  ·rw [aT (by simpa using e)] at h; exact absurd h e
theorem cz1 {b : Bool} {x y : Int} (h : cond b x y = 0) (hy : y ≠ 0) : x = 0 := by cases b with | true => exact h | false => exact absurd h hy
theorem cz2 {b : Bool} {x y : Int} (h : cond b x y = 0) (hx : x ≠ 0) : y = 0 := by cases b with | true => exact absurd h hx | false => exact h
theorem cz3 {b : Bool} {x y : Int} {P : Prop} (h : cond b x y = 0) (h1 : x = 0 → P) (h2 : y = 0 → P) : P := by cases b with | true => exact h1 h | false => exact h2 h
theorem zT {m : aA} (h : oL m = 0) : m.Props.length ≤ 8 := by
 have key : ab7 m.Props = 0 → m.Props.length ≤ 8 := fun h => by
  unfold ab7 at h
  by_cases c : 8 < m.Props.length
  ·rw [aO (by simpa using c)] at h; cases h
  ·omega
 unfold oL at h
 have h := cz2 (cz1 h (by decide)) (by decide)
 have h := cz1 (cz1 (cz1 h (by decide)) (by decide)) (by decide)
 exact cz3 h (fun h => key (cz1 h (by decide))) (fun h => key (cz1 (cz1 h (by decide)) (by decide)))
theorem ak1 {x : aC} (h : ab6 x = 0) : oL x.Message = 0 := by
 unfold ab6 at h
 by_cases e : oL x.Message = 0
 ·exact e
 ·rw [aT (by simpa using e)] at h; exact h
theorem ahr {used : List Int} : ∀ {l seen : List aC}, qT used seen l = 0 → ∀ x ∈ l, ab6 x = 0
 | [], _, _, _, h => by simp at h
 | y :: r, seen, h, x, hx => by
  rw [qT] at h
  by_cases e : zA used seen y = 0
  ·rw [aO (by simpa using e)] at h
   rcases List.mem_cons.1 hx with rfl | hx
   ·unfold zA at e
    cases hu : used.contains x.ID <;> rw [hu] at e <;> simp only [jU, lA] at e
    ·cases e
    ·cases hs : (seen.any fun y => y.ID == x.ID) <;> rw [hs] at e <;> simp only [jU, lA] at e
     ·exact e
     ·cases e
   ·exact ahr h x hx
  ·rw [aT (by simpa using e)] at h; exact absurd h e
theorem an0 {w : aG} (h : ahR w = 0) : aa0 w.Pool = 0 ∧ w.Items.length ≤ 32 ∧ qT w.Pool.Used [] w.Items = 0 := by
 unfold ahR at h
 cases h1 : decide (w.Limit < 0) <;> rw [h1] at h <;> simp only [jU, lA] at h <;> try (cases h; done)
 cases h2 : decide (w.Limit > 32) <;> rw [h2] at h <;> simp only [jU, lA] at h <;> try (cases h; done)
 by_cases e : aa0 w.Pool = 0
 ·rw [aO (by simpa using e)] at h
  by_cases c : (w.Items.length : Int) > 32
  ·rw [aO (by simpa using c)] at h; cases h
  ·rw [aT (by simpa using c)] at h
   by_cases d : qT w.Pool.Used [] w.Items = 0
   ·exact ⟨e, by omega, d⟩
   ·rw [aT (by simpa using d)] at h; exact absurd h d
 ·rw [aT (by simpa using e)] at h; exact absurd h e
theorem amP {w : aN} (h : acZ w = 0) : w.Message.Props.length ≤ 8 := by
 unfold acZ at h
 cases h0 : w.Set <;> rw [h0] at h <;> simp only [jU, lA] at h
 ·cases h1 : (w.Delay == 0) <;> rw [h1] at h <;> simp only [jU, lA] at h <;> try (cases h; done)
  by_cases e : w.Message = ai3
  ·rw [e]; decide
  ·rw [decide_eq_false e] at h; cases h
 ·cases h1 : j1 0 1099511627776 w.Delay <;> rw [h1] at h <;> simp only [jU, lA] at h <;> try (cases h; done)
  exact zT h
theorem afH {s : aB} (h : aeI s = 0) : ajj s = 0 ∧ afb s.Subs = 0 ∧ acp s.Queue = 0 ∧ ahR s.Out = 0 ∧ aaB s.In.IDs = 0 ∧ acZ s.Will = 0 := by
 have := adv (f := id) h
 exact ⟨this _ (.head _), this _ (.tail _ (.head _)), this _ (.tail _ (.tail _ (.head _))), this _ (.tail _ (.tail _ (.tail _ (.head _)))), this _ (.tail _ (.tail _ (.tail _ (.tail _ (.head _))))), this _ (.tail _ (.tail _ (.tail _ (.tail _ (.tail _ (.head _))))))⟩
theorem alu {l : List aA} (h : acp l = 0) : l.length ≤ 256 ∧ ∀ m ∈ l, oL m = 0 := by
 unfold acp at h
 by_cases c : (l.length : Int) > 256
 ·rw [aO (by simpa using c)] at h; cases h
 ·rw [aT (by simpa using c)] at h; exact ⟨by omega, adv h⟩
theorem aip {l : List aD} (h : afb l = 0) : l.length ≤ 32 ∧ w4 none l = 0 := by
 unfold afb at h
 by_cases c : (l.length : Int) > 32
 ·rw [aO (by simpa using c)] at h; cases h
 ·rw [aT (by simpa using c)] at h; exact ⟨by omega, h⟩
theorem anS {s : aB} (h : aeI s = 0) : qK s := by
 obtain ⟨_, h1, h2, h3, h4, h5⟩ := afH h
 obtain ⟨a1, a2⟩ := alu h2
 obtain ⟨b1, b2, b3⟩ := an0 h3
 have b4 := ama b1
 have c1 := ak2 h4
 refine ⟨by have := (aip h1).1; omega, by omega, fun m hm => by have := zT (a2 m hm); omega, by omega, fun f hf => by have := zT (ak1 (ahr b3 f hf)); omega, by omega, by omega, by have := amP h5; omega⟩
end Md
end PX
