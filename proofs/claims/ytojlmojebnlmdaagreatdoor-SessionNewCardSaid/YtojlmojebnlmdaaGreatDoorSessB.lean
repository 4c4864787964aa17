import Derived.Test.YtojlmojebnlmdaaGreatDoorSlowB
set_option linter.unusedVariables false
set_option linter.unusedSimpArgs false
namespace PX
open Go
namespace Md
structure jV (s : aB) : Prop where
 subs : s.Subs.length ≤ 1000
 queue : s.Queue.length ≤ 1000
 qp : ∀ m ∈ s.Queue, m.Props.length ≤ 1000
 items : s.Out.Items.length ≤ 1000
 ip : ∀ f ∈ s.Out.Items, f.Message.Props.length ≤ 1000
 used : s.Out.Pool.Used.length ≤ 1000
 ids : s.In.IDs.length ≤ 1000
 will : s.Will.Message.Props.length ≤ 1000
theorem wU {m : aA} (h : m.Props.length ≤ 1000) : iF m = some m := by
 unfold iF
 rw [amJ (by omega), bB]
def xB (s : aB) (n : Int) : aB := aB.mk s.Client s.User s.Online s.Conn s.Expiry s.Until (if 1099511627776 < IntKind.wrap .i64 (s.Dropped + n) then 1099511627776 else IntKind.wrap .i64 (s.Dropped + n)) s.Subs s.Queue s.Out s.In s.Will
def lv (m : aA) : Bool := m.Level != 0
def af9 (s : aB) (now : Int) : aB :=
 xB (aB.mk s.Client s.User false 0 s.Expiry (if 1099511627776 < IntKind.wrap .i64 (now + s.Expiry) then 1099511627776 else IntKind.wrap .i64 (now + s.Expiry)) s.Dropped s.Subs (s.Queue.filter lv) s.Out s.In s.Will) (IntKind.wrap .i64 ((s.Queue.length : Int) - ((s.Queue.filter lv).length : Int)))
theorem agn {α : Type} {f : α → Int} : ∀ {l : List α}, eD f l = 0 → ∀ x ∈ l, f x = 0
 | [], _, _, h => by simp at h
 | y :: r, h, x, hx => by
  rw [eD] at h
  by_cases e : f y = 0
  ·rw [aN (by simpa using e)] at h
   rcases List.mem_cons.1 hx with rfl | hx
   ·exact e
   ·exact agn h x hx
  ·rw [aT (by simpa using e)] at h; exact absurd h e
theorem cz1 {b : Bool} {x y : Int} (h : cond b x y = 0) (hy : y ≠ 0) : x = 0 := by cases b with | true => exact h | false => exact absurd h hy
theorem cz2 {b : Bool} {x y : Int} (h : cond b x y = 0) (hx : x ≠ 0) : y = 0 := by cases b with | true => exact absurd h hx | false => exact h
theorem cz3 {b : Bool} {x y : Int} {P : Prop} (h : cond b x y = 0) (h1 : x = 0 → P) (h2 : y = 0 → P) : P := by cases b with | true => exact h1 h | false => exact h2 h
theorem qW {m : aA} (h : hX m = 0) : m.Props.length ≤ 8 := by
 have key : abx m.Props = 0 → m.Props.length ≤ 8 := fun h => by
  unfold abx at h
  by_cases c : 8 < m.Props.length
  ·rw [aN (by simpa using c)] at h; cases h
  ·omega
 unfold hX at h
 have h := cz2 (cz1 h (by decide)) (by decide)
 have h := cz1 (cz1 (cz1 h (by decide)) (by decide)) (by decide)
 exact cz3 h (fun h => key (cz1 h (by decide))) (fun h => key (cz1 (cz1 h (by decide)) (by decide)))
theorem aeb {x : aD} (h : flightE x = 0) : hX x.Message = 0 := by
 unfold flightE at h
 by_cases e : hX x.Message = 0
 ·exact e
 ·rw [aT (by simpa using e)] at h; exact h
theorem akC {used : List Int} : ∀ {l seen : List aD}, qY used seen l = 0 → ∀ x ∈ l, flightE x = 0
 | [], _, _, _, h => by simp at h
 | y :: r, seen, h, x, hx => by
  rw [qY] at h
  by_cases e : vP used seen y = 0
  ·rw [aN (by simpa using e)] at h
   rcases List.mem_cons.1 hx with rfl | hx
   ·unfold vP at e
    cases hu : used.contains x.ID <;> rw [hu] at e <;> simp only [cH, dB] at e
    ·cases e
    ·cases hs : (seen.any fun y => y.ID == x.ID) <;> rw [hs] at e <;> simp only [cH, dB] at e
     ·exact e
     ·cases e
   ·exact akC h x hx
  ·rw [aT (by simpa using e)] at h; exact absurd h e
theorem anM {w : aI} (h : aaU w = 0) : poolE w.Pool = 0 ∧ w.Items.length ≤ 32 ∧ qY w.Pool.Used [] w.Items = 0 := by
 unfold aaU at h
 cases h1 : decide (w.Limit < 0) <;> rw [h1] at h <;> simp only [cH, dB] at h <;> try (cases h; done)
 cases h2 : decide (w.Limit > 32) <;> rw [h2] at h <;> simp only [cH, dB] at h <;> try (cases h; done)
 by_cases e : poolE w.Pool = 0
 ·rw [aN (by simpa using e)] at h
  by_cases c : (w.Items.length : Int) > 32
  ·rw [aN (by simpa using c)] at h; cases h
  ·rw [aT (by simpa using c)] at h
   by_cases d : qY w.Pool.Used [] w.Items = 0
   ·exact ⟨e, by omega, d⟩
   ·rw [aT (by simpa using d)] at h; exact absurd h d
 ·rw [aT (by simpa using e)] at h; exact absurd h e
theorem ahn {w : aU} (h : willE w = 0) : w.Message.Props.length ≤ 8 := by
 unfold willE at h
 cases h0 : w.Set <;> rw [h0] at h <;> simp only [cH, dB] at h
 ·cases h1 : (w.Delay == 0) <;> rw [h1] at h <;> simp only [cH, dB] at h <;> try (cases h; done)
  by_cases e : w.Message = akc
  ·rw [e]; decide
  ·rw [decide_eq_false e] at h; cases h
 ·cases h1 : dL 0 1099511627776 w.Delay <;> rw [h1] at h <;> simp only [cH, dB] at h <;> try (cases h; done)
  exact qW h
theorem abp {s : aB} (h : oK s = 0) : headE s = 0 ∧ subsE s.Subs = 0 ∧ wE s.Queue = 0 ∧ aaU s.Out = 0 ∧ checkI s.In.IDs = 0 ∧ willE s.Will = 0 := by
 have := agn (f := id) h
 exact ⟨this _ (.head _), this _ (.tail _ (.head _)), this _ (.tail _ (.tail _ (.head _))), this _ (.tail _ (.tail _ (.tail _ (.head _)))), this _ (.tail _ (.tail _ (.tail _ (.tail _ (.head _))))), this _ (.tail _ (.tail _ (.tail _ (.tail _ (.tail _ (.head _))))))⟩
theorem agx {l : List aA} (h : wE l = 0) : l.length ≤ 256 ∧ ∀ m ∈ l, hX m = 0 := by
 unfold wE at h
 by_cases c : (l.length : Int) > 256
 ·rw [aN (by simpa using c)] at h; cases h
 ·rw [aT (by simpa using c)] at h; exact ⟨by omega, agn h⟩
theorem amj {l : List aF} (h : subsE l = 0) : l.length ≤ 32 ∧ vQ none l = 0 := by
 unfold subsE at h
 by_cases c : (l.length : Int) > 32
 ·rw [aN (by simpa using c)] at h; cases h
 ·rw [aT (by simpa using c)] at h; exact ⟨by omega, h⟩
theorem afK {s : aB} (h : oK s = 0) : jV s := by
 obtain ⟨_, h1, h2, h3, h4, h5⟩ := abp h
 obtain ⟨a1, a2⟩ := agx h2
 obtain ⟨b1, b2, b3⟩ := anM h3
 have b4 := w7 b1
 have c1 := apJ h4
 refine ⟨by have := (amj h1).1; omega, by omega, fun m hm => by have := qW (a2 m hm); omega, by omega, fun f hf => by have := qW (aeb (akC b3 f hf)); omega, by omega, by omega, by have := ahn h5; omega⟩
end Md
end PX
