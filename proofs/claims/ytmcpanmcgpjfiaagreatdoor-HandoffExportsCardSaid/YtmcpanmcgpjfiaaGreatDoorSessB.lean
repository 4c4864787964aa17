import Derived.Test.YtmcpanmcgpjfiaaGreatDoorSlowB
set_option linter.unusedVariables false
set_option linter.unusedSimpArgs false
namespace PX
open Go
namespace Md
structure aqU (s : aI) : Prop where
 subs : s.Subs.length ≤ 1000
 queue : s.Queue.length ≤ 1000
 qp : ∀ m ∈ s.Queue, m.Props.length ≤ 1000
 items : s.Out.Items.length ≤ 1000
 ip : ∀ f ∈ s.Out.Items, f.Message.Props.length ≤ 1000
 used : s.Out.Pool.Used.length ≤ 1000
 ids : s.In.IDs.length ≤ 1000
 will : s.Will.Message.Props.length ≤ 1000
def aBi (s : aI) (n : Int) : aI := aI.mk s.Client s.User s.Online s.Conn s.Expiry s.Until (if 1099511627776 < IntKind.wrap .i64 (s.Dropped + n) then 1099511627776 else IntKind.wrap .i64 (s.Dropped + n)) s.Subs s.Queue s.Out s.In s.Will
def lv (m : aC) : Bool := m.Level != 0
def aFS (s : aI) (now : Int) : aI :=
 aBi (aI.mk s.Client s.User false 0 s.Expiry (if 1099511627776 < IntKind.wrap .i64 (now + s.Expiry) then 1099511627776 else IntKind.wrap .i64 (now + s.Expiry)) s.Dropped s.Subs (s.Queue.filter lv) s.Out s.In s.Will) (IntKind.wrap .i64 ((s.Queue.length : Int) - ((s.Queue.filter lv).length : Int)))
theorem agt {α : Type} {f : α → Int} : ∀ {l : List α}, rF f l = 0 → ∀ x ∈ l, f x = 0
 | [], _, _, h => by simp at h
 | y :: r, h, x, hx => by
  rw [rF] at h
  by_cases e : f y = 0
  ·rw [aO (by simpa using e)] at h
   rcases List.mem_cons.1 hx with rfl | hx
   ·exact e
   ·exact agt h x hx
  ·rw [aY (by simpa using e)] at h; exact absurd h e
theorem cz1 {b : Bool} {x y : Int} (h : cond b x y = 0) (hy : y ≠ 0) : x = 0 := by cases b with | true => exact h | false => exact absurd h hy
theorem cz2 {b : Bool} {x y : Int} (h : cond b x y = 0) (hx : x ≠ 0) : y = 0 := by cases b with | true => exact absurd h hx | false => exact h
theorem cz3 {b : Bool} {x y : Int} {P : Prop} (h : cond b x y = 0) (h1 : x = 0 → P) (h2 : y = 0 → P) : P := by cases b with | true => exact h1 h | false => exact h2 h
theorem aaC {m : aC} (h : mT m = 0) : m.Props.length ≤ 8 := by
 have key : yG m.Props = 0 → m.Props.length ≤ 8 := fun h => by
  unfold yG at h
  by_cases c : 8 < m.Props.length
  ·rw [aO (by simpa using c)] at h; cases h
  ·omega
 unfold mT at h
 have h := cz2 (cz1 h (by decide)) (by decide)
 have h := cz1 (cz1 (cz1 h (by decide)) (by decide)) (by decide)
 exact cz3 h (fun h => key (cz1 h (by decide))) (fun h => key (cz1 (cz1 h (by decide)) (by decide)))
theorem ai6 {x : aE} (h : acJ x = 0) : mT x.Message = 0 := by
 unfold acJ at h
 by_cases e : mT x.Message = 0
 ·exact e
 ·rw [aY (by simpa using e)] at h; exact h
theorem afS {used : List Int} : ∀ {l seen : List aE}, vC used seen l = 0 → ∀ x ∈ l, acJ x = 0
 | [], _, _, _, h => by simp at h
 | y :: r, seen, h, x, hx => by
  rw [vC] at h
  by_cases e : aae used seen y = 0
  ·rw [aO (by simpa using e)] at h
   rcases List.mem_cons.1 hx with rfl | hx
   ·unfold aae at e
    cases hu : used.contains x.ID <;> rw [hu] at e <;> simp only [dE, dP] at e
    ·cases e
    ·cases hs : (seen.any fun y => y.ID == x.ID) <;> rw [hs] at e <;> simp only [dE, dP] at e
     ·exact e
     ·cases e
   ·exact afS h x hx
  ·rw [aY (by simpa using e)] at h; exact absurd h e
theorem aow {w : aM} (h : afV w = 0) : xL w.Pool = 0 ∧ w.Items.length ≤ 32 ∧ vC w.Pool.Used [] w.Items = 0 := by
 unfold afV at h
 cases h1 : decide (w.Limit < 0) <;> rw [h1] at h <;> simp only [dE, dP] at h <;> try (cases h; done)
 cases h2 : decide (w.Limit > 32) <;> rw [h2] at h <;> simp only [dE, dP] at h <;> try (cases h; done)
 by_cases e : xL w.Pool = 0
 ·rw [aO (by simpa using e)] at h
  by_cases c : (w.Items.length : Int) > 32
  ·rw [aO (by simpa using c)] at h; cases h
  ·rw [aY (by simpa using c)] at h
   by_cases d : vC w.Pool.Used [] w.Items = 0
   ·exact ⟨e, by omega, d⟩
   ·rw [aY (by simpa using d)] at h; exact absurd h d
 ·rw [aY (by simpa using e)] at h; exact absurd h e
theorem ajh {s : aI} (h : qV s = 0) : aeh s = 0 ∧ abE s.Subs = 0 ∧ aaG s.Queue = 0 ∧ afV s.Out = 0 ∧ wL s.In.IDs = 0 ∧ aan s.Will = 0 := by
 have := agt (f := id) h
 exact ⟨this _ (.head _), this _ (.tail _ (.head _)), this _ (.tail _ (.tail _ (.head _))), this _ (.tail _ (.tail _ (.tail _ (.head _)))), this _ (.tail _ (.tail _ (.tail _ (.tail _ (.head _))))), this _ (.tail _ (.tail _ (.tail _ (.tail _ (.tail _ (.head _))))))⟩
theorem akx {l : List aC} (h : aaG l = 0) : l.length ≤ 256 ∧ ∀ m ∈ l, mT m = 0 := by
 unfold aaG at h
 by_cases c : (l.length : Int) > 256
 ·rw [aO (by simpa using c)] at h; cases h
 ·rw [aY (by simpa using c)] at h; exact ⟨by omega, agt h⟩
theorem amx {l : List aK} (h : abE l = 0) : l.length ≤ 32 ∧ tC none l = 0 := by
 unfold abE at h
 by_cases c : (l.length : Int) > 32
 ·rw [aO (by simpa using c)] at h; cases h
 ·rw [aY (by simpa using c)] at h; exact ⟨by omega, h⟩
end Md
end PX
