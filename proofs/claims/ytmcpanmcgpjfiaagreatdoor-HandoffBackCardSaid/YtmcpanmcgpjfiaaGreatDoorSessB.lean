import Derived.Test.YtmcpanmcgpjfiaaGreatDoorSlowB
set_option linter.unusedVariables false
set_option linter.unusedSimpArgs false
namespace PX
open Go
namespace Md
structure aoE (s : aI) : Prop where
 subs : s.Subs.length ≤ 1000
 queue : s.Queue.length ≤ 1000
 qp : ∀ m ∈ s.Queue, m.Props.length ≤ 1000
 items : s.Out.Items.length ≤ 1000
 ip : ∀ f ∈ s.Out.Items, f.Message.Props.length ≤ 1000
 used : s.Out.Pool.Used.length ≤ 1000
 ids : s.In.IDs.length ≤ 1000
 will : s.Will.Message.Props.length ≤ 1000
def aCA (s : aI) (n : Int) : aI := aI.mk s.Client s.User s.Online s.Conn s.Expiry s.Until (if 1099511627776 < IntKind.wrap .i64 (s.Dropped + n) then 1099511627776 else IntKind.wrap .i64 (s.Dropped + n)) s.Subs s.Queue s.Out s.In s.Will
def lv (m : aC) : Bool := m.Level != 0
def aIl (s : aI) (now : Int) : aI :=
 aCA (aI.mk s.Client s.User false 0 s.Expiry (if 1099511627776 < IntKind.wrap .i64 (now + s.Expiry) then 1099511627776 else IntKind.wrap .i64 (now + s.Expiry)) s.Dropped s.Subs (s.Queue.filter lv) s.Out s.In s.Will) (IntKind.wrap .i64 ((s.Queue.length : Int) - ((s.Queue.filter lv).length : Int)))
theorem ahx {α : Type} {f : α → Int} : ∀ {l : List α}, sV f l = 0 → ∀ x ∈ l, f x = 0
 | [], _, _, h => by simp at h
 | y :: r, h, x, hx => by
  rw [sV] at h
  by_cases e : f y = 0
  ·rw [aL (by simpa using e)] at h
   rcases List.mem_cons.1 hx with rfl | hx
   ·exact e
   ·exact ahx h x hx
  ·rw [aS (by simpa using e)] at h; exact absurd h e
theorem cz1 {b : Bool} {x y : Int} (h : cond b x y = 0) (hy : y ≠ 0) : x = 0 := by cases b with | true => exact h | false => exact absurd h hy
theorem cz2 {b : Bool} {x y : Int} (h : cond b x y = 0) (hx : x ≠ 0) : y = 0 := by cases b with | true => exact absurd h hx | false => exact h
theorem cz3 {b : Bool} {x y : Int} {P : Prop} (h : cond b x y = 0) (h1 : x = 0 → P) (h2 : y = 0 → P) : P := by cases b with | true => exact h1 h | false => exact h2 h
theorem yZ {m : aC} (h : checkM m = 0) : m.Props.length ≤ 8 := by
 have key : wV m.Props = 0 → m.Props.length ≤ 8 := fun h => by
  unfold wV at h
  by_cases c : 8 < m.Props.length
  ·rw [aL (by simpa using c)] at h; cases h
  ·omega
 unfold checkM at h
 have h := cz2 (cz1 h (by decide)) (by decide)
 have h := cz1 (cz1 (cz1 h (by decide)) (by decide)) (by decide)
 exact cz3 h (fun h => key (cz1 h (by decide))) (fun h => key (cz1 (cz1 h (by decide)) (by decide)))
theorem afR {x : aE} (h : adP x = 0) : checkM x.Message = 0 := by
 unfold adP at h
 by_cases e : checkM x.Message = 0
 ·exact e
 ·rw [aS (by simpa using e)] at h; exact h
theorem adi {used : List Int} : ∀ {l seen : List aE}, wX used seen l = 0 → ∀ x ∈ l, adP x = 0
 | [], _, _, _, h => by simp at h
 | y :: r, seen, h, x, hx => by
  rw [wX] at h
  by_cases e : abO used seen y = 0
  ·rw [aL (by simpa using e)] at h
   rcases List.mem_cons.1 hx with rfl | hx
   ·unfold abO at e
    cases hu : used.contains x.ID <;> rw [hu] at e <;> simp only [eS, eW] at e
    ·cases e
    ·cases hs : (seen.any fun y => y.ID == x.ID) <;> rw [hs] at e <;> simp only [eS, eW] at e
     ·exact e
     ·cases e
   ·exact adi h x hx
  ·rw [aS (by simpa using e)] at h; exact absurd h e
theorem ak7 {w : aO} (h : ahf w = 0) : zJ w.Pool = 0 ∧ w.Items.length ≤ 32 ∧ wX w.Pool.Used [] w.Items = 0 := by
 unfold ahf at h
 cases h1 : decide (w.Limit < 0) <;> rw [h1] at h <;> simp only [eS, eW] at h <;> try (cases h; done)
 cases h2 : decide (w.Limit > 32) <;> rw [h2] at h <;> simp only [eS, eW] at h <;> try (cases h; done)
 by_cases e : zJ w.Pool = 0
 ·rw [aL (by simpa using e)] at h
  by_cases c : (w.Items.length : Int) > 32
  ·rw [aL (by simpa using c)] at h; cases h
  ·rw [aS (by simpa using c)] at h
   by_cases d : wX w.Pool.Used [] w.Items = 0
   ·exact ⟨e, by omega, d⟩
   ·rw [aS (by simpa using d)] at h; exact absurd h d
 ·rw [aS (by simpa using e)] at h; exact absurd h e
theorem atV {w : bM} (h : zK w = 0) : w.Message.Props.length ≤ 8 := by
 unfold zK at h
 cases h0 : w.Set <;> rw [h0] at h <;> simp only [eS, eW] at h
 ·cases h1 : (w.Delay == 0) <;> rw [h1] at h <;> simp only [eS, eW] at h <;> try (cases h; done)
  by_cases e : w.Message = pS
  ·rw [e]; decide
  ·rw [decide_eq_false e] at h; cases h
 ·cases h1 : fE 0 1099511627776 w.Delay <;> rw [h1] at h <;> simp only [eS, eW] at h <;> try (cases h; done)
  exact yZ h
theorem afr {s : aI} (h : jT s = 0) : adg s = 0 ∧ acy s.Subs = 0 ∧ abA s.Queue = 0 ∧ ahf s.Out = 0 ∧ xY s.In.IDs = 0 ∧ zK s.Will = 0 := by
 have := ahx (f := id) h
 exact ⟨this _ (.head _), this _ (.tail _ (.head _)), this _ (.tail _ (.tail _ (.head _))), this _ (.tail _ (.tail _ (.tail _ (.head _)))), this _ (.tail _ (.tail _ (.tail _ (.tail _ (.head _))))), this _ (.tail _ (.tail _ (.tail _ (.tail _ (.tail _ (.head _))))))⟩
theorem ahi {l : List aC} (h : abA l = 0) : l.length ≤ 256 ∧ ∀ m ∈ l, checkM m = 0 := by
 unfold abA at h
 by_cases c : (l.length : Int) > 256
 ·rw [aL (by simpa using c)] at h; cases h
 ·rw [aS (by simpa using c)] at h; exact ⟨by omega, ahx h⟩
theorem ajC {l : List aK} (h : acy l = 0) : l.length ≤ 32 ∧ tH none l = 0 := by
 unfold acy at h
 by_cases c : (l.length : Int) > 32
 ·rw [aL (by simpa using c)] at h; cases h
 ·rw [aS (by simpa using c)] at h; exact ⟨by omega, h⟩
theorem aoS {s : aI} (h : jT s = 0) : aoE s := by
 obtain ⟨_, h1, h2, h3, h4, h5⟩ := afr h
 obtain ⟨a1, a2⟩ := ahi h2
 obtain ⟨b1, b2, b3⟩ := ak7 h3
 have b4 := adn b1
 have c1 := afG h4
 refine ⟨by have := (ajC h1).1; omega, by omega, fun m hm => by have := yZ (a2 m hm); omega, by omega, fun f hf => by have := yZ (afR (adi b3 f hf)); omega, by omega, by omega, by have := atV h5; omega⟩
end Md
end PX
