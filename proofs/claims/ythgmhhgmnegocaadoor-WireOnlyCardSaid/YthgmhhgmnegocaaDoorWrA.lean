import Derived.Test.YthgmhhgmnegocaaDoorRdH
set_option linter.unusedVariables false
set_option linter.unusedSimpArgs false
namespace PX
open Go
namespace Md
structure aap (p : aA) : Prop where
 k : rngB 1 14 p.Kind = true
 id : i64 p.ID
 code : i64 p.Code
 keep : i64 p.Keep
 exp : i64 p.Expiry
 win : i64 p.Window
 del : i64 p.Will.Delay
 cl : p.Kind = 1 → p.Client.length ≤ 16 ∧ p.User.length ≤ 16 ∧ (p.Will.Set = true → MsgD p.Will.Message)
 wl : p.Kind = 1 → p.Will.Set = false → p.Will.Delay = 0 ∧ p.Will.Message = zeroM
 ms : p.Kind = 3 → MsgD p.Message
 sb : p.Kind = 8 → p.Subs.length ≤ 32 ∧ ∀ x ∈ p.Subs, SubD x
 fl : p.Kind = 10 → p.Filters.length ≤ 32 ∧ ∀ s ∈ p.Filters, s.length ≤ 88
 cd : p.Kind = 9 ∨ p.Kind = 11 → p.Codes.length ≤ 32 ∧ ∀ x ∈ p.Codes, i64 x
 us : p = usedP p
theorem abG {α : Type} {f : α → Int} : ∀ {l : List α}, jN f l = 0 → ∀ x ∈ l, f x = 0
 | [], _, _, h => by cases h
 | y :: r, h, x, hx => by
  rw [jN] at h
  by_cases c : f y = 0
  ·rw [aK (by simpa using c)] at h
   rcases List.mem_cons.1 hx with rfl | hx
   ·exact c
   ·exact abG h x hx
  ·rw [aO (by simpa using c)] at h
   exact absurd h c
theorem abr {x : Int} {n : Nat} (h : mY x n = 0) : n ≤ 32 := by
 unfold mY aiC at h
 have h := cz1 h (by decide)
 have h := cz2 h (by decide)
 by_cases c : (32 : Int) < n
 ·rw [aK (by simpa using c)] at h; cases h
 ·omega
theorem ahH {a b : Int} (h : cond (a == 0) b a = 0) : a = 0 ∧ b = 0 := by
 by_cases c : a = 0
 ·rw [aK (by simpa using c)] at h; exact ⟨c, h⟩
 ·rw [aO (by simpa using c)] at h; exact absurd h c
theorem ajO {p : aA} (h : yL p = 0) (g : p.good) : p.Client.length ≤ 16 ∧ p.User.length ≤ 16 ∧ (p.Will.Set = true → MsgD p.Will.Message) ∧ (p.Will.Set = false → p.Will.Delay = 0 ∧ p.Will.Message = zeroM) := by
 unfold yL at h
 have k1 : lB p.Client = true := by
  cases e : lB p.Client with
  | true => rfl
  | false => rw [e] at h; cases h
 have h := cz1 h (by decide)
 have k2 : p.User.length ≤ 16 ∧ afR p = 0 := by
  cases e : p.User == [] with
  | true =>
   rw [e] at h
   have : p.User = [] := by simpa using e
   rw [this]
   exact ⟨by simp, h⟩
  | false =>
   rw [e, fE] at h
   have kf : lB p.User = true := by
    cases e : lB p.User with
    | true => rfl
    | false => rw [e] at h; cases h
   exact ⟨tX kf, cz1 h (by decide)⟩
 have h := k2.2
 unfold afR at h
 have h := cz1 (cz1 (cz1 h (by decide)) (by decide)) (by decide)
 unfold abz at h
 refine ⟨tX k1, k2.1, fun hs => ?_, fun hs => ?_⟩
 ·rw [hs, fA] at h
  have h := cz1 h (by decide)
  exact agd h g.2.2.2.2.2.2.2.2.1.2
 ·rw [hs, fE] at h
  by_cases c : p.Will.Delay = 0
  ·refine ⟨c, ?_⟩
   rw [aK (by simpa using c)] at h
   by_cases d : p.Will.Message = zeroM
   ·exact d
   ·rw [aO (by simpa using d)] at h; cases h
  ·rw [aO (by simpa using c)] at h; cases h
theorem agH {p : aA} (h : jM p = 0) (g : p.good) : aap p := by
 unfold jM at h
 have k : rngB 1 14 p.Kind = true := by
  cases e : rngB 1 14 p.Kind with
  | true => rfl
  | false => rw [e] at h; cases h
 have h := cz1 h (by decide)
 have us : p = usedP p := by
  by_cases c : p = usedP p
  ·exact c
  ·rw [aO (by simpa using c)] at h; cases h
 have h := cz1 h (by decide)
 have hg : p.good := g
 obtain ⟨_, g2, g3, g4, g5, g6, g7, g8, g9, g10, g11, g12, g13⟩ := g
 refine ⟨k, kY g2, kY g10, kY g6, kY g7, kY g8, kY g9.1, ?_, ?_, ?_, ?_, ?_, ?_, us⟩
 ·intro e
  unfold zK at h
  rw [e] at h
  have := ajO h hg
  exact ⟨this.1, this.2.1, this.2.2.1⟩
 ·intro e
  unfold zK at h
  rw [e] at h
  exact (ajO h hg).2.2.2
 ·intro e
  unfold zK at h
  rw [e] at h
  have h : xN p = 0 := h
  unfold xN at h
  exact agd (ahH h).1 g3
 ·intro e
  unfold zK at h
  rw [e] at h
  have h : tB p = 0 := h
  unfold tB at h
  obtain ⟨h1, h2⟩ := ahH h
  refine ⟨abr h1, fun x hx => ?_⟩
  have := abG h2 x hx
  unfold v3 at this
  refine ⟨?_, kY (g11.2 x hx).2⟩
  cases e : kK x.Filter with
  | true => exact xV e
  | false => rw [e] at this; cases this
 ·intro e
  unfold zK at h
  rw [e] at h
  have h : pS p = 0 := h
  unfold pS at h
  obtain ⟨h1, h2⟩ := ahH h
  refine ⟨abr h1, fun x hx => ?_⟩
  have := abG h2 x hx
  unfold afW at this
  cases e : kK x with
  | true => exact xV e
  | false => rw [e] at this; cases this
 ·intro e
  unfold zK at h
  have h : abb p = 0 := by rcases e with e | e <;> rw [e] at h <;> exact h
  unfold abb at h
  obtain ⟨h1, h2⟩ := ahH h
  exact ⟨abr h1, fun x hx => kY (g13.2 x hx)⟩
def zG (p : aA) : List Int := fL p.Client ++ (fL p.User ++ (cB (fM p.Clean + 2 * fM p.Will.Set) ++ (cB p.Keep ++ (cB p.Expiry ++ (cB p.Window ++ qQ p.Will)))))
def jD (p : aA) : List Int :=
 cond (p.Kind == 1) (zG p) (cond (p.Kind == 2) (cB (fM p.Present) ++ cB p.Code) (cond (p.Kind == 14) (cB p.Code) (cond (p.Kind == 12) [] (cond (p.Kind == 13) [] (cB p.ID ++
  cond (p.Kind == 3) (cB (fM p.Dup) ++ nK p.Message) (cond (p.Kind == 10) (j5 fL p.Filters) (cond (p.Kind == 8) (j5 tK p.Subs) (cond (p.Kind == 9) (j5 cB p.Codes) (cond (p.Kind == 11) (j5 cB p.Codes) [])))))))))
def gI (p : aA) : List Int := cB p.Kind ++ jD p
end Md
end PX
