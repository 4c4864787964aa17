import Derived.Test.YthgmhhgmnegocaaGreatDoorRdH
set_option linter.unusedVariables false
set_option linter.unusedSimpArgs false
namespace PX
open Go
namespace Md
structure aaN (p : aA) : Prop where
 k : rngB 1 14 p.Kind = true
 id : i64 p.ID
 code : i64 p.Code
 keep : i64 p.Keep
 exp : i64 p.Expiry
 win : i64 p.Window
 del : i64 p.Will.Delay
 cl : p.Kind = 1 → p.Client.length ≤ 16 ∧ p.User.length ≤ 16 ∧ (p.Will.Set = true → MsgD p.Will.Message)
 wl : p.Kind = 1 → p.Will.Set = false → p.Will.Delay = 0 ∧ p.Will.Message = zeroM
 ms : p.Kind = 3 → MsgD p.Message
 sb : p.Kind = 8 → p.Subs.length ≤ 32 ∧ ∀ x ∈ p.Subs, SubD x
 fl : p.Kind = 10 → p.Filters.length ≤ 32 ∧ ∀ s ∈ p.Filters, s.length ≤ 88
 cd : p.Kind = 9 ∨ p.Kind = 11 → p.Codes.length ≤ 32 ∧ ∀ x ∈ p.Codes, i64 x
 us : p = usedP p
theorem acX {α : Type} {f : α → Int} : ∀ {l : List α}, eH f l = 0 → ∀ x ∈ l, f x = 0
 | [], _, _, h => by cases h
 | y :: r, h, x, hx => by
  rw [eH] at h
  by_cases c : f y = 0
  ·rw [aL (by simpa using c)] at h
   rcases List.mem_cons.1 hx with rfl | hx
   ·exact c
   ·exact acX h x hx
  ·rw [aQ (by simpa using c)] at h
   exact absurd h c
theorem agP {x : Int} {n : Nat} (h : mP x n = 0) : n ≤ 32 := by
 unfold mP ai1 at h
 have h := cz1 h (by decide)
 have h := cz2 h (by decide)
 by_cases c : (32 : Int) < n
 ·rw [aL (by simpa using c)] at h; cases h
 ·omega
theorem anQ {a b : Int} (h : cond (a == 0) b a = 0) : a = 0 ∧ b = 0 := by
 by_cases c : a = 0
 ·rw [aL (by simpa using c)] at h; exact ⟨c, h⟩
 ·rw [aQ (by simpa using c)] at h; exact absurd h c
theorem aqk {p : aA} (h : zY p = 0) (g : p.good) : p.Client.length ≤ 16 ∧ p.User.length ≤ 16 ∧ (p.Will.Set = true → MsgD p.Will.Message) ∧ (p.Will.Set = false → p.Will.Delay = 0 ∧ p.Will.Message = zeroM) := by
 unfold zY at h
 have k1 : mL p.Client = true := by
  cases e : mL p.Client with
  | true => rfl
  | false => rw [e] at h; cases h
 have h := cz1 h (by decide)
 have k2 : p.User.length ≤ 16 ∧ ajp p = 0 := by
  cases e : p.User == [] with
  | true =>
   rw [e] at h
   have : p.User = [] := by simpa using e
   rw [this]
   exact ⟨by simp, h⟩
  | false =>
   rw [e, jB] at h
   have kf : mL p.User = true := by
    cases e : mL p.User with
    | true => rfl
    | false => rw [e] at h; cases h
   exact ⟨aby kf, cz1 h (by decide)⟩
 have h := k2.2
 unfold ajp at h
 have h := cz1 (cz1 (cz1 h (by decide)) (by decide)) (by decide)
 unfold acF at h
 refine ⟨aby k1, k2.1, fun hs => ?_, fun hs => ?_⟩
 ·rw [hs, gZ] at h
  have h := cz1 h (by decide)
  exact amk h g.2.2.2.2.2.2.2.2.1.2
 ·rw [hs, jB] at h
  by_cases c : p.Will.Delay = 0
  ·refine ⟨c, ?_⟩
   rw [aL (by simpa using c)] at h
   by_cases d : p.Will.Message = zeroM
   ·exact d
   ·rw [aQ (by simpa using d)] at h; cases h
  ·rw [aQ (by simpa using c)] at h; cases h
theorem adi {p : aA} (h : jK p = 0) (g : p.good) : aaN p := by
 unfold jK at h
 have k : rngB 1 14 p.Kind = true := by
  cases e : rngB 1 14 p.Kind with
  | true => rfl
  | false => rw [e] at h; cases h
 have h := cz1 h (by decide)
 have us : p = usedP p := by
  by_cases c : p = usedP p
  ·exact c
  ·rw [aQ (by simpa using c)] at h; cases h
 have h := cz1 h (by decide)
 have hg : p.good := g
 obtain ⟨_, g2, g3, g4, g5, g6, g7, g8, g9, g10, g11, g12, g13⟩ := g
 refine ⟨k, oP g2, oP g10, oP g6, oP g7, oP g8, oP g9.1, ?_, ?_, ?_, ?_, ?_, ?_, us⟩
 ·intro e
  unfold acN at h
  rw [e] at h
  have := aqk h hg
  exact ⟨this.1, this.2.1, this.2.2.1⟩
 ·intro e
  unfold acN at h
  rw [e] at h
  exact (aqk h hg).2.2.2
 ·intro e
  unfold acN at h
  rw [e] at h
  have h : zZ p = 0 := h
  unfold zZ at h
  exact amk (anQ h).1 g3
 ·intro e
  unfold acN at h
  rw [e] at h
  have h : xV p = 0 := h
  unfold xV at h
  obtain ⟨h1, h2⟩ := anQ h
  refine ⟨agP h1, fun x hx => ?_⟩
  have := acX h2 x hx
  unfold w9 at this
  refine ⟨?_, oP (g11.2 x hx).2⟩
  cases e : mE x.Filter with
  | true => exact ad5 e
  | false => rw [e] at this; cases this
 ·intro e
  unfold acN at h
  rw [e] at h
  have h : tV p = 0 := h
  unfold tV at h
  obtain ⟨h1, h2⟩ := anQ h
  refine ⟨agP h1, fun x hx => ?_⟩
  have := acX h2 x hx
  unfold abL at this
  cases e : mE x with
  | true => exact ad5 e
  | false => rw [e] at this; cases this
 ·intro e
  unfold acN at h
  have h : abW p = 0 := by rcases e with e | e <;> rw [e] at h <;> exact h
  unfold abW at h
  obtain ⟨h1, h2⟩ := anQ h
  exact ⟨agP h1, fun x hx => oP (g13.2 x hx)⟩
def ae2 (p : aA) : List Int := fL p.Client ++ (fL p.User ++ (cV (fS p.Clean + 2 * fS p.Will.Set) ++ (cV p.Keep ++ (cV p.Expiry ++ (cV p.Window ++ zQ p.Will)))))
def acV (p : aA) : List Int :=
 cond (p.Kind == 1) (ae2 p) (cond (p.Kind == 2) (cV (fS p.Present) ++ cV p.Code) (cond (p.Kind == 14) (cV p.Code) (cond (p.Kind == 12) [] (cond (p.Kind == 13) [] (cV p.ID ++
  cond (p.Kind == 3) (cV (fS p.Dup) ++ rD p.Message) (cond (p.Kind == 10) (m7 fL p.Filters) (cond (p.Kind == 8) (m7 xT p.Subs) (cond (p.Kind == 9) (m7 cV p.Codes) (cond (p.Kind == 11) (m7 cV p.Codes) [])))))))))
def oC (p : aA) : List Int := cV p.Kind ++ acV p
end Md
end PX
