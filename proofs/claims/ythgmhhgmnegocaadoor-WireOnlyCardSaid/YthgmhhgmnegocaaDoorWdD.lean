import Derived.Test.YthgmhhgmnegocaaDoorWdC
set_option linter.unusedVariables false
set_option linter.unusedSimpArgs false
namespace PX
open Go
namespace Md
def Has {α : Type} (r : Rd α) (D : α → Prop) : Prop := ∀ l x q, byt l → r l = .ok x q → D x ∧ byt q
theorem jR {α : Type} {D : α → Prop} {x : α} (h : D x) : Has (eC x) D := fun l y q hb e => by
 injection e with e1 e2
 subst e1 e2
 exact ⟨h, hb⟩
theorem an8 {α : Type} {D : α → Prop} (e : Int) (h : e ≠ 0) : Has (sD e h) D := fun l y q hb e => by cases e
theorem dK {α β : Type} {r : Rd α} {f : α → Rd β} {D : α → Prop} {D' : β → Prop} (h1 : Has r D) (h2 : ∀ x, D x → Has (f x) D') : Has (bH r f) D' := fun l y q hb e => by
 obtain ⟨x, m, e1, e2⟩ := cJ e
 obtain ⟨d, b⟩ := h1 l x m hb e1
 exact h2 x d m y q b e2
theorem nQ {α : Type} {r : Rd α} {w : α → List Int} {D : α → Prop} (h : mO r w D) : Has r D := fun l x q hb e => by
 obtain ⟨d, e⟩ := h l x q hb e
 subst e
 exact ⟨d, dQ hb⟩
theorem fH {α : Type} {P : α → Prop} : okL P ([] : List α) := ⟨by simp, fun x hx => by cases hx⟩
theorem z64 : i64 0 := ⟨by decide, by decide⟩
theorem o64 : i64 1 := ⟨by decide, by decide⟩
theorem kI {k i co : Int} {d pr : Bool} {m : aC} {s : List aF} {f : List Str} {c : List Int} (hk : i64 k) (hi : i64 i) (hm : m.good) (hc : i64 co) (hs : okL aF.good s) (hf : okL okS f) (hcs : okL (okI .i64) c) : (pk k i d m pr co s f c).good :=
 ⟨dR hk, dR hi, hm, Nat.zero_le _, Nat.zero_le _, dR z64, dR z64, dR z64, ⟨dR z64, fC⟩, dR hc, hs, hf, hcs⟩
theorem aiw {s : Str} (h : (s.length : Int) ≤ 1000) : okS s := by unfold okS; omega
theorem ah1 {c u : Str} {cl s : Bool} {k e w d : Int} {m : aC} (hc : (c.length : Int) ≤ 16) (hu : (u.length : Int) ≤ 16) (hk : i64 k) (he : i64 e) (hw : i64 w) (hd : i64 d) (hm : m.good) : (aia c u cl k e w s d m).good :=
 ⟨dR o64, dR z64, fC, aiw (s := c) (by omega), aiw (s := u) (by omega), dR hk, dR he, dR hw, ⟨dR hd, hm⟩, dR z64, fH, fH, fH⟩
theorem aoo {k : Int} (hk : rngB 1 14 k = true) : Has (yH k) aA.good := by
 have k64 : i64 k := by rw [oA] at hk; exact ⟨by omega, by omega⟩
 have hn := nQ cY
 unfold yH
 rcases n4 hk with rfl | rfl | rfl | rfl | rfl | rfl | rfl | rfl | rfl | rfl | rfl | rfl | rfl | rfl <;> simp only [Int.reduceBEq, fA, fE, Bool.or_false, Bool.or_true, Bool.false_or, Bool.true_or]
 ·unfold abJ
  refine dK (nQ (gN 16)) fun c hc => dK (nQ (gN 16)) fun u hu => dK (nQ (abQ 4)) fun f _ => dK hn fun k hk => dK hn fun e he => dK hn fun w hw => ?_
  cases fl1 f with
  | true => exact dK hn fun d hd => dK (nQ yN) fun m hm => jR (ah1 hc hu hk he hw hd (ang hm))
  | false => exact jR (ah1 hc hu hk he hw z64 fC)
 ·exact dK (nQ sM) fun f _ => dK hn fun c hc => jR (kI k64 z64 fC hc fH fH fH)
 ·exact dK hn fun i hi => dK (nQ sM) fun f _ => dK (nQ yN) fun m hm => jR (kI k64 hi (ang hm) z64 fH fH fH)
 ·exact dK hn fun i hi => jR (kI k64 hi fC z64 fH fH fH)
 ·exact dK hn fun i hi => jR (kI k64 hi fC z64 fH fH fH)
 ·exact dK hn fun i hi => jR (kI k64 hi fC z64 fH fH fH)
 ·exact dK hn fun i hi => jR (kI k64 hi fC z64 fH fH fH)
 ·exact dK hn fun i hi => dK (nQ (nW aih)) fun l hl => jR (kI k64 hi fC z64 ⟨by have := hl.1; omega, fun x hx => ⟨by have := (hl.2 x hx).1; unfold okS; omega, dR (hl.2 x hx).2⟩⟩ fH fH)
 ·exact dK hn fun i hi => dK (nQ (nW cY)) fun l hl => jR (kI k64 hi fC z64 fH fH ⟨by have := hl.1; omega, fun x hx => dR (hl.2 x hx)⟩)
 ·exact dK hn fun i hi => dK (nQ (nW (gN 88))) fun l hl => jR (kI k64 hi fC z64 fH ⟨by have := hl.1; omega, fun x hx => by have := hl.2 x hx; unfold okS; omega⟩ fH)
 ·exact dK hn fun i hi => dK (nQ (nW cY)) fun l hl => jR (kI k64 hi fC z64 fH fH ⟨by have := hl.1; omega, fun x hx => dR (hl.2 x hx)⟩)
 ·exact jR (kI k64 z64 fC z64 fH fH fH)
 ·exact jR (kI k64 z64 fC z64 fH fH fH)
 ·exact dK hn fun c hc => jR (kI k64 z64 fC hc fH fH fH)
theorem ajQ : Has tP aA.good := by
 unfold tP
 refine dK (nQ cY) fun k _ => ?_
 by_cases c : rngB 1 14 k = true
 ·rw [if_pos c]; exact aoo c
 ·rw [if_neg c]; exact an8 _ _
theorem wL : j8.good := kI z64 z64 fC z64 fH fH fH
theorem apd {p0 : List Int} (g0 : D.okL [.sl [.int .u8]] ([D.sl [.int .u8] (List.map (aN .u8) p0)])) (h : p0.length ≤ 1000000000) : Buf p0 := ⟨apk g0, h⟩
end Md
end PX
