import Derived.Test.YthgmhhgmnegocaaGreatDoorWdC
set_option linter.unusedVariables false
set_option linter.unusedSimpArgs false
namespace PX
open Go
namespace Md
def Has {α : Type} (r : Rd α) (D : α → Prop) : Prop := ∀ l x q, byt l → r l = .ok x q → D x ∧ byt q
theorem oA {α : Type} {D : α → Prop} {x : α} (h : D x) : Has (eU x) D := fun l y q hb e => by
 injection e with e1 e2
 subst e1 e2
 exact ⟨h, hb⟩
theorem awg {α : Type} {D : α → Prop} (e : Int) (h : e ≠ 0) : Has (aaD e h) D := fun l y q hb e => by cases e
theorem fD {α β : Type} {r : Rd α} {f : α → Rd β} {D : α → Prop} {D' : β → Prop} (h1 : Has r D) (h2 : ∀ x, D x → Has (f x) D') : Has (bQ r f) D' := fun l y q hb e => by
 obtain ⟨x, m, e1, e2⟩ := dT e
 obtain ⟨d, b⟩ := h1 l x m hb e1
 exact h2 x d m y q b e2
theorem tS {α : Type} {r : Rd α} {w : α → List Int} {D : α → Prop} (h : tL r w D) : Has r D := fun l x q hb e => by
 obtain ⟨d, e⟩ := h l x q hb e
 subst e
 exact ⟨d, fW hb⟩
theorem iV {α : Type} {P : α → Prop} : okL P ([] : List α) := ⟨by simp, fun x hx => by cases hx⟩
theorem z64 : i64 0 := ⟨by decide, by decide⟩
theorem o64 : i64 1 := ⟨by decide, by decide⟩
theorem pJ {k i co : Int} {d pr : Bool} {m : aF} {s : List aH} {f : List Str} {c : List Int} (hk : i64 k) (hi : i64 i) (hm : m.good) (hc : i64 co) (hs : okL aH.good s) (hf : okL okS f) (hcs : okL (okI .i64) c) : (pk k i d m pr co s f c).good :=
 ⟨fH hk, fH hi, hm, Nat.zero_le _, Nat.zero_le _, fH z64, fH z64, fH z64, ⟨fH z64, iQ⟩, fH hc, hs, hf, hcs⟩
theorem an3 {s : Str} (h : (s.length : Int) ≤ 1000) : okS s := by unfold okS; omega
theorem aoO {c u : Str} {cl s : Bool} {k e w d : Int} {m : aF} (hc : (c.length : Int) ≤ 16) (hu : (u.length : Int) ≤ 16) (hk : i64 k) (he : i64 e) (hw : i64 w) (hd : i64 d) (hm : m.good) : (akB c u cl k e w s d m).good :=
 ⟨fH o64, fH z64, iQ, an3 (s := c) (by omega), an3 (s := u) (by omega), fH hk, fH he, fH hw, ⟨fH hd, hm⟩, fH z64, iV, iV, iV⟩
theorem awF {k : Int} (hk : rngB 1 14 k = true) : Has (ads k) aA.good := by
 have k64 : i64 k := by rw [mY] at hk; exact ⟨by omega, by omega⟩
 have hn := tS pS
 unfold ads
 rcases pQ hk with rfl | rfl | rfl | rfl | rfl | rfl | rfl | rfl | rfl | rfl | rfl | rfl | rfl | rfl <;> simp only [Int.reduceBEq, gZ, jB, Bool.or_false, Bool.or_true, Bool.false_or, Bool.true_or]
 ·unfold afi
  refine fD (tS (mB 16)) fun c hc => fD (tS (mB 16)) fun u hu => fD (tS (ak9 4)) fun f _ => fD hn fun k hk => fD hn fun e he => fD hn fun w hw => ?_
  cases fl1 f with
  | true => exact fD hn fun d hd => fD (tS akv) fun m hm => oA (aoO hc hu hk he hw hd (avc hm))
  | false => exact oA (aoO hc hu hk he hw z64 iQ)
 ·exact fD (tS afd) fun f _ => fD hn fun c hc => oA (pJ k64 z64 iQ hc iV iV iV)
 ·exact fD hn fun i hi => fD (tS afd) fun f _ => fD (tS akv) fun m hm => oA (pJ k64 hi (avc hm) z64 iV iV iV)
 ·exact fD hn fun i hi => oA (pJ k64 hi iQ z64 iV iV iV)
 ·exact fD hn fun i hi => oA (pJ k64 hi iQ z64 iV iV iV)
 ·exact fD hn fun i hi => oA (pJ k64 hi iQ z64 iV iV iV)
 ·exact fD hn fun i hi => oA (pJ k64 hi iQ z64 iV iV iV)
 ·exact fD hn fun i hi => fD (tS (aff auY)) fun l hl => oA (pJ k64 hi iQ z64 ⟨by have := hl.1; omega, fun x hx => ⟨by have := (hl.2 x hx).1; unfold okS; omega, fH (hl.2 x hx).2⟩⟩ iV iV)
 ·exact fD hn fun i hi => fD (tS (aff pS)) fun l hl => oA (pJ k64 hi iQ z64 iV iV ⟨by have := hl.1; omega, fun x hx => fH (hl.2 x hx)⟩)
 ·exact fD hn fun i hi => fD (tS (aff (mB 88))) fun l hl => oA (pJ k64 hi iQ z64 iV ⟨by have := hl.1; omega, fun x hx => by have := hl.2 x hx; unfold okS; omega⟩ iV)
 ·exact fD hn fun i hi => fD (tS (aff pS)) fun l hl => oA (pJ k64 hi iQ z64 iV iV ⟨by have := hl.1; omega, fun x hx => fH (hl.2 x hx)⟩)
 ·exact oA (pJ k64 z64 iQ z64 iV iV iV)
 ·exact oA (pJ k64 z64 iQ z64 iV iV iV)
 ·exact fD hn fun c hc => oA (pJ k64 z64 iQ hc iV iV iV)
theorem awI : Has aa0 aA.good := by
 unfold aa0
 refine fD (tS pS) fun k _ => ?_
 by_cases c : rngB 1 14 k = true
 ·rw [if_pos c]; exact awF c
 ·rw [if_neg c]; exact awg _ _
theorem aaz : iP.good := pJ z64 z64 iQ z64 iV iV iV
theorem aai {x0 : List Int} (hb : Buf x0) : kL x0 = some (w3 x0) ∧ hZ x0 = some (w3 x0) ∧ (w3 x0).1.good := by
 unfold w3
 by_cases c : x0.length > 4096
 ·rw [if_pos c]
  refine ⟨?_, ?_, aaz⟩
  ·unfold kL; rw [aL (by simp; omega)]
  ·unfold hZ; rw [aL (by simp; omega)]
 ·rw [if_neg c]
  have h1 := aom hb (by omega)
  have h2 := ao0 hb (by omega)
  cases e : aa0 x0 with
  | ok y q =>
   rw [e] at h1 h2
   have g := (awI x0 y q hb.1 e).1
   refine ⟨h1 g, h2 g, ?_⟩
   unfold al3
   dsimp only
   split
   ·split
    ·exact g
    ·exact aaz
   ·exact aaz
  | er e' he =>
   rw [e] at h1 h2
   exact ⟨h1, h2, aaz⟩
theorem asR {p0 : List Int} (g0 : D.okL [.sl [.int .u8]] ([D.sl [.int .u8] (List.map (aO .u8) p0)])) (h : p0.length ≤ 1000000000) : Buf p0 := ⟨azC g0, h⟩
end Md
end PX
