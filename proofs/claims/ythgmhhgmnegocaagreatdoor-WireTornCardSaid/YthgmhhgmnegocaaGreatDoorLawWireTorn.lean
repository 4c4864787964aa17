import Derived.Test.YthgmhhgmnegocaaGreatDoorWdB
set_option linter.unusedVariables false
set_option linter.unusedSimpArgs false
namespace PX
open Go
namespace Md
abbrev iP : aA := pk 0 0 false zeroM false 0 [] [] []
def aa0 : Rd aA := bQ iL fun k => if rngB 1 14 k = true then ads k else aaD 10 (by decide)
def al3 (y : aA) (q : List Int) : aA × Int := if q = [] then (if jK y = 0 then (y, 0) else (iP, jK y)) else (iP, 2)
def w3 (x0 : List Int) : aA × Int := if x0.length > 4096 then (iP, 5) else match aa0 x0 with | .ok y q => al3 y q | .er e _ => (iP, e)
def GD (y : aA) (q : List Int) (o : Option (aA × Int)) : Prop := y.good → o = some (al3 y q)
def BD (e : Int) (o : Option (aA × Int)) : Prop := o = some (iP, e)
theorem aeY {x0 : List Int} {p : Nat} (hp : p ≤ x0.length) : (x0.drop p = []) ↔ p = x0.length := by
 rw [List.drop_eq_nil_iff]; omega
theorem aom {x0 : List Int} (hb : Buf x0) (h : x0.length ≤ 4096) : match aa0 x0 with | .ok y q => GD y q (kL x0) | .er e _ => BD e (kL x0) := by
 have tail : ∀ y : aA, abf x0 (eU y) (fun st => cA (eK (decide (st.at_ < (List.length x0 : Int))) 2) (fun e7 => some (iP, e7.code)) fun _ =>
   Option.bind (kJ y) fun r8 => cA (eK (r8 != 0) r8) (fun e10 => some (iP, e10.code)) fun _ => some (y, 0)) GD BD := fun y p hp hg => by
  unfold al3
  dsimp only
  by_cases c : p = x0.length
  ·rw [if_pos ((aeY hp).2 c), show decide ((p : Int) < (List.length x0 : Int)) = false by simp; omega, ayH, aeP y hg, aU]
   by_cases d : jK y = 0
   ·rw [if_pos d, d]; rfl
   ·rw [if_neg d, aaY d]; rfl
  ·rw [if_neg (fun e => c ((aeY hp).1 e)), show decide ((p : Int) < (List.length x0 : Int)) = true by simp; omega]; rfl
 have main : abf x0 aa0 (fun st => cA (bS st) (fun e1 => some (iP, e1.code)) fun r0 =>
   cond (decide (r0.1 < 1)) (
    cA (eK true 10) (fun e3 => some (iP, e3.code)) fun r2 =>
    cA (fX r0.2 r0.1) (fun e5 => some (iP, e5.code)) fun r4 =>
    cA (eK (decide (r4.2.at_ < (List.length x0 : Int))) 2) (fun e7 => some (iP, e7.code)) fun r6 =>
    Option.bind (kJ r4.1) fun r8 =>
    cA (eK (r8 != 0) r8) (fun e10 => some (iP, e10.code)) fun r9 =>
    some (r4.1, 0)) (
   cA (eK (decide (r0.1 > 14)) 10) (fun e12 => some (iP, e12.code)) fun r11 =>
   cA (fX r0.2 r0.1) (fun e14 => some (iP, e14.code)) fun r13 =>
   cA (eK (decide (r13.2.at_ < (List.length x0 : Int))) 2) (fun e16 => some (iP, e16.code)) fun r15 =>
   Option.bind (kJ r13.1) fun r17 =>
   cA (eK (r17 != 0) r17) (fun e19 => some (iP, e19.code)) fun r18 =>
   some (r13.1, 0))) GD BD := by
  unfold aa0
  refine cR (fA hb) (fun k => ?_) fun _ _ => rfl
  dsimp only
  by_cases c1 : k < 1
  ·rw [if_neg (by rw [mY]; omega)]
   intro p hp
   show _ = _
   dsimp only
   rw [aL (by simpa using c1)]; rfl
  ·by_cases c2 : k > 14
   ·rw [if_neg (by rw [mY]; omega)]
    intro p hp
    show _ = _
    dsimp only
    rw [aQ (by simpa using c1), show decide (k > 14) = true by simpa using c2]; rfl
   ·rw [if_pos (by rw [mY]; omega)]
    have := cR (G := GD) (B := BD) (R2 := fun y => eU y) (Kp := fun e : aN => some (iP, e.code)) (K := fun r13 => cA (eK (decide (r13.2.at_ < (List.length x0 : Int))) 2) (fun e7 => some (iP, e7.code)) fun _ =>
   Option.bind (kJ r13.1) fun r8 => cA (eK (r8 != 0) r8) (fun e10 => some (iP, e10.code)) fun _ => some (r13.1, 0)) (aoZ hb (k := k) (by rw [mY]; omega)) tail fun _ _ => rfl
    rw [tH] at this
    intro p hp
    have := this p hp
    dsimp only
    rw [aQ (by simpa using c1), show decide (k > 14) = false by simpa using c2]
    exact this
 have := main 0 (by omega)
 rw [List.drop_zero] at this
 unfold kL
 rw [aQ (by simp; omega)]
 cases c : aa0 x0 with
 | ok y q => rw [c] at this; exact this
 | er e he => rw [c] at this; exact this
end Md
end PX
set_option linter.unusedVariables false
set_option linter.unusedSimpArgs false
namespace PX
open Go
namespace Md
def Has {α : Type} (r : Rd α) (D : α → Prop) : Prop := ∀ l x q, byt l → r l = .ok x q → D x ∧ byt q
theorem oA {α : Type} {D : α → Prop} {x : α} (h : D x) : Has (eU x) D := fun l y q hb e => by
 injection e with e1 e2
 subst e1 e2
 exact ⟨h, hb⟩
theorem awg {α : Type} {D : α → Prop} (e : Int) (h : e ≠ 0) : Has (aaD e h) D := fun l y q hb e => by cases e
theorem fD {α β : Type} {r : Rd α} {f : α → Rd β} {D : α → Prop} {D' : β → Prop} (h1 : Has r D) (h2 : ∀ x, D x → Has (f x) D') : Has (bQ r f) D' := fun l y q hb e => by
 obtain ⟨x, m, e1, e2⟩ := dT e
 obtain ⟨d, b⟩ := h1 l x m hb e1
 exact h2 x d m y q b e2
theorem tS {α : Type} {r : Rd α} {w : α → List Int} {D : α → Prop} (h : tL r w D) : Has r D := fun l x q hb e => by
 obtain ⟨d, e⟩ := h l x q hb e
 subst e
 exact ⟨d, fW hb⟩
theorem iV {α : Type} {P : α → Prop} : okL P ([] : List α) := ⟨by simp, fun x hx => by cases hx⟩
theorem z64 : i64 0 := ⟨by decide, by decide⟩
theorem o64 : i64 1 := ⟨by decide, by decide⟩
theorem pJ {k i co : Int} {d pr : Bool} {m : aF} {s : List aH} {f : List Str} {c : List Int} (hk : i64 k) (hi : i64 i) (hm : m.good) (hc : i64 co) (hs : okL aH.good s) (hf : okL okS f) (hcs : okL (okI .i64) c) : (pk k i d m pr co s f c).good :=
 ⟨fH hk, fH hi, hm, Nat.zero_le _, Nat.zero_le _, fH z64, fH z64, fH z64, ⟨fH z64, iQ⟩, fH hc, hs, hf, hcs⟩
theorem an3 {s : Str} (h : (s.length : Int) ≤ 1000) : okS s := by unfold okS; omega
theorem aoO {c u : Str} {cl s : Bool} {k e w d : Int} {m : aF} (hc : (c.length : Int) ≤ 16) (hu : (u.length : Int) ≤ 16) (hk : i64 k) (he : i64 e) (hw : i64 w) (hd : i64 d) (hm : m.good) : (akB c u cl k e w s d m).good :=
 ⟨fH o64, fH z64, iQ, an3 (s := c) (by omega), an3 (s := u) (by omega), fH hk, fH he, fH hw, ⟨fH hd, hm⟩, fH z64, iV, iV, iV⟩
theorem awF {k : Int} (hk : rngB 1 14 k = true) : Has (ads k) aA.good := by
 have k64 : i64 k := by rw [mY] at hk; exact ⟨by omega, by omega⟩
 have hn := tS pS
 unfold ads
 rcases pQ hk with rfl | rfl | rfl | rfl | rfl | rfl | rfl | rfl | rfl | rfl | rfl | rfl | rfl | rfl <;> simp only [Int.reduceBEq, gZ, jB, Bool.or_false, Bool.or_true, Bool.false_or, Bool.true_or]
 ·unfold afi
  refine fD (tS (mB 16)) fun c hc => fD (tS (mB 16)) fun u hu => fD (tS (ak9 4)) fun f _ => fD hn fun k hk => fD hn fun e he => fD hn fun w hw => ?_
  cases fl1 f with
  | true => exact fD hn fun d hd => fD (tS akv) fun m hm => oA (aoO hc hu hk he hw hd (avc hm))
  | false => exact oA (aoO hc hu hk he hw z64 iQ)
 ·exact fD (tS afd) fun f _ => fD hn fun c hc => oA (pJ k64 z64 iQ hc iV iV iV)
 ·exact fD hn fun i hi => fD (tS afd) fun f _ => fD (tS akv) fun m hm => oA (pJ k64 hi (avc hm) z64 iV iV iV)
 ·exact fD hn fun i hi => oA (pJ k64 hi iQ z64 iV iV iV)
 ·exact fD hn fun i hi => oA (pJ k64 hi iQ z64 iV iV iV)
 ·exact fD hn fun i hi => oA (pJ k64 hi iQ z64 iV iV iV)
 ·exact fD hn fun i hi => oA (pJ k64 hi iQ z64 iV iV iV)
 ·exact fD hn fun i hi => fD (tS (aff auY)) fun l hl => oA (pJ k64 hi iQ z64 ⟨by have := hl.1; omega, fun x hx => ⟨by have := (hl.2 x hx).1; unfold okS; omega, fH (hl.2 x hx).2⟩⟩ iV iV)
 ·exact fD hn fun i hi => fD (tS (aff pS)) fun l hl => oA (pJ k64 hi iQ z64 iV iV ⟨by have := hl.1; omega, fun x hx => fH (hl.2 x hx)⟩)
 ·exact fD hn fun i hi => fD (tS (aff (mB 88))) fun l hl => oA (pJ k64 hi iQ z64 iV ⟨by have := hl.1; omega, fun x hx => by have := hl.2 x hx; unfold okS; omega⟩ iV)
 ·exact fD hn fun i hi => fD (tS (aff pS)) fun l hl => oA (pJ k64 hi iQ z64 iV iV ⟨by have := hl.1; omega, fun x hx => fH (hl.2 x hx)⟩)
 ·exact oA (pJ k64 z64 iQ z64 iV iV iV)
 ·exact oA (pJ k64 z64 iQ z64 iV iV iV)
 ·exact fD hn fun c hc => oA (pJ k64 z64 iQ hc iV iV iV)
theorem awI : Has aa0 aA.good := by
 unfold aa0
 refine fD (tS pS) fun k _ => ?_
 by_cases c : rngB 1 14 k = true
 ·rw [if_pos c]; exact awF c
 ·rw [if_neg c]; exact awg _ _
theorem aaz : iP.good := pJ z64 z64 iQ z64 iV iV iV
end Md
end PX
set_option linter.unusedVariables false
set_option linter.unusedSimpArgs false
namespace PX
open Go
namespace Md
def wL : Nat → List Int → List aA → List aA × Int
 | 0, _, w => (w, 0)
 | n + 1, [], w => (w, 0)
 | n + 1, l, w => match gK 4096 l with
  | .er e _ => ([], e)
  | .ok s q => if (w3 (ofStr s)).2 = 0 then wL n q (w ++ [(w3 (ofStr s)).1]) else ([], (w3 (ofStr s)).2)
end Md
end PX
set_option linter.unusedVariables false
set_option linter.unusedSimpArgs false
namespace PX
open Go
namespace Md
def Btn {α : Type} (r : Rd α) (b : List Int) (x : α) : Prop := gF r b x ∧ pY r b
theorem fY {α β : Type} {r : Rd α} {f : α → Rd β} {b c : List Int} {x : α} {y : β} (h1 : Btn r b x) (h2 : Btn (f x) c y) : Btn (bQ r f) (b ++ c) y := ⟨jD h1.1 h2.1, aeI h1.1 h1.2 h2.2⟩
theorem aoY {α : Type} (x : α) : Btn (eU x) [] x := ⟨ao4 x, an6 x⟩
theorem rU {α β : Type} {r : Rd α} {f : α → Rd β} {b : List Int} {x : α} {y : β} (h1 : Btn r b x) (h2 : f x = eU y) : Btn (bQ r f) b y := ⟨abu h1.1 fun q => by rw [h2]; rfl, ab8 h1.2⟩
theorem kH {x : Int} (h : i64 x) : Btn iL (cV x) x := ⟨acI h.1 h.2, agS h.1 h.2⟩
theorem yA {lim : Int} {n : Nat} {s : List UInt8} (h : s.length ≤ n) (hn : (n : Int) ≤ lim) (h2 : n ≤ 1000000) : Btn (gK lim) (fL s) s := ⟨afM (by omega) (by omega), apF (by omega) (by omega)⟩
theorem au1 {k x : Int} (h0 : 0 ≤ x) (h1 : x < k) (h2 : i64 x) : Btn (uK k) (cV x) x := ⟨ahL h0 h1 h2.2, aid h2⟩
theorem atQ {lim x : Int} (h0 : 0 ≤ x) (h1 : x ≤ lim) (h2 : i64 x) : Btn (kS lim) (cV x) x := ⟨uI h0 h1 h2.2, adP h2⟩
theorem ai7 (b : Bool) : Btn yD (cV (fS b)) b := ⟨afS b, ab8 (aid (abt b))⟩
theorem av3 {α : Type} {one : Rd α} {w : α → List Int} {l : List α} (h : ∀ x ∈ l, Btn one (w x) x) : Btn (sC one l.length) (l.flatMap w) l := ⟨abG fun x hx => (h x hx).1, afH h⟩
theorem aje {α : Type} {one : Rd α} {w : α → List Int} {lim : Int} {l : List α} (hl : (l.length : Int) ≤ lim) (hn : l.length ≤ 1000000) (h : ∀ x ∈ l, Btn one (w x) x) : Btn (sB lim one) (m7 w l) l := ⟨ajT hl hn fun x hx => (h x hx).1, aqe hl hn h⟩
theorem awb {x : aC} (h : x.Key.length ≤ 16 ∧ x.Value.length ≤ 160) : Btn afa (fL x.Key ++ fL x.Value) x :=
 fY (yA h.1 (by decide) (by decide)) (rU (yA h.2 (by decide) (by decide)) rfl)
theorem atz {m : aF} (h : MsgD m) : Btn zW (rD m) m := by
 unfold zW ac0 rD lJ
 refine fY (yA h.t (by decide) (by decide)) ?_
 refine fY (yA h.p (by decide) (by decide)) ?_
 refine fY (kH h.l) ?_
 refine fY (ai7 m.Retain) ?_
 refine fY (kH h.pr) ?_
 refine fY (kH h.ex) ?_
 refine fY (yA h.f (by decide) (by decide)) ?_
 refine fY (kH h.sq) ?_
 have hn := h.n
 refine fY (atQ (by omega) (by omega) ⟨by omega, by omega⟩) ?_
 rw [Int.toNat_natCast]
 exact rU (av3 fun x hx => awb (h.ps x hx)) rfl
theorem aw7 {x : aH} (h : SubD x) : Btn adw (xT x) x :=
 fY (yA h.1 (by decide) (by decide)) (fY (kH h.2) (rU (ai7 x.NoLocal) rfl))
theorem azA (a b : Bool) : fl0 (fS a + 2 * fS b) = a := by cases a <;> cases b <;> kernel_rfl
theorem axU (a b : Bool) : fl1 (fS a + 2 * fS b) = b := by cases a <;> cases b <;> kernel_rfl
theorem aqy (a b : Bool) : 0 ≤ fS a + 2 * fS b ∧ fS a + 2 * fS b < 4 := by cases a <;> cases b <;> decide
theorem awr {p : aA} (h : aaN p) (k : p.Kind = 1) : Btn afi (ae2 p) (akB p.Client p.User p.Clean p.Keep p.Expiry p.Window p.Will.Set p.Will.Delay p.Will.Message) := by
 obtain ⟨h1, h2, h3⟩ := h.cl k
 unfold afi ae2
 refine fY (yA h1 (by decide) (by decide)) ?_
 refine fY (yA h2 (by decide) (by decide)) ?_
 refine fY (au1 (aqy _ _).1 (aqy _ _).2 (oP (aik _ _))) ?_
 rw [azA, axU]
 refine fY (kH h.keep) ?_
 refine fY (kH h.exp) ?_
 refine fY (kH h.win) ?_
 unfold zQ
 cases hs : p.Will.Set with
 | true =>
  rw [if_pos rfl, gZ]
  exact fY (kH h.del) (rU (atz (h3 hs)) rfl)
 | false =>
  obtain ⟨e1, e2⟩ := h.wl k hs
  rw [if_neg (by decide), jB, e1, e2]
  exact aoY _
def aqN (p : aA) : aA :=
 cond (p.Kind == 1) (akB p.Client p.User p.Clean p.Keep p.Expiry p.Window p.Will.Set p.Will.Delay p.Will.Message) (cond (p.Kind == 2) (pk p.Kind 0 false zeroM p.Present p.Code [] [] [])
  (cond (p.Kind == 3) (pk p.Kind p.ID p.Dup p.Message false 0 [] [] []) (cond (p.Kind == 4 || (p.Kind == 5 || (p.Kind == 6 || p.Kind == 7))) (pk p.Kind p.ID false zeroM false 0 [] [] [])
  (cond (p.Kind == 8) (pk 8 p.ID false zeroM false 0 p.Subs [] []) (cond (p.Kind == 9 || p.Kind == 11) (pk p.Kind p.ID false zeroM false 0 [] [] p.Codes) (cond (p.Kind == 10) (pk 10 p.ID false zeroM false 0 [] p.Filters [])
  (cond (p.Kind == 14) (pk p.Kind 0 false zeroM false p.Code [] [] []) (pk p.Kind 0 false zeroM false 0 [] [] []))))))))
theorem awh {p : aA} (h : p = usedP p) (k : rngB 1 14 p.Kind = true) : p = aqN p := by
 obtain ⟨k', a2, a3, a4, a5, a6, a7, a8, a9, a10, a11, a14, a15, a16, a17, a18⟩ := p
 rcases pQ k with e | e | e | e | e | e | e | e | e | e | e | e | e | e <;> (simp only at e; subst e; exact h)
theorem awm {p : aA} (h : aaN p) : Btn (ads p.Kind) (acV p) p := by
 have nil : ∀ b : List Int, b ++ [] = b := List.append_nil
 suffices key : Btn (ads p.Kind) (acV p) (aqN p) from Eq.mpr (congrArg (Btn (ads p.Kind) (acV p)) (awh h.us h.k)) key
 unfold ads acV aqN
 rcases pQ h.k with k | k | k | k | k | k | k | k | k | k | k | k | k | k <;> simp only [k, Int.reduceBEq, gZ, jB, Bool.or_false, Bool.or_true, Bool.false_or, Bool.true_or, nil]
 ·exact awr h k
 ·exact fY (ai7 _) (rU (kH h.code) rfl)
 ·exact fY (kH h.id) (fY (ai7 _) (rU (atz (h.ms k)) rfl))
 ·exact rU (kH h.id) rfl
 ·exact rU (kH h.id) rfl
 ·exact rU (kH h.id) rfl
 ·exact rU (kH h.id) rfl
 ·have := (h.sb k).1
  exact fY (kH h.id) (rU (aje (by omega) (by omega) fun x hx => aw7 ((h.sb k).2 x hx)) rfl)
 ·have := (h.cd (.inl k)).1
  exact fY (kH h.id) (rU (aje (by omega) (by omega) fun x hx => kH ((h.cd (.inl k)).2 x hx)) rfl)
 ·have := (h.fl k).1
  exact fY (kH h.id) (rU (aje (by omega) (by omega) fun x hx => yA ((h.fl k).2 x hx) (by decide) (by decide)) rfl)
 ·have := (h.cd (.inr k)).1
  exact fY (kH h.id) (rU (aje (by omega) (by omega) fun x hx => kH ((h.cd (.inr k)).2 x hx)) rfl)
 ·exact aoY _
 ·exact aoY _
 ·exact rU (kH h.code) rfl
theorem atv {p : aA} (h : aaN p) : Btn aa0 (oC p) p := by
 unfold aa0 oC
 refine fY (kH (akL h)) ?_
 rw [if_pos h.k]
 exact awm h
theorem aun {p : aA} (h : aaN p) {l z : List Int} (e : l ++ z = oC p) (hz : z ≠ []) : w3 l = (iP, 3) := by
 have := (atv h).2 l z e hz
 unfold w3
 rw [if_neg (by have := vB h; have := congrArg List.length e; simp at this; omega), this]
end Md
end PX
set_option linter.unusedVariables false
set_option linter.unusedSimpArgs false
namespace PX
open Go
namespace Md
theorem decode_wq {x0 : List Int} (hb : Buf x0) : kL x0 = some (w3 x0) := by
 unfold w3
 by_cases c : x0.length > 4096
 ·rw [if_pos c]
  unfold kL; rw [aL (by simp; omega)]
 ·rw [if_neg c]
  have h1 := aom hb (by omega)
  cases e : aa0 x0 with
  | ok y q =>
   rw [e] at h1
   exact h1 (awI x0 y q hb.1 e).1
  | er e' he =>
   rw [e] at h1
   exact h1
end Md
end PX
set_option linter.unusedVariables false
namespace PX
open Go
namespace Md
theorem aek (p0 : aA) (p1 : Int) (g0 : D.okL aA.ks (aA.enc p0)) (g1 : D.okL [.int .i64] ([D.int .i64 p1])) : qI p0 p1 = some true := by
 have g : p0.good := aA.lB g0
 unfold qI
 rw [zL p0 g, aU]
 by_cases c : jK p0 = 0
 ·rw [c, aQ (by simp), ahg p0 g, aU]
  have e : tY p0 = (oC p0, 0) := by unfold tY; rw [c, aQ (by simp)]
  have h := adi c g
  rw [e, aQ (by simp)]
  dsimp only
  by_cases c1 : p1 < 0
  ·rw [aL (by simpa using c1), nI]; rfl
  ·rw [aQ (by simpa using c1)]
   by_cases c2 : p1 ≥ ((oC p0).length : Int)
   ·rw [aL (by simpa using c2), nI]; rfl
   ·rw [aQ (by simpa using c2)]
    unfold nT
    obtain ⟨n, rfl⟩ := Int.eq_ofNat_of_zero_le (show 0 ≤ p1 by omega)
    have hn : n < (oC p0).length := by omega
    have hl := vB h
    rw [aL (by simp; omega)]
    have hd : (oC p0).drop n ≠ [] := fun e => by have := congrArg List.length e; rw [List.length_drop] at this; simp at this; omega
    have ht := aun h (List.take_append_drop n (oC p0)) hd
    have hB : Buf ((oC p0).take n) := ⟨fun x hx => ac8 h x (List.mem_of_mem_take hx), by rw [List.length_take]; omega⟩
    have es : List.take (Int.toNat (n : Int) - 0) (List.drop 0 (oC p0)) = (oC p0).take n := by simp
    rw [es, decode_wq hB, ht, aU, aL (by rfl)]
    dsimp only
    rw [xK _ _ aaz, aU, aL (by simp), nI]; rfl
 ·rw [aL (by simpa using c), nI]; rfl
end Md
end PX
