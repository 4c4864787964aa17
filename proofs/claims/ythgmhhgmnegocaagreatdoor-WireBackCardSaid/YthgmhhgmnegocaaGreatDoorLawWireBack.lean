import Derived.Test.YthgmhhgmnegocaaGreatDoorWdB
set_option linter.unusedVariables false
set_option linter.unusedSimpArgs false
namespace PX
open Go
namespace Md
abbrev iP : aA := pk 0 0 false zeroM false 0 [] [] []
def aa0 : Rd aA := bQ iL fun k => if rngB 1 14 k = true then ads k else aaD 10 (by decide)
def al3 (y : aA) (q : List Int) : aA × Int := if q = [] then (if jK y = 0 then (y, 0) else (iP, jK y)) else (iP, 2)
def w3 (x0 : List Int) : aA × Int := if x0.length > 4096 then (iP, 5) else match aa0 x0 with | .ok y q => al3 y q | .er e _ => (iP, e)
def GD (y : aA) (q : List Int) (o : Option (aA × Int)) : Prop := y.good → o = some (al3 y q)
def BD (e : Int) (o : Option (aA × Int)) : Prop := o = some (iP, e)
theorem aeY {x0 : List Int} {p : Nat} (hp : p ≤ x0.length) : (x0.drop p = []) ↔ p = x0.length := by
 rw [List.drop_eq_nil_iff]; omega
theorem aom {x0 : List Int} (hb : Buf x0) (h : x0.length ≤ 4096) : match aa0 x0 with | .ok y q => GD y q (kL x0) | .er e _ => BD e (kL x0) := by
 have tail : ∀ y : aA, abf x0 (eU y) (fun st => cA (eK (decide (st.at_ < (List.length x0 : Int))) 2) (fun e7 => some (iP, e7.code)) fun _ =>
   Option.bind (kJ y) fun r8 => cA (eK (r8 != 0) r8) (fun e10 => some (iP, e10.code)) fun _ => some (y, 0)) GD BD := fun y p hp hg => by
  unfold al3
  dsimp only
  by_cases c : p = x0.length
  ·rw [if_pos ((aeY hp).2 c), show decide ((p : Int) < (List.length x0 : Int)) = false by simp; omega, ayH, aeP y hg, aU]
   by_cases d : jK y = 0
   ·rw [if_pos d, d]; rfl
   ·rw [if_neg d, aaY d]; rfl
  ·rw [if_neg (fun e => c ((aeY hp).1 e)), show decide ((p : Int) < (List.length x0 : Int)) = true by simp; omega]; rfl
 have main : abf x0 aa0 (fun st => cA (bS st) (fun e1 => some (iP, e1.code)) fun r0 =>
   cond (decide (r0.1 < 1)) (
    cA (eK true 10) (fun e3 => some (iP, e3.code)) fun r2 =>
    cA (fX r0.2 r0.1) (fun e5 => some (iP, e5.code)) fun r4 =>
    cA (eK (decide (r4.2.at_ < (List.length x0 : Int))) 2) (fun e7 => some (iP, e7.code)) fun r6 =>
    Option.bind (kJ r4.1) fun r8 =>
    cA (eK (r8 != 0) r8) (fun e10 => some (iP, e10.code)) fun r9 =>
    some (r4.1, 0)) (
   cA (eK (decide (r0.1 > 14)) 10) (fun e12 => some (iP, e12.code)) fun r11 =>
   cA (fX r0.2 r0.1) (fun e14 => some (iP, e14.code)) fun r13 =>
   cA (eK (decide (r13.2.at_ < (List.length x0 : Int))) 2) (fun e16 => some (iP, e16.code)) fun r15 =>
   Option.bind (kJ r13.1) fun r17 =>
   cA (eK (r17 != 0) r17) (fun e19 => some (iP, e19.code)) fun r18 =>
   some (r13.1, 0))) GD BD := by
  unfold aa0
  refine cR (fA hb) (fun k => ?_) fun _ _ => rfl
  dsimp only
  by_cases c1 : k < 1
  ·rw [if_neg (by rw [mY]; omega)]
   intro p hp
   show _ = _
   dsimp only
   rw [aL (by simpa using c1)]; rfl
  ·by_cases c2 : k > 14
   ·rw [if_neg (by rw [mY]; omega)]
    intro p hp
    show _ = _
    dsimp only
    rw [aQ (by simpa using c1), show decide (k > 14) = true by simpa using c2]; rfl
   ·rw [if_pos (by rw [mY]; omega)]
    have := cR (G := GD) (B := BD) (R2 := fun y => eU y) (Kp := fun e : aN => some (iP, e.code)) (K := fun r13 => cA (eK (decide (r13.2.at_ < (List.length x0 : Int))) 2) (fun e7 => some (iP, e7.code)) fun _ =>
   Option.bind (kJ r13.1) fun r8 => cA (eK (r8 != 0) r8) (fun e10 => some (iP, e10.code)) fun _ => some (r13.1, 0)) (aoZ hb (k := k) (by rw [mY]; omega)) tail fun _ _ => rfl
    rw [tH] at this
    intro p hp
    have := this p hp
    dsimp only
    rw [aQ (by simpa using c1), show decide (k > 14) = false by simpa using c2]
    exact this
 have := main 0 (by omega)
 rw [List.drop_zero] at this
 unfold kL
 rw [aQ (by simp; omega)]
 cases c : aa0 x0 with
 | ok y q => rw [c] at this; exact this
 | er e he => rw [c] at this; exact this
end Md
end PX
set_option linter.unusedVariables false
set_option linter.unusedSimpArgs false
namespace PX
open Go
namespace Md
def Has {α : Type} (r : Rd α) (D : α → Prop) : Prop := ∀ l x q, byt l → r l = .ok x q → D x ∧ byt q
theorem oA {α : Type} {D : α → Prop} {x : α} (h : D x) : Has (eU x) D := fun l y q hb e => by
 injection e with e1 e2
 subst e1 e2
 exact ⟨h, hb⟩
theorem awg {α : Type} {D : α → Prop} (e : Int) (h : e ≠ 0) : Has (aaD e h) D := fun l y q hb e => by cases e
theorem fD {α β : Type} {r : Rd α} {f : α → Rd β} {D : α → Prop} {D' : β → Prop} (h1 : Has r D) (h2 : ∀ x, D x → Has (f x) D') : Has (bQ r f) D' := fun l y q hb e => by
 obtain ⟨x, m, e1, e2⟩ := dT e
 obtain ⟨d, b⟩ := h1 l x m hb e1
 exact h2 x d m y q b e2
theorem tS {α : Type} {r : Rd α} {w : α → List Int} {D : α → Prop} (h : tL r w D) : Has r D := fun l x q hb e => by
 obtain ⟨d, e⟩ := h l x q hb e
 subst e
 exact ⟨d, fW hb⟩
theorem iV {α : Type} {P : α → Prop} : okL P ([] : List α) := ⟨by simp, fun x hx => by cases hx⟩
theorem z64 : i64 0 := ⟨by decide, by decide⟩
theorem o64 : i64 1 := ⟨by decide, by decide⟩
theorem pJ {k i co : Int} {d pr : Bool} {m : aF} {s : List aH} {f : List Str} {c : List Int} (hk : i64 k) (hi : i64 i) (hm : m.good) (hc : i64 co) (hs : okL aH.good s) (hf : okL okS f) (hcs : okL (okI .i64) c) : (pk k i d m pr co s f c).good :=
 ⟨fH hk, fH hi, hm, Nat.zero_le _, Nat.zero_le _, fH z64, fH z64, fH z64, ⟨fH z64, iQ⟩, fH hc, hs, hf, hcs⟩
theorem an3 {s : Str} (h : (s.length : Int) ≤ 1000) : okS s := by unfold okS; omega
theorem aoO {c u : Str} {cl s : Bool} {k e w d : Int} {m : aF} (hc : (c.length : Int) ≤ 16) (hu : (u.length : Int) ≤ 16) (hk : i64 k) (he : i64 e) (hw : i64 w) (hd : i64 d) (hm : m.good) : (akB c u cl k e w s d m).good :=
 ⟨fH o64, fH z64, iQ, an3 (s := c) (by omega), an3 (s := u) (by omega), fH hk, fH he, fH hw, ⟨fH hd, hm⟩, fH z64, iV, iV, iV⟩
theorem awF {k : Int} (hk : rngB 1 14 k = true) : Has (ads k) aA.good := by
 have k64 : i64 k := by rw [mY] at hk; exact ⟨by omega, by omega⟩
 have hn := tS pS
 unfold ads
 rcases pQ hk with rfl | rfl | rfl | rfl | rfl | rfl | rfl | rfl | rfl | rfl | rfl | rfl | rfl | rfl <;> simp only [Int.reduceBEq, gZ, jB, Bool.or_false, Bool.or_true, Bool.false_or, Bool.true_or]
 ·unfold afi
  refine fD (tS (mB 16)) fun c hc => fD (tS (mB 16)) fun u hu => fD (tS (ak9 4)) fun f _ => fD hn fun k hk => fD hn fun e he => fD hn fun w hw => ?_
  cases fl1 f with
  | true => exact fD hn fun d hd => fD (tS akv) fun m hm => oA (aoO hc hu hk he hw hd (avc hm))
  | false => exact oA (aoO hc hu hk he hw z64 iQ)
 ·exact fD (tS afd) fun f _ => fD hn fun c hc => oA (pJ k64 z64 iQ hc iV iV iV)
 ·exact fD hn fun i hi => fD (tS afd) fun f _ => fD (tS akv) fun m hm => oA (pJ k64 hi (avc hm) z64 iV iV iV)
 ·exact fD hn fun i hi => oA (pJ k64 hi iQ z64 iV iV iV)
 ·exact fD hn fun i hi => oA (pJ k64 hi iQ z64 iV iV iV)
 ·exact fD hn fun i hi => oA (pJ k64 hi iQ z64 iV iV iV)
 ·exact fD hn fun i hi => oA (pJ k64 hi iQ z64 iV iV iV)
 ·exact fD hn fun i hi => fD (tS (aff auY)) fun l hl => oA (pJ k64 hi iQ z64 ⟨by have := hl.1; omega, fun x hx => ⟨by have := (hl.2 x hx).1; unfold okS; omega, fH (hl.2 x hx).2⟩⟩ iV iV)
 ·exact fD hn fun i hi => fD (tS (aff pS)) fun l hl => oA (pJ k64 hi iQ z64 iV iV ⟨by have := hl.1; omega, fun x hx => fH (hl.2 x hx)⟩)
 ·exact fD hn fun i hi => fD (tS (aff (mB 88))) fun l hl => oA (pJ k64 hi iQ z64 iV ⟨by have := hl.1; omega, fun x hx => by have := hl.2 x hx; unfold okS; omega⟩ iV)
 ·exact fD hn fun i hi => fD (tS (aff pS)) fun l hl => oA (pJ k64 hi iQ z64 iV iV ⟨by have := hl.1; omega, fun x hx => fH (hl.2 x hx)⟩)
 ·exact oA (pJ k64 z64 iQ z64 iV iV iV)
 ·exact oA (pJ k64 z64 iQ z64 iV iV iV)
 ·exact fD hn fun c hc => oA (pJ k64 z64 iQ hc iV iV iV)
theorem awI : Has aa0 aA.good := by
 unfold aa0
 refine fD (tS pS) fun k _ => ?_
 by_cases c : rngB 1 14 k = true
 ·rw [if_pos c]; exact awF c
 ·rw [if_neg c]; exact awg _ _
theorem aaz : iP.good := pJ z64 z64 iQ z64 iV iV iV
end Md
end PX
set_option linter.unusedVariables false
set_option linter.unusedSimpArgs false
namespace PX
open Go
namespace Md
theorem agM {l q : List Int} {lim : Int} (hb : byt l) {s : List UInt8} (h : gK lim l = .ok s q) : q.length + 1 ≤ l.length := by
 obtain ⟨_, e⟩ := mB lim l s q hb h
 rw [e]
 unfold fL
 have : 0 < (cV (s.length : Int)).length := by
  unfold cV
  rw [kN]
  split <;> simp
 simp only [List.length_append]
 omega
def wL : Nat → List Int → List aA → List aA × Int
 | 0, _, w => (w, 0)
 | n + 1, [], w => (w, 0)
 | n + 1, l, w => match gK 4096 l with
  | .er e _ => ([], e)
  | .ok s q => if (w3 (ofStr s)).2 = 0 then wL n q (w ++ [(w3 (ofStr s)).1]) else ([], (w3 (ofStr s)).2)
theorem aaC {n : Nat} {l : List Int} {w : List aA} (h : l ≠ []) : wL (n + 1) l w = match gK 4096 l with
  | .er e _ => ([], e)
  | .ok s q => if (w3 (ofStr s)).2 = 0 then wL n q (w ++ [(w3 (ofStr s)).1]) else ([], (w3 (ofStr s)).2) := by
 cases l with
 | nil => exact absurd rfl h
 | cons a r => rfl
theorem amx {s : List UInt8} (h : (s.length : Int) ≤ 4096) : Buf (ofStr s) := ⟨am5 s, by rw [agJ]; omega⟩
theorem ala {a : List aA} (h : ∀ x ∈ a, x.good) (hl : a.length ≤ 100000) : lA a a = some true := by
 unfold lA
 rw [aQ (by simp)]
 refine nR (l := a) (F := fun fu i => iJ fu a a i) (g := fun _ => some true) (fun fu => by rw [iJ, aQ (by simp)]) (fun fu i hi ih => ?_) (by omega)
 rw [iJ, aL (jC hi)]
 simp only [aL (inr hi), cN hi]
 rw [xK _ _ (h _ (List.getElem_mem hi)), aU, aQ (by simp), cD (by omega), ih]
end Md
end PX
set_option linter.unusedVariables false
set_option linter.unusedSimpArgs false
namespace PX
open Go
namespace Md
def Btn {α : Type} (r : Rd α) (b : List Int) (x : α) : Prop := gF r b x ∧ pY r b
theorem fY {α β : Type} {r : Rd α} {f : α → Rd β} {b c : List Int} {x : α} {y : β} (h1 : Btn r b x) (h2 : Btn (f x) c y) : Btn (bQ r f) (b ++ c) y := ⟨jD h1.1 h2.1, aeI h1.1 h1.2 h2.2⟩
theorem aoY {α : Type} (x : α) : Btn (eU x) [] x := ⟨ao4 x, an6 x⟩
theorem rU {α β : Type} {r : Rd α} {f : α → Rd β} {b : List Int} {x : α} {y : β} (h1 : Btn r b x) (h2 : f x = eU y) : Btn (bQ r f) b y := ⟨abu h1.1 fun q => by rw [h2]; rfl, ab8 h1.2⟩
theorem kH {x : Int} (h : i64 x) : Btn iL (cV x) x := ⟨acI h.1 h.2, agS h.1 h.2⟩
theorem yA {lim : Int} {n : Nat} {s : List UInt8} (h : s.length ≤ n) (hn : (n : Int) ≤ lim) (h2 : n ≤ 1000000) : Btn (gK lim) (fL s) s := ⟨afM (by omega) (by omega), apF (by omega) (by omega)⟩
theorem au1 {k x : Int} (h0 : 0 ≤ x) (h1 : x < k) (h2 : i64 x) : Btn (uK k) (cV x) x := ⟨ahL h0 h1 h2.2, aid h2⟩
theorem atQ {lim x : Int} (h0 : 0 ≤ x) (h1 : x ≤ lim) (h2 : i64 x) : Btn (kS lim) (cV x) x := ⟨uI h0 h1 h2.2, adP h2⟩
theorem ai7 (b : Bool) : Btn yD (cV (fS b)) b := ⟨afS b, ab8 (aid (abt b))⟩
theorem av3 {α : Type} {one : Rd α} {w : α → List Int} {l : List α} (h : ∀ x ∈ l, Btn one (w x) x) : Btn (sC one l.length) (l.flatMap w) l := ⟨abG fun x hx => (h x hx).1, afH h⟩
theorem aje {α : Type} {one : Rd α} {w : α → List Int} {lim : Int} {l : List α} (hl : (l.length : Int) ≤ lim) (hn : l.length ≤ 1000000) (h : ∀ x ∈ l, Btn one (w x) x) : Btn (sB lim one) (m7 w l) l := ⟨ajT hl hn fun x hx => (h x hx).1, aqe hl hn h⟩
theorem awb {x : aC} (h : x.Key.length ≤ 16 ∧ x.Value.length ≤ 160) : Btn afa (fL x.Key ++ fL x.Value) x :=
 fY (yA h.1 (by decide) (by decide)) (rU (yA h.2 (by decide) (by decide)) rfl)
theorem atz {m : aF} (h : MsgD m) : Btn zW (rD m) m := by
 unfold zW ac0 rD lJ
 refine fY (yA h.t (by decide) (by decide)) ?_
 refine fY (yA h.p (by decide) (by decide)) ?_
 refine fY (kH h.l) ?_
 refine fY (ai7 m.Retain) ?_
 refine fY (kH h.pr) ?_
 refine fY (kH h.ex) ?_
 refine fY (yA h.f (by decide) (by decide)) ?_
 refine fY (kH h.sq) ?_
 have hn := h.n
 refine fY (atQ (by omega) (by omega) ⟨by omega, by omega⟩) ?_
 rw [Int.toNat_natCast]
 exact rU (av3 fun x hx => awb (h.ps x hx)) rfl
theorem aw7 {x : aH} (h : SubD x) : Btn adw (xT x) x :=
 fY (yA h.1 (by decide) (by decide)) (fY (kH h.2) (rU (ai7 x.NoLocal) rfl))
theorem azA (a b : Bool) : fl0 (fS a + 2 * fS b) = a := by cases a <;> cases b <;> kernel_rfl
theorem axU (a b : Bool) : fl1 (fS a + 2 * fS b) = b := by cases a <;> cases b <;> kernel_rfl
theorem aqy (a b : Bool) : 0 ≤ fS a + 2 * fS b ∧ fS a + 2 * fS b < 4 := by cases a <;> cases b <;> decide
theorem awr {p : aA} (h : aaN p) (k : p.Kind = 1) : Btn afi (ae2 p) (akB p.Client p.User p.Clean p.Keep p.Expiry p.Window p.Will.Set p.Will.Delay p.Will.Message) := by
 obtain ⟨h1, h2, h3⟩ := h.cl k
 unfold afi ae2
 refine fY (yA h1 (by decide) (by decide)) ?_
 refine fY (yA h2 (by decide) (by decide)) ?_
 refine fY (au1 (aqy _ _).1 (aqy _ _).2 (oP (aik _ _))) ?_
 rw [azA, axU]
 refine fY (kH h.keep) ?_
 refine fY (kH h.exp) ?_
 refine fY (kH h.win) ?_
 unfold zQ
 cases hs : p.Will.Set with
 | true =>
  rw [if_pos rfl, gZ]
  exact fY (kH h.del) (rU (atz (h3 hs)) rfl)
 | false =>
  obtain ⟨e1, e2⟩ := h.wl k hs
  rw [if_neg (by decide), jB, e1, e2]
  exact aoY _
def aqN (p : aA) : aA :=
 cond (p.Kind == 1) (akB p.Client p.User p.Clean p.Keep p.Expiry p.Window p.Will.Set p.Will.Delay p.Will.Message) (cond (p.Kind == 2) (pk p.Kind 0 false zeroM p.Present p.Code [] [] [])
  (cond (p.Kind == 3) (pk p.Kind p.ID p.Dup p.Message false 0 [] [] []) (cond (p.Kind == 4 || (p.Kind == 5 || (p.Kind == 6 || p.Kind == 7))) (pk p.Kind p.ID false zeroM false 0 [] [] [])
  (cond (p.Kind == 8) (pk 8 p.ID false zeroM false 0 p.Subs [] []) (cond (p.Kind == 9 || p.Kind == 11) (pk p.Kind p.ID false zeroM false 0 [] [] p.Codes) (cond (p.Kind == 10) (pk 10 p.ID false zeroM false 0 [] p.Filters [])
  (cond (p.Kind == 14) (pk p.Kind 0 false zeroM false p.Code [] [] []) (pk p.Kind 0 false zeroM false 0 [] [] []))))))))
theorem awh {p : aA} (h : p = usedP p) (k : rngB 1 14 p.Kind = true) : p = aqN p := by
 obtain ⟨k', a2, a3, a4, a5, a6, a7, a8, a9, a10, a11, a14, a15, a16, a17, a18⟩ := p
 rcases pQ k with e | e | e | e | e | e | e | e | e | e | e | e | e | e <;> (simp only at e; subst e; exact h)
theorem awm {p : aA} (h : aaN p) : Btn (ads p.Kind) (acV p) p := by
 have nil : ∀ b : List Int, b ++ [] = b := List.append_nil
 suffices key : Btn (ads p.Kind) (acV p) (aqN p) from Eq.mpr (congrArg (Btn (ads p.Kind) (acV p)) (awh h.us h.k)) key
 unfold ads acV aqN
 rcases pQ h.k with k | k | k | k | k | k | k | k | k | k | k | k | k | k <;> simp only [k, Int.reduceBEq, gZ, jB, Bool.or_false, Bool.or_true, Bool.false_or, Bool.true_or, nil]
 ·exact awr h k
 ·exact fY (ai7 _) (rU (kH h.code) rfl)
 ·exact fY (kH h.id) (fY (ai7 _) (rU (atz (h.ms k)) rfl))
 ·exact rU (kH h.id) rfl
 ·exact rU (kH h.id) rfl
 ·exact rU (kH h.id) rfl
 ·exact rU (kH h.id) rfl
 ·have := (h.sb k).1
  exact fY (kH h.id) (rU (aje (by omega) (by omega) fun x hx => aw7 ((h.sb k).2 x hx)) rfl)
 ·have := (h.cd (.inl k)).1
  exact fY (kH h.id) (rU (aje (by omega) (by omega) fun x hx => kH ((h.cd (.inl k)).2 x hx)) rfl)
 ·have := (h.fl k).1
  exact fY (kH h.id) (rU (aje (by omega) (by omega) fun x hx => yA ((h.fl k).2 x hx) (by decide) (by decide)) rfl)
 ·have := (h.cd (.inr k)).1
  exact fY (kH h.id) (rU (aje (by omega) (by omega) fun x hx => kH ((h.cd (.inr k)).2 x hx)) rfl)
 ·exact aoY _
 ·exact aoY _
 ·exact rU (kH h.code) rfl
theorem atv {p : aA} (h : aaN p) : Btn aa0 (oC p) p := by
 unfold aa0 oC
 refine fY (kH (akL h)) ?_
 rw [if_pos h.k]
 exact awm h
theorem ao8 {p : aA} (h : aaN p) (hc : jK p = 0) : w3 (oC p) = (p, 0) := by
 have := (atv h).1 []
 rw [List.append_nil] at this
 unfold w3
 rw [if_neg (by have := vB h; omega), this]
 dsimp only
 unfold al3
 rw [if_pos rfl, if_pos hc]
end Md
end PX
set_option linter.unusedVariables false
set_option linter.unusedSimpArgs false
namespace PX
open Go
namespace Md
theorem decode_wq {x0 : List Int} (hb : Buf x0) : kL x0 = some (w3 x0) := by
 unfold w3
 by_cases c : x0.length > 4096
 ·rw [if_pos c]
  unfold kL; rw [aL (by simp; omega)]
 ·rw [if_neg c]
  have h1 := aom hb (by omega)
  cases e : aa0 x0 with
  | ok y q =>
   rw [e] at h1
   exact h1 (awI x0 y q hb.1 e).1
  | er e' he =>
   rw [e] at h1
   exact h1
theorem reads_wo {x0 : List Int} (hb : Buf x0) (hl : x0.length ≤ 50000) : ∀ (k : Nat) (fu p : Nat) (w : List aA), p ≤ x0.length → x0.length - p ≤ k → k < fu → w.length ≤ p → jQ fu x0 (p : Int) w = some (wL k (x0.drop p) w) := by
 intro k
 induction k with
 | zero =>
  intro fu p w hp hk hf hw
  obtain ⟨fu, rfl⟩ : ∃ n, fu = n + 1 := ⟨fu - 1, by omega⟩
  rw [jQ, aQ (by simp; omega)]
  rfl
 | succ k ih =>
  intro fu p w hp hk hf hw
  obtain ⟨fu, rfl⟩ : ∃ n, fu = n + 1 := ⟨fu - 1, by omega⟩
  by_cases c : p = x0.length
  ·rw [jQ, aQ (by simp; omega), (aeY hp).2 c]
   rfl
  ·rw [jQ, aL (by simp; omega), aaC (fun e => c ((aeY hp).1 e))]
   have hbd : byt (x0.drop p) := fun x hx => hb.1 x (List.mem_of_mem_drop hx)
   have hm := agW hb p hp
   unfold qK at hm
   have ht := ajN hb 4096 (by decide) p hp
   unfold xL at ht
   cases e : iL (x0.drop p) with
   | er e' he =>
    rw [e] at hm
    have et : gK 4096 (x0.drop p) = .er e' he := by
     unfold gK kS
     rw [aaa (aaa e)]
    rw [hm, aU, aL (aaY he), et]
   | ok n q =>
    rw [e] at hm
    obtain ⟨a, ha, hq, ho⟩ := hm
    rw [ho, aU, aQ (by simp)] at ht ⊢
    dsimp only at ht ⊢
    by_cases c1 : n < 0
    ·have et : gK 4096 (x0.drop p) = .er 2 (by decide) := by
      unfold gK kS
      refine aaa ?_
      rw [tG e, if_pos c1]; rfl
     rw [aL (by simpa using c1), et]
    ·by_cases c2 : n > 4096
     ·have et : gK 4096 (x0.drop p) = .er 5 (by decide) := by
       unfold gK kS
       refine aaa ?_
       rw [tG e, if_neg c1, if_pos c2]; rfl
      rw [aQ (by simpa using c1), aL (by simpa using c2), et]
     ·rw [aQ (by simpa using c1), aQ (by simpa using c2)] at ht ⊢
      have w1 : IntKind.wrap .i64 ((x0.length : Int) - (a : Int)) = (x0.length : Int) - a := by rw [IntKind.wrap_i64]; omega
      rw [w1] at ht ⊢
      by_cases c3 : n > (x0.length : Int) - a
      ·rw [aL (by simpa using c3)] at ht ⊢
       unfold qK at ht
       cases et : gK 4096 (x0.drop p) with
       | er e2 h2 =>
        rw [et] at ht
        have ht : some (([] : Str), (0 : Int), (3 : Int)) = some ([], 0, e2) := ht
        injection ht with ht
        injection ht with _ ht
        injection ht with _ ht
        rw [ht]
       | ok s q =>
        rw [et] at ht
        obtain ⟨b, _, _, hh⟩ := ht
        injection hh with hh
        injection hh with _ hh
        injection hh with _ hh
        cases hh
      ·have w2 : IntKind.wrap .i64 ((a : Int) + n) = ((a + n.toNat : Nat) : Int) := by rw [IntKind.wrap_i64]; omega
       rw [aQ (by simpa using c3), w2, aL (by simp; omega), aL (by simp; omega), aL (by simp; omega)] at ht ⊢
       unfold qK at ht
       cases et : gK 4096 (x0.drop p) with
       | er e2 h2 =>
        rw [et] at ht
        have ht : some (_, _, (0 : Int)) = some (([] : Str), (0 : Int), e2) := ht
        injection ht with ht
        injection ht with _ ht
        injection ht with _ ht
        exact absurd ht.symm h2
       | ok s q =>
        rw [et] at ht
        obtain ⟨b, hb1, hb2, hh⟩ := ht
        injection hh with hh
        injection hh with hs hh
        injection hh with hh _
        have ebn : a + n.toNat = b := by omega
        have hcut : byt (dI x0 (some (a : Int)) (some ((a + n.toNat : Nat) : Int))) := fun x hx => by
         unfold dI at hx
         exact hb.1 x (List.mem_of_mem_take (List.mem_of_mem_drop hx))
        have ecut : dI x0 (some (a : Int)) (some ((a + n.toNat : Nat) : Int)) = ofStr s := by rw [← hs, vK hcut]
        have hprog := agM hbd et
        have hlen : q.length = x0.length - b := by rw [← hb2, List.length_drop]
        rw [List.length_drop] at hprog
        have hs4 : (s.length : Int) ≤ 4096 := (mB 4096 _ _ _ hbd et).1
        rw [ecut, decode_wq (amx hs4), aU]
        dsimp only
        by_cases c4 : (w3 (ofStr s)).2 = 0
        ·rw [if_pos c4, aQ (by simpa using c4), aL (by simp; omega), ebn, ih fu b _ (by omega) (by omega) (by omega) (by simp; omega), hb2]
        ·rw [if_neg c4, aL (by simpa using c4)]
theorem decodeAll_wq {x0 : List Int} (hb : Buf x0) (hl : x0.length ≤ 50000) : rA x0 = some (wL 50000 x0 []) := by
 have h1 := reads_wo hb hl 50000 fuel 0 [] (by omega) (by omega) (by rw [iX]; omega) (by simp)
 rw [List.drop_zero] at h1
 exact h1
end Md
end PX
set_option linter.unusedVariables false
set_option linter.unusedSimpArgs false
namespace PX
open Go
namespace Md
def yZ : List aA → List Int → List Int × Int
 | [], w => (w, 0)
 | p :: r, w => cond ((tY p).2 != 0) ([], (tY p).2) (yZ r (w ++ (cV ((tY p).1.length : Int) ++ (tY p).1)))
theorem aj1 {l : List aA} (hl : l.length ≤ 8) (h : ∀ x ∈ l, x.good) : n6 l = some (yZ l []) := by
 unfold n6
 refine uV (l := l) (F := fun fu i w => kW fu l (l.length : Int) i w) (g := fun r w => some (yZ r w)) (fun i w => w.length ≤ i * 5000) (fun fu w _ => by rw [kW, aQ (by simp)]; rfl) (fun fu i w hi hw ih => ?_) (by omega) [] (by simp)
 have g := h _ (List.getElem_mem hi)
 have e1 := akC g
 have e2 := bN ((tY l[i]).1.length : Int)
 rw [kW, aL (jC hi), aL (inr hi), cN hi, ahg _ g, aU, yZ, dJ]
 congr 1
 rw [zX (abJ (by omega)) (by omega), aU, aL (by simp only [decide_eq_true_eq, List.length_append]; omega), cD (by omega), List.append_assoc, ih _ (by simp only [List.length_append]; omega)]
end Md
end PX
set_option linter.unusedVariables false
namespace PX
open Go
namespace Md
theorem validAll_eq {l : List aA} (h : ∀ x ∈ l, x.good) (hl : l.length ≤ 8) : iA fuel l 0 = some (decide (eH jK l = 0)) := by
 refine nR (l := l) (F := fun fu i => iA fu l i) (g := fun r => some (decide (eH jK r = 0))) (fun fu => by rw [iA, aQ (by simp)]; rfl) (fun fu i hi ih => ?_) (by omega)
 rw [iA, aL (jC hi), aL (inr hi), cN hi, zL _ (h _ (List.getElem_mem hi)), aU, eH]
 by_cases c : jK l[i] = 0
 ·rw [aQ (by simpa using c), cD (by omega), ih, aL (by simpa using c)]
 ·rw [aL (by simpa using c), aQ (by simpa using c)]
  simp [c]
def ach (l : List aA) : List Int := l.flatMap fun p => cV ((oC p).length : Int) ++ oC p
theorem aqw {p : aA} (c : jK p = 0) : tY p = (oC p, 0) := by unfold tY; rw [c, aQ (by simp)]
theorem amS : ∀ {l : List aA} {w : List Int}, (∀ x ∈ l, jK x = 0) → yZ l w = (w ++ ach l, 0)
 | [], w, _ => by rw [yZ, ach]; simp
 | p :: r, w, h => by
  rw [yZ, aqw (h p (by simp)), aQ (by simp), amS fun x hx => h x (by simp [hx])]
  simp [ach]
theorem anm : ∀ (n : Nat) (l : List aA) (w : List aA), l.length ≤ n → (∀ x ∈ l, aaN x ∧ jK x = 0) → wL n (ach l) w = (w ++ l, 0)
 | 0, [], w, _, _ => by simp [wL]
 | 0, _ :: _, w, h, _ => by simp at h
 | n + 1, [], w, _, _ => by simp [wL, ach]
 | n + 1, p :: r, w, hn, h => by
  obtain ⟨d, c⟩ := h p (by simp)
  have hl := vB d
  have e1 := afD (oC p)
  have e2 := vK (ac8 d)
  have e3 : ach (p :: r) = fL (bytesOf (oC p)) ++ ach r := by
   unfold fL
   rw [e1, e2]; rfl
  have ht := afM (lim := 4096) (s := bytesOf (oC p)) (by omega) (by omega) (ach r)
  have hne : ach (p :: r) ≠ [] := fun e => by
   rw [e3] at e
   have e := (List.append_eq_nil_iff.1 e).1
   rw [e, List.nil_append] at ht
   have := agM (l := ach r) (fun x hx => by
    obtain ⟨y, hy, hx⟩ := List.mem_flatMap.1 hx
    obtain ⟨d, _⟩ := h y (by simp [hy])
    exact eE (jN (abJ (by have := vB d; omega))) (ac8 d) x hx) ht
   omega
  rw [aaC hne, e3, ht]
  dsimp only
  rw [e2, ao8 d c]
  simp only [if_true]
  rw [anm n r _ (by simpa using hn) fun x hx => h x (by simp [hx])]
  simp
theorem auh {l : List aA} (h : ∀ x ∈ l, aaN x) (hl : l.length ≤ 8) : (ach l).length ≤ 8 * 4106 := ag4 _ 4106 8 hl fun x hx => by
 have := vB (h x hx)
 have := bN ((oC x).length : Int)
 simp only [List.length_append]; omega
theorem aee (p0 : (List aA)) (g0 : D.okL [.sl aA.ks] ([D.sl aA.ks (List.map aA.enc p0)])) : qM p0 = some true := by
 have g : okL aA.good p0 := vM (fun _ => aA.lB) g0.1
 unfold qM tN
 by_cases c : (p0.length : Int) > 8
 ·rw [aL (by simpa using c), aU, aL (by rfl), nI]; rfl
 ·rw [aQ (by simpa using c), validAll_eq g.2 (by omega), aU]
  by_cases d : eH jK p0 = 0
  ·rw [aQ (by simp [d])]
   have hc := acX d
   have hd : ∀ x ∈ p0, aaN x := fun x hx => adi (hc x hx) (g.2 x hx)
   refine nR (l := p0) (F := fun fu i => hO fu p0 i) (g := fun _ => some true) (fun fu => ?_) (fun fu i hi ih => ?_) (by omega)
   ·have hl := auh hd (by omega)
    have hB : Buf (ach p0) := ⟨fun x hx => by
     obtain ⟨y, hy, hx⟩ := List.mem_flatMap.1 hx
     exact eE (jN (abJ (by have := vB (hd y hy); omega))) (ac8 (hd y hy)) x hx, by omega⟩
    rw [hO, aQ (by simp), aj1 (by omega) g.2, aU, amS hc, List.nil_append, decodeAll_wq hB (by omega), aU, anm 50000 p0 [] (by omega) fun x hx => ⟨hd x hx, hc x hx⟩, List.nil_append, aL (by rfl), aL (by rfl), ala g.2 (by omega), aU, aL (by rfl), nI]; rfl
   ·have hm := List.getElem_mem hi
    have hl := vB (hd _ hm)
    have hB : Buf (oC p0[i]) := ⟨ac8 (hd _ hm), by omega⟩
    rw [hO, aL (jC hi)]
    simp only [aL (inr hi), cN hi]
    rw [ahg _ (g.2 _ hm), aU, aqw (hc _ hm), decode_wq hB, aU, ao8 (hd _ hm) (hc _ hm), aQ (by rfl), aQ (by rfl), xK _ _ (g.2 _ hm), aU, aQ (by simp), cD (by omega), ih]
  ·rw [aL (by simp [d]), nI]; rfl
end Md
end PX
