import Derived.Test.YtdgmdomlghamdaaGreatDoorWdB
set_option linter.unusedVariables false
set_option linter.unusedSimpArgs false
namespace PX
open Go
namespace Md
abbrev jB : aA := pk 0 0 false zeroM false 0 [] [] []
def abQ : Rd aA := bS gH fun k => if rngB 1 14 k = true then aeN k else abu 10 (by decide)
def ant (y : aA) (q : List Int) : aA × Int := if q = [] then (if jE y = 0 then (y, 0) else (jB, jE y)) else (jB, 2)
def yK (x0 : List Int) : aA × Int := if x0.length > 4096 then (jB, 5) else match abQ x0 with | .ok y q => ant y q | .er e _ => (jB, e)
def GD (y : aA) (q : List Int) (o : Option (aA × Int)) : Prop := y.good → o = some (ant y q)
def BD (e : Int) (o : Option (aA × Int)) : Prop := o = some (jB, e)
theorem acP {x0 : List Int} {p : Nat} (hp : p ≤ x0.length) : (x0.drop p = []) ↔ p = x0.length := by
 rw [List.drop_eq_nil_iff]; omega
theorem aqw {x0 : List Int} (hb : Buf x0) (h : x0.length ≤ 4096) : match abQ x0 with | .ok y q => GD y q (sF x0) | .er e _ => BD e (sF x0) := by
 have tail : ∀ y : aA, acu x0 (fB y) (fun st => cG (eR (decide (st.at_ < (List.length x0 : Int))) 2) (fun e7 => some (jB, e7.code)) fun _ =>
   Option.bind (kY y) fun r8 => cG (eR (r8 != 0) r8) (fun e10 => some (jB, e10.code)) fun _ => some (y, 0)) GD BD := fun y p hp hg => by
  unfold ant
  dsimp only
  by_cases c : p = x0.length
  ·rw [if_pos ((acP hp).2 c), show decide ((p : Int) < (List.length x0 : Int)) = false by simp; omega, aAf, afO y hg, aU]
   by_cases d : jE y = 0
   ·rw [if_pos d, d]; rfl
   ·rw [if_neg d, vX d]; rfl
  ·rw [if_neg (fun e => c ((acP hp).1 e)), show decide ((p : Int) < (List.length x0 : Int)) = true by simp; omega]; rfl
 have main : acu x0 abQ (fun st => cG (bV st) (fun e1 => some (jB, e1.code)) fun r0 =>
   cond (decide (r0.1 < 1)) (
    cG (eR true 10) (fun e3 => some (jB, e3.code)) fun r2 =>
    cG (gM r0.2 r0.1) (fun e5 => some (jB, e5.code)) fun r4 =>
    cG (eR (decide (r4.2.at_ < (List.length x0 : Int))) 2) (fun e7 => some (jB, e7.code)) fun r6 =>
    Option.bind (kY r4.1) fun r8 =>
    cG (eR (r8 != 0) r8) (fun e10 => some (jB, e10.code)) fun r9 =>
    some (r4.1, 0)) (
   cG (eR (decide (r0.1 > 14)) 10) (fun e12 => some (jB, e12.code)) fun r11 =>
   cG (gM r0.2 r0.1) (fun e14 => some (jB, e14.code)) fun r13 =>
   cG (eR (decide (r13.2.at_ < (List.length x0 : Int))) 2) (fun e16 => some (jB, e16.code)) fun r15 =>
   Option.bind (kY r13.1) fun r17 =>
   cG (eR (r17 != 0) r17) (fun e19 => some (jB, e19.code)) fun r18 =>
   some (r13.1, 0))) GD BD := by
  unfold abQ
  refine cZ (fK hb) (fun k => ?_) fun _ _ => rfl
  dsimp only
  by_cases c1 : k < 1
  ·rw [if_neg (by rw [nS]; omega)]
   intro p hp
   show _ = _
   dsimp only
   rw [aL (by simpa using c1)]; rfl
  ·by_cases c2 : k > 14
   ·rw [if_neg (by rw [nS]; omega)]
    intro p hp
    show _ = _
    dsimp only
    rw [aQ (by simpa using c1), show decide (k > 14) = true by simpa using c2]; rfl
   ·rw [if_pos (by rw [nS]; omega)]
    have := cZ (G := GD) (B := BD) (R2 := fun y => fB y) (Kp := fun e : aP => some (jB, e.code)) (K := fun r13 => cG (eR (decide (r13.2.at_ < (List.length x0 : Int))) 2) (fun e7 => some (jB, e7.code)) fun _ =>
   Option.bind (kY r13.1) fun r8 => cG (eR (r8 != 0) r8) (fun e10 => some (jB, e10.code)) fun _ => some (r13.1, 0)) (ap5 hb (k := k) (by rw [nS]; omega)) tail fun _ _ => rfl
    rw [uH] at this
    intro p hp
    have := this p hp
    dsimp only
    rw [aQ (by simpa using c1), show decide (k > 14) = false by simpa using c2]
    exact this
 have := main 0 (by omega)
 rw [List.drop_zero] at this
 unfold sF
 rw [aQ (by simp; omega)]
 cases c : abQ x0 with
 | ok y q => rw [c] at this; exact this
 | er e he => rw [c] at this; exact this
end Md
end PX
set_option linter.unusedVariables false
set_option linter.unusedSimpArgs false
namespace PX
open Go
namespace Md
def Has {α : Type} (r : Rd α) (D : α → Prop) : Prop := ∀ l x q, byt l → r l = .ok x q → D x ∧ byt q
theorem oY {α : Type} {D : α → Prop} {x : α} (h : D x) : Has (fB x) D := fun l y q hb e => by
 injection e with e1 e2
 subst e1 e2
 exact ⟨h, hb⟩
theorem ayO {α : Type} {D : α → Prop} (e : Int) (h : e ≠ 0) : Has (abu e h) D := fun l y q hb e => by cases e
theorem fM {α β : Type} {r : Rd α} {f : α → Rd β} {D : α → Prop} {D' : β → Prop} (h1 : Has r D) (h2 : ∀ x, D x → Has (f x) D') : Has (bS r f) D' := fun l y q hb e => by
 obtain ⟨x, m, e1, e2⟩ := dW e
 obtain ⟨d, b⟩ := h1 l x m hb e1
 exact h2 x d m y q b e2
theorem vG {α : Type} {r : Rd α} {w : α → List Int} {D : α → Prop} (h : uY r w D) : Has r D := fun l x q hb e => by
 obtain ⟨d, e⟩ := h l x q hb e
 subst e
 exact ⟨d, fL hb⟩
theorem jL {α : Type} {P : α → Prop} : okL P ([] : List α) := ⟨by simp, fun x hx => by cases hx⟩
theorem z64 : i64 0 := ⟨by decide, by decide⟩
theorem o64 : i64 1 := ⟨by decide, by decide⟩
theorem qO {k i co : Int} {d pr : Bool} {m : aF} {s : List aH} {f : List Str} {c : List Int} (hk : i64 k) (hi : i64 i) (hm : m.good) (hc : i64 co) (hs : okL aH.good s) (hf : okL okS f) (hcs : okL (okI .i64) c) : (pk k i d m pr co s f c).good :=
 ⟨eW hk, eW hi, hm, Nat.zero_le _, Nat.zero_le _, eW z64, eW z64, eW z64, ⟨eW z64, jC⟩, eW hc, hs, hf, hcs⟩
theorem apA {s : Str} (h : (s.length : Int) ≤ 1000) : okS s := by unfold okS; omega
theorem apD {c u : Str} {cl s : Bool} {k e w d : Int} {m : aF} (hc : (c.length : Int) ≤ 16) (hu : (u.length : Int) ≤ 16) (hk : i64 k) (he : i64 e) (hw : i64 w) (hd : i64 d) (hm : m.good) : (alE c u cl k e w s d m).good :=
 ⟨eW o64, eW z64, jC, apA (s := c) (by omega), apA (s := u) (by omega), eW hk, eW he, eW hw, ⟨eW hd, hm⟩, eW z64, jL, jL, jL⟩
theorem ayJ {k : Int} (hk : rngB 1 14 k = true) : Has (aeN k) aA.good := by
 have k64 : i64 k := by rw [nS] at hk; exact ⟨by omega, by omega⟩
 have hn := vG nK
 unfold aeN
 rcases qT hk with rfl | rfl | rfl | rfl | rfl | rfl | rfl | rfl | rfl | rfl | rfl | rfl | rfl | rfl <;> simp only [Int.reduceBEq, gV, iZ, Bool.or_false, Bool.or_true, Bool.false_or, Bool.true_or]
 ·unfold afH
  refine fM (vG (mS 16)) fun c hc => fM (vG (mS 16)) fun u hu => fM (vG (amF 4)) fun f _ => fM hn fun k hk => fM hn fun e he => fM hn fun w hw => ?_
  cases fl1 f with
  | true => exact fM hn fun d hd => fM (vG aly) fun m hm => oY (apD hc hu hk he hw hd (awi hm))
  | false => exact oY (apD hc hu hk he hw z64 jC)
 ·exact fM (vG afT) fun f _ => fM hn fun c hc => oY (qO k64 z64 jC hc jL jL jL)
 ·exact fM hn fun i hi => fM (vG afT) fun f _ => fM (vG aly) fun m hm => oY (qO k64 hi (awi hm) z64 jL jL jL)
 ·exact fM hn fun i hi => oY (qO k64 hi jC z64 jL jL jL)
 ·exact fM hn fun i hi => oY (qO k64 hi jC z64 jL jL jL)
 ·exact fM hn fun i hi => oY (qO k64 hi jC z64 jL jL jL)
 ·exact fM hn fun i hi => oY (qO k64 hi jC z64 jL jL jL)
 ·exact fM hn fun i hi => fM (vG (af4 axa)) fun l hl => oY (qO k64 hi jC z64 ⟨by have := hl.1; omega, fun x hx => ⟨by have := (hl.2 x hx).1; unfold okS; omega, eW (hl.2 x hx).2⟩⟩ jL jL)
 ·exact fM hn fun i hi => fM (vG (af4 nK)) fun l hl => oY (qO k64 hi jC z64 jL jL ⟨by have := hl.1; omega, fun x hx => eW (hl.2 x hx)⟩)
 ·exact fM hn fun i hi => fM (vG (af4 (mS 88))) fun l hl => oY (qO k64 hi jC z64 jL ⟨by have := hl.1; omega, fun x hx => by have := hl.2 x hx; unfold okS; omega⟩ jL)
 ·exact fM hn fun i hi => fM (vG (af4 nK)) fun l hl => oY (qO k64 hi jC z64 jL jL ⟨by have := hl.1; omega, fun x hx => eW (hl.2 x hx)⟩)
 ·exact oY (qO k64 z64 jC z64 jL jL jL)
 ·exact oY (qO k64 z64 jC z64 jL jL jL)
 ·exact fM hn fun c hc => oY (qO k64 z64 jC hc jL jL jL)
theorem aza : Has abQ aA.good := by
 unfold abQ
 refine fM (vG nK) fun k _ => ?_
 by_cases c : rngB 1 14 k = true
 ·rw [if_pos c]; exact ayJ c
 ·rw [if_neg c]; exact ayO _ _
theorem adV : jB.good := qO z64 z64 jC z64 jL jL jL
end Md
end PX
set_option linter.unusedVariables false
set_option linter.unusedSimpArgs false
namespace PX
open Go
namespace Md
theorem aic {l q : List Int} {lim : Int} (hb : byt l) {s : List UInt8} (h : hJ lim l = .ok s q) : q.length + 1 ≤ l.length := by
 obtain ⟨_, e⟩ := mS lim l s q hb h
 rw [e]
 unfold fW
 have : 0 < (cK (s.length : Int)).length := by
  unfold cK
  rw [jZ]
  split <;> simp
 simp only [List.length_append]
 omega
def tA : Nat → List Int → List aA → List aA × Int
 | 0, _, w => (w, 0)
 | n + 1, [], w => (w, 0)
 | n + 1, l, w => match hJ 4096 l with
  | .er e _ => ([], e)
  | .ok s q => if (yK (ofStr s)).2 = 0 then tA n q (w ++ [(yK (ofStr s)).1]) else ([], (yK (ofStr s)).2)
theorem abl {n : Nat} {l : List Int} {w : List aA} (h : l ≠ []) : tA (n + 1) l w = match hJ 4096 l with
  | .er e _ => ([], e)
  | .ok s q => if (yK (ofStr s)).2 = 0 then tA n q (w ++ [(yK (ofStr s)).1]) else ([], (yK (ofStr s)).2) := by
 cases l with
 | nil => exact absurd rfl h
 | cons a r => rfl
theorem anw {s : List UInt8} (h : (s.length : Int) ≤ 4096) : Buf (ofStr s) := ⟨aof s, by rw [ail]; omega⟩
theorem amQ {a : List aA} (h : ∀ x ∈ a, x.good) (hl : a.length ≤ 100000) : mF a a = some true := by
 unfold mF
 rw [aQ (by simp)]
 refine sD (l := a) (F := fun fu i => iX fu a a i) (g := fun _ => some true) (fun fu => by rw [iX, aQ (by simp)]) (fun fu i hi ih => ?_) (by omega)
 rw [iX, aL (iV hi)]
 simp only [aL (inr hi), cR hi]
 rw [aiS _ _ (h _ (List.getElem_mem hi)), aU, aQ (by simp), bZ (by omega), ih]
end Md
end PX
set_option linter.unusedVariables false
set_option linter.unusedSimpArgs false
namespace PX
open Go
namespace Md
def Btn {α : Type} (r : Rd α) (b : List Int) (x : α) : Prop := gX r b x ∧ rD r b
theorem gN {α β : Type} {r : Rd α} {f : α → Rd β} {b c : List Int} {x : α} {y : β} (h1 : Btn r b x) (h2 : Btn (f x) c y) : Btn (bS r f) (b ++ c) y := ⟨jO h1.1 h2.1, af1 h1.1 h1.2 h2.2⟩
theorem ap7 {α : Type} (x : α) : Btn (fB x) [] x := ⟨apP x, apI x⟩
theorem sO {α β : Type} {r : Rd α} {f : α → Rd β} {b : List Int} {x : α} {y : β} (h1 : Btn r b x) (h2 : f x = fB y) : Btn (bS r f) b y := ⟨acd h1.1 fun q => by rw [h2]; rfl, ac4 h1.2⟩
theorem kX {x : Int} (h : i64 x) : Btn gH (cK x) x := ⟨zH h.1 h.2, ahS h.1 h.2⟩
theorem zG {lim : Int} {n : Nat} {s : List UInt8} (h : s.length ≤ n) (hn : (n : Int) ≤ lim) (h2 : n ≤ 1000000) : Btn (hJ lim) (fW s) s := ⟨agN (by omega) (by omega), arG (by omega) (by omega)⟩
theorem awQ {k x : Int} (h0 : 0 ≤ x) (h1 : x < k) (h2 : i64 x) : Btn (vL k) (cK x) x := ⟨ai2 h0 h1 h2.2, aki h2⟩
theorem awh {lim x : Int} (h0 : 0 ≤ x) (h1 : x ≤ lim) (h2 : i64 x) : Btn (jX lim) (cK x) x := ⟨pU h0 h1 h2.2, ae9 h2⟩
theorem akA (b : Bool) : Btn zN (cK (gF b)) b := ⟨agL b, ac4 (aki (aco b))⟩
theorem azi {α : Type} {one : Rd α} {w : α → List Int} {l : List α} (h : ∀ x ∈ l, Btn one (w x) x) : Btn (tC one l.length) (l.flatMap w) l := ⟨acH fun x hx => (h x hx).1, agD h⟩
theorem akD {α : Type} {one : Rd α} {w : α → List Int} {lim : Int} {l : List α} (hl : (l.length : Int) ≤ lim) (hn : l.length ≤ 1000000) (h : ∀ x ∈ l, Btn one (w x) x) : Btn (tF lim one) (n7 w l) l := ⟨aln hl hn fun x hx => (h x hx).1, arL hl hn h⟩
theorem ayD {x : aB} (h : x.Key.length ≤ 16 ∧ x.Value.length ≤ 160) : Btn afK (fW x.Key ++ fW x.Value) x :=
 gN (zG h.1 (by decide) (by decide)) (sO (zG h.2 (by decide) (by decide)) rfl)
theorem auR {m : aF} (h : MsgD m) : Btn aaL (sS m) m := by
 unfold aaL adH sS mG
 refine gN (zG h.t (by decide) (by decide)) ?_
 refine gN (zG h.p (by decide) (by decide)) ?_
 refine gN (kX h.l) ?_
 refine gN (akA m.Retain) ?_
 refine gN (kX h.pr) ?_
 refine gN (kX h.ex) ?_
 refine gN (zG h.f (by decide) (by decide)) ?_
 refine gN (kX h.sq) ?_
 have hn := h.n
 refine gN (awh (by omega) (by omega) ⟨by omega, by omega⟩) ?_
 rw [Int.toNat_natCast]
 exact sO (azi fun x hx => ayD (h.ps x hx)) rfl
theorem aAG {x : aH} (h : SubD x) : Btn aeM (zA x) x :=
 gN (zG h.1 (by decide) (by decide)) (gN (kX h.2) (sO (akA x.NoLocal) rfl))
theorem aAQ (a b : Bool) : fl0 (gF a + 2 * gF b) = a := by cases a <;> cases b <;> kernel_rfl
theorem aB2 (a b : Bool) : fl1 (gF a + 2 * gF b) = b := by cases a <;> cases b <;> kernel_rfl
theorem ar9 (a b : Bool) : 0 ≤ gF a + 2 * gF b ∧ gF a + 2 * gF b < 4 := by cases a <;> cases b <;> decide
theorem ayN {p : aA} (h : uM p) (k : p.Kind = 1) : Btn afH (afU p) (alE p.Client p.User p.Clean p.Keep p.Expiry p.Window p.Will.Set p.Will.Delay p.Will.Message) := by
 obtain ⟨h1, h2, h3⟩ := h.cl k
 unfold afH afU
 refine gN (zG h1 (by decide) (by decide)) ?_
 refine gN (zG h2 (by decide) (by decide)) ?_
 refine gN (awQ (ar9 _ _).1 (ar9 _ _).2 (nP (ajK _ _))) ?_
 rw [aAQ, aB2]
 refine gN (kX h.keep) ?_
 refine gN (kX h.exp) ?_
 refine gN (kX h.win) ?_
 unfold aaF
 cases hs : p.Will.Set with
 | true =>
  rw [if_pos rfl, gV]
  exact gN (kX h.del) (sO (auR (h3 hs)) rfl)
 | false =>
  obtain ⟨e1, e2⟩ := h.wl k hs
  rw [if_neg (by decide), iZ, e1, e2]
  exact ap7 _
def as0 (p : aA) : aA :=
 cond (p.Kind == 1) (alE p.Client p.User p.Clean p.Keep p.Expiry p.Window p.Will.Set p.Will.Delay p.Will.Message) (cond (p.Kind == 2) (pk p.Kind 0 false zeroM p.Present p.Code [] [] [])
  (cond (p.Kind == 3) (pk p.Kind p.ID p.Dup p.Message false 0 [] [] []) (cond (p.Kind == 4 || (p.Kind == 5 || (p.Kind == 6 || p.Kind == 7))) (pk p.Kind p.ID false zeroM false 0 [] [] [])
  (cond (p.Kind == 8) (pk 8 p.ID false zeroM false 0 p.Subs [] []) (cond (p.Kind == 9 || p.Kind == 11) (pk p.Kind p.ID false zeroM false 0 [] [] p.Codes) (cond (p.Kind == 10) (pk 10 p.ID false zeroM false 0 [] p.Filters [])
  (cond (p.Kind == 14) (pk p.Kind 0 false zeroM false p.Code [] [] []) (pk p.Kind 0 false zeroM false 0 [] [] []))))))))
theorem azf {p : aA} (h : p = usedP p) (k : rngB 1 14 p.Kind = true) : p = as0 p := by
 obtain ⟨k', a2, a3, a4, a5, a6, a7, a8, a9, a10, a11, a14, a15, a16, a17, a18⟩ := p
 rcases qT k with e | e | e | e | e | e | e | e | e | e | e | e | e | e <;> (simp only at e; subst e; exact h)
theorem ayY {p : aA} (h : uM p) : Btn (aeN p.Kind) (adG p) p := by
 have nil : ∀ b : List Int, b ++ [] = b := List.append_nil
 suffices key : Btn (aeN p.Kind) (adG p) (as0 p) from Eq.mpr (congrArg (Btn (aeN p.Kind) (adG p)) (azf h.us h.k)) key
 unfold aeN adG as0
 rcases qT h.k with k | k | k | k | k | k | k | k | k | k | k | k | k | k <;> simp only [k, Int.reduceBEq, gV, iZ, Bool.or_false, Bool.or_true, Bool.false_or, Bool.true_or, nil]
 ·exact ayN h k
 ·exact gN (akA _) (sO (kX h.code) rfl)
 ·exact gN (kX h.id) (gN (akA _) (sO (auR (h.ms k)) rfl))
 ·exact sO (kX h.id) rfl
 ·exact sO (kX h.id) rfl
 ·exact sO (kX h.id) rfl
 ·exact sO (kX h.id) rfl
 ·have := (h.sb k).1
  exact gN (kX h.id) (sO (akD (by omega) (by omega) fun x hx => aAG ((h.sb k).2 x hx)) rfl)
 ·have := (h.cd (.inl k)).1
  exact gN (kX h.id) (sO (akD (by omega) (by omega) fun x hx => kX ((h.cd (.inl k)).2 x hx)) rfl)
 ·have := (h.fl k).1
  exact gN (kX h.id) (sO (akD (by omega) (by omega) fun x hx => zG ((h.fl k).2 x hx) (by decide) (by decide)) rfl)
 ·have := (h.cd (.inr k)).1
  exact gN (kX h.id) (sO (akD (by omega) (by omega) fun x hx => kX ((h.cd (.inr k)).2 x hx)) rfl)
 ·exact ap7 _
 ·exact ap7 _
 ·exact sO (kX h.code) rfl
theorem avK {p : aA} (h : uM p) : Btn abQ (xN p) p := by
 unfold abQ xN
 refine gN (kX (amR h)) ?_
 rw [if_pos h.k]
 exact ayY h
theorem aw7 {p : aA} (h : uM p) (hc : jE p = 0) : yK (xN p) = (p, 0) := by
 have := (avK h).1 []
 rw [List.append_nil] at this
 unfold yK
 rw [if_neg (by have := aaN h; omega), this]
 dsimp only
 unfold ant
 rw [if_pos rfl, if_pos hc]
end Md
end PX
set_option linter.unusedVariables false
set_option linter.unusedSimpArgs false
namespace PX
open Go
namespace Md
theorem awD (x : Int) : IntKind.wrap .u32 x = x % 4294967296 := by
 simp only [IntKind.wrap, IntKind.signed, IntKind.bits]; simp
theorem aDu {a b : Nat} (ha : a < 2 ^ 32) (hb : b < 2 ^ 32) : bY .xor .u32 (a : Int) (b : Int) = ((a ^^^ b : Nat) : Int) := by
 have hx := Nat.xor_lt_two_pow ha hb
 unfold bY
 simp only
 rw [awD, BitVec.toNat_xor, BitVec.toNat_ofInt, BitVec.toNat_ofInt]
 show (((((a : Int) % (2 ^ 32 : Nat)).toNat ^^^ ((b : Int) % (2 ^ 32 : Nat)).toNat) : Nat) : Int) % _ = _
 rw [show ((a : Int) % (2 ^ 32 : Nat)).toNat = a by omega, show ((b : Int) % (2 ^ 32 : Nat)).toNat = b by omega]
 omega
def acn (h b : Nat) : Nat := ((h ^^^ b) * 16777619) % 4294967296
def fnv : Nat → List Int → Nat
 | h, [] => h
 | h, x :: r => fnv (acn h x.toNat) r
theorem aaY (h b : Nat) : acn h b < 4294967296 := Nat.mod_lt _ (by decide)
theorem avE : ∀ {l : List Int} {h : Nat}, h < 4294967296 → fnv h l < 4294967296
 | [], h, hh => hh
 | x :: r, h, _ => avE (l := r) (aaY _ _)
theorem apS (h n : Nat) (x : Int) (r : List Int) (e : x = (n : Int)) : fnv h (x :: r) = fnv (acn h n) r := by subst e; rfl
theorem auJ {l : List Int} (hb : byt l) (hl : l.length ≤ 1000000000) : aaT l = some ((fnv 2166136261 l : Nat) : Int) := by
 unfold aaT
 refine sA (l := l) (F := fun fu i (h : Nat) => sZ fu (h : Int) l (l.length : Int) i) (g := fun r h => some ((fnv h r : Nat) : Int)) (fun _ h => h < 4294967296)
  (fun fu h hh => ?_) (fun fu i h hi h2 ih => ?_) (by omega) 2166136261 (by decide)
 ·have e : IntKind.wrap .i64 (h : Int) = (h : Int) := by rw [IntKind.wrap_i64]; omega
  rw [sZ, aQ (by simp), e, fnv]
 ·have hx := hb _ (List.getElem_mem hi)
  obtain ⟨n, hn⟩ := Int.eq_ofNat_of_zero_le hx.1
  have e1 : IntKind.wrap .u32 (l[i]) = (n : Int) := by rw [awD, hn]; omega
  have e2 : IntKind.wrap .u32 (bY .xor .u32 (h : Int) (n : Int) * 16777619) = ((acn h n : Nat) : Int) := by
   rw [aDu h2 (by omega), awD]
   unfold acn
   omega
  rw [sZ, aL (iV hi), aL (inr hi), cR hi, e1, e2, bZ (by omega), ih _ (aaY _ _), apS h n _ _ hn]
def kV (l : List Int) : Nat := fnv 2166136261 l
theorem aaQ (l : List Int) : kV l < 4294967296 := avE (by decide)
def jH (s : Nat) : List Int := [((s / 16777216 : Nat) : Int), ((s / 65536 % 256 : Nat) : Int), ((s / 256 % 256 : Nat) : Int), ((s % 256 : Nat) : Int)]
def iQ (l : List Int) : List Int := cK (l.length : Int) ++ (jH (kV l) ++ l)
def agc (l : List Int) : List Int := if l.length > 65536 then [] else iQ l
theorem ayj (s : Nat) : shr .i64 (s : Int) 24 = ((s / 16777216 : Nat) : Int) := by
 unfold shr
 rw [show (2 : Int) ^ (min (24 : Int).toNat IntKind.i64.bits) = 16777216 by decide, Int.fdiv_eq_ediv_of_nonneg _ (by omega)]
 omega
theorem ayn (s : Nat) : shr .i64 (s : Int) 16 = ((s / 65536 : Nat) : Int) := by
 unfold shr
 rw [show (2 : Int) ^ (min (16 : Int).toNat IntKind.i64.bits) = 65536 by decide, Int.fdiv_eq_ediv_of_nonneg _ (by omega)]
 omega
theorem aAP (s : Nat) : shr .i64 (s : Int) 8 = ((s / 256 : Nat) : Int) := by
 unfold shr
 rw [show (2 : Int) ^ (min (8 : Int).toNat IntKind.i64.bits) = 256 by decide, Int.fdiv_eq_ediv_of_nonneg _ (by omega)]
 omega
end Md
end PX
set_option linter.unusedVariables false
set_option linter.unusedSimpArgs false
namespace PX
open Go
namespace Md
theorem aAS (s : Nat) (h : s < 4294967296) : [(IntKind.wrap .u8 (shr .i64 (s : Int) 24)), (IntKind.wrap .u8 (shr .i64 (s : Int) 16)), (IntKind.wrap .u8 (shr .i64 (s : Int) 8)), (IntKind.wrap .u8 (s : Int))] = jH s := by
 rw [ayj, ayn, aAP, wu8, wu8, wu8, wu8]
 unfold jH
 rw [show ((s / 16777216 : Nat) : Int) % 256 = ((s / 16777216 : Nat) : Int) by omega, show ((s / 65536 : Nat) : Int) % 256 = ((s / 65536 % 256 : Nat) : Int) by omega, show ((s / 256 : Nat) : Int) % 256 = ((s / 256 % 256 : Nat) : Int) by omega, show (s : Int) % 256 = ((s % 256 : Nat) : Int) by omega]
theorem fP (s : Nat) : (jH s).length = 4 := rfl
theorem asg (s : Nat) (h : s < 4294967296) : byt (jH s) := fun x hx => by
 unfold jH at hx
 simp only [List.mem_cons, List.not_mem_nil, or_false] at hx
 rcases hx with rfl | rfl | rfl | rfl <;> omega
theorem ay9 {l : List Int} (hb : byt l) (hl : l.length ≤ 1000000000) : abG l = some (agc l) := by
 unfold abG agc iQ
 by_cases c : l.length > 65536
 ·rw [aL (by simp; omega), if_pos c]
 ·have e := bM (l.length : Int)
  rw [aQ (by simp; omega), if_neg c, auJ hb hl, aU, xP (uW (by omega)) (by simp), aU, List.nil_append]
  have es := aAS (fnv 2166136261 l) (aaQ l)
  rw [es]
  have el := fP (fnv 2166136261 l)
  rw [aL (by rw [decide_eq_true_eq]; omega), aL (by rw [decide_eq_true_eq, List.length_append]; omega), List.append_assoc]
  rfl
def ah5 (n : Nat) : Rd (List Int) := fun q => if q.length < 4 + n then .er 3 (by decide) else if jH (kV ((q.drop 4).take n)) = q.take 4 then .ok ((q.drop 4).take n) (q.drop (4 + n)) else .er 4 (by decide)
def vK : Rd (List Int) := bS (jX 65536) fun n => ah5 n.toNat
theorem awk {a b : Nat} (ha : a < 2 ^ 32) (hb : b < 2 ^ 32) : bY .or .i64 (a : Int) (b : Int) = ((a ||| b : Nat) : Int) := by
 have hx := Nat.or_lt_two_pow ha hb
 unfold bY
 simp only
 rw [IntKind.wrap_i64, BitVec.toNat_or, BitVec.toNat_ofInt, BitVec.toNat_ofInt]
 rw [show ((a : Int) % (2 ^ IntKind.i64.bits : Nat)).toNat = a by show ((a : Int) % (2 ^ 64 : Nat)).toNat = a; omega, show ((b : Int) % (2 ^ IntKind.i64.bits : Nat)).toNat = b by show ((b : Int) % (2 ^ 64 : Nat)).toNat = b; omega]
 omega
theorem aqB {b k : Nat} (hb : b < 256) (hk : k ≤ 24) : shl .i64 (b : Int) (k : Int) = ((2 ^ k * b : Nat) : Int) := by
 unfold shl
 have e : min (k : Int).toNat IntKind.i64.bits = k := by show min k 64 = k; omega
 have h1 : 2 ^ k ≤ 2 ^ 24 := Nat.pow_le_pow_right (by decide) hk
 have h2 : 2 ^ k * b ≤ 2 ^ 24 * 256 := Nat.mul_le_mul h1 (by omega)
 rw [e, IntKind.wrap_i64]
 have e2 : (b : Int) * 2 ^ k = ((2 ^ k * b : Nat) : Int) := by rw [Int.natCast_mul, Int.mul_comm]; rfl
 rw [e2]
 omega
theorem as5 {a b c d : Nat} (ha : a < 256) (hb : b < 256) (hc : c < 256) (hd : d < 256) :
  bY .or .i64 (bY .or .i64 (bY .or .i64 (shl .i64 (a : Int) 24) (shl .i64 (b : Int) 16)) (shl .i64 (c : Int) 8)) (d : Int) = ((a * 16777216 + b * 65536 + c * 256 + d : Nat) : Int) := by
 have e1 := aqB (k := 24) ha (by omega)
 have e2 := aqB (k := 16) hb (by omega)
 have e3 := aqB (k := 8) hc (by omega)
 rw [show ((24 : Nat) : Int) = 24 from rfl] at e1
 rw [show ((16 : Nat) : Int) = 16 from rfl] at e2
 rw [show ((8 : Nat) : Int) = 8 from rfl] at e3
 rw [e1, e2, e3, awk (by omega) (by omega)]
 have o1 : 2 ^ 24 * a ||| 2 ^ 16 * b = 2 ^ 16 * (256 * a + b) := by
  rw [← Nat.two_pow_add_eq_or_of_lt (by omega)]; omega
 rw [o1, awk (by omega) (by omega)]
 have o2 : 2 ^ 16 * (256 * a + b) ||| 2 ^ 8 * c = 2 ^ 8 * (65536 * a + 256 * b + c) := by
  rw [← Nat.two_pow_add_eq_or_of_lt (by omega)]; omega
 rw [o2, awk (by omega) (by omega)]
 have o3 : 2 ^ 8 * (65536 * a + 256 * b + c) ||| d = a * 16777216 + b * 65536 + c * 256 + d := by
  rw [← Nat.two_pow_add_eq_or_of_lt (by omega)]; omega
 rw [o3]
theorem ay5 {a b c d : Nat} (ha : a < 256) (hb : b < 256) (hc : c < 256) (hd : d < 256) {s : Nat} (hs : s < 4294967296) : (((a * 16777216 + b * 65536 + c * 256 + d : Nat) : Int) != (s : Int)) = !decide (jH s = [(a : Int), (b : Int), (c : Int), (d : Int)]) := by
 by_cases h : a * 16777216 + b * 65536 + c * 256 + d = s
 ·have : jH s = [(a : Int), (b : Int), (c : Int), (d : Int)] := by
   unfold jH
   congr 1
   ·omega
   ·congr 1
    ·omega
    ·congr 1
     ·omega
     ·congr 1; omega
  rw [decide_eq_true this, h]; simp
 ·have : ¬ jH s = [(a : Int), (b : Int), (c : Int), (d : Int)] := fun e => by
   unfold jH at e
   injection e with e1 e
   injection e with e2 e
   injection e with e3 e
   injection e with e4 _
   omega
  rw [decide_eq_false this]
  simp only [Bool.not_false, bne_iff_ne, ne_eq]
  omega
theorem ace {α : Type} (x0 : List α) (a n : Nat) : cH x0 (some (a : Int)) (some ((a + n : Nat) : Int)) = (x0.drop a).take n := by
 unfold cH
 simp only [Int.toNat_natCast]
 rw [List.drop_take, Nat.add_sub_cancel_left]
theorem fill_eq (c : List Int) {n : Nat} (h : c.length = n) : List.take (List.length (List.replicate n (default : Int))) c ++ List.drop (min (List.length c) (List.length (List.replicate n (default : Int)))) (List.replicate n (default : Int)) = c := by
 rw [List.length_replicate, h, Nat.min_self, List.drop_eq_nil_of_le (by simp), List.append_nil, ← h, List.take_length]
theorem as8 {x0 : List Int} (hb : Buf x0) (p : Nat) (hp : p ≤ x0.length) : kN x0 ([] : List Int) (vK (x0.drop p)) (abV x0 (p : Int)) := by
 have hl := hb.2
 have hm := abY hb p hp
 unfold abV vK jX
 unfold kN at hm
 cases e : gH (x0.drop p) with
 | er e' he =>
  rw [e] at hm
  rw [hm, aU, aL (vX he), uT (uT e)]
  rfl
 | ok n q =>
  rw [e] at hm
  obtain ⟨a, ha, hq, ho⟩ := hm
  rw [ho, aU, aQ (by simp)]
  dsimp only
  unfold bS
  rw [e]
  dsimp only
  by_cases c1 : n < 0
  ·rw [aL (by simpa using c1), if_pos c1]; rfl
  rw [aQ (by simpa using c1), if_neg c1]
  by_cases c2 : n > 65536
  ·rw [aL (by simpa using c2), if_pos c2]; rfl
  rw [aQ (by simpa using c2), if_neg c2]
  obtain ⟨m, rfl⟩ := Int.eq_ofNat_of_zero_le (show 0 ≤ n by omega)
  have w1 : IntKind.wrap .i64 ((x0.length : Int) - (a : Int)) = (x0.length : Int) - a := by rw [IntKind.wrap_i64]; omega
  have w2 : IntKind.wrap .i64 (4 + (m : Int)) = 4 + m := by rw [IntKind.wrap_i64]; omega
  have w3 : IntKind.wrap .i64 ((a : Int) + 4) = ((a + 4 : Nat) : Int) := by rw [IntKind.wrap_i64]; omega
  have w4 : IntKind.wrap .i64 (((a + 4 : Nat) : Int) + (m : Int)) = ((a + 4 + m : Nat) : Int) := by rw [IntKind.wrap_i64]; omega
  have hql : q.length = x0.length - a := by rw [← hq, List.length_drop]
  dsimp only [fB]
  rw [Int.toNat_natCast, w1, w2, w3, w4]
  unfold ah5
  by_cases c3 : q.length < 4 + m
  ·rw [aL (by simp; omega), if_pos c3]; rfl
  rw [aQ (by simp; omega), if_neg c3, aL (by simp; omega), aL (by simp; omega), aL (by simp; omega), aL (by simp; omega), aL (by simp; omega), aL (by simp; omega)]
  have ec : cH x0 (some (a : Int)) (some ((a + 4 : Nat) : Int)) = q.take 4 := by rw [ace, hq]
  have eb : cH x0 (some ((a + 4 : Nat) : Int)) (some ((a + 4 + m : Nat) : Int)) = (q.drop 4).take m := by rw [ace, ← List.drop_drop, hq]
  have hbl : ((q.drop 4).take m).length = m := by rw [List.length_take, List.length_drop]; omega
  have hbq : byt q := fun x hx => hb.1 x (by rw [← hq] at hx; exact List.mem_of_mem_drop hx)
  rw [ec, eb]
  rw [fill_eq _ hbl]
  obtain ⟨b0, b1, b2, b3, r, hqq⟩ : ∃ b0 b1 b2 b3 r, q = b0 :: b1 :: b2 :: b3 :: r := by
   rcases q with _ | ⟨b0, _ | ⟨b1, _ | ⟨b2, _ | ⟨b3, r⟩⟩⟩⟩
   ·simp at c3
   ·simp at c3; omega
   ·simp at c3; omega
   ·simp at c3; omega
   ·exact ⟨b0, b1, b2, b3, r, rfl⟩
  have h0 := hbq b0 (by rw [hqq]; simp)
  have h1 := hbq b1 (by rw [hqq]; simp)
  have h2 := hbq b2 (by rw [hqq]; simp)
  have h3 := hbq b3 (by rw [hqq]; simp)
  obtain ⟨n0, rfl⟩ := Int.eq_ofNat_of_zero_le h0.1
  obtain ⟨n1, rfl⟩ := Int.eq_ofNat_of_zero_le h1.1
  obtain ⟨n2, rfl⟩ := Int.eq_ofNat_of_zero_le h2.1
  obtain ⟨n3, rfl⟩ := Int.eq_ofNat_of_zero_le h3.1
  have et : q.take 4 = [(n0 : Int), (n1 : Int), (n2 : Int), (n3 : Int)] := by rw [hqq]; rfl
  have wi : ∀ k : Nat, k < 256 → IntKind.wrap .i64 (k : Int) = (k : Int) := fun k hk => by rw [IntKind.wrap_i64]; omega
  have hbb : byt ((q.drop 4).take m) := fun x hx => hbq x (List.mem_of_mem_drop (List.mem_of_mem_take hx))
  rw [et, aL (by rfl), aL (by rfl), aL (by rfl), aL (by rfl), auJ hbb (by omega), aU]
  show kN _ _ _ (cond ((bY .or .i64 (bY .or .i64 (bY .or .i64 (shl .i64 (IntKind.wrap .i64 (n0 : Int)) 24) (shl .i64 (IntKind.wrap .i64 (n1 : Int)) 16)) (shl .i64 (IntKind.wrap .i64 (n2 : Int)) 8)) (IntKind.wrap .i64 (n3 : Int))) != ((kV ((q.drop 4).take m) : Nat) : Int)) _ _)
  rw [wi n0 (by omega), wi n1 (by omega), wi n2 (by omega), wi n3 (by omega), as5 (by omega) (by omega) (by omega) (by omega), ay5 (by omega) (by omega) (by omega) (by omega) (aaQ _)]
  by_cases c4 : jH (kV ((q.drop 4).take m)) = [(n0 : Int), (n1 : Int), (n2 : Int), (n3 : Int)]
  ·rw [decide_eq_true c4, aQ (by rfl), if_pos c4]
   refine ⟨a + 4 + m, by omega, ?_, rfl⟩
   rw [← hq, List.drop_drop, Nat.add_assoc]
  ·rw [decide_eq_false c4, aL (by rfl), if_neg c4]
   rfl
end Md
end PX
set_option linter.unusedVariables false
set_option linter.unusedSimpArgs false
namespace PX
open Go
namespace Md
def j9 (x0 : List Int) : Int × Int × List Int × Int :=
 match vK x0 with
 | .er e _ => (0, 0, [], e)
 | .ok b q => if q = [] then (match gH b with
  | .er e _ => (0, 0, [], e)
  | .ok c q1 => (match gH q1 with
   | .er e _ => (0, 0, [], e)
   | .ok s q2 => (c, s, q2, 0))) else (0, 0, [], 2)
theorem axb (l : List Int) (a : Nat) : List.take (l.length - a) (List.drop a l) = l.drop a := by
 rw [← List.length_drop, List.take_length]
theorem amG {x0 b q : List Int} (hb : byt x0) (h : vK x0 = .ok b q) : byt b ∧ b.length ≤ x0.length := by
 obtain ⟨n, m, h1, h2⟩ := dW h
 obtain ⟨_, e⟩ := abF 65536 x0 n m hb h1
 subst e
 unfold ah5 at h2
 split at h2
 ·cases h2
 ·split at h2
  ·injection h2 with h2 _
   subst h2
   exact ⟨fun x hx => hb x (List.mem_append_right _ (List.mem_of_mem_drop (List.mem_of_mem_take hx))), by rw [List.length_take, List.length_drop, List.length_append]; omega⟩
  ·cases h2
theorem arb {x0 : List Int} (hb : Buf x0) {NX : Option (List Int × Int × Int)} {NU : List Int → Int → Option (Int × Int × Int)} (hn : kN x0 ([] : List Int) (vK x0) NX) (hu : ∀ y : List Int, Buf y → ∀ p : Nat, p ≤ y.length → kN y 0 (gH (y.drop p)) (NU y (p : Int))) :
  (Option.bind NX fun r0 =>
 cond (r0.2.2 != 0) (
  some (0, 0, ([] : List Int), r0.2.2)) (
 cond (decide (r0.2.1 < (List.length x0 : Int))) (
  some (0, 0, ([] : List Int), 2)) (
 Option.bind (NU r0.1 0) fun r1 =>
 cond (r1.2.2 != 0) (
  some (0, 0, ([] : List Int), r1.2.2)) (
 Option.bind (NU r0.1 r1.2.1) fun r2 =>
 cond (r2.2.2 != 0) (
  some (0, 0, ([] : List Int), r2.2.2)) (
 cond (decide (0 ≤ r2.2.1) && decide (r2.2.1 ≤ ((List.length r0.1) : Int))) (
  some ((r1.1, r2.1, (List.take ((List.length r0.1) - (Int.toNat r2.2.1)) (List.drop (Int.toNat r2.2.1) r0.1)), 0))) none))))) = some (j9 x0) := by
 unfold j9
 unfold kN at hn
 cases e : vK x0 with
 | er e' he =>
  rw [e] at hn
  rw [hn, aU, aL (vX he)]
 | ok b q =>
  rw [e] at hn
  obtain ⟨a, ha, hq, ho⟩ := hn
  obtain ⟨b1, b2⟩ := amG hb.1 e
  have hbb : Buf b := ⟨b1, by have := hb.2; omega⟩
  rw [ho, aU, aQ (by simp)]
  dsimp only
  by_cases c : a = x0.length
  ·have hqn : q = [] := by rw [← hq]; exact (acP ha).2 c
   rw [if_pos hqn, aQ (by simp; omega)]
   have h1 := hu b hbb 0 (by omega)
   rw [List.drop_zero] at h1
   unfold kN at h1
   cases e1 : gH b with
   | er e' he =>
    rw [e1] at h1
    have h1 : NU b 0 = _ := h1
    rw [h1, aU, aL (vX he)]
   | ok c1 q1 =>
    rw [e1] at h1
    obtain ⟨a1, ha1, hq1, ho1⟩ := h1
    have ho1 : NU b 0 = _ := ho1
    rw [ho1, aU, aQ (by simp)]
    dsimp only
    have h2 := hu b hbb a1 ha1
    rw [hq1] at h2
    unfold kN at h2
    cases e2 : gH q1 with
    | er e' he =>
     rw [e2] at h2
     have h2 : NU b (a1 : Int) = _ := h2
     rw [h2, aU, aL (vX he)]
    | ok c2 q2 =>
     rw [e2] at h2
     obtain ⟨a2, ha2, hq2, ho2⟩ := h2
     rw [ho2, aU, aQ (by simp), aL (by simp; omega)]
     dsimp only
     rw [Int.toNat_natCast, axb, hq2]
  ·rw [if_neg (fun h => c ((acP ha).1 (by rw [hq]; exact h))), aL (by simp; omega)]
theorem azn {x0 : List Int} (hb : Buf x0) : aaw x0 = some (j9 x0) := by
 have h := as8 hb 0 (by omega)
 rw [List.drop_zero] at h
 exact arb hb h fun y hy p hp => abY hy p hp
end Md
end PX
set_option linter.unusedVariables false
set_option linter.unusedSimpArgs false
namespace PX
open Go
namespace Md
theorem decode_wq {x0 : List Int} (hb : Buf x0) : sF x0 = some (yK x0) := by
 unfold yK
 by_cases c : x0.length > 4096
 ·rw [if_pos c]
  unfold sF; rw [aL (by simp; omega)]
 ·rw [if_neg c]
  have h1 := aqw hb (by omega)
  cases e : abQ x0 with
  | ok y q =>
   rw [e] at h1
   exact h1 (aza x0 y q hb.1 e).1
  | er e' he =>
   rw [e] at h1
   exact h1
theorem reads_wo {x0 : List Int} (hb : Buf x0) (hl : x0.length ≤ 50000) : ∀ (k : Nat) (fu p : Nat) (w : List aA), p ≤ x0.length → x0.length - p ≤ k → k < fu → w.length ≤ p → kD fu x0 (p : Int) w = some (tA k (x0.drop p) w) := by
 intro k
 induction k with
 | zero =>
  intro fu p w hp hk hf hw
  obtain ⟨fu, rfl⟩ : ∃ n, fu = n + 1 := ⟨fu - 1, by omega⟩
  rw [kD, aQ (by simp; omega)]
  rfl
 | succ k ih =>
  intro fu p w hp hk hf hw
  obtain ⟨fu, rfl⟩ : ∃ n, fu = n + 1 := ⟨fu - 1, by omega⟩
  by_cases c : p = x0.length
  ·rw [kD, aQ (by simp; omega), (acP hp).2 c]
   rfl
  ·rw [kD, aL (by simp; omega), abl (fun e => c ((acP hp).1 e))]
   have hbd : byt (x0.drop p) := fun x hx => hb.1 x (List.mem_of_mem_drop hx)
   have hm := abY hb p hp
   unfold kN at hm
   have ht := akZ hb 4096 (by decide) p hp
   unfold yQ at ht
   cases e : gH (x0.drop p) with
   | er e' he =>
    rw [e] at hm
    have et : hJ 4096 (x0.drop p) = .er e' he := by
     unfold hJ jX
     rw [uT (uT e)]
    rw [hm, aU, aL (vX he), et]
   | ok n q =>
    rw [e] at hm
    obtain ⟨a, ha, hq, ho⟩ := hm
    rw [ho, aU, aQ (by simp)] at ht ⊢
    dsimp only at ht ⊢
    by_cases c1 : n < 0
    ·have et : hJ 4096 (x0.drop p) = .er 2 (by decide) := by
      unfold hJ jX
      refine uT ?_
      rw [qX e, if_pos c1]; rfl
     rw [aL (by simpa using c1), et]
    ·by_cases c2 : n > 4096
     ·have et : hJ 4096 (x0.drop p) = .er 5 (by decide) := by
       unfold hJ jX
       refine uT ?_
       rw [qX e, if_neg c1, if_pos c2]; rfl
      rw [aQ (by simpa using c1), aL (by simpa using c2), et]
     ·rw [aQ (by simpa using c1), aQ (by simpa using c2)] at ht ⊢
      have w1 : IntKind.wrap .i64 ((x0.length : Int) - (a : Int)) = (x0.length : Int) - a := by rw [IntKind.wrap_i64]; omega
      rw [w1] at ht ⊢
      by_cases c3 : n > (x0.length : Int) - a
      ·rw [aL (by simpa using c3)] at ht ⊢
       unfold kN at ht
       cases et : hJ 4096 (x0.drop p) with
       | er e2 h2 =>
        rw [et] at ht
        have ht : some (([] : Str), (0 : Int), (3 : Int)) = some ([], 0, e2) := ht
        injection ht with ht
        injection ht with _ ht
        injection ht with _ ht
        rw [ht]
       | ok s q =>
        rw [et] at ht
        obtain ⟨b, _, _, hh⟩ := ht
        injection hh with hh
        injection hh with _ hh
        injection hh with _ hh
        cases hh
      ·have w2 : IntKind.wrap .i64 ((a : Int) + n) = ((a + n.toNat : Nat) : Int) := by rw [IntKind.wrap_i64]; omega
       rw [aQ (by simpa using c3), w2, aL (by simp; omega), aL (by simp; omega), aL (by simp; omega)] at ht ⊢
       unfold kN at ht
       cases et : hJ 4096 (x0.drop p) with
       | er e2 h2 =>
        rw [et] at ht
        have ht : some (_, _, (0 : Int)) = some (([] : Str), (0 : Int), e2) := ht
        injection ht with ht
        injection ht with _ ht
        injection ht with _ ht
        exact absurd ht.symm h2
       | ok s q =>
        rw [et] at ht
        obtain ⟨b, hb1, hb2, hh⟩ := ht
        injection hh with hh
        injection hh with hs hh
        injection hh with hh _
        have ebn : a + n.toNat = b := by omega
        have hcut : byt (cH x0 (some (a : Int)) (some ((a + n.toNat : Nat) : Int))) := fun x hx => by
         unfold cH at hx
         exact hb.1 x (List.mem_of_mem_take (List.mem_of_mem_drop hx))
        have ecut : cH x0 (some (a : Int)) (some ((a + n.toNat : Nat) : Int)) = ofStr s := by rw [← hs, qW hcut]
        have hprog := aic hbd et
        have hlen : q.length = x0.length - b := by rw [← hb2, List.length_drop]
        rw [List.length_drop] at hprog
        have hs4 : (s.length : Int) ≤ 4096 := (mS 4096 _ _ _ hbd et).1
        rw [ecut, decode_wq (anw hs4), aU]
        dsimp only
        by_cases c4 : (yK (ofStr s)).2 = 0
        ·rw [if_pos c4, aQ (by simpa using c4), aL (by simp; omega), ebn, ih fu b _ (by omega) (by omega) (by omega) (by simp; omega), hb2]
        ·rw [if_neg c4, aL (by simpa using c4)]
theorem decodeAll_wq {x0 : List Int} (hb : Buf x0) (hl : x0.length ≤ 50000) : zS x0 = some (tA 50000 x0 []) := by
 have h1 := reads_wo hb hl 50000 fuel 0 [] (by omega) (by omega) (by rw [hY]; omega) (by simp)
 rw [List.drop_zero] at h1
 exact h1
end Md
end PX
set_option linter.unusedVariables false
set_option linter.unusedSimpArgs false
namespace PX
open Go
namespace Md
def mW : List aA → List Int → List Int × Int
 | [], w => (w, 0)
 | p :: r, w => cond ((tJ p).2 != 0) ([], (tJ p).2) (mW r (w ++ (cK ((tJ p).1.length : Int) ++ (tJ p).1)))
theorem ash {p : aA} (g : p.good) : byt (tJ p).1 := by
 unfold tJ
 by_cases c : jE p = 0
 ·rw [c, aQ (by simp)]; exact akz (aaR c g)
 ·rw [aL (by simpa using c)]; intro x hx; cases hx
theorem arp {l : List aA} (hl : l.length ≤ 8) (h : ∀ x ∈ l, x.good) : vN l = some (mW l []) := by
 unfold vN
 refine sA (l := l) (F := fun fu i w => lU fu l (l.length : Int) i w) (g := fun r w => some (mW r w)) (fun i w => w.length ≤ i * 5000) (fun fu w _ => by rw [lU, aQ (by simp)]; rfl) (fun fu i w hi hw ih => ?_) (by omega) [] (by simp)
 have g := h _ (List.getElem_mem hi)
 have e1 := al6 g
 have e2 := bM ((tJ l[i]).1.length : Int)
 rw [lU, aL (iV hi), aL (inr hi), cR hi, awF _ g, aU, mW, dD]
 congr 1
 rw [xP (uW (by omega)) (by omega), aU, aL (by simp only [decide_eq_true_eq, List.length_append]; omega), bZ (by omega), List.append_assoc, ih _ (by simp only [List.length_append]; omega)]
end Md
end PX
set_option linter.unusedVariables false
set_option linter.unusedSimpArgs false
namespace PX
open Go
namespace Md
theorem oR {α : Type} {c : Bool} {a b b' : α} (h : c = false → b = b') : cond c a b = cond c a b' := by
 cases c
 ·exact h rfl
 ·rfl
theorem adY {b : Bool} {z : Option Bool} (h : Option.map (fun _ => ()) z = some ()) : Option.map (fun _ => ()) (cond b (some false) z) = some () := by
 cases b
 ·exact h
 ·rfl
theorem kT : cU = some true := by kernel_rfl
theorem asa (l : List aA) : ∃ b, oH l = some b ∧ (b = true → l.length ≤ 6) := by
 unfold oH
 by_cases c : (l.length : Int) > 6
 ·rw [aL (by simpa using c)]
  exact ⟨false, rfl, fun h => by cases h⟩
 ·rw [aQ (by simpa using c)]
  have a9 : Option.map (fun _ => ()) (gJ fuel l 0) = some () :=
   aaU (n := l.length) (F := fun fu i (_ : Unit) => Option.map (fun _ => ()) (gJ fu l i)) (G := fun _ _ => some ()) (fun _ _ => True)
    (fun fu s _ => by rw [gJ, aQ (pT (by omega))]; rfl)
    (fun fu i s hi _ ih => by
     have ih := ih () trivial
     rw [gJ, aL (iV hi), aL (inr hi), bZ (by omega)]
     exact adY (adY (adY (adY (adY (adY (adY (adY (adY ih))))))))) (by omega) () trivial
  cases hh : gJ fuel l 0 with
  | none => rw [hh] at a9; cases a9
  | some b => exact ⟨b, rfl, fun _ => by omega⟩
theorem adR : ∀ {l : List aA} {w : List Int}, (∀ x ∈ l, x.good) → byt w → byt (mW l w).1 ∧ (mW l w).1.length ≤ w.length + l.length * 4106
 | [], w, _, hb => ⟨hb, by simp [mW]⟩
 | p :: r, w, h, hb => by
  have g := h p (by simp)
  have e1 := al6 g
  have e2 := bM ((tJ p).1.length : Int)
  rw [mW]
  by_cases c : (tJ p).2 = 0
  ·rw [aQ (by simpa using c)]
   have := adR (l := r) (w := w ++ (cK ((tJ p).1.length : Int) ++ (tJ p).1)) (fun x hx => h x (by simp [hx])) (dC hb (dC (fY (uW (by omega))) (ash g)))
   refine ⟨this.1, ?_⟩
   have := this.2
   simp only [List.length_append, List.length_cons] at this ⊢
   omega
  ·rw [aL (by simpa using c)]
   exact ⟨(fun x hx => by cases hx), by simp⟩
def acI (t : aI) (l : List aA) : List Int := cK t.Conn ++ (cK (t.Sent + 1) ++ (mW l []).1)
def akv (t : aI) (l : List aA) : List Int × aI × Int :=
 cond t.Broken ([], t, 21) (cond (decide (t.Conn < 0)) ([], t, 1) (cond (decide (t.Conn > 1099511627776)) ([], t, 1) (cond (decide (t.Sent < 0)) ([], t, 1) (cond (decide (t.Sent ≥ 1099511627776)) ([], t, 1)
  (cond ((mW l []).2 != 0) ([], t, (mW l []).2) (agc (acI t l), aI.mk t.Conn (t.Sent + 1) t.Got t.Broken, 0))))))
theorem aqt {t : aI} {l : List aA} (h : ∀ x ∈ l, x.good) (hl : l.length ≤ 8) (c0 : 0 ≤ t.Conn) (c1 : t.Conn ≤ 1099511627776) (s0 : 0 ≤ t.Sent) (s1 : t.Sent < 1099511627776) : byt (acI t l) ∧ (acI t l).length ≤ 40000 := by
 obtain ⟨h1, h2⟩ := adR (w := []) h (fun x hx => by cases hx)
 have e1 := bM t.Conn
 have e2 := bM (t.Sent + 1)
 refine ⟨dC (fY ⟨by omega, by omega⟩) (dC (fY ⟨by omega, by omega⟩) h1), ?_⟩
 simp only [acI, List.length_append, List.length_nil] at h2 ⊢
 omega
theorem aqg {t : aI} {l : List aA} (h : ∀ x ∈ l, x.good) (hl : l.length ≤ 8) : sC t l = some (akv t l) := by
 unfold sC akv
 simp only [dD]
 refine oR fun _ => oR fun c0 => oR fun c1 => oR fun s0 => oR fun s1 => ?_
 have c0 := of_decide_eq_false c0
 have c1 := of_decide_eq_false c1
 have s0 := of_decide_eq_false s0
 have s1 := of_decide_eq_false s1
 obtain ⟨b1, b2⟩ := aqt h hl (show 0 ≤ t.Conn by omega) (by omega) (show 0 ≤ t.Sent by omega) (by omega)
 have ws : IntKind.wrap .i64 (t.Sent + 1) = t.Sent + 1 := by rw [IntKind.wrap_i64]; omega
 have e1 := bM t.Conn
 have e2 := bM (t.Sent + 1)
 have e3 := (adR (w := []) h (fun x hx => by cases hx)).2
 have hsb : cK t.Conn ++ cK (t.Sent + 1) ++ (mW l []).1 = acI t l := by rw [acI, List.append_assoc]
 unfold zI
 rw [arp hl h, aU, ws]
 refine oR fun _ => ?_
 rw [xP ⟨by omega, by omega⟩ (by simp), aU, List.nil_append, xP ⟨by omega, by omega⟩ (by omega), aU, aL (by simp only [decide_eq_true_eq, List.length_append]; simp at e3; omega), hsb, aQ (by simp; omega), ay9 b1 (by omega), aU]
theorem ajU {x0 : List Int} (hb : byt x0) : byt (j9 x0).2.2.1 ∧ (j9 x0).2.2.1.length ≤ x0.length ∧ i64 (j9 x0).2.1 := by
 have z : byt ([] : List Int) ∧ ([] : List Int).length ≤ x0.length ∧ i64 0 := ⟨(fun x hx => by cases hx), by simp, z64⟩
 unfold j9
 cases e : vK x0 with
 | er e' he => exact z
 | ok b q =>
  obtain ⟨b1, b2⟩ := amG hb e
  dsimp only
  split
  ·cases e1 : gH b with
   | er e' he => exact z
   | ok c q1 =>
    obtain ⟨_, w1⟩ := nK b c q1 b1 e1
    subst w1
    dsimp only
    cases e2 : gH q1 with
    | er e' he => exact z
    | ok s q2 =>
     obtain ⟨d2, w2⟩ := nK q1 s q2 (fL b1) e2
     subst w2
     refine ⟨fL (fL b1), ?_, d2⟩
     simp only [List.length_append] at b2
     dsimp only
     omega
  ·exact z
def aaC (t : aI) (x0 : List Int) : List aA × aI × Int :=
 cond ((j9 x0).2.2.2 != 0) ([], t, (j9 x0).2.2.2) (cond ((tA 50000 (j9 x0).2.2.1 []).2 != 0) ([], t, (tA 50000 (j9 x0).2.2.1 []).2)
  (cond ((j9 x0).1 != t.Conn) ([], t, 8) (cond t.Broken ([], t, 21) (cond (decide ((j9 x0).2.1 ≤ t.Got)) ([], t, 26) (cond ((j9 x0).2.1 != t.Got + 1) ([], aI.mk t.Conn t.Sent t.Got true, 22)
   ((tA 50000 (j9 x0).2.2.1 []).1, aI.mk t.Conn t.Sent (t.Got + 1) t.Broken, 0))))))
theorem aqD {t : aI} (g : t.good) {x0 : List Int} (hb : Buf x0) (hl : x0.length ≤ 50000) : lJ t x0 = some (aaC t x0) := by
 obtain ⟨r1, r2, r3⟩ := ajU hb.1
 unfold lJ aaC yO
 rw [azn hb, aU]
 simp only [dD]
 refine oR fun _ => ?_
 rw [decodeAll_wq ⟨r1, by omega⟩ (by omega), aU]
 refine oR fun _ => oR fun _ => oR fun _ => oR fun c => ?_
 have c := of_decide_eq_false c
 ·have hg : i64 t.Got := nP g.2.2
  have w1 : IntKind.wrap .i64 ((j9 x0).2.1 - 1) = (j9 x0).2.1 - 1 := by rw [IntKind.wrap_i64]; have := r3.1; have := r3.2; have := hg.1; omega
  rw [w1]
  by_cases d : (j9 x0).2.1 = t.Got + 1
  ·have w2 : IntKind.wrap .i64 (t.Got + 1) = t.Got + 1 := by rw [IntKind.wrap_i64]; have := r3.1; have := r3.2; have := hg.1; omega
   rw [aQ (by simp; omega), aQ (by simpa using d), w2]
  ·rw [aL (by simp; omega), aL (by simpa using d)]; rfl
end Md
end PX
set_option linter.unusedVariables false
set_option linter.unusedSimpArgs false
namespace PX
open Go
namespace Md
def zD (l : List aA) : List Int := l.flatMap fun p => cK ((xN p).length : Int) ++ xN p
theorem aze {p : aA} (c : jE p = 0) : tJ p = (xN p, 0) := by unfold tJ; rw [c, aQ (by simp)]
theorem aom : ∀ {l : List aA} {w : List Int}, (∀ x ∈ l, jE x = 0) → mW l w = (w ++ zD l, 0)
 | [], w, _ => by rw [mW, zD]; simp
 | p :: r, w, h => by
  rw [mW, aze (h p (by simp)), aQ (by simp), aom fun x hx => h x (by simp [hx])]
  simp [zD]
theorem aos : ∀ (n : Nat) (l : List aA) (w : List aA), l.length ≤ n → (∀ x ∈ l, uM x ∧ jE x = 0) → tA n (zD l) w = (w ++ l, 0)
 | 0, [], w, _, _ => by simp [tA]
 | 0, _ :: _, w, h, _ => by simp at h
 | n + 1, [], w, _, _ => by simp [tA, zD]
 | n + 1, p :: r, w, hn, h => by
  obtain ⟨d, c⟩ := h p (by simp)
  have hl := aaN d
  have e1 := agk (xN p)
  have e2 := qW (akz d)
  have e3 : zD (p :: r) = fW (bytesOf (xN p)) ++ zD r := by
   unfold fW
   rw [e1, e2]; rfl
  have ht := agN (lim := 4096) (s := bytesOf (xN p)) (by omega) (by omega) (zD r)
  have hne : zD (p :: r) ≠ [] := fun e => by
   rw [e3] at e
   have e := (List.append_eq_nil_iff.1 e).1
   rw [e, List.nil_append] at ht
   have := aic (l := zD r) (fun x hx => by
    obtain ⟨y, hy, hx⟩ := List.mem_flatMap.1 hx
    obtain ⟨d, _⟩ := h y (by simp [hy])
    exact dC (fY (uW (by have := aaN d; omega))) (akz d) x hx) ht
   omega
  rw [abl hne, e3, ht]
  dsimp only
  rw [e2, aw7 d c]
  simp only [if_true]
  rw [aos n r _ (by simpa using hn) fun x hx => h x (by simp [hx])]
  simp
theorem axF {l : List aA} (h : ∀ x ∈ l, uM x) (hl : l.length ≤ 8) : (zD l).length ≤ 8 * 4106 := ahI _ 4106 8 hl fun x hx => by
 have := aaN (h x hx)
 have := bM ((xN x).length : Int)
 simp only [List.length_append]; omega
theorem ar7 {l : List aA} (h : ∀ x ∈ l, x.good) : ∃ b, oD l = some b ∧ (b = true → l.length ≤ 6 ∧ ∀ x ∈ l, jE x = 0) := by
 obtain ⟨b, hb, hs⟩ := asa l
 unfold oD
 rw [hb, aU]
 cases b with
 | false => exact ⟨false, rfl, fun h => by cases h⟩
 | true =>
  have hl := hs rfl
  rw [aQ (by rfl)]
  refine ⟨decide (eT jE l = 0), ?_, fun e => ⟨hl, adN (of_decide_eq_true e)⟩⟩
  refine sD (l := l) (F := fun fu i => jW fu l i) (g := fun r => some (decide (eT jE r = 0))) (fun fu => by rw [jW, aQ (by simp)]; rfl) (fun fu i hi ih => ?_) (by omega)
  rw [jW, aL (iV hi), aL (inr hi), cR hi, adk _ (h _ (List.getElem_mem hi)), aU, eT]
  by_cases c : jE l[i] = 0
  ·rw [aQ (by simpa using c), bZ (by omega), ih, aL (by simpa using c)]
  ·rw [aL (by simpa using c), aQ (by simpa using c)]
   simp [c]
def wH (c s : Int) (l : List aA) : List Int := cK c ++ (cK s ++ zD l)
theorem awV {l : List aA} (h : ∀ x ∈ l, uM x) : byt (zD l) := fun x hx => by
 obtain ⟨y, hy, hx⟩ := List.mem_flatMap.1 hx
 exact dC (fY (uW (by have := aaN (h y hy); omega))) (akz (h y hy)) x hx
theorem akG {c s : Int} {l : List aA} (hc : i64 c) (hs : i64 s) (h : ∀ x ∈ l, uM x) (hl : l.length ≤ 8) : byt (wH c s l) ∧ (wH c s l).length ≤ 40000 := by
 have e1 := bM c
 have e2 := bM s
 have e3 := axF h hl
 refine ⟨dC (fY hc) (dC (fY hs) (awV h)), ?_⟩
 simp only [wH, List.length_append]
 omega
theorem at2 {b : List Int} (hl : b.length ≤ 65536) : vK (iQ b) = .ok b [] := by
 unfold vK iQ
 have hc := pU (lim := 65536) (x := (b.length : Int)) (by omega) (by omega) (by omega) (jH (kV b) ++ b)
 rw [qX hc, Int.toNat_natCast]
 have e1 : (jH (kV b) ++ b).drop 4 = b := List.drop_left' (fP _)
 have e2 : (jH (kV b) ++ b).take 4 = jH (kV b) := List.take_left' (fP _)
 unfold ah5
 rw [if_neg (by rw [List.length_append, fP]; omega), e1, e2, List.take_length, if_pos rfl, List.drop_eq_nil_of_le (by rw [List.length_append, fP]; omega)]
theorem avA {c s : Int} {l : List aA} (hc : i64 c) (hs : i64 s) (h : ∀ x ∈ l, uM x) (hl : l.length ≤ 8) : j9 (iQ (wH c s l)) = (c, s, zD l, 0) := by
 unfold j9
 rw [at2 (by have := (akG hc hs h hl).2; omega)]
 dsimp only
 have e1 := zH hc.1 hc.2 (cK s ++ zD l)
 have e2 := zH hs.1 hs.2 (zD l)
 rw [if_pos rfl]
 unfold wH
 rw [e1]
 dsimp only
 rw [e2]
theorem ass {t : aI} {l : List aA} (hb : t.Broken = false) (c0 : 0 ≤ t.Conn) (c1 : t.Conn ≤ 1099511627776) (s0 : 0 ≤ t.Sent) (s1 : t.Sent < 1099511627776) (g : ∀ x ∈ l, x.good) (h : ∀ x ∈ l, jE x = 0) (hl : l.length ≤ 8) :
  akv t l = (iQ (wH t.Conn (t.Sent + 1) l), aI.mk t.Conn (t.Sent + 1) t.Got false, 0) := by
 have hd : ∀ x ∈ l, uM x := fun x hx => aaR (h x hx) (g x hx)
 have e : mW l [] = (zD l, 0) := by rw [aom h, List.nil_append]
 unfold akv
 rw [hb, aQ (by rfl), aQ (by simp; omega), aQ (by simp; omega), aQ (by simp; omega), aQ (by simp; omega), e, aQ (by rfl)]
 have eb : acI t l = wH t.Conn (t.Sent + 1) l := by unfold acI wH; rw [e]
 have := (akG (c := t.Conn) (s := t.Sent + 1) ⟨by omega, by omega⟩ ⟨by omega, by omega⟩ hd hl).2
 rw [eb, agc, if_neg (by omega)]
theorem azh (t : aI) {s : Int} {l : List aA} (hc : i64 t.Conn) (hs : i64 s) (g : ∀ x ∈ l, x.good) (h : ∀ x ∈ l, jE x = 0) (hl : l.length ≤ 8) : aaC t (iQ (wH t.Conn s l)) =
  cond t.Broken ([], t, 21) (cond (decide (s ≤ t.Got)) ([], t, 26) (cond (s != t.Got + 1) ([], aI.mk t.Conn t.Sent t.Got true, 22) (l, aI.mk t.Conn t.Sent (t.Got + 1) t.Broken, 0))) := by
 have hd : ∀ x ∈ l, uM x := fun x hx => aaR (h x hx) (g x hx)
 unfold aaC
 rw [avA hc hs hd hl]
 dsimp only
 rw [aos 50000 l [] (by omega) fun x hx => ⟨hd x hx, h x hx⟩, aQ (by rfl), aQ (by rfl), aQ (by simp), List.nil_append]
theorem aoK {c s : Int} {l : List aA} (hc : i64 c) (hs : i64 s) (h : ∀ x ∈ l, uM x) (hl : l.length ≤ 8) : Buf (iQ (wH c s l)) ∧ (iQ (wH c s l)).length ≤ 50000 := by
 obtain ⟨b1, b2⟩ := akG hc hs h hl
 have e := bM ((wH c s l).length : Int)
 have hlen : (iQ (wH c s l)).length ≤ 50000 := by
  simp only [iQ, List.length_append, fP]
  omega
 exact ⟨⟨dC (fY (uW (by omega))) (dC (asg _ (aaQ _)) b1), by omega⟩, hlen⟩
end Md
end PX
set_option linter.unusedVariables false
set_option linter.unusedSimpArgs false
namespace PX
open Go
namespace Md
def frs (c : Int) (x1 : List (List aA)) (n : Nat) : List (List Int) := (List.range n).map fun k => iQ (wH c (((k + 1 : Nat)) : Int) (List.getD x1 k default))
theorem asC (c : Int) (x1 : List (List aA)) (n : Nat) : (frs c x1 n).length = n := by simp [frs]
theorem azj {c : Int} {x1 : List (List aA)} {n k : Nat} (h : k < (frs c x1 n).length) : (frs c x1 n)[k] = iQ (wH c (((k + 1 : Nat)) : Int) (List.getD x1 k default)) := by simp [frs]
def azL (l : List aA) : Prop := (∀ x ∈ l, x.good) ∧ (∀ x ∈ l, jE x = 0) ∧ l.length ≤ 8
theorem awm {c : Int} {s g : Nat} {b : Bool} (hc : i64 c) (hs : s ≤ 1000000) (hg : g ≤ 1000000) : (aI.mk c (s : Int) (g : Int) b).good := ⟨eW hc, eW ⟨by show (_ : Int) ≤ (s : Int); omega, by show (s : Int) ≤ _; omega⟩, eW ⟨by show (_ : Int) ≤ (g : Int); omega, by show (g : Int) ≤ _; omega⟩⟩
theorem prefix_two (c : Int) (x1 : List (List aA)) (x2 : List Int) (hc : i64 c) (hn : x1.length ≤ 8) (h2 : x2.length ≤ 24) (hf : ∀ l ∈ x1, azL l) : ∀ (k i fu got : Nat) (br : Bool), i + k = x2.length → k < fu → got ≤ x1.length →
  eA fu x1 x2 (got : Int) br (i : Int) (aI.mk c 0 (got : Int) br) (frs c x1 x1.length) = some true := by
 intro k
 induction k with
 | zero =>
  intro i fu got br hi hk hg
  obtain ⟨fu, rfl⟩ : ∃ n, fu = n + 1 := ⟨fu - 1, by omega⟩
  rw [eA, aQ (by simp; omega), kT]; rfl
 | succ k ih =>
  intro i fu got br hi hk hg
  obtain ⟨fu, rfl⟩ : ∃ n, fu = n + 1 := ⟨fu - 1, by omega⟩
  have hlt : i < x2.length := by omega
  rw [eA, aL (iV hlt), aL (inr hlt), cR hlt]
  by_cases c1 : x2[i] < 0
  ·rw [aL (by simpa using c1), bZ (by omega), ih (i + 1) fu got br (by omega) (by omega) hg]
  rw [aQ (by simpa using c1)]
  by_cases c2 : x2[i] ≥ ((frs c x1 x1.length).length : Int)
  ·rw [aL (by simpa using c2), bZ (by omega), ih (i + 1) fu got br (by omega) (by omega) hg]
  rw [aQ (by simpa using c2)]
  have hlf := asC c x1 x1.length
  obtain ⟨m, hm⟩ := Int.eq_ofNat_of_zero_le (show 0 ≤ x2[i] by omega)
  have hmn : m < x1.length := by rw [hlf] at c2; omega
  have hmf : m < (frs c x1 x1.length).length := by omega
  have hl := hf _ (List.getElem_mem hmn)
  obtain ⟨l1, l2, l3⟩ := hl
  have eg : List.getD x1 m default = x1[m] := by simp [List.getD_eq_getElem?_getD, List.getElem?_eq_getElem hmn]
  unfold lO
  rw [hm, aL (inr hmf), cR hmf, azj hmf, eg]
  have s64 : i64 (((m + 1 : Nat)) : Int) := ⟨by omega, by omega⟩
  have hd : ∀ x ∈ x1[m], uM x := fun x hx => aaR (l2 x hx) (l1 x hx)
  obtain ⟨f1, f2⟩ := aoK hc s64 hd l3
  have hrec := azh (aI.mk c 0 (got : Int) br) hc s64 l1 l2 l3
  have hgt : (aI.mk c 0 (got : Int) br).good := awm (s := 0) (g := got) (b := br) hc (by omega) (by omega)
  rw [aqD hgt f1 f2, aU]
  have hrec' : aaC (aI.mk c 0 (got : Int) br) (iQ (wH c (((m + 1 : Nat)) : Int) x1[m])) = _ := hrec
  rw [hrec']
  cases br with
  | true =>
   dsimp only
   rw [gV, gV, aQ (by rfl), aQ (by rfl), aQ (by rfl), bZ (by omega), ih (i + 1) fu got true (by omega) (by omega) hg]
  | false =>
   dsimp only
   rw [iZ, iZ]
   by_cases c3 : m < got
   ·rw [aL (b := decide ((((m + 1 : Nat)) : Int) ≤ (got : Int))) (by simp; omega), aL (b := decide ((m : Int) < (got : Int))) (by simp; omega), aQ (by rfl), aQ (by rfl)]
    rw [aQ (by simp), bZ (by omega), ih (i + 1) fu got false (by omega) (by omega) hg]
   ·rw [aQ (b := decide ((((m + 1 : Nat)) : Int) ≤ (got : Int))) (by simp; omega), aQ (b := decide ((m : Int) < (got : Int))) (by simp; omega)]
    by_cases c4 : m = got
    ·subst c4
     rw [aQ (b := (((m + 1 : Nat)) : Int) != (m : Int) + 1) (by simp), aQ (b := decide ((m : Int) > (m : Int))) (by simp), aQ (by rfl), aL (inr hmn), cR hmn, amQ l1 (by omega), aU, aQ (by rfl)]
     dsimp only
     rw [bZ (by omega), show ((m : Int) + 1) = ((m + 1 : Nat) : Int) from rfl, aQ (by simp), aQ (by rfl), bZ (by omega), ih (i + 1) fu (m + 1) false (by omega) (by omega) (by omega)]
    ·rw [aL (b := (((m + 1 : Nat)) : Int) != (got : Int) + 1) (by simp; omega), aL (b := decide ((m : Int) > (got : Int))) (by simp; omega), aQ (by rfl), aQ (by rfl), aQ (by rfl), bZ (by omega), ih (i + 1) fu got true (by omega) (by omega) hg]
theorem prefix_one (c : Int) (x1 : List (List aA)) (x2 : List Int) (hc : 0 ≤ c ∧ c ≤ 1099511627776) (hn : x1.length ≤ 8) (h2 : x2.length ≤ 24) (hg : ∀ l ∈ x1, ∀ x ∈ l, x.good) : ∀ (k i fu : Nat), i + k = x1.length → k < fu → (∀ j, (h : j < x1.length) → j < i → azL x1[j]) →
  fS fu c x1 x2 (i : Int) (aI.mk c (i : Int) 0 false) (frs c x1 i) = some true := by
 have c64 : i64 c := ⟨by omega, by omega⟩
 intro k
 induction k with
 | zero =>
  intro i fu hi hk hF
  obtain ⟨fu, rfl⟩ : ∃ n, fu = n + 1 := ⟨fu - 1, by omega⟩
  have hin : i = x1.length := by omega
  subst hin
  rw [fS, aQ (by simp)]
  have := prefix_two c x1 x2 c64 hn h2 (fun l hl => by
   obtain ⟨j, hj, rfl⟩ := List.getElem_of_mem hl
   exact hF j hj hj) x2.length 0 fuel 0 false (by omega) (by rw [hY]; omega) (by omega)
  rw [show ((0 : Nat) : Int) = 0 from rfl] at this
  unfold uF
  rw [aU]
  exact this
 | succ k ih =>
  intro i fu hi hk hF
  obtain ⟨fu, rfl⟩ : ∃ n, fu = n + 1 := ⟨fu - 1, by omega⟩
  have hlt : i < x1.length := by omega
  have g := hg _ (List.getElem_mem hlt)
  obtain ⟨b, hb, hs⟩ := ar7 g
  rw [fS, aL (iV hlt)]
  simp only [aL (inr hlt), cR hlt]
  rw [hb, aU]
  cases b with
  | false => rw [aL (by rfl), kT]; rfl
  | true =>
   obtain ⟨hl, hv⟩ := hs rfl
   have s0 : (0 : Int) ≤ (i : Int) := by omega
   have s1 : (i : Int) < 1099511627776 := by omega
   rw [aQ (by rfl), aqg g (by omega), aU, ass (t := aI.mk c (i : Int) 0 false) rfl hc.1 hc.2 s0 s1 g hv (by omega), aQ (by rfl)]
   dsimp only
   have hlf := asC c x1 i
   have ef : frs c x1 i ++ [iQ (wH c ((i : Int) + 1) x1[i])] = frs c x1 (i + 1) := by
    have eg : List.getD x1 i default = x1[i] := by simp [List.getD_eq_getElem?_getD, List.getElem?_eq_getElem hlt]
    unfold frs
    rw [List.range_succ, List.map_append, List.map_singleton, eg]
    rfl
   rw [bZ (by omega), show ((i : Int) + 1) = ((i + 1 : Nat) : Int) from rfl, aQ (by simp), aL (by rw [decide_eq_true_eq, hlf, List.length_singleton]; omega), ← show ((i : Int) + 1) = ((i + 1 : Nat) : Int) from rfl, ef, show ((i : Int) + 1) = ((i + 1 : Nat) : Int) from rfl]
   refine ih (i + 1) fu (by omega) (by omega) fun j hj hji => ?_
   by_cases e : j = i
   ·subst e; exact ⟨g, hv, by omega⟩
   ·exact hF j hj (by omega)
theorem acz (p0 : Int) (p1 : (List (List aA))) (p2 : (List Int)) (g0 : D.okL [.int .i64] ([D.int .i64 p0])) (g1 : D.okL [.sl [.sl aA.ks]] ([D.sl [.sl aA.ks] (List.map (eL aA.ks aA.enc) p1)])) (g2 : D.okL [.sl [.int .i64]] ([D.sl [.int .i64] (List.map (aN .i64) p2)])) : n6 p0 p1 p2 = some true := by
 have hg : okL (okL aA.good) p1 := uA (fun l (h : D.okL [.sl aA.ks] (eL aA.ks aA.enc l)) => uA (fun _ => aA.jQ) h.1) g1.1
 unfold n6
 by_cases c1 : p0 < 0
 ·rw [aL (by simpa using c1), kT]; rfl
 rw [aQ (by simpa using c1)]
 by_cases c2 : p0 > 1099511627776
 ·rw [aL (by simpa using c2), kT]; rfl
 rw [aQ (by simpa using c2)]
 by_cases c3 : (p1.length : Int) > 8
 ·rw [aL (by simpa using c3), kT]; rfl
 rw [aQ (by simpa using c3)]
 by_cases c4 : (p2.length : Int) > 24
 ·rw [aL (by simpa using c4), kT]; rfl
 rw [aQ (by simpa using c4)]
 unfold lZ uF
 rw [aU]
 have := prefix_one p0 p1 p2 ⟨by omega, by omega⟩ (by omega) (by omega) (fun l hl x hx => (hg.2 l hl).2 x hx) p1.length 0 fuel (by omega) (by rw [hY]; omega) (fun j hj h => by omega)
 rw [show ((0 : Nat) : Int) = 0 from rfl, show frs p0 p1 0 = [] from rfl] at this
 exact this
end Md
end PX
