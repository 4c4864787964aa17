import Derived.Test.YthgmhhgmnegocaaDoorWdB
set_option linter.unusedVariables false
set_option linter.unusedSimpArgs false
namespace PX
open Go
namespace Md
abbrev j8 : aA := pk 0 0 false zeroM false 0 [] [] []
def tP : Rd aA := bH gJ fun k => if rngB 1 14 k = true then yH k else sD 10 (by decide)
def agq (y : aA) (q : List Int) : aA × Int := if q = [] then (if jM y = 0 then (y, 0) else (j8, jM y)) else (j8, 2)
def kF (x0 : List Int) : aA × Int := if x0.length > 4096 then (j8, 5) else match tP x0 with | .ok y q => agq y q | .er e _ => (j8, e)
def GD (y : aA) (q : List Int) (o : Option (aA × Int)) : Prop := y.good → o = some (agq y q)
def BD (e : Int) (o : Option (aA × Int)) : Prop := o = some (j8, e)
theorem ahO {x0 : List Int} {p : Nat} (hp : p ≤ x0.length) : (x0.drop p = []) ↔ p = x0.length := by
 rw [List.drop_eq_nil_iff]; omega
theorem aio {x0 : List Int} (hb : Buf x0) (h : x0.length ≤ 4096) : match tP x0 with | .ok y q => GD y q (iQ x0) | .er e _ => BD e (iQ x0) := by
 have tail : ∀ y : aA, uP x0 (eC y) (fun st => bK (cX (decide (st.at_ < (List.length x0 : Int))) 2) (fun e7 => some (j8, e7.code)) fun _ =>
   Option.bind (gO y) fun r8 => bK (cX (r8 != 0) r8) (fun e10 => some (j8, e10.code)) fun _ => some (y, 0)) GD BD := fun y p hp hg => by
  unfold agq
  dsimp only
  by_cases c : p = x0.length
  ·rw [if_pos ((ahO hp).2 c), show decide ((p : Int) < (List.length x0 : Int)) = false by simp; omega, apL, zE y hg, aX]
   by_cases d : jM y = 0
   ·rw [if_pos d, d]; rfl
   ·rw [if_neg d, ank d]; rfl
  ·rw [if_neg (fun e => c ((ahO hp).1 e)), show decide ((p : Int) < (List.length x0 : Int)) = true by simp; omega]; rfl
 have main : uP x0 tP (fun st => bK (bD st) (fun e1 => some (j8, e1.code)) fun r0 =>
   cond (decide (r0.1 < 1)) (
    bK (cX true 10) (fun e3 => some (j8, e3.code)) fun r2 =>
    bK (dV r0.2 r0.1) (fun e5 => some (j8, e5.code)) fun r4 =>
    bK (cX (decide (r4.2.at_ < (List.length x0 : Int))) 2) (fun e7 => some (j8, e7.code)) fun r6 =>
    Option.bind (gO r4.1) fun r8 =>
    bK (cX (r8 != 0) r8) (fun e10 => some (j8, e10.code)) fun r9 =>
    some (r4.1, 0)) (
   bK (cX (decide (r0.1 > 14)) 10) (fun e12 => some (j8, e12.code)) fun r11 =>
   bK (dV r0.2 r0.1) (fun e14 => some (j8, e14.code)) fun r13 =>
   bK (cX (decide (r13.2.at_ < (List.length x0 : Int))) 2) (fun e16 => some (j8, e16.code)) fun r15 =>
   Option.bind (gO r13.1) fun r17 =>
   bK (cX (r17 != 0) r17) (fun e19 => some (j8, e19.code)) fun r18 =>
   some (r13.1, 0))) GD BD := by
  unfold tP
  refine bY (dJ hb) (fun k => ?_) fun _ _ => rfl
  dsimp only
  by_cases c1 : k < 1
  ·rw [if_neg (by rw [oA]; omega)]
   intro p hp
   show _ = _
   dsimp only
   rw [aK (by simpa using c1)]; rfl
  ·by_cases c2 : k > 14
   ·rw [if_neg (by rw [oA]; omega)]
    intro p hp
    show _ = _
    dsimp only
    rw [aO (by simpa using c1), show decide (k > 14) = true by simpa using c2]; rfl
   ·rw [if_pos (by rw [oA]; omega)]
    have := bY (G := GD) (B := BD) (R2 := fun y => eC y) (Kp := fun e : aI => some (j8, e.code)) (K := fun r13 => bK (cX (decide (r13.2.at_ < (List.length x0 : Int))) 2) (fun e7 => some (j8, e7.code)) fun _ =>
   Option.bind (gO r13.1) fun r8 => bK (cX (r8 != 0) r8) (fun e10 => some (j8, e10.code)) fun _ => some (r13.1, 0)) (aiy hb (k := k) (by rw [oA]; omega)) tail fun _ _ => rfl
    rw [oZ] at this
    intro p hp
    have := this p hp
    dsimp only
    rw [aO (by simpa using c1), show decide (k > 14) = false by simpa using c2]
    exact this
 have := main 0 (by omega)
 rw [List.drop_zero] at this
 unfold iQ
 rw [aO (by simp; omega)]
 cases c : tP x0 with
 | ok y q => rw [c] at this; exact this
 | er e he => rw [c] at this; exact this
end Md
end PX
