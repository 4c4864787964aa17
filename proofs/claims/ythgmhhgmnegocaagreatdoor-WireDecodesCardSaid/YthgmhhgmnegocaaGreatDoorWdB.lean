import Derived.Test.YthgmhhgmnegocaaGreatDoorWdA
set_option linter.unusedVariables false
set_option linter.unusedSimpArgs false
namespace PX
open Go
namespace Md
def fl0 (x : Int) : Bool := (eF .and .i64 (shr .i64 x 0) 1) == 1
def fl1 (x : Int) : Bool := (eF .and .i64 (shr .i64 x 1) 1) == 1
theorem auU (x : Int) : aam x 0 = some (fl0 x) := rfl
theorem avb (x : Int) : aam x 1 = some (fl1 x) := rfl
abbrev pk (k i : Int) (d : Bool) (m : aF) (pr : Bool) (co : Int) (s : List aH) (f : List Str) (c : List Int) : aA :=
 aA.mk k i d m ([] : Str) ([] : Str) false 0 0 0 (aV.mk false 0 zeroM) pr co s f c
abbrev akB (c u : Str) (cl : Bool) (k e w : Int) (s : Bool) (d : Int) (m : aF) : aA :=
 aA.mk 1 0 false zeroM c u cl k e w (aV.mk s d m) false 0 ([] : List aH) ([] : List Str) ([] : List Int)
def afi : Rd aA := bQ (gK 16) fun c => bQ (gK 16) fun u => bQ (uK 4) fun f => bQ iL fun k => bQ iL fun e => bQ iL fun w =>
 cond (fl1 f) (bQ iL fun d => bQ zW fun m => eU (akB c u (fl0 f) k e w (fl1 f) d m)) (eU (akB c u (fl0 f) k e w (fl1 f) 0 zeroM))
theorem anw {x0 : List Int} (hb : Buf x0) : pF x0 afi kT := by
 unfold afi kT
 refine cR (qL hb 16 (by decide)) (fun c => ?_) fun _ _ => rfl
 dsimp only
 refine cR (qL hb 16 (by decide)) (fun u => ?_) fun _ _ => rfl
 dsimp only
 refine cR (ajI hb 4) (fun f => ?_) fun _ _ => rfl
 dsimp only
 simp only [auU, avb, aU]
 refine cR (fA hb) (fun k => ?_) fun _ _ => rfl
 dsimp only
 refine cR (fA hb) (fun e => ?_) fun _ _ => rfl
 dsimp only
 refine cR (fA hb) (fun w => ?_) fun _ _ => rfl
 dsimp only
 cases hs : fl1 f with
 | false =>
  simp only [jB]
  exact fQ _
 | true =>
  simp only [gZ]
  refine cR (fA hb) (fun d => ?_) fun _ _ => rfl
  dsimp only
  refine cR (ahz hb) (fun m => ?_) fun _ _ => rfl
  exact fQ _
theorem asM {x0 : List Int} (hb : Buf x0) : pF x0 adw (fun st => cA (dE st 88) (fun e => some (.inl e)) fun r2 => cA (bS r2.2) (fun e => some (.inl e)) fun r4 => cA (eJ r4.2 2) (fun e => some (.inl e)) fun r6 => some (.inr ((aH.mk r2.1 r4.1 (r6.1 == 1)), r6.2))) := by
 unfold adw
 refine cR (qL hb 88 (by decide)) (fun f => ?_) fun _ _ => rfl
 dsimp only
 refine cR (fA hb) (fun l => ?_) fun _ _ => rfl
 dsimp only
 refine aeF hb (fun n => ?_) fun _ _ => rfl
 exact fQ _
theorem afy {α : Type} {x0 : List Int} (hb : Buf x0) {one : Rd α} {f : List α → aA} {LL : Int → aI → Option (aN ⊕ (aA × aI))}
  (h : ∀ n, 0 ≤ n → n ≤ 1000 → pF x0 (bQ (sC one n.toNat) fun l => eU (f l)) (LL n)) :
  pF x0 (bQ (sB 32 one) fun l => eU (f l)) (fun st => cA (iY st 32) (fun e1 => some (.inl e1)) fun r0 => LL r0.1 r0.2) := by
 unfold sB
 rw [tI]
 exact ahb (fun n => 0 ≤ n ∧ n ≤ 32) (ajU hb 32) ae6 (fun n hn => h n hn.1 (by omega)) fun _ _ => rfl
theorem aqL {x0 : List Int} (hb : Buf x0) (id : Int) : pF x0 (bQ (sB 32 adw) fun l => eU (pk 8 id false zeroM false 0 l [] [])) (fun st => dV st (pk 8 id false zeroM false 0 [] [] [])) := by
 unfold dV
 refine afy hb (LL := fun n st => cO fuel n 0 (pk 0 0 false zeroM false 0 [] [] []) 8 id false [] [] 0 false 0 0 [] 0 [] [] [] false 0 0 0 false 0 [] [] 0 false 0 0 [] 0 [] false 0 st [] [] []) fun n h0 h1 => ?_
 exact anO (n := n) (G := GP x0) (B := BP) (Kp := fun e => some (.inl e)) (T := fun w st => some (.inr (pk 8 id false zeroM false 0 w [] [], st))) (LL := fun fu i st w => cO fu n i (pk 0 0 false zeroM false 0 [] [] []) 8 id false [] [] 0 false 0 0 [] 0 [] [] [] false 0 0 0 false 0 [] [] 0 false 0 0 [] 0 [] false 0 st w [] []) (R := fun l => eU (pk 8 id false zeroM false 0 l [] [])) 32 (by decide) (asM hb) (fun w => fQ _) (fun _ _ => rfl) (fun fu i st w => by
  simp only [cO, ajR, alP, show ((8 : Int) == 8) = true from rfl, gZ]) h0 h1
theorem ap9 {x0 : List Int} (hb : Buf x0) (id : Int) : pF x0 (bQ (sB 32 (gK 88)) fun l => eU (pk 10 id false zeroM false 0 [] l [])) (fun st => dV st (pk 10 id false zeroM false 0 [] [] [])) := by
 unfold dV
 refine afy hb (LL := fun n st => cO fuel n 0 (pk 0 0 false zeroM false 0 [] [] []) 10 id false [] [] 0 false 0 0 [] 0 [] [] [] false 0 0 0 false 0 [] [] 0 false 0 0 [] 0 [] false 0 st [] [] []) fun n h0 h1 => ?_
 exact anO (n := n) (G := GP x0) (B := BP) (Kp := fun e => some (.inl e)) (T := fun w st => some (.inr (pk 10 id false zeroM false 0 [] w [], st))) (LL := fun fu i st w => cO fu n i (pk 0 0 false zeroM false 0 [] [] []) 10 id false [] [] 0 false 0 0 [] 0 [] [] [] false 0 0 0 false 0 [] [] 0 false 0 0 [] 0 [] false 0 st [] w []) (R := fun l => eU (pk 10 id false zeroM false 0 [] l [])) 16 (by decide) (qL hb 88 (by decide)) (fun w => fQ _) (fun _ _ => rfl) (fun fu i st w => by
  simp only [cO, show ((10 : Int) == 8) = false from rfl, show ((10 : Int) == 10) = true from rfl, gZ, jB]) h0 h1
theorem ajW {x0 : List Int} (hb : Buf x0) (k id : Int) (k8 : (k == 8) = false) (k10 : (k == 10) = false) : pF x0 (bQ (sB 32 iL) fun l => eU (pk k id false zeroM false 0 [] [] l)) (fun st => dV st (pk k id false zeroM false 0 [] [] [])) := by
 unfold dV
 refine afy hb (LL := fun n st => cO fuel n 0 (pk 0 0 false zeroM false 0 [] [] []) k id false [] [] 0 false 0 0 [] 0 [] [] [] false 0 0 0 false 0 [] [] 0 false 0 0 [] 0 [] false 0 st [] [] []) fun n h0 h1 => ?_
 exact anO (n := n) (G := GP x0) (B := BP) (Kp := fun e => some (.inl e)) (T := fun w st => some (.inr (pk k id false zeroM false 0 [] [] w, st))) (LL := fun fu i st w => cO fu n i (pk 0 0 false zeroM false 0 [] [] []) k id false [] [] 0 false 0 0 [] 0 [] [] [] false 0 0 0 false 0 [] [] 0 false 0 0 [] 0 [] false 0 st [] [] w) (R := fun l => eU (pk k id false zeroM false 0 [] [] l)) 8 (by decide) (fA hb) (fun w => fQ _) (fun _ _ => rfl) (fun fu i st w => by
  simp only [cO, k8, k10, gZ, jB]) h0 h1
def ads (k : Int) : Rd aA :=
 cond (k == 1) afi (cond (k == 2) (bQ yD fun f => bQ iL fun c => eU (pk k 0 false zeroM f c [] [] []))
 (cond (k == 3) (bQ iL fun i => bQ yD fun d => bQ zW fun m => eU (pk k i d m false 0 [] [] []))
 (cond (k == 4 || (k == 5 || (k == 6 || k == 7))) (bQ iL fun i => eU (pk k i false zeroM false 0 [] [] []))
 (cond (k == 8) (bQ iL fun i => bQ (sB 32 adw) fun l => eU (pk 8 i false zeroM false 0 l [] []))
 (cond (k == 9 || k == 11) (bQ iL fun i => bQ (sB 32 iL) fun l => eU (pk k i false zeroM false 0 [] [] l))
 (cond (k == 10) (bQ iL fun i => bQ (sB 32 (gK 88)) fun l => eU (pk 10 i false zeroM false 0 [] l []))
 (cond (k == 14) (bQ iL fun c => eU (pk k 0 false zeroM false c [] [] []))
 (eU (pk k 0 false zeroM false 0 [] [] [])))))))))
theorem aoZ {x0 : List Int} (hb : Buf x0) {k : Int} (hk : rngB 1 14 k = true) : pF x0 (ads k) (fun st => fX st k) := by
 unfold ads fX
 rcases pQ hk with rfl | rfl | rfl | rfl | rfl | rfl | rfl | rfl | rfl | rfl | rfl | rfl | rfl | rfl <;> simp only [Int.reduceBEq, gZ, jB, Bool.or_false, Bool.or_true, Bool.false_or, Bool.true_or]
 ·have := cR (Kp := fun e => some (Sum.inl e)) (K := fun r => some (Sum.inr (r.1, r.2))) (G := GP x0) (B := BP) (anw hb) (fun p => fQ p) fun _ _ => rfl
  rw [tH] at this
  exact this
 ·refine aeF hb (fun f => ?_) fun _ _ => rfl
  dsimp only
  refine cR (fA hb) (fun c => ?_) fun _ _ => rfl
  exact fQ _
 ·refine cR (fA hb) (fun i => ?_) fun _ _ => rfl
  dsimp only
  refine aeF hb (fun f => ?_) fun _ _ => rfl
  dsimp only
  refine cR (ahz hb) (fun m => ?_) fun _ _ => rfl
  exact fQ _
 ·exact cR (fA hb) (fun i => fQ _) fun _ _ => rfl
 ·exact cR (fA hb) (fun i => fQ _) fun _ _ => rfl
 ·exact cR (fA hb) (fun i => fQ _) fun _ _ => rfl
 ·exact cR (fA hb) (fun i => fQ _) fun _ _ => rfl
 ·refine cR (fA hb) (fun i => ?_) fun _ _ => rfl
  dsimp only
  have := cR (Kp := fun e => some (Sum.inl e)) (K := fun r => some (Sum.inr (r.1, r.2))) (G := GP x0) (B := BP) (aqL hb i) (fun p => fQ p) fun _ _ => rfl
  rw [tH] at this
  exact this
 ·refine cR (fA hb) (fun i => ?_) fun _ _ => rfl
  dsimp only
  have := cR (Kp := fun e => some (Sum.inl e)) (K := fun r => some (Sum.inr (r.1, r.2))) (G := GP x0) (B := BP) (ajW hb 9 i rfl rfl) (fun p => fQ p) fun _ _ => rfl
  rw [tH] at this
  exact this
 ·refine cR (fA hb) (fun i => ?_) fun _ _ => rfl
  dsimp only
  have := cR (Kp := fun e => some (Sum.inl e)) (K := fun r => some (Sum.inr (r.1, r.2))) (G := GP x0) (B := BP) (ap9 hb i) (fun p => fQ p) fun _ _ => rfl
  rw [tH] at this
  exact this
 ·refine cR (fA hb) (fun i => ?_) fun _ _ => rfl
  dsimp only
  have := cR (Kp := fun e => some (Sum.inl e)) (K := fun r => some (Sum.inr (r.1, r.2))) (G := GP x0) (B := BP) (ajW hb 11 i rfl rfl) (fun p => fQ p) fun _ _ => rfl
  rw [tH] at this
  exact this
 ·exact fQ _
 ·exact fQ _
 ·exact cR (fA hb) (fun i => fQ _) fun _ _ => rfl
end Md
end PX
