import Derived.Test.YthgmhhgmnegocaaDoorWdA
set_option linter.unusedVariables false
set_option linter.unusedSimpArgs false
namespace PX
open Go
namespace Md
def fl0 (x : Int) : Bool := (dB .and .i64 (shr .i64 x 0) 1) == 1
def fl1 (x : Int) : Bool := (dB .and .i64 (shr .i64 x 1) 1) == 1
theorem am3 (x : Int) : sQ x 0 = some (fl0 x) := rfl
theorem ano (x : Int) : sQ x 1 = some (fl1 x) := rfl
abbrev pk (k i : Int) (d : Bool) (m : aC) (pr : Bool) (co : Int) (s : List aF) (f : List Str) (c : List Int) : aA :=
 aA.mk k i d m ([] : Str) ([] : Str) false 0 0 0 (aP.mk false 0 zeroM) pr co s f c
abbrev aia (c u : Str) (cl : Bool) (k e w : Int) (s : Bool) (d : Int) (m : aC) : aA :=
 aA.mk 1 0 false zeroM c u cl k e w (aP.mk s d m) false 0 ([] : List aF) ([] : List Str) ([] : List Int)
def abJ : Rd aA := bH (fJ 16) fun c => bH (fJ 16) fun u => bH (pX 4) fun f => bH gJ fun k => bH gJ fun e => bH gJ fun w =>
 cond (fl1 f) (bH gJ fun d => bH vW fun m => eC (aia c u (fl0 f) k e w (fl1 f) d m)) (eC (aia c u (fl0 f) k e w (fl1 f) 0 zeroM))
theorem ahA {x0 : List Int} (hb : Buf x0) : kJ x0 abJ gY := by
 unfold abJ gY
 refine bY (lI hb 16 (by decide)) (fun c => ?_) fun _ _ => rfl
 dsimp only
 refine bY (lI hb 16 (by decide)) (fun u => ?_) fun _ _ => rfl
 dsimp only
 refine bY (ad0 hb 4) (fun f => ?_) fun _ _ => rfl
 dsimp only
 simp only [am3, ano, aX]
 refine bY (dJ hb) (fun k => ?_) fun _ _ => rfl
 dsimp only
 refine bY (dJ hb) (fun e => ?_) fun _ _ => rfl
 dsimp only
 refine bY (dJ hb) (fun w => ?_) fun _ _ => rfl
 dsimp only
 cases hs : fl1 f with
 | false =>
  simp only [fE]
  exact dP _
 | true =>
  simp only [fA]
  refine bY (dJ hb) (fun d => ?_) fun _ _ => rfl
  dsimp only
  refine bY (ab4 hb) (fun m => ?_) fun _ _ => rfl
  exact dP _
theorem amg {x0 : List Int} (hb : Buf x0) : kJ x0 acL (fun st => bK (cD st 88) (fun e => some (.inl e)) fun r2 => bK (bD r2.2) (fun e => some (.inl e)) fun r4 => bK (cV r4.2 2) (fun e => some (.inl e)) fun r6 => some (.inr ((aF.mk r2.1 r4.1 (r6.1 == 1)), r6.2))) := by
 unfold acL
 refine bY (lI hb 88 (by decide)) (fun f => ?_) fun _ _ => rfl
 dsimp only
 refine bY (dJ hb) (fun l => ?_) fun _ _ => rfl
 dsimp only
 refine zQ hb (fun n => ?_) fun _ _ => rfl
 exact dP _
theorem aal {α : Type} {x0 : List Int} (hb : Buf x0) {one : Rd α} {f : List α → aA} {LL : Int → aE → Option (aI ⊕ (aA × aE))}
  (h : ∀ n, 0 ≤ n → n ≤ 1000 → kJ x0 (bH (nB one n.toNat) fun l => eC (f l)) (LL n)) :
  kJ x0 (bH (qG 32 one) fun l => eC (f l)) (fun st => bK (fG st 32) (fun e1 => some (.inl e1)) fun r0 => LL r0.1 r0.2) := by
 unfold qG
 rw [rF]
 exact abM (fun n => 0 ≤ n ∧ n ≤ 32) (aef hb 32) agR (fun n hn => h n hn.1 (by omega)) fun _ _ => rfl
theorem akI {x0 : List Int} (hb : Buf x0) (id : Int) : kJ x0 (bH (qG 32 acL) fun l => eC (pk 8 id false zeroM false 0 l [] [])) (fun st => cL st (pk 8 id false zeroM false 0 [] [] [])) := by
 unfold cL
 refine aal hb (LL := fun n st => bW fuel n 0 (pk 0 0 false zeroM false 0 [] [] []) 8 id false [] [] 0 false 0 0 [] 0 [] [] [] false 0 0 0 false 0 [] [] 0 false 0 0 [] 0 [] false 0 st [] [] []) fun n h0 h1 => ?_
 exact ahX (n := n) (G := GP x0) (B := BP) (Kp := fun e => some (.inl e)) (T := fun w st => some (.inr (pk 8 id false zeroM false 0 w [] [], st))) (LL := fun fu i st w => bW fu n i (pk 0 0 false zeroM false 0 [] [] []) 8 id false [] [] 0 false 0 0 [] 0 [] [] [] false 0 0 0 false 0 [] [] 0 false 0 0 [] 0 [] false 0 st w [] []) (R := fun l => eC (pk 8 id false zeroM false 0 l [] [])) 32 (by decide) (amg hb) (fun w => dP _) (fun _ _ => rfl) (fun fu i st w => by
  simp only [bW, ad1, afY, show ((8 : Int) == 8) = true from rfl, fA]) h0 h1
theorem ajq {x0 : List Int} (hb : Buf x0) (id : Int) : kJ x0 (bH (qG 32 (fJ 88)) fun l => eC (pk 10 id false zeroM false 0 [] l [])) (fun st => cL st (pk 10 id false zeroM false 0 [] [] [])) := by
 unfold cL
 refine aal hb (LL := fun n st => bW fuel n 0 (pk 0 0 false zeroM false 0 [] [] []) 10 id false [] [] 0 false 0 0 [] 0 [] [] [] false 0 0 0 false 0 [] [] 0 false 0 0 [] 0 [] false 0 st [] [] []) fun n h0 h1 => ?_
 exact ahX (n := n) (G := GP x0) (B := BP) (Kp := fun e => some (.inl e)) (T := fun w st => some (.inr (pk 10 id false zeroM false 0 [] w [], st))) (LL := fun fu i st w => bW fu n i (pk 0 0 false zeroM false 0 [] [] []) 10 id false [] [] 0 false 0 0 [] 0 [] [] [] false 0 0 0 false 0 [] [] 0 false 0 0 [] 0 [] false 0 st [] w []) (R := fun l => eC (pk 10 id false zeroM false 0 [] l [])) 16 (by decide) (lI hb 88 (by decide)) (fun w => dP _) (fun _ _ => rfl) (fun fu i st w => by
  simp only [bW, show ((10 : Int) == 8) = false from rfl, show ((10 : Int) == 10) = true from rfl, fA, fE]) h0 h1
theorem aen {x0 : List Int} (hb : Buf x0) (k id : Int) (k8 : (k == 8) = false) (k10 : (k == 10) = false) : kJ x0 (bH (qG 32 gJ) fun l => eC (pk k id false zeroM false 0 [] [] l)) (fun st => cL st (pk k id false zeroM false 0 [] [] [])) := by
 unfold cL
 refine aal hb (LL := fun n st => bW fuel n 0 (pk 0 0 false zeroM false 0 [] [] []) k id false [] [] 0 false 0 0 [] 0 [] [] [] false 0 0 0 false 0 [] [] 0 false 0 0 [] 0 [] false 0 st [] [] []) fun n h0 h1 => ?_
 exact ahX (n := n) (G := GP x0) (B := BP) (Kp := fun e => some (.inl e)) (T := fun w st => some (.inr (pk k id false zeroM false 0 [] [] w, st))) (LL := fun fu i st w => bW fu n i (pk 0 0 false zeroM false 0 [] [] []) k id false [] [] 0 false 0 0 [] 0 [] [] [] false 0 0 0 false 0 [] [] 0 false 0 0 [] 0 [] false 0 st [] [] w) (R := fun l => eC (pk k id false zeroM false 0 [] [] l)) 8 (by decide) (dJ hb) (fun w => dP _) (fun _ _ => rfl) (fun fu i st w => by
  simp only [bW, k8, k10, fA, fE]) h0 h1
def yH (k : Int) : Rd aA :=
 cond (k == 1) abJ (cond (k == 2) (bH tJ fun f => bH gJ fun c => eC (pk k 0 false zeroM f c [] [] []))
 (cond (k == 3) (bH gJ fun i => bH tJ fun d => bH vW fun m => eC (pk k i d m false 0 [] [] []))
 (cond (k == 4 || (k == 5 || (k == 6 || k == 7))) (bH gJ fun i => eC (pk k i false zeroM false 0 [] [] []))
 (cond (k == 8) (bH gJ fun i => bH (qG 32 acL) fun l => eC (pk 8 i false zeroM false 0 l [] []))
 (cond (k == 9 || k == 11) (bH gJ fun i => bH (qG 32 gJ) fun l => eC (pk k i false zeroM false 0 [] [] l))
 (cond (k == 10) (bH gJ fun i => bH (qG 32 (fJ 88)) fun l => eC (pk 10 i false zeroM false 0 [] l []))
 (cond (k == 14) (bH gJ fun c => eC (pk k 0 false zeroM false c [] [] []))
 (eC (pk k 0 false zeroM false 0 [] [] [])))))))))
theorem aiy {x0 : List Int} (hb : Buf x0) {k : Int} (hk : rngB 1 14 k = true) : kJ x0 (yH k) (fun st => dV st k) := by
 unfold yH dV
 rcases n4 hk with rfl | rfl | rfl | rfl | rfl | rfl | rfl | rfl | rfl | rfl | rfl | rfl | rfl | rfl <;> simp only [Int.reduceBEq, fA, fE, Bool.or_false, Bool.or_true, Bool.false_or, Bool.true_or]
 ·have := bY (Kp := fun e => some (Sum.inl e)) (K := fun r => some (Sum.inr (r.1, r.2))) (G := GP x0) (B := BP) (ahA hb) (fun p => dP p) fun _ _ => rfl
  rw [oZ] at this
  exact this
 ·refine zQ hb (fun f => ?_) fun _ _ => rfl
  dsimp only
  refine bY (dJ hb) (fun c => ?_) fun _ _ => rfl
  exact dP _
 ·refine bY (dJ hb) (fun i => ?_) fun _ _ => rfl
  dsimp only
  refine zQ hb (fun f => ?_) fun _ _ => rfl
  dsimp only
  refine bY (ab4 hb) (fun m => ?_) fun _ _ => rfl
  exact dP _
 ·exact bY (dJ hb) (fun i => dP _) fun _ _ => rfl
 ·exact bY (dJ hb) (fun i => dP _) fun _ _ => rfl
 ·exact bY (dJ hb) (fun i => dP _) fun _ _ => rfl
 ·exact bY (dJ hb) (fun i => dP _) fun _ _ => rfl
 ·refine bY (dJ hb) (fun i => ?_) fun _ _ => rfl
  dsimp only
  have := bY (Kp := fun e => some (Sum.inl e)) (K := fun r => some (Sum.inr (r.1, r.2))) (G := GP x0) (B := BP) (akI hb i) (fun p => dP p) fun _ _ => rfl
  rw [oZ] at this
  exact this
 ·refine bY (dJ hb) (fun i => ?_) fun _ _ => rfl
  dsimp only
  have := bY (Kp := fun e => some (Sum.inl e)) (K := fun r => some (Sum.inr (r.1, r.2))) (G := GP x0) (B := BP) (aen hb 9 i rfl rfl) (fun p => dP p) fun _ _ => rfl
  rw [oZ] at this
  exact this
 ·refine bY (dJ hb) (fun i => ?_) fun _ _ => rfl
  dsimp only
  have := bY (Kp := fun e => some (Sum.inl e)) (K := fun r => some (Sum.inr (r.1, r.2))) (G := GP x0) (B := BP) (ajq hb i) (fun p => dP p) fun _ _ => rfl
  rw [oZ] at this
  exact this
 ·refine bY (dJ hb) (fun i => ?_) fun _ _ => rfl
  dsimp only
  have := bY (Kp := fun e => some (Sum.inl e)) (K := fun r => some (Sum.inr (r.1, r.2))) (G := GP x0) (B := BP) (aen hb 11 i rfl rfl) (fun p => dP p) fun _ _ => rfl
  rw [oZ] at this
  exact this
 ·exact dP _
 ·exact dP _
 ·exact bY (dJ hb) (fun i => dP _) fun _ _ => rfl
end Md
end PX
