import Derived.Test.YtojlmojebnlmdaaGreatDoorTab
set_option linter.unusedVariables false
set_option linter.unusedSimpArgs false
set_option maxRecDepth 100000
noncomputable section
namespace PX
open Go
open Md
namespace Te
section
variable (Γ : Fun)  (Λ2 J : Lam)
def aoi : aP := aO Γ
theorem asi (p0 : Int) : bB SE (aoi Γ) Λ2 J 100 [.d (.int .u8 p0)] [] [] =
 cond (decide (p0 ≥ 97)) (
 (some (.ret [.d (.bool (decide (p0 ≤ 122)))] [] []))) (
 (some (.ret [.d (.bool false)] [] []))) := by kernel_rfl
end
abbrev atp : aP := aoi gG
theorem arh : atp = aO gG := rfl
theorem tJ (p0 : Int) : Le (Option.map gY (jY p0)) (aX SE 100 [.d (.int .u8 p0)] [] []) := by
 refine aQ arh rfl ?_
 refine Le.trans ?_ (le_of_eq (asi _ _ _  p0).symm)
 unfold jY
 refine lC ?_ ?_
 ·exact aH rfl
 ·exact aH rfl
section
variable (Γ : Fun)  (Λ2 J : Lam)
def aoF : aP := aO Γ
theorem atm (p0 : Int) : bB SE (aoF Γ) Λ2 J 101 [.d (.int .u8 p0)] [] [] =
 cond (decide (p0 ≥ 48)) (
 (some (.ret [.d (.bool (decide (p0 ≤ 57)))] [] []))) (
 (some (.ret [.d (.bool false)] [] []))) := by kernel_rfl
end
abbrev atE : aP := aoF gG
theorem ary : atE = aO gG := rfl
theorem ab2 (p0 : Int) : Le (Option.map gO (lK p0)) (aX SE 101 [.d (.int .u8 p0)] [] []) := by
 refine aQ ary rfl ?_
 refine Le.trans ?_ (le_of_eq (atm _ _ _  p0).symm)
 unfold lK
 refine lC ?_ ?_
 ·exact aH rfl
 ·exact aH rfl
def aeY (C : aP) (Λ2 J : Lam) (a0 : Str) (a1 : Int) : Res := lab SE C Λ2 J 48 0 [1, 1, 0, 1, 0] (bA [(0, .d (.str a0)), (3, .d (.int .i64 a1))] [] [] [] [])
def ani (C : aP) (Λ2 J : Lam) (a0 : Str) : Res := lab SE C Λ2 J 48 0 [1, 1, 0, 0] (bA [(0, .d (.str a0))] [] [] [] [])
section
variable (Γ : Fun) (γ100 : Gm (Bool)) (γ101 : Gm (Bool)) (Λ2 J : Lam)
def C48 : aP := aZ (aZ (aO Γ) 100 gY γ100) 101 gO γ101
theorem T48 (p0 : Str) : bB SE (C48 Γ γ100 γ101) Λ2 J 48 [.d (.str p0)] [] [] =
 cond (decide ((List.length p0 : Int) < 1)) (
 (some (.ret [.d (.bool false)] [] []))) (
 cond (decide ((List.length p0 : Int) > 16)) (
 (some (.ret [.d (.bool false)] [] []))) (
 cond (decide (0 ≤ 0) && decide (0 < (List.length p0 : Int))) (
 γ100 [.d (.int .u8 (UInt8.toNat (List.getD p0 (Int.toNat 0) 0) : Int))] [] [] fun r0 =>
 cond (!r0) (
  (some (.ret [.d (.bool false)] [] []))) (
 ani (C48 Γ γ100 γ101) Λ2 J p0)) none)) := by kernel_rfl
theorem aqA (x0 : Str) (x3 : Int) : cG SE (C48 Γ γ100 γ101) Λ2 J 48 0 [1, 1, 0, 1, 0] (bA [(0, .d (.str x0)), (3, .d (.int .i64 x3))] [] [] [] []) =
 cond (decide (x3 < (List.length x0 : Int))) (
 cond (decide (0 ≤ x3) && decide (x3 < (List.length x0 : Int))) (
  γ100 [.d (.int .u8 (UInt8.toNat (List.getD x0 (Int.toNat x3) 0) : Int))] [] [] fun r1 =>
  cond (!r1) (
  cond (decide (0 ≤ x3) && decide (x3 < (List.length x0 : Int))) (
   γ101 [.d (.int .u8 (UInt8.toNat (List.getD x0 (Int.toNat x3) 0) : Int))] [] [] fun r2 =>
   cond (!r2) (
   cond (decide (0 ≤ x3) && decide (x3 < (List.length x0 : Int))) (
    cond ((UInt8.toNat (List.getD x0 (Int.toNat x3) 0) : Int) != 45) (
    (some (.ret [.d (.bool false)] [] []))) (
    aeY (C48 Γ γ100 γ101) Λ2 J x0 (IntKind.wrap .i64 (x3 + 1)))) none) (
   aeY (C48 Γ γ100 γ101) Λ2 J x0 (IntKind.wrap .i64 (x3 + 1)))) none) (
  aeY (C48 Γ γ100 γ101) Λ2 J x0 (IntKind.wrap .i64 (x3 + 1)))) none) (
 (some (.ret [.d (.bool true)] [] []))) := by kernel_rfl
theorem aq1 (x0 : Str) : cG SE (C48 Γ γ100 γ101) Λ2 J 48 0 [1, 1, 0, 0] (bA [(0, .d (.str x0))] [] [] [] []) =
 aeY (C48 Γ γ100 γ101) Λ2 J x0 0 := by kernel_rfl
end
abbrev X48 : aP := C48 gG (cT 100 gY) (cT 101 gO)
theorem alP : X48 = aO gG := by unfold X48 C48; rw [aK fun _ h => h, aK fun _ h => h]
noncomputable abbrev arS (a0 : Str) (a1 : Int) : Res := aeY X48 (bY SE gG (SE.hl 48) (SE.hr 48)) (J0 SE X48) a0 a1
noncomputable abbrev arY (a0 : Str) : Res := ani X48 (bY SE gG (SE.hl 48) (SE.hr 48)) (J0 SE X48) a0
theorem aaw : ∀ (fu : Nat) (x0 : Str) (x3 : Int), Le (Option.map cE (dS fu x0 x3)) (arS x0 x3) := by
 intro fu
 induction fu with
 | zero => intros; exact le_none
 | succ fu ih =>
  intro x0 x3
  refine Le.trans ?_ (le_of_eq ((bC alP).trans (aqA _ _ _ _ _  x0 x3)).symm)
  unfold dS
  refine lC ?_ ?_
  ·refine lF ?_
   refine aM (good := good) eX rZ (tJ _) fun r1 _ => ?_
   refine lC ?_ ?_
   ·refine lF ?_
    refine aM (good := good) eX aa7 (ab2 _) fun r2 _ => ?_
    refine lC ?_ ?_
    ·refine lF ?_
     refine lC ?_ ?_
     ·exact aH rfl
     ·exact ih x0 (IntKind.wrap .i64 (x3 + 1))
    ·exact ih x0 (IntKind.wrap .i64 (x3 + 1))
   ·exact ih x0 (IntKind.wrap .i64 (x3 + 1))
  ·exact aH rfl
theorem aap (x0 : Str) : Le (Option.map cE (mY x0)) (arY x0) := by
 refine Le.trans ?_ (le_of_eq ((bC alP).trans (aq1 _ _ _ _ _  x0)).symm)
 unfold mY
 exact aaw fuel x0 0
theorem mT (p0 : Str) : Le (Option.map cE (hR p0)) (aX SE 48 [.d (.str p0)] [] []) := by
 refine aQ alP rfl ?_
 refine Le.trans ?_ (le_of_eq (T48 _ _ _ _ _  p0).symm)
 unfold hR
 refine lC ?_ ?_
 ·exact aH rfl
 ·refine lC ?_ ?_
  ·exact aH rfl
  ·refine lF ?_
   refine aM (good := good) eX rZ (tJ _) fun r0 _ => ?_
   refine lC ?_ ?_
   ·exact aH rfl
   ·exact aap p0
section
variable (Γ : Fun)  (Λ2 J : Lam)
def C94 : aP := aO Γ
theorem T94 (p0 : Int) (p1 : Int) : bB SE (C94 Γ) Λ2 J 94 [.d (.int .i64 p0), .d (.int .i64 p1)] [] [] =
 cond (decide (p0 ≥ 0)) (
 (some (.ret [.d (.bool (decide (p0 ≤ p1)))] [] []))) (
 (some (.ret [.d (.bool false)] [] []))) := by kernel_rfl
end
abbrev X94 : aP := C94 gG
theorem asB : X94 = aO gG := rfl
theorem qS (p0 : Int) (p1 : Int) : Le (Option.map jK (kF p0 p1)) (aX SE 94 [.d (.int .i64 p0), .d (.int .i64 p1)] [] []) := by
 refine aQ asB rfl ?_
 refine Le.trans ?_ (le_of_eq (T94 _ _ _  p0 p1).symm)
 unfold kF
 refine lC ?_ ?_
 ·exact aH rfl
 ·exact aH rfl
def ae5 (C : aP) (Λ2 J : Lam) (a0 : (List D)) : Res := lab SE C Λ2 J 41 0 [1, 1, 1, 0, 0] (bA [(1, .ptr 1000000000 0)] [⟨38, (List.map AV.d a0)⟩] [] [] [])
def akB (C : aP) (Λ2 J : Lam) (a0 : (List D)) : Res := lab SE C Λ2 J 41 0 [1, 1, 0, 0] (bA [(1, .ptr 1000000000 0)] [⟨38, (List.map AV.d a0)⟩] [] [] [])
section
variable (Γ : Fun) (γ48 : Gm (Bool)) (γ94 : Gm (Bool)) (Λ2 J : Lam)
def C41 : aP := aZ (aZ (aO Γ) 48 cE γ48) 94 jK γ94
theorem T41 (p0 : aC) : bB SE (C41 Γ γ48 γ94) Λ2 J 41 [aC.av p0] [] [] =
 γ48 [.d (.str p0.Client)] [] [] fun r0 =>
 cond (!r0) (
 (some (.ret [.d (.int .i64 11)] [] []))) (
 cond (!(p0.User == ([] : Str))) (
 γ48 [.d (.str p0.User)] [] [] fun r1 =>
 cond (!r1) (
  (some (.ret [.d (.int .i64 11)] [] []))) (
 akB (C41 Γ γ48 γ94) Λ2 J (aC.enc p0))) (
 akB (C41 Γ γ48 γ94) Λ2 J (aC.enc p0))) := by kernel_rfl
theorem aqL (b0 : aC) : cG SE (C41 Γ γ48 γ94) Λ2 J 41 0 [1, 1, 1, 0, 0] (bA [(1, .ptr 1000000000 0)] [⟨38, (List.map AV.d (aC.enc b0))⟩] [] [] []) =
 γ94 [.d (.int .i64 b0.Expiry), .d (.int .i64 1099511627776)] [] [] fun r2 =>
 cond (!r2) (
 (some (.ret [.d (.int .i64 1)] [] []))) (
 γ94 [.d (.int .i64 b0.Until), .d (.int .i64 1099511627776)] [] [] fun r3 =>
 cond (!r3) (
 (some (.ret [.d (.int .i64 1)] [] []))) (
 γ94 [.d (.int .i64 b0.Dropped), .d (.int .i64 1099511627776)] [] [] fun r4 =>
 cond (!r4) (
 (some (.ret [.d (.int .i64 1)] [] []))) (
 (some (.ret [.d (.int .i64 0)] [] []))))) := by kernel_rfl
theorem aqS (b0 : aC) : cG SE (C41 Γ γ48 γ94) Λ2 J 41 0 [1, 1, 0, 0] (bA [(1, .ptr 1000000000 0)] [⟨38, (List.map AV.d (aC.enc b0))⟩] [] [] []) =
 cond (!b0.Online) (
 cond (b0.Conn != 0) (
  (some (.ret [.d (.int .i64 9)] [] []))) (
 cond b0.Online (
  cond (b0.Until != 0) (
  (some (.ret [.d (.int .i64 9)] [] []))) (
  ae5 (C41 Γ γ48 γ94) Λ2 J (aC.enc b0))) (
 ae5 (C41 Γ γ48 γ94) Λ2 J (aC.enc b0)))) (
 cond b0.Online (
 cond (b0.Until != 0) (
  (some (.ret [.d (.int .i64 9)] [] []))) (
 ae5 (C41 Γ γ48 γ94) Λ2 J (aC.enc b0))) (
 ae5 (C41 Γ γ48 γ94) Λ2 J (aC.enc b0))) := by kernel_rfl
end
abbrev X41 : aP := C41 gG (cT 48 cE) (cT 94 jK)
theorem amG : X41 = aO gG := by unfold X41 C41; rw [aK fun _ h => h, aK fun _ h => h]
noncomputable abbrev aru (a0 : (List D)) : Res := ae5 X41 (bY SE gG (SE.hl 41) (SE.hr 41)) (J0 SE X41) a0
noncomputable abbrev art (a0 : (List D)) : Res := akB X41 (bY SE gG (SE.hl 41) (SE.hr 41)) (J0 SE X41) a0
theorem kM (b0 : aC) : Le (Option.map eG (gI b0)) (aru (aC.enc b0)) := by
 refine Le.trans ?_ (le_of_eq ((bC amG).trans (aqL _ _ _ _ _  b0)).symm)
 unfold gI
 refine aM (good := good) eX p8 (qS _ _) fun r2 _ => ?_
 refine lC ?_ ?_
 ·exact aH rfl
 ·refine aM (good := good) eX p8 (qS _ _) fun r3 _ => ?_
  refine lC ?_ ?_
  ·exact aH rfl
  ·refine aM (good := good) eX p8 (qS _ _) fun r4 _ => ?_
   refine lC ?_ ?_
   ·exact aH rfl
   ·exact aH rfl
theorem rC (b0 : aC) : Le (Option.map eG (kB b0)) (art (aC.enc b0)) := by
 refine Le.trans ?_ (le_of_eq ((bC amG).trans (aqS _ _ _ _ _  b0)).symm)
 unfold kB
 refine lC ?_ ?_
 ·refine lC ?_ ?_
  ·exact aH rfl
  ·refine lC ?_ ?_
   ·refine lC ?_ ?_
    ·exact aH rfl
    ·exact kM b0
   ·exact kM b0
 ·refine lC ?_ ?_
  ·refine lC ?_ ?_
   ·exact aH rfl
   ·exact kM b0
  ·exact kM b0
theorem acB (p0 : aC) : Le (Option.map eG (mI p0)) (aX SE 41 [aC.av p0] [] []) := by
 refine aQ amG rfl ?_
 refine Le.trans ?_ (le_of_eq (T41 _ _ _ _ _  p0).symm)
 unfold mI
 refine aM (good := good) eX l6 (mT _) fun r0 _ => ?_
 refine lC ?_ ?_
 ·exact aH rfl
 ·refine lC ?_ ?_
  ·refine aM (good := good) eX l6 (mT _) fun r1 _ => ?_
   refine lC ?_ ?_
   ·exact aH rfl
   ·exact rC p0
  ·exact rC p0
section
variable (Γ : Fun)  (Λ2 J : Lam)
def apd : aP := aO Γ
theorem atc (p0 : Str) (p1 : Str) : bB SE (apd Γ) Λ2 J 168 [.d (.str p0), .d (.str p1)] [] [] =
 cond (decide ((List.length p0 : Int) ≥ (List.length p1 : Int))) (
 cond (decide (0 ≤ (List.length p1 : Int)) && decide ((List.length p1 : Int) ≤ ((List.length p0) : Int))) (
  (some (.ret [.d (.bool ((bU p0 none (some (List.length p1 : Int))) == p1))] [] []))) none) (
 (some (.ret [.d (.bool false)] [] []))) := by kernel_rfl
end
abbrev aso : aP := apd gG
theorem aqD : aso = aO gG := rfl
theorem oH (p0 : Str) (p1 : Str) : Le (Option.map dJ (iY p0 p1)) (aX SE 168 [.d (.str p0), .d (.str p1)] [] []) := by
 refine aQ aqD rfl ?_
 refine Le.trans ?_ (le_of_eq (atc _ _ _  p0 p1).symm)
 unfold iY
 refine lC ?_ ?_
 ·refine lF ?_
  exact aH rfl
 ·exact aH rfl
def ajZ (C : aP) (Λ2 J : Lam) (a0 : Str) (a1 : Int) (a2 : Int) : Res := lab SE C Λ2 J 99 0 [1, 0, 1, 0] (bA [(0, .d (.str a0)), (1, .d (.int .u8 a1)), (5, .d (.int .i64 a2))] [] [] [] [])
section
variable (Γ : Fun)  (Λ2 J : Lam)
def C99 : aP := aO Γ
theorem T99 (p0 : Str) (p1 : Int) : bB SE (C99 Γ) Λ2 J 99 [.d (.str p0), .d (.int .u8 p1)] [] [] =
 ajZ (C99 Γ) Λ2 J p0 p1 0 := by kernel_rfl
theorem aqC (x0 : Str) (x1 : Int) (x5 : Int) : cG SE (C99 Γ) Λ2 J 99 0 [1, 0, 1, 0] (bA [(0, .d (.str x0)), (1, .d (.int .u8 x1)), (5, .d (.int .i64 x5))] [] [] [] []) =
 cond (decide (x5 < (List.length x0 : Int))) (
 cond (decide (0 ≤ x5) && decide (x5 < (List.length x0 : Int))) (
  cond ((UInt8.toNat (List.getD x0 (Int.toNat x5) 0) : Int) == x1) (
  (some (.ret [.d (.bool true)] [] []))) (
  ajZ (C99 Γ) Λ2 J x0 x1 (IntKind.wrap .i64 (x5 + 1)))) none) (
 (some (.ret [.d (.bool false)] [] []))) := by kernel_rfl
end
abbrev X99 : aP := C99 gG
theorem aqr : X99 = aO gG := rfl
noncomputable abbrev arH (a0 : Str) (a1 : Int) (a2 : Int) : Res := ajZ X99 (bY SE gG (SE.hl 99) (SE.hr 99)) (J0 SE X99) a0 a1 a2
theorem abc : ∀ (fu : Nat) (x0 : Str) (x1 : Int) (x5 : Int), Le (Option.map cU (hJ fu x0 x1 x5)) (arH x0 x1 x5) := by
 intro fu
 induction fu with
 | zero => intros; exact le_none
 | succ fu ih =>
  intro x0 x1 x5
  refine Le.trans ?_ (le_of_eq ((bC aqr).trans (aqC _ _ _  x0 x1 x5)).symm)
  unfold hJ
  refine lC ?_ ?_
  ·refine lF ?_
   refine lC ?_ ?_
   ·exact aH rfl
   ·exact ih x0 x1 (IntKind.wrap .i64 (x5 + 1))
  ·exact aH rfl
theorem hQ (p0 : Str) (p1 : Int) : Le (Option.map cU (gK p0 p1)) (aX SE 99 [.d (.str p0), .d (.int .u8 p1)] [] []) := by
 refine aQ aqr rfl ?_
 refine Le.trans ?_ (le_of_eq (T99 _ _ _  p0 p1).symm)
 unfold gK
 exact abc fuel p0 p1 0
def afu (C : aP) (Λ2 J : Lam) (a0 : Str) (a1 : Int) (a2 : Int) (a3 : (List (List D))) : Res := lab SE C Λ2 J 150 0 [1, 1, 1, 0, 1, 0] (bA [(0, .d (.str a0)), (3, .row 3003), (4, .d (.int .i64 a1)), (5, .d (.int .i64 a2))] [] [] [] [(3003, ⟨[.str], 9, 16, a3⟩)])
section
variable (Γ : Fun)  (Λ2 J : Lam)
def agh : aP := aO Γ
theorem at7 (p0 : Str) : bB SE (agh Γ) Λ2 J 150 [.d (.str p0)] [] [] =
 afu (agh Γ) Λ2 J p0 0 0 (List.map bF []) := by kernel_rfl
theorem aoS (x0 : Str) (x4 : Int) (x5 : Int) (w3003 : (List Str)) : cG SE (agh Γ) Λ2 J 150 0 [1, 1, 1, 0, 1, 0] (bA [(0, .d (.str x0)), (3, .row 3003), (4, .d (.int .i64 x4)), (5, .d (.int .i64 x5))] [] [] [] [(3003, ⟨[.str], 9, 16, (List.map bF w3003)⟩)]) =
 cond (decide (x5 < (List.length x0 : Int))) (
 cond (decide (0 ≤ x5) && decide (x5 < (List.length x0 : Int))) (
  cond ((UInt8.toNat (List.getD x0 (Int.toNat x5) 0) : Int) == 47) (
  cond (decide (0 ≤ x5) && decide (x5 ≤ ((List.length x0) : Int))) (
   cond (decide (0 ≤ x4) && decide (x4 ≤ x5)) (
   cond (decide ((List.length (List.map bF w3003) + List.length (List.map bF [(bU x0 (some x4) (some x5))])) * 16 ≤ 140737488355328)) (
    afu (agh Γ) Λ2 J x0 (IntKind.wrap .i64 (x5 + 1)) (IntKind.wrap .i64 (x5 + 1)) (((List.map bF w3003) ++ (List.map bF [(bU x0 (some x4) (some x5))])))) none) none) none) (
  afu (agh Γ) Λ2 J x0 x4 (IntKind.wrap .i64 (x5 + 1)) (List.map bF w3003))) none) (
 cond (decide (0 ≤ x4) && decide (x4 ≤ ((List.length x0) : Int))) (
 cond (decide ((List.length (List.map bF w3003) + List.length (List.map bF [(bU x0 (some x4) none)])) * 16 ≤ 140737488355328)) (
  (some (.ret [.row 0] [] [⟨[.str], 9, 16, ((List.map bF w3003) ++ (List.map bF [(bU x0 (some x4) none)]))⟩]))) none) none) := by kernel_rfl
end
abbrev al0 : aP := agh gG
theorem anu : al0 = aO gG := rfl
noncomputable abbrev apA (a0 : Str) (a1 : Int) (a2 : Int) (a3 : (List (List D))) : Res := afu al0 (bY SE gG (SE.hl 150) (SE.hr 150)) (J0 SE al0) a0 a1 a2 a3
theorem pU : ∀ (fu : Nat) (x0 : Str) (x4 : Int) (x5 : Int) (w3003 : (List Str)), Le (Option.map cM (dW fu x0 x4 x5 w3003)) (apA x0 x4 x5 (List.map bF w3003)) := by
 intro fu
 induction fu with
 | zero => intros; exact le_none
 | succ fu ih =>
  intro x0 x4 x5 w3003
  refine Le.trans ?_ (le_of_eq ((bC anu).trans (aoS _ _ _  x0 x4 x5 w3003)).symm)
  unfold dW
  refine lC ?_ ?_
  ·refine lF ?_
   refine lC ?_ ?_
   ·refine lF ?_
    refine lF ?_
    refine lG (by simp only [EN]) ?_
    first | (simp only [EN]; exact ih x0 (IntKind.wrap .i64 (x5 + 1)) (IntKind.wrap .i64 (x5 + 1)) ((w3003 ++ [(bU x0 (some x4) (some x5))]))) | exact ih x0 (IntKind.wrap .i64 (x5 + 1)) (IntKind.wrap .i64 (x5 + 1)) ((w3003 ++ [(bU x0 (some x4) (some x5))]))
   ·exact ih x0 x4 (IntKind.wrap .i64 (x5 + 1)) w3003
  ·refine lF ?_
   refine lG (by simp only [EN]) ?_
   exact aH (by first | rfl | simp only [EN, cM] <;> rfl)
theorem rY (p0 : Str) : Le (Option.map cM (kQ p0)) (aX SE 150 [.d (.str p0)] [] []) := by
 refine aQ anu rfl ?_
 refine Le.trans ?_ (le_of_eq (at7 _ _ _  p0).symm)
 unfold kQ
 first | (simp only [EN]; exact pU fuel p0 0 0 ([] : List Str)) | exact pU fuel p0 0 0 ([] : List Str)
section
variable (Γ : Fun) (γ99 : Gm (Bool)) (γ150 : Gm ((List Str))) (Λ2 J : Lam)
def C98 : aP := aZ (aZ (aO Γ) 99 cU γ99) 150 cM γ150
theorem T98 (p0 : Str) : bB SE (C98 Γ γ99 γ150) Λ2 J 98 [.d (.str p0)] [] [] =
 cond (decide ((List.length p0 : Int) ≥ 1)) (
 cond (decide ((List.length p0 : Int) ≤ 64)) (
  γ99 [.d (.str p0), .d (.int .u8 0)] [] [] fun r0 =>
  cond (!r0) (
  γ150 [.d (.str p0)] [] [] fun r1 =>
  (some (.ret [.d (.bool (decide ((List.length (List.map bF r1) : Int) ≤ 8)))] [] []))) (
  (some (.ret [.d (.bool false)] [] [])))) (
 (some (.ret [.d (.bool false)] [] [])))) (
 (some (.ret [.d (.bool false)] [] []))) := by kernel_rfl
end
abbrev X98 : aP := C98 gG (cT 99 cU) (cT 150 cM)
theorem atU : X98 = aO gG := by unfold X98 C98; rw [aK fun _ h => h, aK fun _ h => h]
theorem sZ (p0 : Str) : Le (Option.map c9 (j1 p0)) (aX SE 98 [.d (.str p0)] [] []) := by
 refine aQ atU rfl ?_
 refine Le.trans ?_ (le_of_eq (T98 _ _ _ _ _  p0).symm)
 unfold j1
 refine lC ?_ ?_
 ·refine lC ?_ ?_
  ·refine aM (good := good) eX j7 (hQ _ _) fun r0 _ => ?_
   refine lC ?_ ?_
   ·refine aM (good := good) eX q0 (rY _) fun r1 _ => ?_
    exact aH (by first | rfl | simp only [EN, c9] <;> rfl)
   ·exact aH rfl
  ·exact aH rfl
 ·exact aH rfl
def aiN (C : aP) (Λ2 J : Lam) (a0 : Int) (a1 : (List (List D))) : Res := lab SE C Λ2 J 167 0 [1, 1, 1, 0, 1, 0, 0, 1, 0, 0, 1, 0] (bA [(3, .row 3003), (4, .d (.int .i64 a0))] [] [] [] [(3003, ⟨[.str], 9, 16, a1⟩)])
def ae8 (C : aP) (Λ2 J : Lam) (a0 : Int) (a1 : (List (List D))) : Res := lab SE C Λ2 J 167 0 [1, 1, 1, 0, 1, 0] (bA [(3, .row 3003), (4, .d (.int .i64 a0))] [] [] [] [(3003, ⟨[.str], 9, 16, a1⟩)])
section
variable (Γ : Fun) (γ98 : Gm (Bool)) (γ150 : Gm ((List Str))) (γ99 : Gm (Bool)) (Λ2 J : Lam)
def aat : aP := aZ (aZ (aZ (aO Γ) 98 c9 γ98) 150 cM γ150) 99 cU γ99
theorem asI (p0 : Str) : bB SE (aat Γ γ98 γ150 γ99) Λ2 J 167 [.d (.str p0)] [] [] =
 γ98 [.d (.str p0)] [] [] fun r0 =>
 cond (!r0) (
 (some (.ret [.d (.bool false)] [] []))) (
 γ150 [.d (.str p0)] [] [] fun r1 =>
 ae8 (aat Γ γ98 γ150 γ99) Λ2 J 0 (List.map bF r1)) := by kernel_rfl
theorem apP (x4 : Int) (w3003 : (List Str)) : cG SE (aat Γ γ98 γ150 γ99) Λ2 J 167 0 [1, 1, 1, 0, 1, 0, 0, 1, 0, 0, 1, 0] (bA [(3, .row 3003), (4, .d (.int .i64 x4))] [] [] [] [(3003, ⟨[.str], 9, 16, (List.map bF w3003)⟩)]) =
 cond (decide (0 ≤ x4) && decide (x4 < (List.length (List.map bF w3003) : Int))) (
 γ99 [.d (.str (aV (cellAt (elemAt (List.map bF w3003) (Int.toNat x4)) 0))), .d (.int .u8 35)] [] [] fun r3 =>
 cond r3 (
  cond (decide (0 ≤ x4) && decide (x4 < (List.length (List.map bF w3003) : Int))) (
  cond (!((aV (cellAt (elemAt (List.map bF w3003) (Int.toNat x4)) 0)) == ([35] : Str))) (
   (some (.ret [.d (.bool false)] [] []))) (
  cond (x4 != (IntKind.wrap .i64 ((List.length (List.map bF w3003) : Int) - 1))) (
   (some (.ret [.d (.bool false)] [] []))) (
  ae8 (aat Γ γ98 γ150 γ99) Λ2 J (IntKind.wrap .i64 (x4 + 1)) (List.map bF w3003)))) none) (
 ae8 (aat Γ γ98 γ150 γ99) Λ2 J (IntKind.wrap .i64 (x4 + 1)) (List.map bF w3003))) none := by kernel_rfl
theorem aqf (x4 : Int) (w3003 : (List Str)) : cG SE (aat Γ γ98 γ150 γ99) Λ2 J 167 0 [1, 1, 1, 0, 1, 0] (bA [(3, .row 3003), (4, .d (.int .i64 x4))] [] [] [] [(3003, ⟨[.str], 9, 16, (List.map bF w3003)⟩)]) =
 cond (decide (x4 < (List.length (List.map bF w3003) : Int))) (
 cond (decide (0 ≤ x4) && decide (x4 < (List.length (List.map bF w3003) : Int))) (
  γ99 [.d (.str (aV (cellAt (elemAt (List.map bF w3003) (Int.toNat x4)) 0))), .d (.int .u8 43)] [] [] fun r2 =>
  cond r2 (
  cond (decide (0 ≤ x4) && decide (x4 < (List.length (List.map bF w3003) : Int))) (
   cond (!((aV (cellAt (elemAt (List.map bF w3003) (Int.toNat x4)) 0)) == ([43] : Str))) (
   (some (.ret [.d (.bool false)] [] []))) (
   aiN (aat Γ γ98 γ150 γ99) Λ2 J x4 (List.map bF w3003))) none) (
  aiN (aat Γ γ98 γ150 γ99) Λ2 J x4 (List.map bF w3003))) none) (
 (some (.ret [.d (.bool true)] [] []))) := by kernel_rfl
end
abbrev agz : aP := aat gG (cT 98 c9) (cT 150 cM) (cT 99 cU)
theorem ajs : agz = aO gG := by unfold agz aat; rw [aK fun _ h => h, aK fun _ h => h, aK fun _ h => h]
noncomputable abbrev aqn (a0 : Int) (a1 : (List (List D))) : Res := aiN agz (bY SE gG (SE.hl 167) (SE.hr 167)) (J0 SE agz) a0 a1
noncomputable abbrev ak4 (a0 : Int) (a1 : (List (List D))) : Res := ae8 agz (bY SE gG (SE.hl 167) (SE.hr 167)) (J0 SE agz) a0 a1
theorem pX (k5 : Int → (List Str) → Option (Bool)) (hk5 : ∀ (x4 : Int) (w3003 : (List Str)), Le (Option.map cC (k5 x4 w3003)) (ak4 x4 (List.map bF w3003))) (x4 : Int) (w3003 : (List Str)) : Le (Option.map cC (gQ k5 x4 w3003)) (aqn x4 (List.map bF w3003)) := by
 refine Le.trans ?_ (le_of_eq ((bC ajs).trans (apP _ _ _ _ _ _  x4 w3003)).symm)
 unfold gQ
 refine lG (by simp only [EN]) ?_
 refine aM (good := good) eX j7 (by first | (simp only [EN]; exact hQ (List.getD w3003 (Int.toNat x4) default) 35) | exact hQ (List.getD w3003 (Int.toNat x4) default) 35) fun r3 _ => ?_
 refine lC ?_ ?_
 ·refine lG (by simp only [EN]) ?_
  refine lD (by simp only [EN]) ?_ ?_
  ·exact aH rfl
  ·refine lD (by simp only [EN]) ?_ ?_
   ·exact aH rfl
   ·exact hk5 (IntKind.wrap .i64 (x4 + 1)) w3003
 ·exact hk5 (IntKind.wrap .i64 (x4 + 1)) w3003
theorem xQ : ∀ (fu : Nat) (x4 : Int) (w3003 : (List Str)), Le (Option.map cC (dX fu x4 w3003)) (ak4 x4 (List.map bF w3003)) := by
 intro fu
 induction fu with
 | zero => intros; exact le_none
 | succ fu ih =>
  intro x4 w3003
  refine Le.trans ?_ (le_of_eq ((bC ajs).trans (aqf _ _ _ _ _ _  x4 w3003)).symm)
  unfold dX
  refine lD (by simp only [EN]) ?_ ?_
  ·refine lG (by simp only [EN]) ?_
   refine aM (good := good) eX j7 (by first | (simp only [EN]; exact hQ (List.getD w3003 (Int.toNat x4) default) 43) | exact hQ (List.getD w3003 (Int.toNat x4) default) 43) fun r2 _ => ?_
   refine lC ?_ ?_
   ·refine lG (by simp only [EN]) ?_
    refine lD (by simp only [EN]) ?_ ?_
    ·exact aH rfl
    ·exact pX _ (ih) x4 w3003
   ·exact pX _ (ih) x4 w3003
  ·exact aH rfl
theorem rW (p0 : Str) : Le (Option.map cC (jJ p0)) (aX SE 167 [.d (.str p0)] [] []) := by
 refine aQ ajs rfl ?_
 refine Le.trans ?_ (le_of_eq (asI _ _ _ _ _ _  p0).symm)
 unfold jJ
 refine aM (good := good) eX sJ (sZ _) fun r0 _ => ?_
 refine lC ?_ ?_
 ·exact aH rfl
 ·refine aM (good := good) eX q0 (rY _) fun r1 _ => ?_
  exact xQ fuel 0 r1
def als (C : aP) (Λ2 J : Lam) (a0 : Str) (a1 : Int) : Res := lab SE C Λ2 J 166 0 [1, 1, 1, 1, 1, 1, 0] (bA [(5, .d (.str a0)), (6, .d (.int .i64 a1))] [] [] [] [])
def aiH (C : aP) (Λ2 J : Lam) (a0 : Str) (a1 : Int) : Res := lab SE C Λ2 J 166 0 [1, 1, 1, 1, 1, 0, 0] (bA [(5, .d (.str a0)), (6, .d (.int .i64 a1))] [] [] [] [])
def aik (C : aP) (Λ2 J : Lam) (a0 : Str) (a1 : Int) : Res := lab SE C Λ2 J 166 0 [1, 1, 1, 1, 0, 0] (bA [(5, .d (.str a0)), (6, .d (.int .i64 a1))] [] [] [] [])
section
variable (Γ : Fun) (γ168 : Gm (Bool)) (γ48 : Gm (Bool)) (γ167 : Gm (Bool)) (Λ2 J : Lam)
def xX : aP := aZ (aZ (aZ (aO Γ) 168 dJ γ168) 48 cE γ48) 167 cC γ167
theorem atA (p0 : Str) : bB SE (xX Γ γ168 γ48 γ167) Λ2 J 166 [.d (.str p0)] [] [] =
 γ168 [.d (.str p0), .d (.str ([36, 115, 104, 97, 114, 101, 47] : Str))] [] [] fun r0 =>
 cond (!r0) (
 (some (.ret [.d (.str ([] : Str)), .d (.str ([] : Str)), .d (.bool false)] [] []))) (
 cond (decide (0 ≤ 7) && decide (7 ≤ ((List.length p0) : Int))) (
 aik (xX Γ γ168 γ48 γ167) Λ2 J (bU p0 (some 7) none) 0) none) := by kernel_rfl
theorem ap6 (x5 : Str) (x6 : Int) : cG SE (xX Γ γ168 γ48 γ167) Λ2 J 166 0 [1, 1, 1, 1, 1, 1, 0] (bA [(5, .d (.str x5)), (6, .d (.int .i64 x6))] [] [] [] []) =
 cond (decide (0 ≤ x6) && decide (x6 ≤ ((List.length x5) : Int))) (
 cond (decide (0 ≤ (IntKind.wrap .i64 (x6 + 1))) && decide ((IntKind.wrap .i64 (x6 + 1)) ≤ ((List.length x5) : Int))) (
  (some (.ret [.d (.str (bU x5 none (some x6))), .d (.str (bU x5 (some (IntKind.wrap .i64 (x6 + 1))) none)), .d (.bool true)] [] []))) none) none := by kernel_rfl
theorem apl (x5 : Str) (x6 : Int) : cG SE (xX Γ γ168 γ48 γ167) Λ2 J 166 0 [1, 1, 1, 1, 1, 0, 0] (bA [(5, .d (.str x5)), (6, .d (.int .i64 x6))] [] [] [] []) =
 cond (x6 == (List.length x5 : Int)) (
 (some (.ret [.d (.str ([] : Str)), .d (.str ([] : Str)), .d (.bool false)] [] []))) (
 cond (decide (0 ≤ x6) && decide (x6 ≤ ((List.length x5) : Int))) (
 γ48 [.d (.str (bU x5 none (some x6)))] [] [] fun r1 =>
 cond (!r1) (
  (some (.ret [.d (.str ([] : Str)), .d (.str ([] : Str)), .d (.bool false)] [] []))) (
 cond (decide (0 ≤ (IntKind.wrap .i64 (x6 + 1))) && decide ((IntKind.wrap .i64 (x6 + 1)) ≤ ((List.length x5) : Int))) (
  γ167 [.d (.str (bU x5 (some (IntKind.wrap .i64 (x6 + 1))) none))] [] [] fun r2 =>
  cond (!r2) (
  (some (.ret [.d (.str ([] : Str)), .d (.str ([] : Str)), .d (.bool false)] [] []))) (
  cond (decide (0 ≤ (IntKind.wrap .i64 (x6 + 1))) && decide ((IntKind.wrap .i64 (x6 + 1)) ≤ ((List.length x5) : Int))) (
  γ168 [.d (.str (bU x5 (some (IntKind.wrap .i64 (x6 + 1))) none)), .d (.str ([36, 115, 104, 97, 114, 101, 47] : Str))] [] [] fun r3 =>
  cond r3 (
   (some (.ret [.d (.str ([] : Str)), .d (.str ([] : Str)), .d (.bool false)] [] []))) (
  als (xX Γ γ168 γ48 γ167) Λ2 J x5 x6)) none)) none)) none) := by kernel_rfl
theorem apG (x5 : Str) (x6 : Int) : cG SE (xX Γ γ168 γ48 γ167) Λ2 J 166 0 [1, 1, 1, 1, 0, 0] (bA [(5, .d (.str x5)), (6, .d (.int .i64 x6))] [] [] [] []) =
 cond (decide (x6 < (List.length x5 : Int))) (
 cond (decide (0 ≤ x6) && decide (x6 < (List.length x5 : Int))) (
  cond ((UInt8.toNat (List.getD x5 (Int.toNat x6) 0) : Int) != 47) (
  aik (xX Γ γ168 γ48 γ167) Λ2 J x5 (IntKind.wrap .i64 (x6 + 1))) (
  aiH (xX Γ γ168 γ48 γ167) Λ2 J x5 x6)) none) (
 aiH (xX Γ γ168 γ48 γ167) Λ2 J x5 x6) := by kernel_rfl
end
abbrev ac7 : aP := xX gG (cT 168 dJ) (cT 48 cE) (cT 167 cC)
theorem ahC : ac7 = aO gG := by unfold ac7 xX; rw [aK fun _ h => h, aK fun _ h => h, aK fun _ h => h]
noncomputable abbrev aqk (a0 : Str) (a1 : Int) : Res := als ac7 (bY SE gG (SE.hl 166) (SE.hr 166)) (J0 SE ac7) a0 a1
noncomputable abbrev aql (a0 : Str) (a1 : Int) : Res := aiH ac7 (bY SE gG (SE.hl 166) (SE.hr 166)) (J0 SE ac7) a0 a1
noncomputable abbrev apQ (a0 : Str) (a1 : Int) : Res := aik ac7 (bY SE gG (SE.hl 166) (SE.hr 166)) (J0 SE ac7) a0 a1
theorem yX (x5 : Str) (x6 : Int) : Le (Option.map cD (lB x5 x6)) (aqk x5 x6) := by
 refine Le.trans ?_ (le_of_eq ((bC ahC).trans (ap6 _ _ _ _ _ _  x5 x6)).symm)
 unfold lB
 refine lF ?_
 refine lF ?_
 exact aH rfl
theorem pM (x5 : Str) (x6 : Int) : Le (Option.map cD (gR x5 x6)) (aql x5 x6) := by
 refine Le.trans ?_ (le_of_eq ((bC ahC).trans (apl _ _ _ _ _ _  x5 x6)).symm)
 unfold gR
 refine lC ?_ ?_
 ·exact aH rfl
 ·refine lF ?_
  refine aM (good := good) eX l6 (mT _) fun r1 _ => ?_
  refine lC ?_ ?_
  ·exact aH rfl
  ·refine lF ?_
   refine aM (good := good) eX qY (rW _) fun r2 _ => ?_
   refine lC ?_ ?_
   ·exact aH rfl
   ·refine lF ?_
    refine aM (good := good) eX nS (oH _ _) fun r3 _ => ?_
    refine lC ?_ ?_
    ·exact aH rfl
    ·exact yX x5 x6
theorem xJ : ∀ (fu : Nat) (x5 : Str) (x6 : Int), Le (Option.map cD (e9 fu x5 x6)) (apQ x5 x6) := by
 intro fu
 induction fu with
 | zero => intros; exact le_none
 | succ fu ih =>
  intro x5 x6
  refine Le.trans ?_ (le_of_eq ((bC ahC).trans (apG _ _ _ _ _ _  x5 x6)).symm)
  unfold e9
  refine lC ?_ ?_
  ·refine lF ?_
   refine lC ?_ ?_
   ·exact ih x5 (IntKind.wrap .i64 (x6 + 1))
   ·exact pM x5 x6
  ·exact pM x5 x6
theorem sA (p0 : Str) : Le (Option.map cD (jC p0)) (aX SE 166 [.d (.str p0)] [] []) := by
 refine aQ ahC rfl ?_
 refine Le.trans ?_ (le_of_eq (atA _ _ _ _ _ _  p0).symm)
 unfold jC
 refine aM (good := good) eX nS (oH _ _) fun r0 _ => ?_
 refine lC ?_ ?_
 ·exact aH rfl
 ·refine lF ?_
  exact xJ fuel (bU p0 (some 7) none) 0
section
variable (Γ : Fun) (γ166 : Gm (Str × Str × Bool)) (γ167 : Gm (Bool)) (γ168 : Gm (Bool)) (Λ2 J : Lam)
def alI : aP := aZ (aZ (aZ (aO Γ) 166 cD γ166) 167 cC γ167) 168 dJ γ168
theorem asX (p0 : Str) : bB SE (alI Γ γ166 γ167 γ168) Λ2 J 133 [.d (.str p0)] [] [] =
 γ166 [.d (.str p0)] [] [] fun r0 =>
 cond r0.2.2 (
 (some (.ret [.d (.bool true)] [] []))) (
 γ167 [.d (.str p0)] [] [] fun r1 =>
 cond r1 (
 γ168 [.d (.str p0), .d (.str ([36, 115, 104, 97, 114, 101, 47] : Str))] [] [] fun r2 =>
 (some (.ret [.d (.bool (!r2))] [] []))) (
 (some (.ret [.d (.bool false)] [] [])))) := by kernel_rfl
end
abbrev ao9 : aP := alI gG (cT 166 cD) (cT 167 cC) (cT 168 dJ)
theorem ard : ao9 = aO gG := by unfold ao9 alI; rw [aK fun _ h => h, aK fun _ h => h, aK fun _ h => h]
theorem aaZ (p0 : Str) : Le (Option.map fY (kO p0)) (aX SE 133 [.d (.str p0)] [] []) := by
 refine aQ ard rfl ?_
 refine Le.trans ?_ (le_of_eq (asX _ _ _ _ _ _  p0).symm)
 unfold kO
 refine aM (good := good) eX qW (sA _) fun r0 _ => ?_
 refine lC ?_ ?_
 ·exact aH rfl
 ·refine aM (good := good) eX qY (rW _) fun r1 _ => ?_
  refine lC ?_ ?_
  ·refine aM (good := good) eX nS (oH _ _) fun r2 _ => ?_
   exact aH rfl
  ·exact aH rfl
section
variable (Γ : Fun)  (Λ2 J : Lam)
def apa : aP := aO Γ
theorem atH (p0 : Int) : bB SE (apa Γ) Λ2 J 134 [.d (.int .i64 p0)] [] [] =
 cond (p0 == 0) (
 (some (.ret [.d (.bool true)] [] []))) (
 cond (p0 == 1) (
 (some (.ret [.d (.bool true)] [] []))) (
 (some (.ret [.d (.bool (p0 == 2))] [] [])))) := by kernel_rfl
end
abbrev asz : aP := apa gG
theorem arO : asz = aO gG := rfl
theorem abY (p0 : Int) : Le (Option.map gX (lP p0)) (aX SE 134 [.d (.int .i64 p0)] [] []) := by
 refine aQ arO rfl ?_
 refine Le.trans ?_ (le_of_eq (atH _ _ _  p0).symm)
 unfold lP
 refine lC ?_ ?_
 ·exact aH rfl
 ·refine lC ?_ ?_
  ·exact aH rfl
  ·exact aH rfl
section
variable (Γ : Fun) (γ166 : Gm (Str × Str × Bool)) (Λ2 J : Lam)
def alM : aP := aZ (aO Γ) 166 cD γ166
theorem atB (p0 : Str) : bB SE (alM Γ γ166) Λ2 J 135 [.d (.str p0)] [] [] =
 γ166 [.d (.str p0)] [] [] fun r0 =>
 (some (.ret [.d (.bool r0.2.2)] [] [])) := by kernel_rfl
end
abbrev aoH : aP := alM gG (cT 166 cD)
theorem aqU : aoH = aO gG := by unfold aoH alM; rw [aK fun _ h => h]
theorem abg (p0 : Str) : Le (Option.map fT (nJ p0)) (aX SE 135 [.d (.str p0)] [] []) := by
 refine aQ aqU rfl ?_
 refine Le.trans ?_ (le_of_eq (atB _ _ _ _  p0).symm)
 unfold nJ
 refine aM (good := good) eX qW (sA _) fun r0 _ => ?_
 exact aH rfl
section
variable (Γ : Fun) (γ133 : Gm (Bool)) (γ134 : Gm (Bool)) (γ135 : Gm (Bool)) (Λ2 J : Lam)
def C69 : aP := aZ (aZ (aZ (aO Γ) 133 fY γ133) 134 gX γ134) 135 fT γ135
theorem T69 (p0 : aF) : bB SE (C69 Γ γ133 γ134 γ135) Λ2 J 69 [aF.av p0] [] [] =
 γ133 [.d (.str p0.Filter)] [] [] fun r0 =>
 cond (!r0) (
 (some (.ret [.d (.int .i64 13)] [] []))) (
 γ134 [.d (.int .i64 p0.Level)] [] [] fun r1 =>
 cond (!r1) (
 (some (.ret [.d (.int .i64 14)] [] []))) (
 cond p0.NoLocal (
 γ135 [.d (.str p0.Filter)] [] [] fun r2 =>
 cond r2 (
  (some (.ret [.d (.int .i64 28)] [] []))) (
 (some (.ret [.d (.int .i64 0)] [] [])))) (
 (some (.ret [.d (.int .i64 0)] [] []))))) := by kernel_rfl
end
abbrev X69 : aP := C69 gG (cT 133 fY) (cT 134 gX) (cT 135 fT)
theorem atX : X69 = aO gG := by unfold X69 C69; rw [aK fun _ h => h, aK fun _ h => h, aK fun _ h => h]
theorem vP (p0 : aF) : Le (Option.map iQ (nA p0)) (aX SE 69 [aF.av p0] [] []) := by
 refine aQ atX rfl ?_
 refine Le.trans ?_ (le_of_eq (T69 _ _ _ _ _ _  p0).symm)
 unfold nA
 refine aM (good := good) eX aaq (aaZ _) fun r0 _ => ?_
 refine lC ?_ ?_
 ·exact aH rfl
 ·refine aM (good := good) eX aaK (abY _) fun r1 _ => ?_
  refine lC ?_ ?_
  ·exact aH rfl
  ·refine lC ?_ ?_
   ·refine aM (good := good) eX aao (abg _) fun r2 _ => ?_
    refine lC ?_ ?_
    ·exact aH rfl
    ·exact aH rfl
   ·exact aH rfl
def ahG (C : aP) (Λ2 J : Lam) (a0 : (List (List D))) (a1 : Int) : Res := lab SE C Λ2 J 42 0 [1, 1, 0, 1, 0] (bA [(0, .d (.sl aF.ks a0)), (3, .d (.int .i64 a1))] [] [] [] [])
section
variable (Γ : Fun) (γ69 : Gm (Int)) (Λ2 J : Lam)
def C42 : aP := aZ (aO Γ) 69 iQ γ69
theorem T42 (p0 : (List aF)) : bB SE (C42 Γ γ69) Λ2 J 42 [.d (.sl aF.ks (List.map aF.enc p0))] [] [] =
 cond (decide ((List.length (List.map aF.enc p0) : Int) > 32)) (
 (some (.ret [.d (.int .i64 5)] [] []))) (
 ahG (C42 Γ γ69) Λ2 J (List.map aF.enc p0) 0) := by kernel_rfl
theorem arQ (x0 : (List aF)) (x3 : Int) : cG SE (C42 Γ γ69) Λ2 J 42 0 [1, 1, 0, 1, 0] (bA [(0, .d (.sl aF.ks (List.map aF.enc x0))), (3, .d (.int .i64 x3))] [] [] [] []) =
 cond (decide (x3 < (List.length (List.map aF.enc x0) : Int))) (
 cond (decide (0 ≤ x3) && decide (x3 < (List.length (List.map aF.enc x0) : Int))) (
  γ69 [.agg [.d (.str (aV (cellAt (elemAt (List.map aF.enc x0) (Int.toNat x3)) 0))), .d (.int .i64 (aL (cellAt (elemAt (List.map aF.enc x0) (Int.toNat x3)) 1))), .d (.bool (aY (cellAt (elemAt (List.map aF.enc x0) (Int.toNat x3)) 2)))]] [] [] fun r0 =>
  cond (r0 != 0) (
  (some (.ret [.d (.int .i64 r0)] [] []))) (
  cond (decide (x3 > 0)) (
  cond (decide (0 ≤ x3) && decide (x3 < (List.length (List.map aF.enc x0) : Int))) (
   cond (decide (0 ≤ (IntKind.wrap .i64 (x3 - 1))) && decide ((IntKind.wrap .i64 (x3 - 1)) < (List.length (List.map aF.enc x0) : Int))) (
   cond (Op.bytesLess (aV (cellAt (elemAt (List.map aF.enc x0) (Int.toNat x3)) 0)) (aV (cellAt (elemAt (List.map aF.enc x0) (Int.toNat (IntKind.wrap .i64 (x3 - 1)))) 0)) || (aV (cellAt (elemAt (List.map aF.enc x0) (Int.toNat x3)) 0)) == (aV (cellAt (elemAt (List.map aF.enc x0) (Int.toNat (IntKind.wrap .i64 (x3 - 1)))) 0))) (
    (some (.ret [.d (.int .i64 22)] [] []))) (
   ahG (C42 Γ γ69) Λ2 J (List.map aF.enc x0) (IntKind.wrap .i64 (x3 + 1)))) none) none) (
  ahG (C42 Γ γ69) Λ2 J (List.map aF.enc x0) (IntKind.wrap .i64 (x3 + 1))))) none) (
 (some (.ret [.d (.int .i64 0)] [] []))) := by kernel_rfl
end
abbrev X42 : aP := C42 gG (cT 69 iQ)
theorem aqp : X42 = aO gG := by unfold X42 C42; rw [aK fun _ h => h]
noncomputable abbrev aqN (a0 : (List (List D))) (a1 : Int) : Res := ahG X42 (bY SE gG (SE.hl 42) (SE.hr 42)) (J0 SE X42) a0 a1
theorem aau : ∀ (fu : Nat) (x0 : (List aF)) (x3 : Int), Le (Option.map fJ (eT fu x0 x3)) (aqN (List.map aF.enc x0) x3) := by
 intro fu
 induction fu with
 | zero => intros; exact le_none
 | succ fu ih =>
  intro x0 x3
  refine Le.trans ?_ (le_of_eq ((bC aqp).trans (arQ _ _ _ _  x0 x3)).symm)
  unfold eT
  refine lD (by simp only [EN]) ?_ ?_
  ·refine lG (by simp only [EN]) ?_
   refine aM (good := good) eX acv (by first | (simp only [EN]; exact vP (List.getD x0 (Int.toNat x3) default)) | exact vP (List.getD x0 (Int.toNat x3) default)) fun r0 _ => ?_
   refine lC ?_ ?_
   ·exact aH rfl
   ·refine lC ?_ ?_
    ·refine lG (by simp only [EN]) ?_
     refine lG (by simp only [EN]) ?_
     refine lD (by simp only [EN]) ?_ ?_
     ·exact aH rfl
     ·exact ih x0 (IntKind.wrap .i64 (x3 + 1))
    ·exact ih x0 (IntKind.wrap .i64 (x3 + 1))
  ·exact aH rfl
theorem acu (p0 : (List aF)) : Le (Option.map fJ (mO p0)) (aX SE 42 [.d (.sl aF.ks (List.map aF.enc p0))] [] []) := by
 refine aQ aqp rfl ?_
 refine Le.trans ?_ (le_of_eq (T42 _ _ _ _  p0).symm)
 unfold mO
 refine lD (by simp only [EN]) ?_ ?_
 ·exact aH rfl
 ·exact aau fuel p0 0
section
variable (Γ : Fun) (γ98 : Gm (Bool)) (γ99 : Gm (Bool)) (Λ2 J : Lam)
def C47 : aP := aZ (aZ (aO Γ) 98 c9 γ98) 99 cU γ99
theorem T47 (p0 : Str) : bB SE (C47 Γ γ98 γ99) Λ2 J 47 [.d (.str p0)] [] [] =
 γ98 [.d (.str p0)] [] [] fun r0 =>
 cond r0 (
 γ99 [.d (.str p0), .d (.int .u8 43)] [] [] fun r1 =>
 cond (!r1) (
  γ99 [.d (.str p0), .d (.int .u8 35)] [] [] fun r2 =>
  (some (.ret [.d (.bool (!r2))] [] []))) (
 (some (.ret [.d (.bool false)] [] [])))) (
 (some (.ret [.d (.bool false)] [] []))) := by kernel_rfl
end
abbrev X47 : aP := C47 gG (cT 98 c9) (cT 99 cU)
theorem att : X47 = aO gG := by unfold X47 C47; rw [aK fun _ h => h, aK fun _ h => h]
theorem abK (p0 : Str) : Le (Option.map gS (lU p0)) (aX SE 47 [.d (.str p0)] [] []) := by
 refine aQ att rfl ?_
 refine Le.trans ?_ (le_of_eq (T47 _ _ _ _ _  p0).symm)
 unfold lU
 refine aM (good := good) eX sJ (sZ _) fun r0 _ => ?_
 refine lC ?_ ?_
 ·refine aM (good := good) eX j7 (hQ _ _) fun r1 _ => ?_
  refine lC ?_ ?_
  ·refine aM (good := good) eX j7 (hQ _ _) fun r2 _ => ?_
   exact aH rfl
  ·exact aH rfl
 ·exact aH rfl
def sW (C : aP) (Λ2 J : Lam) (a0 : Str) (a1 : Int) : Res := lab SE C Λ2 J 102 0 [1, 1, 0, 1, 0] (bA [(0, .d (.str a0)), (3, .d (.int .i64 a1))] [] [] [] [])
def alj (C : aP) (Λ2 J : Lam) (a0 : Str) : Res := lab SE C Λ2 J 102 0 [1, 1, 0, 0] (bA [(0, .d (.str a0))] [] [] [] [])
section
variable (Γ : Fun)  (Λ2 J : Lam)
def tY : aP := aO Γ
theorem asu (p0 : Str) : bB SE (tY Γ) Λ2 J 102 [.d (.str p0)] [] [] =
 cond (decide ((List.length p0 : Int) < 1)) (
 (some (.ret [.d (.bool false)] [] []))) (
 cond (decide ((List.length p0 : Int) > 16)) (
 (some (.ret [.d (.bool false)] [] []))) (
 alj (tY Γ) Λ2 J p0)) := by kernel_rfl
theorem ap4 (x0 : Str) (x3 : Int) : cG SE (tY Γ) Λ2 J 102 0 [1, 1, 0, 1, 0] (bA [(0, .d (.str x0)), (3, .d (.int .i64 x3))] [] [] [] []) =
 cond (decide (x3 < (List.length x0 : Int))) (
 cond (decide (0 ≤ x3) && decide (x3 < (List.length x0 : Int))) (
  cond (decide ((UInt8.toNat (List.getD x0 (Int.toNat x3) 0) : Int) ≥ 97)) (
  cond (!(decide ((UInt8.toNat (List.getD x0 (Int.toNat x3) 0) : Int) ≤ 122))) (
   cond (decide ((UInt8.toNat (List.getD x0 (Int.toNat x3) 0) : Int) ≥ 48)) (
   cond (!(decide ((UInt8.toNat (List.getD x0 (Int.toNat x3) 0) : Int) ≤ 57))) (
    cond ((UInt8.toNat (List.getD x0 (Int.toNat x3) 0) : Int) != 45) (
    (some (.ret [.d (.bool false)] [] []))) (
    sW (tY Γ) Λ2 J x0 (IntKind.wrap .i64 (x3 + 1)))) (
   sW (tY Γ) Λ2 J x0 (IntKind.wrap .i64 (x3 + 1)))) (
   cond ((UInt8.toNat (List.getD x0 (Int.toNat x3) 0) : Int) != 45) (
   (some (.ret [.d (.bool false)] [] []))) (
   sW (tY Γ) Λ2 J x0 (IntKind.wrap .i64 (x3 + 1))))) (
  sW (tY Γ) Λ2 J x0 (IntKind.wrap .i64 (x3 + 1)))) (
  cond (decide ((UInt8.toNat (List.getD x0 (Int.toNat x3) 0) : Int) ≥ 48)) (
  cond (!(decide ((UInt8.toNat (List.getD x0 (Int.toNat x3) 0) : Int) ≤ 57))) (
   cond ((UInt8.toNat (List.getD x0 (Int.toNat x3) 0) : Int) != 45) (
   (some (.ret [.d (.bool false)] [] []))) (
   sW (tY Γ) Λ2 J x0 (IntKind.wrap .i64 (x3 + 1)))) (
  sW (tY Γ) Λ2 J x0 (IntKind.wrap .i64 (x3 + 1)))) (
  cond ((UInt8.toNat (List.getD x0 (Int.toNat x3) 0) : Int) != 45) (
  (some (.ret [.d (.bool false)] [] []))) (
  sW (tY Γ) Λ2 J x0 (IntKind.wrap .i64 (x3 + 1)))))) none) (
 (some (.ret [.d (.bool true)] [] []))) := by kernel_rfl
theorem aqs (x0 : Str) : cG SE (tY Γ) Λ2 J 102 0 [1, 1, 0, 0] (bA [(0, .d (.str x0))] [] [] [] []) =
 sW (tY Γ) Λ2 J x0 0 := by kernel_rfl
end
abbrev aiS : aP := tY gG
theorem akf : aiS = aO gG := rfl
noncomputable abbrev apg (a0 : Str) (a1 : Int) : Res := sW aiS (bY SE gG (SE.hl 102) (SE.hr 102)) (J0 SE aiS) a0 a1
noncomputable abbrev ao1 (a0 : Str) : Res := alj aiS (bY SE gG (SE.hl 102) (SE.hr 102)) (J0 SE aiS) a0
theorem aaL : ∀ (fu : Nat) (x0 : Str) (x3 : Int), Le (Option.map eP (cI fu x0 x3)) (apg x0 x3) := by
 intro fu
 induction fu with
 | zero => intros; exact le_none
 | succ fu ih =>
  intro x0 x3
  refine Le.trans ?_ (le_of_eq ((bC akf).trans (ap4 _ _ _  x0 x3)).symm)
  unfold cI
  refine lC ?_ ?_
  ·refine lF ?_
   refine lC ?_ ?_
   ·refine lC ?_ ?_
    ·refine lC ?_ ?_
     ·refine lC ?_ ?_
      ·refine lC ?_ ?_
       ·exact aH rfl
       ·exact ih x0 (IntKind.wrap .i64 (x3 + 1))
      ·exact ih x0 (IntKind.wrap .i64 (x3 + 1))
     ·refine lC ?_ ?_
      ·exact aH rfl
      ·exact ih x0 (IntKind.wrap .i64 (x3 + 1))
    ·exact ih x0 (IntKind.wrap .i64 (x3 + 1))
   ·refine lC ?_ ?_
    ·refine lC ?_ ?_
     ·refine lC ?_ ?_
      ·exact aH rfl
      ·exact ih x0 (IntKind.wrap .i64 (x3 + 1))
     ·exact ih x0 (IntKind.wrap .i64 (x3 + 1))
    ·refine lC ?_ ?_
     ·exact aH rfl
     ·exact ih x0 (IntKind.wrap .i64 (x3 + 1))
  ·exact aH rfl
theorem aa8 (x0 : Str) : Le (Option.map eP (nD x0)) (ao1 x0) := by
 refine Le.trans ?_ (le_of_eq ((bC akf).trans (aqs _ _ _  x0)).symm)
 unfold nD
 exact aaL fuel x0 0
theorem vC (p0 : Str) : Le (Option.map eP (nC p0)) (aX SE 102 [.d (.str p0)] [] []) := by
 refine aQ akf rfl ?_
 refine Le.trans ?_ (le_of_eq (asu _ _ _  p0).symm)
 unfold nC
 refine lC ?_ ?_
 ·exact aH rfl
 ·refine lC ?_ ?_
  ·exact aH rfl
  ·exact aa8 p0
def ahH (C : aP) (Λ2 J : Lam) (a0 : (List (List D))) (a1 : Int) : Res := lab SE C Λ2 J 49 0 [1, 1, 0, 1, 0] (bA [(0, .d (.sl aD.ks a0)), (3, .d (.int .i64 a1))] [] [] [] [])
section
variable (Γ : Fun) (γ102 : Gm (Bool)) (Λ2 J : Lam)
def C49 : aP := aZ (aO Γ) 102 eP γ102
theorem T49 (p0 : (List aD)) : bB SE (C49 Γ γ102) Λ2 J 49 [.d (.sl aD.ks (List.map aD.enc p0))] [] [] =
 cond (decide ((List.length (List.map aD.enc p0) : Int) > 8)) (
 (some (.ret [.d (.int .i64 5)] [] []))) (
 ahH (C49 Γ γ102) Λ2 J (List.map aD.enc p0) 0) := by kernel_rfl
theorem aqG (x0 : (List aD)) (x3 : Int) : cG SE (C49 Γ γ102) Λ2 J 49 0 [1, 1, 0, 1, 0] (bA [(0, .d (.sl aD.ks (List.map aD.enc x0))), (3, .d (.int .i64 x3))] [] [] [] []) =
 cond (decide (x3 < (List.length (List.map aD.enc x0) : Int))) (
 cond (decide (0 ≤ x3) && decide (x3 < (List.length (List.map aD.enc x0) : Int))) (
  γ102 [.d (.str (aV (cellAt (elemAt (List.map aD.enc x0) (Int.toNat x3)) 0)))] [] [] fun r0 =>
  cond (!r0) (
  (some (.ret [.d (.int .i64 16)] [] []))) (
  cond (decide (0 ≤ x3) && decide (x3 < (List.length (List.map aD.enc x0) : Int))) (
  cond (decide ((List.length (aV (cellAt (elemAt (List.map aD.enc x0) (Int.toNat x3)) 1)) : Int) > 160)) (
   (some (.ret [.d (.int .i64 5)] [] []))) (
  cond (decide (x3 > 0)) (
   cond (decide (0 ≤ x3) && decide (x3 < (List.length (List.map aD.enc x0) : Int))) (
   cond (decide (0 ≤ (IntKind.wrap .i64 (x3 - 1))) && decide ((IntKind.wrap .i64 (x3 - 1)) < (List.length (List.map aD.enc x0) : Int))) (
    cond (Op.bytesLess (aV (cellAt (elemAt (List.map aD.enc x0) (Int.toNat x3)) 0)) (aV (cellAt (elemAt (List.map aD.enc x0) (Int.toNat (IntKind.wrap .i64 (x3 - 1)))) 0)) || (aV (cellAt (elemAt (List.map aD.enc x0) (Int.toNat x3)) 0)) == (aV (cellAt (elemAt (List.map aD.enc x0) (Int.toNat (IntKind.wrap .i64 (x3 - 1)))) 0))) (
    (some (.ret [.d (.int .i64 16)] [] []))) (
    ahH (C49 Γ γ102) Λ2 J (List.map aD.enc x0) (IntKind.wrap .i64 (x3 + 1)))) none) none) (
  ahH (C49 Γ γ102) Λ2 J (List.map aD.enc x0) (IntKind.wrap .i64 (x3 + 1))))) none)) none) (
 (some (.ret [.d (.int .i64 0)] [] []))) := by kernel_rfl
end
abbrev X49 : aP := C49 gG (cT 102 eP)
theorem apk : X49 = aO gG := by unfold X49 C49; rw [aK fun _ h => h]
noncomputable abbrev aqF (a0 : (List (List D))) (a1 : Int) : Res := ahH X49 (bY SE gG (SE.hl 49) (SE.hr 49)) (J0 SE X49) a0 a1
theorem zD : ∀ (fu : Nat) (x0 : (List aD)) (x3 : Int), Le (Option.map eW (eH fu x0 x3)) (aqF (List.map aD.enc x0) x3) := by
 intro fu
 induction fu with
 | zero => intros; exact le_none
 | succ fu ih =>
  intro x0 x3
  refine Le.trans ?_ (le_of_eq ((bC apk).trans (aqG _ _ _ _  x0 x3)).symm)
  unfold eH
  refine lD (by simp only [EN]) ?_ ?_
  ·refine lG (by simp only [EN]) ?_
   refine aM (good := good) eX acz (by first | (simp only [EN]; exact vC ((List.getD x0 (Int.toNat x3) default).Key)) | exact vC ((List.getD x0 (Int.toNat x3) default).Key)) fun r0 _ => ?_
   refine lC ?_ ?_
   ·exact aH rfl
   ·refine lG (by simp only [EN]) ?_
    refine lD (by simp only [EN]) ?_ ?_
    ·exact aH rfl
    ·refine lC ?_ ?_
     ·refine lG (by simp only [EN]) ?_
      refine lG (by simp only [EN]) ?_
      refine lD (by simp only [EN]) ?_ ?_
      ·exact aH rfl
      ·exact ih x0 (IntKind.wrap .i64 (x3 + 1))
     ·exact ih x0 (IntKind.wrap .i64 (x3 + 1))
  ·exact aH rfl
theorem abG (p0 : (List aD)) : Le (Option.map eW (lM p0)) (aX SE 49 [.d (.sl aD.ks (List.map aD.enc p0))] [] []) := by
 refine aQ apk rfl ?_
 refine Le.trans ?_ (le_of_eq (T49 _ _ _ _  p0).symm)
 unfold lM
 refine lD (by simp only [EN]) ?_ ?_
 ·exact aH rfl
 ·exact zD fuel p0 0
def ah9 (C : aP) (Λ2 J : Lam) (a0 : (List D)) : Res := lab SE C Λ2 J 13 0 [1, 1, 1, 1, 1, 1, 0, 0] (bA [(1, .ptr 1000000000 0)] [⟨34, (List.map AV.d a0)⟩] [] [] [])
def anG (C : aP) (Λ2 J : Lam) (a0 : (List D)) : Res := lab SE C Λ2 J 13 0 [1, 1, 1, 1, 1, 0, 0] (bA [(1, .ptr 1000000000 0)] [⟨34, (List.map AV.d a0)⟩] [] [] [])
def anC (C : aP) (Λ2 J : Lam) (a0 : (List D)) : Res := lab SE C Λ2 J 13 0 [1, 1, 1, 1, 0, 0] (bA [(1, .ptr 1000000000 0)] [⟨34, (List.map AV.d a0)⟩] [] [] [])
section
variable (Γ : Fun) (γ47 : Gm (Bool)) (γ48 : Gm (Bool)) (γ49 : Gm (Int)) (Λ2 J : Lam)
def C13 : aP := aZ (aZ (aZ (aO Γ) 47 gS γ47) 48 cE γ48) 49 eW γ49
theorem T13 (p0 : aA) : bB SE (C13 Γ γ47 γ48 γ49) Λ2 J 13 [aA.av p0] [] [] =
 γ47 [.d (.str p0.Topic)] [] [] fun r0 =>
 cond (!r0) (
 (some (.ret [.d (.int .i64 12)] [] []))) (
 cond (decide ((List.length p0.Payload : Int) > 256)) (
 (some (.ret [.d (.int .i64 5)] [] []))) (
 cond (decide (p0.Level < 0)) (
 (some (.ret [.d (.int .i64 14)] [] []))) (
 cond (decide (p0.Level > 2)) (
 (some (.ret [.d (.int .i64 14)] [] []))) (
 anC (C13 Γ γ47 γ48 γ49) Λ2 J (aA.enc p0))))) := by kernel_rfl
theorem apK (b0 : aA) : cG SE (C13 Γ γ47 γ48 γ49) Λ2 J 13 0 [1, 1, 1, 1, 1, 1, 0, 0] (bA [(1, .ptr 1000000000 0)] [⟨34, (List.map AV.d (aA.enc b0))⟩] [] [] []) =
 cond (decide (b0.Seq < 0)) (
 (some (.ret [.d (.int .i64 1)] [] []))) (
 cond (decide (b0.Seq > 1099511627776)) (
 (some (.ret [.d (.int .i64 1)] [] []))) (
 γ49 [.d (.sl aD.ks (List.map aD.enc b0.Props))] [] [] fun r2 =>
 (some (.ret [.d (.int .i64 r2)] [] [])))) := by kernel_rfl
theorem aq5 (b0 : aA) : cG SE (C13 Γ γ47 γ48 γ49) Λ2 J 13 0 [1, 1, 1, 1, 1, 0, 0] (bA [(1, .ptr 1000000000 0)] [⟨34, (List.map AV.d (aA.enc b0))⟩] [] [] []) =
 cond (!(b0.From == ([] : Str))) (
 γ48 [.d (.str b0.From)] [] [] fun r1 =>
 cond (!r1) (
  (some (.ret [.d (.int .i64 11)] [] []))) (
 ah9 (C13 Γ γ47 γ48 γ49) Λ2 J (aA.enc b0))) (
 ah9 (C13 Γ γ47 γ48 γ49) Λ2 J (aA.enc b0)) := by kernel_rfl
theorem aq9 (b0 : aA) : cG SE (C13 Γ γ47 γ48 γ49) Λ2 J 13 0 [1, 1, 1, 1, 0, 0] (bA [(1, .ptr 1000000000 0)] [⟨34, (List.map AV.d (aA.enc b0))⟩] [] [] []) =
 cond (decide (b0.Priority < 0)) (
 (some (.ret [.d (.int .i64 1)] [] []))) (
 cond (decide (b0.Priority > 9)) (
 (some (.ret [.d (.int .i64 1)] [] []))) (
 cond (decide (b0.Expires < 0)) (
 (some (.ret [.d (.int .i64 1)] [] []))) (
 cond (decide (b0.Expires > 1099511627776)) (
 (some (.ret [.d (.int .i64 1)] [] []))) (
 anG (C13 Γ γ47 γ48 γ49) Λ2 J (aA.enc b0))))) := by kernel_rfl
end
abbrev X13 : aP := C13 gG (cT 47 gS) (cT 48 cE) (cT 49 eW)
theorem aku : X13 = aO gG := by unfold X13 C13; rw [aK fun _ h => h, aK fun _ h => h, aK fun _ h => h]
noncomputable abbrev aqt (a0 : (List D)) : Res := ah9 X13 (bY SE gG (SE.hl 13) (SE.hr 13)) (J0 SE X13) a0
noncomputable abbrev arA (a0 : (List D)) : Res := anG X13 (bY SE gG (SE.hl 13) (SE.hr 13)) (J0 SE X13) a0
noncomputable abbrev ark (a0 : (List D)) : Res := anC X13 (bY SE gG (SE.hl 13) (SE.hr 13)) (J0 SE X13) a0
theorem pZ (b0 : aA) : Le (Option.map bV (jD b0)) (aqt (aA.enc b0)) := by
 refine Le.trans ?_ (le_of_eq ((bC aku).trans (apK _ _ _ _ _ _  b0)).symm)
 unfold jD
 refine lC ?_ ?_
 ·exact aH rfl
 ·refine lC ?_ ?_
  ·exact aH rfl
  ·refine aM (good := good) eX aaM (abG _) fun r2 _ => ?_
   exact aH rfl
theorem zB (b0 : aA) : Le (Option.map bV (lY b0)) (arA (aA.enc b0)) := by
 refine Le.trans ?_ (le_of_eq ((bC aku).trans (aq5 _ _ _ _ _ _  b0)).symm)
 unfold lY
 refine lC ?_ ?_
 ·refine aM (good := good) eX l6 (mT _) fun r1 _ => ?_
  refine lC ?_ ?_
  ·exact aH rfl
  ·exact pZ b0
 ·exact pZ b0
theorem zA (b0 : aA) : Le (Option.map bV (l1 b0)) (ark (aA.enc b0)) := by
 refine Le.trans ?_ (le_of_eq ((bC aku).trans (aq9 _ _ _ _ _ _  b0)).symm)
 unfold l1
 refine lC ?_ ?_
 ·exact aH rfl
 ·refine lC ?_ ?_
  ·exact aH rfl
  ·refine lC ?_ ?_
   ·exact aH rfl
   ·refine lC ?_ ?_
    ·exact aH rfl
    ·exact zB b0
theorem mA (p0 : aA) : Le (Option.map bV (iE p0)) (aX SE 13 [aA.av p0] [] []) := by
 refine aQ aku rfl ?_
 refine Le.trans ?_ (le_of_eq (T13 _ _ _ _ _ _  p0).symm)
 unfold iE
 refine aM (good := good) eX abf (abK _) fun r0 _ => ?_
 refine lC ?_ ?_
 ·exact aH rfl
 ·refine lC ?_ ?_
  ·exact aH rfl
  ·refine lC ?_ ?_
   ·exact aH rfl
   ·refine lC ?_ ?_
    ·exact aH rfl
    ·exact zA p0
def ajX (C : aP) (Λ2 J : Lam) (a0 : (List (List D))) (a1 : Int) : Res := lab SE C Λ2 J 43 0 [1, 1, 0, 1, 0] (bA [(0, .d (.sl aA.ks a0)), (3, .d (.int .i64 a1))] [] [] [] [])
section
variable (Γ : Fun) (γ13 : Gm (Int)) (Λ2 J : Lam)
def C43 : aP := aZ (aO Γ) 13 bV γ13
theorem T43 (p0 : (List aA)) : bB SE (C43 Γ γ13) Λ2 J 43 [.d (.sl aA.ks (List.map aA.enc p0))] [] [] =
 cond (decide ((List.length (List.map aA.enc p0) : Int) > 256)) (
 (some (.ret [.d (.int .i64 5)] [] []))) (
 ajX (C43 Γ γ13) Λ2 J (List.map aA.enc p0) 0) := by kernel_rfl
theorem asf (x0 : (List aA)) (x3 : Int) : cG SE (C43 Γ γ13) Λ2 J 43 0 [1, 1, 0, 1, 0] (bA [(0, .d (.sl aA.ks (List.map aA.enc x0))), (3, .d (.int .i64 x3))] [] [] [] []) =
 cond (decide (x3 < (List.length (List.map aA.enc x0) : Int))) (
 cond (decide (0 ≤ x3) && decide (x3 < (List.length (List.map aA.enc x0) : Int))) (
  γ13 [.agg [.d (.str (aV (cellAt (elemAt (List.map aA.enc x0) (Int.toNat x3)) 0))), .d (.str (aV (cellAt (elemAt (List.map aA.enc x0) (Int.toNat x3)) 1))), .d (.int .i64 (aL (cellAt (elemAt (List.map aA.enc x0) (Int.toNat x3)) 2))), .d (.bool (aY (cellAt (elemAt (List.map aA.enc x0) (Int.toNat x3)) 3))), .d (.int .i64 (aL (cellAt (elemAt (List.map aA.enc x0) (Int.toNat x3)) 4))), .d (.int .i64 (aL (cellAt (elemAt (List.map aA.enc x0) (Int.toNat x3)) 5))), .d (.str (aV (cellAt (elemAt (List.map aA.enc x0) (Int.toNat x3)) 6))), .d (.int .i64 (aL (cellAt (elemAt (List.map aA.enc x0) (Int.toNat x3)) 7))), .d (.sl aD.ks (dSl (cellAt (elemAt (List.map aA.enc x0) (Int.toNat x3)) 8)))]] [] [] fun r0 =>
  cond (r0 != 0) (
  (some (.ret [.d (.int .i64 r0)] [] []))) (
  ajX (C43 Γ γ13) Λ2 J (List.map aA.enc x0) (IntKind.wrap .i64 (x3 + 1)))) none) (
 (some (.ret [.d (.int .i64 0)] [] []))) := by kernel_rfl
end
abbrev X43 : aP := C43 gG (cT 13 bV)
theorem aoP : X43 = aO gG := by unfold X43 C43; rw [aK fun _ h => h]
noncomputable abbrev aqB (a0 : (List (List D))) (a1 : Int) : Res := ajX X43 (bY SE gG (SE.hl 43) (SE.hr 43)) (J0 SE X43) a0 a1
theorem y8 : ∀ (fu : Nat) (x0 : (List aA)) (x3 : Int), Le (Option.map eY (fK fu x0 x3)) (aqB (List.map aA.enc x0) x3) := by
 intro fu
 induction fu with
 | zero => intros; exact le_none
 | succ fu ih =>
  intro x0 x3
  refine Le.trans ?_ (le_of_eq ((bC aoP).trans (asf _ _ _ _  x0 x3)).symm)
  unfold fK
  refine lD (by simp only [EN]) ?_ ?_
  ·refine lG (by simp only [EN]) ?_
   refine aM (good := good) eX oK (by first | (simp only [EN]; exact mA (List.getD x0 (Int.toNat x3) default)) | exact mA (List.getD x0 (Int.toNat x3) default)) fun r0 _ => ?_
   refine lC ?_ ?_
   ·exact aH rfl
   ·exact ih x0 (IntKind.wrap .i64 (x3 + 1))
  ·exact aH rfl
theorem acg (p0 : (List aA)) : Le (Option.map eY (lV p0)) (aX SE 43 [.d (.sl aA.ks (List.map aA.enc p0))] [] []) := by
 refine aQ aoP rfl ?_
 refine Le.trans ?_ (le_of_eq (T43 _ _ _ _  p0).symm)
 unfold lV
 refine lD (by simp only [EN]) ?_ ?_
 ·exact aH rfl
 ·exact y8 fuel p0 0
def ahA (C : aP) (Λ2 J : Lam) (a0 : Int) (a1 : (List D)) : Res := lab SE C Λ2 J 95 0 [1, 1, 0, 1, 0] (bA [(1, .ptr 1000000000 0), (3, .d (.int .i64 a0))] [⟨27, (List.map AV.d a1)⟩] [] [] [])
section
variable (Γ : Fun)  (Λ2 J : Lam)
def C95 : aP := aO Γ
theorem T95 (p0 : aJ) : bB SE (C95 Γ) Λ2 J 95 [aJ.av p0] [] [] =
 cond (decide ((List.length (List.map (encI .i64) p0.Used) : Int) > 32)) (
 (some (.ret [.d (.int .i64 5)] [] []))) (
 ahA (C95 Γ) Λ2 J 0 (aJ.enc p0)) := by kernel_rfl
theorem aqZ (x3 : Int) (b0 : aJ) : cG SE (C95 Γ) Λ2 J 95 0 [1, 1, 0, 1, 0] (bA [(1, .ptr 1000000000 0), (3, .d (.int .i64 x3))] [⟨27, (List.map AV.d (aJ.enc b0))⟩] [] [] []) =
 cond (decide (x3 < (List.length (List.map (encI .i64) b0.Used) : Int))) (
 cond (decide (0 ≤ x3) && decide (x3 < (List.length (List.map (encI .i64) b0.Used) : Int))) (
  cond (decide ((aL (cellAt (elemAt (List.map (encI .i64) b0.Used) (Int.toNat x3)) 0)) < 1)) (
  (some (.ret [.d (.int .i64 15)] [] []))) (
  cond (decide (0 ≤ x3) && decide (x3 < (List.length (List.map (encI .i64) b0.Used) : Int))) (
  cond (decide ((aL (cellAt (elemAt (List.map (encI .i64) b0.Used) (Int.toNat x3)) 0)) > 65535)) (
   (some (.ret [.d (.int .i64 15)] [] []))) (
  cond (decide (x3 > 0)) (
   cond (decide (0 ≤ x3) && decide (x3 < (List.length (List.map (encI .i64) b0.Used) : Int))) (
   cond (decide (0 ≤ (IntKind.wrap .i64 (x3 - 1))) && decide ((IntKind.wrap .i64 (x3 - 1)) < (List.length (List.map (encI .i64) b0.Used) : Int))) (
    cond (decide ((aL (cellAt (elemAt (List.map (encI .i64) b0.Used) (Int.toNat x3)) 0)) ≤ (aL (cellAt (elemAt (List.map (encI .i64) b0.Used) (Int.toNat (IntKind.wrap .i64 (x3 - 1)))) 0)))) (
    (some (.ret [.d (.int .i64 15)] [] []))) (
    ahA (C95 Γ) Λ2 J (IntKind.wrap .i64 (x3 + 1)) (aJ.enc b0))) none) none) (
  ahA (C95 Γ) Λ2 J (IntKind.wrap .i64 (x3 + 1)) (aJ.enc b0)))) none)) none) (
 cond (decide (b0.Last < 0)) (
 (some (.ret [.d (.int .i64 1)] [] []))) (
 cond (decide (b0.Last > 65535)) (
 (some (.ret [.d (.int .i64 1)] [] []))) (
 (some (.ret [.d (.int .i64 0)] [] []))))) := by kernel_rfl
end
abbrev X95 : aP := C95 gG
theorem apy : X95 = aO gG := rfl
noncomputable abbrev aqJ (a0 : Int) (a1 : (List D)) : Res := ahA X95 (bY SE gG (SE.hl 95) (SE.hr 95)) (J0 SE X95) a0 a1
theorem y9 : ∀ (fu : Nat) (x3 : Int) (b0 : aJ), Le (Option.map c8 (cO fu x3 b0)) (aqJ x3 (aJ.enc b0)) := by
 intro fu
 induction fu with
 | zero => intros; exact le_none
 | succ fu ih =>
  intro x3 b0
  refine Le.trans ?_ (le_of_eq ((bC apy).trans (aqZ _ _ _  x3 b0)).symm)
  unfold cO
  refine lD (by simp only [EN]) ?_ ?_
  ·refine lG (by simp only [EN]) ?_
   refine lD (by simp only [EN]) ?_ ?_
   ·exact aH rfl
   ·refine lG (by simp only [EN]) ?_
    refine lD (by simp only [EN]) ?_ ?_
    ·exact aH rfl
    ·refine lC ?_ ?_
     ·refine lG (by simp only [EN]) ?_
      refine lG (by simp only [EN]) ?_
      refine lD (by simp only [EN]) ?_ ?_
      ·exact aH rfl
      ·exact ih (IntKind.wrap .i64 (x3 + 1)) b0
     ·exact ih (IntKind.wrap .i64 (x3 + 1)) b0
  ·refine lC ?_ ?_
   ·exact aH rfl
   ·refine lC ?_ ?_
    ·exact aH rfl
    ·exact aH rfl
theorem tC (p0 : aJ) : Le (Option.map c8 (fZ p0)) (aX SE 95 [aJ.av p0] [] []) := by
 refine aQ apy rfl ?_
 refine Le.trans ?_ (le_of_eq (T95 _ _ _  p0).symm)
 unfold fZ
 refine lD (by simp only [EN]) ?_ ?_
 ·exact aH rfl
 ·exact y9 fuel 0 p0
def aif (C : aP) (Λ2 J : Lam) (a0 : Int) (a1 : Int) (a2 : (List D)) : Res := lab SE C Λ2 J 148 0 [1, 0, 1, 0] (bA [(1, .d (.int .i64 a0)), (2, .ptr 1000000000 0), (5, .d (.int .i64 a1))] [⟨27, (List.map AV.d a2)⟩] [] [] [])
section
variable (Γ : Fun)  (Λ2 J : Lam)
def ah5 : aP := aO Γ
theorem asG (p0 : aJ) (p1 : Int) : bB SE (ah5 Γ) Λ2 J 148 [aJ.av p0, .d (.int .i64 p1)] [] [] =
 aif (ah5 Γ) Λ2 J p1 0 (aJ.enc p0) := by kernel_rfl
theorem aoY (x1 : Int) (x5 : Int) (b0 : aJ) : cG SE (ah5 Γ) Λ2 J 148 0 [1, 0, 1, 0] (bA [(1, .d (.int .i64 x1)), (2, .ptr 1000000000 0), (5, .d (.int .i64 x5))] [⟨27, (List.map AV.d (aJ.enc b0))⟩] [] [] []) =
 cond (decide (x5 < (List.length (List.map (encI .i64) b0.Used) : Int))) (
 cond (decide (0 ≤ x5) && decide (x5 < (List.length (List.map (encI .i64) b0.Used) : Int))) (
  cond ((aL (cellAt (elemAt (List.map (encI .i64) b0.Used) (Int.toNat x5)) 0)) == x1) (
  (some (.ret [.d (.bool true)] [] []))) (
  aif (ah5 Γ) Λ2 J x1 (IntKind.wrap .i64 (x5 + 1)) (aJ.enc b0))) none) (
 (some (.ret [.d (.bool false)] [] []))) := by kernel_rfl
end
abbrev aml : aP := ah5 gG
theorem anr : aml = aO gG := rfl
noncomputable abbrev aod (a0 : Int) (a1 : Int) (a2 : (List D)) : Res := aif aml (bY SE gG (SE.hl 148) (SE.hr 148)) (J0 SE aml) a0 a1 a2
theorem aay : ∀ (fu : Nat) (x1 : Int) (x5 : Int) (b0 : aJ), Le (Option.map gF (hH fu x1 x5 b0)) (aod x1 x5 (aJ.enc b0)) := by
 intro fu
 induction fu with
 | zero => intros; exact le_none
 | succ fu ih =>
  intro x1 x5 b0
  refine Le.trans ?_ (le_of_eq ((bC anr).trans (aoY _ _ _  x1 x5 b0)).symm)
  unfold hH
  refine lD (by simp only [EN]) ?_ ?_
  ·refine lG (by simp only [EN]) ?_
   refine lD (by simp only [EN]) ?_ ?_
   ·exact aH rfl
   ·exact ih x1 (IntKind.wrap .i64 (x5 + 1)) b0
  ·exact aH rfl
theorem vO (p0 : aJ) (p1 : Int) : Le (Option.map gF (m8 p0 p1)) (aX SE 148 [aJ.av p0, .d (.int .i64 p1)] [] []) := by
 refine aQ anr rfl ?_
 refine Le.trans ?_ (le_of_eq (asG _ _ _  p0 p1).symm)
 unfold m8
 exact aay fuel p1 0 p0
def aiO (C : aP) (Λ2 J : Lam) (a0 : (List (List D))) (a1 : Int) (a2 : Int) : Res := lab SE C Λ2 J 115 0 [1, 0, 1, 0] (bA [(0, .d (.sl aB.ks a0)), (1, .d (.int .i64 a1)), (5, .d (.int .i64 a2))] [] [] [] [])
section
variable (Γ : Fun)  (Λ2 J : Lam)
def aiw : aP := aO Γ
theorem as7 (p0 : (List aB)) (p1 : Int) : bB SE (aiw Γ) Λ2 J 115 [.d (.sl aB.ks (List.map aB.enc p0)), .d (.int .i64 p1)] [] [] =
 aiO (aiw Γ) Λ2 J (List.map aB.enc p0) p1 0 := by kernel_rfl
theorem apN (x0 : (List aB)) (x1 : Int) (x5 : Int) : cG SE (aiw Γ) Λ2 J 115 0 [1, 0, 1, 0] (bA [(0, .d (.sl aB.ks (List.map aB.enc x0))), (1, .d (.int .i64 x1)), (5, .d (.int .i64 x5))] [] [] [] []) =
 cond (decide (x5 < (List.length (List.map aB.enc x0) : Int))) (
 cond (decide (0 ≤ x5) && decide (x5 < (List.length (List.map aB.enc x0) : Int))) (
  cond ((aL (cellAt (elemAt (List.map aB.enc x0) (Int.toNat x5)) 0)) == x1) (
  (some (.ret [.d (.int .i64 x5)] [] []))) (
  aiO (aiw Γ) Λ2 J (List.map aB.enc x0) x1 (IntKind.wrap .i64 (x5 + 1)))) none) (
 (some (.ret [.d (.int .i64 (-1))] [] []))) := by kernel_rfl
end
abbrev am5 : aP := aiw gG
theorem ano : am5 = aO gG := rfl
noncomputable abbrev aor (a0 : (List (List D))) (a1 : Int) (a2 : Int) : Res := aiO am5 (bY SE gG (SE.hl 115) (SE.hr 115)) (J0 SE am5) a0 a1 a2
theorem abP : ∀ (fu : Nat) (x0 : (List aB)) (x1 : Int) (x5 : Int), Le (Option.map g9 (iA fu x0 x1 x5)) (aor (List.map aB.enc x0) x1 x5) := by
 intro fu
 induction fu with
 | zero => intros; exact le_none
 | succ fu ih =>
  intro x0 x1 x5
  refine Le.trans ?_ (le_of_eq ((bC ano).trans (apN _ _ _  x0 x1 x5)).symm)
  unfold iA
  refine lD (by simp only [EN]) ?_ ?_
  ·refine lG (by simp only [EN]) ?_
   refine lD (by simp only [EN]) ?_ ?_
   ·exact aH rfl
   ·exact ih x0 x1 (IntKind.wrap .i64 (x5 + 1))
  ·exact aH rfl
theorem wF (p0 : (List aB)) (p1 : Int) : Le (Option.map g9 (oJ p0 p1)) (aX SE 115 [.d (.sl aB.ks (List.map aB.enc p0)), .d (.int .i64 p1)] [] []) := by
 refine aQ ano rfl ?_
 refine Le.trans ?_ (le_of_eq (as7 _ _ _  p0 p1).symm)
 unfold oJ
 exact abP fuel p0 p1 0
def anB (C : aP) (Λ2 J : Lam) (a0 : (List D)) : Res := lab SE C Λ2 J 96 0 [1, 1, 1, 0] (bA [(5, .ptr 1000000000 0)] [⟨122, (List.map AV.d a0)⟩] [] [] [])
section
variable (Γ : Fun) (γ148 : Gm (Bool)) (γ115 : Gm (Int)) (γ13 : Gm (Int)) (Λ2 J : Lam)
def C96 : aP := aZ (aZ (aZ (aO Γ) 148 gF γ148) 115 g9 γ115) 13 bV γ13
theorem T96 (p0 : aG) (p1 : Int) : bB SE (C96 Γ γ148 γ115 γ13) Λ2 J 96 [aG.av p0, .d (.int .i64 p1)] [] [] =
 cond (decide (0 ≤ p1) && decide (p1 < (List.length (List.map aB.enc p0.Items) : Int))) (
 γ148 [aJ.av p0.Pool, .d (.int .i64 (aL (cellAt (elemAt (List.map aB.enc p0.Items) (Int.toNat p1)) 0)))] [] [] fun r0 =>
 cond (!r0) (
  (some (.ret [.d (.int .i64 15)] [] []))) (
 γ115 [.d (.sl aB.ks (List.map aB.enc p0.Items)), .d (.int .i64 (aL (cellAt (elemAt (List.map aB.enc p0.Items) (Int.toNat p1)) 0)))] [] [] fun r1 =>
 cond (decide (r1 < p1)) (
  (some (.ret [.d (.int .i64 15)] [] []))) (
 anB (C96 Γ γ148 γ115 γ13) Λ2 J [D.int .i64 (aL (cellAt (elemAt (List.map aB.enc p0.Items) (Int.toNat p1)) 0)), D.int .i64 (aL (cellAt (elemAt (List.map aB.enc p0.Items) (Int.toNat p1)) 1)), D.str (aV (cellAt (elemAt (List.map aB.enc p0.Items) (Int.toNat p1)) 2)), D.str (aV (cellAt (elemAt (List.map aB.enc p0.Items) (Int.toNat p1)) 3)), D.int .i64 (aL (cellAt (elemAt (List.map aB.enc p0.Items) (Int.toNat p1)) 4)), D.bool (aY (cellAt (elemAt (List.map aB.enc p0.Items) (Int.toNat p1)) 5)), D.int .i64 (aL (cellAt (elemAt (List.map aB.enc p0.Items) (Int.toNat p1)) 6)), D.int .i64 (aL (cellAt (elemAt (List.map aB.enc p0.Items) (Int.toNat p1)) 7)), D.str (aV (cellAt (elemAt (List.map aB.enc p0.Items) (Int.toNat p1)) 8)), D.int .i64 (aL (cellAt (elemAt (List.map aB.enc p0.Items) (Int.toNat p1)) 9)), D.sl aD.ks (dSl (cellAt (elemAt (List.map aB.enc p0.Items) (Int.toNat p1)) 10))]))) none := by kernel_rfl
theorem aq6 (b0 : aB) : cG SE (C96 Γ γ148 γ115 γ13) Λ2 J 96 0 [1, 1, 1, 0] (bA [(5, .ptr 1000000000 0)] [⟨122, (List.map AV.d (aB.enc b0))⟩] [] [] []) =
 γ13 [aA.av b0.Message] [] [] fun r2 =>
 cond (r2 != 0) (
 (some (.ret [.d (.int .i64 r2)] [] []))) (
 cond (b0.Message.Level == 0) (
 (some (.ret [.d (.int .i64 14)] [] []))) (
 cond (b0.State != 1) (
 cond (b0.State != 2) (
  (some (.ret [.d (.int .i64 9)] [] []))) (
 cond (b0.Message.Level == 1) (
  (some (.ret [.d (.int .i64 9)] [] []))) (
 (some (.ret [.d (.int .i64 0)] [] []))))) (
 (some (.ret [.d (.int .i64 0)] [] []))))) := by kernel_rfl
end
abbrev X96 : aP := C96 gG (cT 148 gF) (cT 115 g9) (cT 13 bV)
theorem aoD : X96 = aO gG := by unfold X96 C96; rw [aK fun _ h => h, aK fun _ h => h, aK fun _ h => h]
noncomputable abbrev arN (a0 : (List D)) : Res := anB X96 (bY SE gG (SE.hl 96) (SE.hr 96)) (J0 SE X96) a0
theorem rE (b0 : aB) : Le (Option.map fH (mX b0)) (arN (aB.enc b0)) := by
 refine Le.trans ?_ (le_of_eq ((bC aoD).trans (aq6 _ _ _ _ _ _  b0)).symm)
 unfold mX
 refine aM (good := good) eX oK (mA _) fun r2 _ => ?_
 refine lC ?_ ?_
 ·exact aH rfl
 ·refine lC ?_ ?_
  ·exact aH rfl
  ·refine lC ?_ ?_
   ·refine lC ?_ ?_
    ·exact aH rfl
    ·refine lC ?_ ?_
     ·exact aH rfl
     ·exact aH rfl
   ·exact aH rfl
theorem acD (p0 : aG) (p1 : Int) : Le (Option.map fH (mK p0 p1)) (aX SE 96 [aG.av p0, .d (.int .i64 p1)] [] []) := by
 refine aQ aoD rfl ?_
 refine Le.trans ?_ (le_of_eq (T96 _ _ _ _ _ _  p0 p1).symm)
 unfold mK
 refine lG (by simp only [EN]) ?_
 refine aM (good := good) eX acG (by first | (simp only [EN]; exact vO p0.Pool ((List.getD p0.Items (Int.toNat p1) default).ID)) | exact vO p0.Pool ((List.getD p0.Items (Int.toNat p1) default).ID)) fun r0 _ => ?_
 refine lC ?_ ?_
 ·exact aH rfl
 ·refine aM (good := good) eX adl (by first | (simp only [EN]; exact wF p0.Items ((List.getD p0.Items (Int.toNat p1) default).ID)) | exact wF p0.Items ((List.getD p0.Items (Int.toNat p1) default).ID)) fun r1 _ => ?_
  refine lC ?_ ?_
  ·exact aH rfl
  ·first | (simp only [EN]; exact rE (List.getD p0.Items (Int.toNat p1) default)) | exact rE (List.getD p0.Items (Int.toNat p1) default)
def ajy (C : aP) (Λ2 J : Lam) (a0 : Int) (a1 : (List D)) : Res := lab SE C Λ2 J 44 0 [1, 1, 1, 1, 1, 0, 1, 0] (bA [(1, .ptr 1000000000 0), (4, .d (.int .i64 a0))] [⟨29, (List.map AV.d a1)⟩] [] [] [])
def anE (C : aP) (Λ2 J : Lam) (a0 : (List D)) : Res := lab SE C Λ2 J 44 0 [1, 1, 0] (bA [(1, .ptr 1000000000 0)] [⟨29, (List.map AV.d a0)⟩] [] [] [])
section
variable (Γ : Fun) (γ95 : Gm (Int)) (γ96 : Gm (Int)) (Λ2 J : Lam)
def C44 : aP := aZ (aZ (aO Γ) 95 c8 γ95) 96 fH γ96
theorem T44 (p0 : aG) : bB SE (C44 Γ γ95 γ96) Λ2 J 44 [aG.av p0] [] [] =
 cond (decide (p0.Limit < 0)) (
 (some (.ret [.d (.int .i64 1)] [] []))) (
 cond (decide (p0.Limit > 32)) (
 (some (.ret [.d (.int .i64 1)] [] []))) (
 anE (C44 Γ γ95 γ96) Λ2 J (aG.enc p0))) := by kernel_rfl
theorem aqy (x4 : Int) (b0 : aG) : cG SE (C44 Γ γ95 γ96) Λ2 J 44 0 [1, 1, 1, 1, 1, 0, 1, 0] (bA [(1, .ptr 1000000000 0), (4, .d (.int .i64 x4))] [⟨29, (List.map AV.d (aG.enc b0))⟩] [] [] []) =
 cond (decide (x4 < (List.length (List.map aB.enc b0.Items) : Int))) (
 γ96 [aG.av b0, .d (.int .i64 x4)] [] [] fun r1 =>
 cond (r1 != 0) (
  (some (.ret [.d (.int .i64 r1)] [] []))) (
 ajy (C44 Γ γ95 γ96) Λ2 J (IntKind.wrap .i64 (x4 + 1)) (aG.enc b0))) (
 cond (decide ((List.length (List.map aB.enc b0.Items) : Int) < (List.length (List.map (encI .i64) b0.Pool.Used) : Int))) (
 (some (.ret [.d (.int .i64 15)] [] []))) (
 (some (.ret [.d (.int .i64 0)] [] [])))) := by kernel_rfl
theorem ars (b0 : aG) : cG SE (C44 Γ γ95 γ96) Λ2 J 44 0 [1, 1, 0] (bA [(1, .ptr 1000000000 0)] [⟨29, (List.map AV.d (aG.enc b0))⟩] [] [] []) =
 γ95 [aJ.av b0.Pool] [] [] fun r0 =>
 cond (r0 != 0) (
 (some (.ret [.d (.int .i64 r0)] [] []))) (
 cond (decide ((List.length (List.map aB.enc b0.Items) : Int) > 32)) (
 (some (.ret [.d (.int .i64 5)] [] []))) (
 ajy (C44 Γ γ95 γ96) Λ2 J 0 (aG.enc b0))) := by kernel_rfl
end
abbrev X44 : aP := C44 gG (cT 95 c8) (cT 96 fH)
theorem ana : X44 = aO gG := by unfold X44 C44; rw [aK fun _ h => h, aK fun _ h => h]
noncomputable abbrev arw (a0 : Int) (a1 : (List D)) : Res := ajy X44 (bY SE gG (SE.hl 44) (SE.hr 44)) (J0 SE X44) a0 a1
noncomputable abbrev ar7 (a0 : (List D)) : Res := anE X44 (bY SE gG (SE.hl 44) (SE.hr 44)) (J0 SE X44) a0
theorem y0 : ∀ (fu : Nat) (x4 : Int) (b0 : aG), Le (Option.map eC (fM fu x4 b0)) (arw x4 (aG.enc b0)) := by
 intro fu
 induction fu with
 | zero => intros; exact le_none
 | succ fu ih =>
  intro x4 b0
  refine Le.trans ?_ (le_of_eq ((bC ana).trans (aqy _ _ _ _ _  x4 b0)).symm)
  unfold fM
  refine lD (by simp only [EN]) ?_ ?_
  ·refine aM (good := good) eX ab1 (acD _ _) fun r1 _ => ?_
   refine lC ?_ ?_
   ·exact aH rfl
   ·exact ih (IntKind.wrap .i64 (x4 + 1)) b0
  ·refine lD (by simp only [EN]) ?_ ?_
   ·exact aH rfl
   ·exact aH rfl
theorem yZ (b0 : aG) : Le (Option.map eC (l9 b0)) (ar7 (aG.enc b0)) := by
 refine Le.trans ?_ (le_of_eq ((bC ana).trans (ars _ _ _ _ _  b0)).symm)
 unfold l9
 refine aM (good := good) eX sH (tC _) fun r0 _ => ?_
 refine lC ?_ ?_
 ·exact aH rfl
 ·refine lD (by simp only [EN]) ?_ ?_
  ·exact aH rfl
  ·exact y0 fuel 0 b0
theorem abA (p0 : aG) : Le (Option.map eC (lQ p0)) (aX SE 44 [aG.av p0] [] []) := by
 refine aQ ana rfl ?_
 refine Le.trans ?_ (le_of_eq (T44 _ _ _ _ _  p0).symm)
 unfold lQ
 refine lC ?_ ?_
 ·exact aH rfl
 ·refine lC ?_ ?_
  ·exact aH rfl
  ·exact yZ p0
section
variable (Γ : Fun) (γ95 : Gm (Int)) (Λ2 J : Lam)
def C45 : aP := aZ (aO Γ) 95 c8 γ95
theorem T45 (p0 : aU) : bB SE (C45 Γ γ95) Λ2 J 45 [aU.av p0] [] [] =
 γ95 [aJ.av (aJ.mk p0.IDs 0)] [] [] fun r0 =>
 (some (.ret [.d (.int .i64 r0)] [] [])) := by kernel_rfl
end
abbrev X45 : aP := C45 gG (cT 95 c8)
theorem atb : X45 = aO gG := by unfold X45 C45; rw [aK fun _ h => h]
theorem abX (p0 : aU) : Le (Option.map g4 (lS p0)) (aX SE 45 [aU.av p0] [] []) := by
 refine aQ atb rfl ?_
 refine Le.trans ?_ (le_of_eq (T45 _ _ _ _  p0).symm)
 unfold lS
 refine aM (good := good) eX sH (tC _) fun r0 _ => ?_
 exact aH rfl
def aiG (C : aP) (Λ2 J : Lam) (a0 : (List (List D))) (a1 : (List (List D))) (a2 : Int) : Res := lab SE C Λ2 J 149 0 [1, 1, 0, 1, 0] (bA [(0, .d (.sl aD.ks a0)), (1, .d (.sl aD.ks a1)), (5, .d (.int .i64 a2))] [] [] [] [])
section
variable (Γ : Fun)  (Λ2 J : Lam)
def aiW : aP := aO Γ
theorem atf (p0 : (List aD)) (p1 : (List aD)) : bB SE (aiW Γ) Λ2 J 149 [.d (.sl aD.ks (List.map aD.enc p0)), .d (.sl aD.ks (List.map aD.enc p1))] [] [] =
 cond ((List.length (List.map aD.enc p0) : Int) != (List.length (List.map aD.enc p1) : Int)) (
 (some (.ret [.d (.bool false)] [] []))) (
 aiG (aiW Γ) Λ2 J (List.map aD.enc p0) (List.map aD.enc p1) 0) := by kernel_rfl
theorem apZ (x0 : (List aD)) (x1 : (List aD)) (x5 : Int) : cG SE (aiW Γ) Λ2 J 149 0 [1, 1, 0, 1, 0] (bA [(0, .d (.sl aD.ks (List.map aD.enc x0))), (1, .d (.sl aD.ks (List.map aD.enc x1))), (5, .d (.int .i64 x5))] [] [] [] []) =
 cond (decide (x5 < (List.length (List.map aD.enc x0) : Int))) (
 cond (decide (0 ≤ x5) && decide (x5 < (List.length (List.map aD.enc x0) : Int))) (
  cond (decide (0 ≤ x5) && decide (x5 < (List.length (List.map aD.enc x1) : Int))) (
  cond (!(((aV (cellAt (elemAt (List.map aD.enc x0) (Int.toNat x5)) 0)) == (aV (cellAt (elemAt (List.map aD.enc x1) (Int.toNat x5)) 0))) && (((aV (cellAt (elemAt (List.map aD.enc x0) (Int.toNat x5)) 1)) == (aV (cellAt (elemAt (List.map aD.enc x1) (Int.toNat x5)) 1))) && true))) (
   (some (.ret [.d (.bool false)] [] []))) (
  aiG (aiW Γ) Λ2 J (List.map aD.enc x0) (List.map aD.enc x1) (IntKind.wrap .i64 (x5 + 1)))) none) none) (
 (some (.ret [.d (.bool true)] [] []))) := by kernel_rfl
end
abbrev amn : aP := aiW gG
theorem anj : amn = aO gG := rfl
noncomputable abbrev aoq (a0 : (List (List D))) (a1 : (List (List D))) (a2 : Int) : Res := aiG amn (bY SE gG (SE.hl 149) (SE.hr 149)) (J0 SE amn) a0 a1 a2
theorem vT : ∀ (fu : Nat) (x0 : (List aD)) (x1 : (List aD)) (x5 : Int), Le (Option.map dG (dO fu x0 x1 x5)) (aoq (List.map aD.enc x0) (List.map aD.enc x1) x5) := by
 intro fu
 induction fu with
 | zero => intros; exact le_none
 | succ fu ih =>
  intro x0 x1 x5
  refine Le.trans ?_ (le_of_eq ((bC anj).trans (apZ _ _ _  x0 x1 x5)).symm)
  unfold dO
  refine lD (by simp only [EN]) ?_ ?_
  ·refine lG (by simp only [EN]) ?_
   refine lG (by simp only [EN]) ?_
   refine lD (by simp only [EN]) ?_ ?_
   ·exact aH rfl
   ·exact ih x0 x1 (IntKind.wrap .i64 (x5 + 1))
  ·exact aH rfl
theorem xK (p0 : (List aD)) (p1 : (List aD)) : Le (Option.map dG (jE p0 p1)) (aX SE 149 [.d (.sl aD.ks (List.map aD.enc p0)), .d (.sl aD.ks (List.map aD.enc p1))] [] []) := by
 refine aQ anj rfl ?_
 refine Le.trans ?_ (le_of_eq (atf _ _ _  p0 p1).symm)
 unfold jE
 refine lD (by simp only [EN]) ?_ ?_
 ·exact aH rfl
 ·exact vT fuel p0 p1 0
section
variable (Γ : Fun) (γ149 : Gm (Bool)) (Λ2 J : Lam)
def C97 : aP := aZ (aO Γ) 149 dG γ149
theorem T97 (p0 : aA) (p1 : aA) : bB SE (C97 Γ γ149) Λ2 J 97 [aA.av p0, aA.av p1] [] [] =
 cond (p0.Topic == p1.Topic) (
 cond (p0.Payload == p1.Payload) (
  cond (p0.Level == p1.Level) (
  cond (p0.Retain == p1.Retain) (
   cond (p0.Priority == p1.Priority) (
   cond (p0.Expires == p1.Expires) (
    cond (p0.From == p1.From) (
    cond (p0.Seq == p1.Seq) (
     γ149 [.d (.sl aD.ks (List.map aD.enc p0.Props)), .d (.sl aD.ks (List.map aD.enc p1.Props))] [] [] fun r0 =>
     (some (.ret [.d (.bool r0)] [] []))) (
    (some (.ret [.d (.bool false)] [] [])))) (
    (some (.ret [.d (.bool false)] [] [])))) (
   (some (.ret [.d (.bool false)] [] [])))) (
   (some (.ret [.d (.bool false)] [] [])))) (
  (some (.ret [.d (.bool false)] [] [])))) (
  (some (.ret [.d (.bool false)] [] [])))) (
 (some (.ret [.d (.bool false)] [] [])))) (
 (some (.ret [.d (.bool false)] [] []))) := by kernel_rfl
end
abbrev X97 : aP := C97 gG (cT 149 dG)
theorem atV : X97 = aO gG := by unfold X97 C97; rw [aK fun _ h => h]
theorem tO (p0 : aA) (p1 : aA) : Le (Option.map hX (mH p0 p1)) (aX SE 97 [aA.av p0, aA.av p1] [] []) := by
 refine aQ atV rfl ?_
 refine Le.trans ?_ (le_of_eq (T97 _ _ _ _  p0 p1).symm)
 unfold mH
 refine lC ?_ ?_
 ·refine lC ?_ ?_
  ·refine lC ?_ ?_
   ·refine lC ?_ ?_
    ·refine lC ?_ ?_
     ·refine lC ?_ ?_
      ·refine lC ?_ ?_
       ·refine lC ?_ ?_
        ·refine aM (good := good) eX wN (xK _ _) fun r0 _ => ?_
         exact aH rfl
        ·exact aH rfl
       ·exact aH rfl
      ·exact aH rfl
     ·exact aH rfl
    ·exact aH rfl
   ·exact aH rfl
  ·exact aH rfl
 ·exact aH rfl
section
variable (Γ : Fun) (γ97 : Gm (Bool)) (γ13 : Gm (Int)) (Λ2 J : Lam)
def C46 : aP := aZ (aZ (aO Γ) 97 hX γ97) 13 bV γ13
theorem T46 (p0 : aN) : bB SE (C46 Γ γ97 γ13) Λ2 J 46 [aN.av p0] [] [] =
 cond (!p0.Set) (
 cond (p0.Delay != 0) (
  (some (.ret [.d (.int .i64 28)] [] []))) (
 γ97 [aA.av p0.Message, .agg [.d (.str ([] : Str)), .d (.str ([] : Str)), .d (.int .i64 0), .d (.bool false), .d (.int .i64 0), .d (.int .i64 0), .d (.str ([] : Str)), .d (.int .i64 0), .d (.sl aD.ks (List.map aD.enc []))]] [] [] fun r0 =>
 cond (!r0) (
  (some (.ret [.d (.int .i64 28)] [] []))) (
 (some (.ret [.d (.int .i64 0)] [] []))))) (
 cond (decide (p0.Delay < 0)) (
 (some (.ret [.d (.int .i64 1)] [] []))) (
 cond (decide (p0.Delay > 1099511627776)) (
 (some (.ret [.d (.int .i64 1)] [] []))) (
 γ13 [aA.av p0.Message] [] [] fun r1 =>
 (some (.ret [.d (.int .i64 r1)] [] []))))) := by kernel_rfl
end
abbrev X46 : aP := C46 gG (cT 97 hX) (cT 13 bV)
theorem atD : X46 = aO gG := by unfold X46 C46; rw [aK fun _ h => h, aK fun _ h => h]
theorem ab7 (p0 : aN) : Le (Option.map g6 (lT p0)) (aX SE 46 [aN.av p0] [] []) := by
 refine aQ atD rfl ?_
 refine Le.trans ?_ (le_of_eq (T46 _ _ _ _ _  p0).symm)
 unfold lT
 refine lC ?_ ?_
 ·refine lC ?_ ?_
  ·exact aH rfl
  ·refine aM (good := good) eX abw (by first | (simp only [EN]; exact tO p0.Message ((aA.mk ([] : Str) ([] : Str) 0 false 0 0 ([] : Str) 0 ([] : List aD)))) | exact tO p0.Message ((aA.mk ([] : Str) ([] : Str) 0 false 0 0 ([] : Str) 0 ([] : List aD)))) fun r0 _ => ?_
   refine lC ?_ ?_
   ·exact aH rfl
   ·exact aH rfl
 ·refine lC ?_ ?_
  ·exact aH rfl
  ·refine lC ?_ ?_
   ·exact aH rfl
   ·refine aM (good := good) eX oK (mA _) fun r1 _ => ?_
    exact aH rfl
def akl (C : aP) (Λ2 J : Lam) (a0 : (List (List D))) (a1 : Int) : Res := lab SE C Λ2 J 40 0 [1, 0, 1, 0] (bA [(0, .d (.sl [.int .i64] a0)), (3, .d (.int .i64 a1))] [] [] [] [])
section
variable (Γ : Fun)  (Λ2 J : Lam)
def C40 : aP := aO Γ
theorem T40 (p0 : (List Int)) : bB SE (C40 Γ) Λ2 J 40 [.d (.sl [.int .i64] (List.map (encI .i64) p0))] [] [] =
 akl (C40 Γ) Λ2 J (List.map (encI .i64) p0) 0 := by kernel_rfl
theorem arX (x0 : (List Int)) (x3 : Int) : cG SE (C40 Γ) Λ2 J 40 0 [1, 0, 1, 0] (bA [(0, .d (.sl [.int .i64] (List.map (encI .i64) x0))), (3, .d (.int .i64 x3))] [] [] [] []) =
 cond (decide (x3 < (List.length (List.map (encI .i64) x0) : Int))) (
 cond (decide (0 ≤ x3) && decide (x3 < (List.length (List.map (encI .i64) x0) : Int))) (
  cond ((aL (cellAt (elemAt (List.map (encI .i64) x0) (Int.toNat x3)) 0)) != 0) (
  cond (decide (0 ≤ x3) && decide (x3 < (List.length (List.map (encI .i64) x0) : Int))) (
   (some (.ret [.d (.int .i64 (aL (cellAt (elemAt (List.map (encI .i64) x0) (Int.toNat x3)) 0)))] [] []))) none) (
  akl (C40 Γ) Λ2 J (List.map (encI .i64) x0) (IntKind.wrap .i64 (x3 + 1)))) none) (
 (some (.ret [.d (.int .i64 0)] [] []))) := by kernel_rfl
end
abbrev X40 : aP := C40 gG
theorem apU : X40 = aO gG := rfl
noncomputable abbrev aq2 (a0 : (List (List D))) (a1 : Int) : Res := akl X40 (bY SE gG (SE.hl 40) (SE.hr 40)) (J0 SE X40) a0 a1
theorem y7 : ∀ (fu : Nat) (x0 : (List Int)) (x3 : Int), Le (Option.map dY (fL fu x0 x3)) (aq2 (List.map (encI .i64) x0) x3) := by
 intro fu
 induction fu with
 | zero => intros; exact le_none
 | succ fu ih =>
  intro x0 x3
  refine Le.trans ?_ (le_of_eq ((bC apU).trans (arX _ _ _  x0 x3)).symm)
  unfold fL
  refine lD (by simp only [EN]) ?_ ?_
  ·refine lG (by simp only [EN]) ?_
   refine lD (by simp only [EN]) ?_ ?_
   ·refine lG (by simp only [EN]) ?_
    exact aH (by first | rfl | simp only [EN, dY] <;> rfl)
   ·exact ih x0 (IntKind.wrap .i64 (x3 + 1))
  ·exact aH rfl
theorem abD (p0 : (List Int)) : Le (Option.map dY (lR p0)) (aX SE 40 [.d (.sl [.int .i64] (List.map (encI .i64) p0))] [] []) := by
 refine aQ apU rfl ?_
 refine Le.trans ?_ (le_of_eq (T40 _ _ _  p0).symm)
 unfold lR
 exact y7 fuel p0 0
section
variable (Γ : Fun) (γ41 : Gm (Int)) (γ42 : Gm (Int)) (γ43 : Gm (Int)) (γ44 : Gm (Int)) (γ45 : Gm (Int)) (γ46 : Gm (Int)) (γ40 : Gm (Int)) (Λ2 J : Lam)
def C12 : aP := aZ (aZ (aZ (aZ (aZ (aZ (aZ (aO Γ) 41 eG γ41) 42 fJ γ42) 43 eY γ43) 44 eC γ44) 45 g4 γ45) 46 g6 γ46) 40 dY γ40
theorem T12 (p0 : aC) : bB SE (C12 Γ γ41 γ42 γ43 γ44 γ45 γ46 γ40) Λ2 J 12 [aC.av p0] [] [] =
 γ41 [aC.av p0] [] [] fun r0 =>
 γ42 [.d (.sl aF.ks (List.map aF.enc p0.Subs))] [] [] fun r1 =>
 γ43 [.d (.sl aA.ks (List.map aA.enc p0.Queue))] [] [] fun r2 =>
 γ44 [aG.av p0.Out] [] [] fun r3 =>
 γ45 [aU.av p0.In] [] [] fun r4 =>
 γ46 [aN.av p0.Will] [] [] fun r5 =>
 γ40 [.d (.sl [.int .i64] (List.map (encI .i64) [r0, r1, r2, r3, r4, r5]))] [] [] fun r6 =>
 (some (.ret [.d (.int .i64 r6)] [] [])) := by kernel_rfl
end
abbrev X12 : aP := C12 gG (cT 41 eG) (cT 42 fJ) (cT 43 eY) (cT 44 eC) (cT 45 g4) (cT 46 g6) (cT 40 dY)
theorem asy : X12 = aO gG := by unfold X12 C12; rw [aK fun _ h => h, aK fun _ h => h, aK fun _ h => h, aK fun _ h => h, aK fun _ h => h, aK fun _ h => h, aK fun _ h => h]
theorem abC (p0 : aC) : Le (Option.map gP (lO p0)) (aX SE 12 [aC.av p0] [] []) := by
 refine aQ asy rfl ?_
 refine Le.trans ?_ (le_of_eq (T12 _ _ _ _ _ _ _ _ _ _  p0).symm)
 unfold lO
 refine aM (good := good) eX ab0 (acB _) fun r0 _ => ?_
 refine aM (good := good) eX ab3 (acu _) fun r1 _ => ?_
 refine aM (good := good) eX aa9 (acg _) fun r2 _ => ?_
 refine aM (good := good) eX abn (abA _) fun r3 _ => ?_
 refine aM (good := good) eX aaC (abX _) fun r4 _ => ?_
 refine aM (good := good) eX aa1 (ab7 _) fun r5 _ => ?_
 refine aM (good := good) eX aa2 (abD _) fun r6 _ => ?_
 exact aH rfl
section
variable (Γ : Fun)  (Λ2 J : Lam)
def C22 : aP := aO Γ
theorem T22 (p0 : Int) : bB SE (C22 Γ) Λ2 J 22 [.d (.int .i64 p0)] [] [] =
 cond (decide (p0 ≥ 0)) (
 (some (.ret [.d (.bool (decide (p0 ≤ 1099511627776)))] [] []))) (
 (some (.ret [.d (.bool false)] [] []))) := by kernel_rfl
end
abbrev X22 : aP := C22 gG
theorem atT : X22 = aO gG := rfl
theorem qZ (p0 : Int) : Le (Option.map dD (iR p0)) (aX SE 22 [.d (.int .i64 p0)] [] []) := by
 refine aQ atT rfl ?_
 refine Le.trans ?_ (le_of_eq (T22 _ _ _  p0).symm)
 unfold iR
 refine lC ?_ ?_
 ·exact aH rfl
 ·exact aH rfl
section
variable (Γ : Fun) (γ12 : Gm (Int)) (γ22 : Gm (Bool)) (Λ2 J : Lam)
def C18 : aP := aZ (aZ (aO Γ) 12 gP γ12) 22 dD γ22
theorem T18 (p0 : aC) (p1 : Int) : bB SE (C18 Γ γ12 γ22) Λ2 J 18 [aC.av p0, .d (.int .i64 p1)] [] [] =
 γ12 [aC.av p0] [] [] fun r0 =>
 cond (r0 == 0) (
 γ22 [.d (.int .i64 p1)] [] [] fun r1 =>
 (some (.ret [.d (.bool r1)] [] []))) (
 (some (.ret [.d (.bool false)] [] []))) := by kernel_rfl
end
abbrev X18 : aP := C18 gG (cT 12 gP) (cT 22 dD)
theorem ash : X18 = aO gG := by unfold X18 C18; rw [aK fun _ h => h, aK fun _ h => h]
theorem abW (p0 : aC) (p1 : Int) : Le (Option.map gV (lL p0 p1)) (aX SE 18 [aC.av p0, .d (.int .i64 p1)] [] []) := by
 refine aQ ash rfl ?_
 refine Le.trans ?_ (le_of_eq (T18 _ _ _ _ _  p0 p1).symm)
 unfold lL
 refine aM (good := good) eX aaU (abC _) fun r0 _ => ?_
 refine lC ?_ ?_
 ·refine aM (good := good) eX qO (qZ _) fun r1 _ => ?_
  exact aH rfl
 ·exact aH rfl
section
variable (Γ : Fun)  (Λ2 J : Lam)
def aqq : aP := aO Γ
theorem atM (p0 : (List aD)) : bB SE (aqq Γ) Λ2 J 138 [.d (.sl aD.ks (List.map aD.enc p0))] [] [] =
 cond (List.isEmpty (List.map aD.enc p0)) (
 uT (
  (some (.ret [.row 0] [] [⟨aD.ks, 130, 32, []⟩]))) (
  cond (decide ((List.length (List.map aD.enc []) + List.length (List.map aD.enc p0)) * 32 ≤ 140737488355328)) (
  (some (.ret [.row 0] [] [⟨aD.ks, 130, 32, ((List.map aD.enc []) ++ (List.map aD.enc p0))⟩]))) none)) (
 cond (decide ((List.length (List.map aD.enc []) + List.length (List.map aD.enc p0)) * 32 ≤ 140737488355328)) (
 (some (.ret [.row 0] [] [⟨aD.ks, 130, 32, ((List.map aD.enc []) ++ (List.map aD.enc p0))⟩]))) none) := by kernel_rfl
end
abbrev aub : aP := aqq gG
theorem arq : aub = aO gG := rfl
theorem kP (p0 : (List aD)) : Le (Option.map bP (cR p0)) (aX SE 138 [.d (.sl aD.ks (List.map aD.enc p0))] [] []) := by
 refine aQ arq rfl ?_
 refine Le.trans ?_ (le_of_eq (atM _ _ _  p0).symm)
 unfold cR
 refine lD (by simp only [EN]) ?_ ?_
 ·refine agM ?_ ?_
  ·exact aH rfl
  ·refine lG (by simp only [EN]) ?_
   exact aH rfl
 ·refine lG (by simp only [EN]) ?_
  exact aH rfl
section
variable (Γ : Fun) (γ138 : Gm ((List aD))) (Λ2 J : Lam)
def C80 : aP := aZ (aO Γ) 138 bP γ138
theorem T80 (p0 : aA) : bB SE (C80 Γ γ138) Λ2 J 80 [aA.av p0] [] [] =
 γ138 [.d (.sl aD.ks (List.map aD.enc p0.Props))] [] [] fun r0 =>
 (some (.ret [.agg [.d (.str p0.Topic), .d (.str p0.Payload), .d (.int .i64 p0.Level), .d (.bool p0.Retain), .d (.int .i64 p0.Priority), .d (.int .i64 p0.Expires), .d (.str p0.From), .d (.int .i64 p0.Seq), .row 0]] [] [⟨aD.ks, 130, 32, (List.map aD.enc r0)⟩])) := by kernel_rfl
end
abbrev X80 : aP := C80 gG (cT 138 bP)
theorem aud : X80 = aO gG := by unfold X80 C80; rw [aK fun _ h => h]
theorem eV (p0 : aA) : Le (Option.map cQ (fS p0)) (aX SE 80 [aA.av p0] [] []) := by
 refine aQ aud rfl ?_
 refine Le.trans ?_ (le_of_eq (T80 _ _ _ _  p0).symm)
 unfold fS
 refine aM (good := good) eX kL (kP _) fun r0 _ => ?_
 exact aH rfl
section
variable (Γ : Fun)  (Λ2 J : Lam)
def C81 : aP := aO Γ
theorem T81 (p0 : Int) : bB SE (C81 Γ) Λ2 J 81 [.d (.int .i64 p0)] [] [] =
 cond (decide (p0 < 0)) (
 (some (.ret [.agg [.d (.int .i64 (if 32 < 0 then 32 else 0)), .row 0, .row 1, .d (.int .i64 0)]] [] [⟨aB.ks, 122, 128, (List.map aB.enc [])⟩, ⟨[.int .i64], 3, 8, (List.map (encI .i64) [])⟩]))) (
 (some (.ret [.agg [.d (.int .i64 (if 32 < p0 then 32 else p0)), .row 0, .row 1, .d (.int .i64 0)]] [] [⟨aB.ks, 122, 128, (List.map aB.enc [])⟩, ⟨[.int .i64], 3, 8, (List.map (encI .i64) [])⟩]))) := by kernel_rfl
end
abbrev X81 : aP := C81 gG
theorem auf : X81 = aO gG := rfl
theorem afK (p0 : Int) : Le (Option.map kK (xH p0)) (aX SE 81 [.d (.int .i64 p0)] [] []) := by
 refine aQ auf rfl ?_
 refine Le.trans ?_ (le_of_eq (T81 _ _ _  p0).symm)
 unfold xH
 refine lC ?_ ?_
 ·exact aH rfl
 ·exact aH rfl
section
variable (Γ : Fun) (γ80 : Gm (aA)) (γ81 : Gm (aG)) (Λ2 J : Lam)
def C31 : aP := aZ (aZ (aO Γ) 80 cQ γ80) 81 kK γ81
theorem T31 (p0 : aE) (p1 : Int) : bB SE (C31 Γ γ80 γ81) Λ2 J 31 [aE.av p0, .d (.int .i64 p1)] [] [] =
 γ80 [aA.av p0.Will.Message] [] [] fun r0 =>
 γ81 [.d (.int .i64 p0.Window)] [] [] fun r1 =>
 (some (.ret [.agg [.d (.str p0.Client), .d (.str p0.User), .d (.bool true), .d (.int .i64 p1), .d (.int .i64 p0.Expiry), .d (.int .i64 0), .d (.int .i64 0), .row 0, .row 1, .d (.int .i64 r1.Limit), .row 2, .row 3, .d (.int .i64 r1.Pool.Last), .row 4, .d (.bool p0.Will.Set), .d (.int .i64 p0.Will.Delay), .d (.str r0.Topic), .d (.str r0.Payload), .d (.int .i64 r0.Level), .d (.bool r0.Retain), .d (.int .i64 r0.Priority), .d (.int .i64 r0.Expires), .d (.str r0.From), .d (.int .i64 r0.Seq), .row 5]] [] [⟨aF.ks, 60, 32, (List.map aF.enc [])⟩, ⟨aA.ks, 34, 112, (List.map aA.enc [])⟩, ⟨aB.ks, 122, 128, (List.map aB.enc r1.Items)⟩, ⟨[.int .i64], 3, 8, (List.map (encI .i64) r1.Pool.Used)⟩, ⟨[.int .i64], 3, 8, (List.map (encI .i64) [])⟩, ⟨aD.ks, 130, 32, (List.map aD.enc r0.Props)⟩])) := by kernel_rfl
end
abbrev X31 : aP := C31 gG (cT 80 cQ) (cT 81 kK)
theorem asL : X31 = aO gG := by unfold X31 C31; rw [aK fun _ h => h, aK fun _ h => h]
theorem aaz (p0 : aE) (p1 : Int) : Le (Option.map lA (aab p0 p1)) (aX SE 31 [aE.av p0, .d (.int .i64 p1)] [] []) := by
 refine aQ asL rfl ?_
 refine Le.trans ?_ (le_of_eq (T31 _ _ _ _ _  p0 p1).symm)
 unfold aab
 refine aM (good := good) eX jF (eV _) fun r0 _ => ?_
 refine aM (good := good) eX aeC (afK _) fun r1 _ => ?_
 exact aH rfl
section
variable (Γ : Fun)  (Λ2 J : Lam)
def apr : aP := aO Γ
theorem atC (p0 : Str) (p1 : Str) : bB SE (apr Γ) Λ2 J 163 [.d (.str p0), .d (.str p1)] [] [] =
 cond (decide ((List.length p0 : Int) ≥ (List.length p1 : Int))) (
 cond (decide (0 ≤ (List.length p1 : Int)) && decide ((List.length p1 : Int) ≤ ((List.length p0) : Int))) (
  (some (.ret [.d (.bool ((bU p0 none (some (List.length p1 : Int))) == p1))] [] []))) none) (
 (some (.ret [.d (.bool false)] [] []))) := by kernel_rfl
end
abbrev asK : aP := apr gG
theorem arx : asK = aO gG := rfl
theorem p9 (p0 : Str) (p1 : Str) : Le (Option.map cV (g5 p0 p1)) (aX SE 163 [.d (.str p0), .d (.str p1)] [] []) := by
 refine aQ arx rfl ?_
 refine Le.trans ?_ (le_of_eq (atC _ _ _  p0 p1).symm)
 unfold g5
 refine lC ?_ ?_
 ·refine lF ?_
  exact aH rfl
 ·exact aH rfl
section
variable (Γ : Fun) (γ163 : Gm (Bool)) (Λ2 J : Lam)
def amC : aP := aZ (aO Γ) 163 cV γ163
theorem asM (p0 : Str) (p1 : Str) : bB SE (amC Γ γ163) Λ2 J 179 [.d (.str p0), .d (.str p1)] [] [] =
 γ163 [.d (.str p0), .d (.str p1)] [] [] fun r0 =>
 cond (!r0) (
 (some (.ret [.d (.str p0), .d (.bool false)] [] []))) (
 cond (decide (0 ≤ (List.length p1 : Int)) && decide ((List.length p1 : Int) ≤ ((List.length p0) : Int))) (
 (some (.ret [.d (.str (bU p0 (some (List.length p1 : Int)) none)), .d (.bool true)] [] []))) none) := by kernel_rfl
end
abbrev aow : aP := amC gG (cT 163 cV)
theorem arc : aow = aO gG := by unfold aow amC; rw [aK fun _ h => h]
theorem yH (p0 : Str) (p1 : Str) : Le (Option.map eN (oI p0 p1)) (aX SE 179 [.d (.str p0), .d (.str p1)] [] []) := by
 refine aQ arc rfl ?_
 refine Le.trans ?_ (le_of_eq (asM _ _ _ _  p0 p1).symm)
 unfold oI
 refine aM (good := good) eX pJ (p9 _ _) fun r0 _ => ?_
 refine lC ?_ ?_
 ·exact aH rfl
 ·refine lF ?_
  exact aH rfl
section
variable (Γ : Fun) (γ179 : Gm (Str × Bool)) (Λ2 J : Lam)
def amT : aP := aZ (aO Γ) 179 eN γ179
theorem asF (p0 : Str) (p1 : Str) : bB SE (amT Γ γ179) Λ2 J 159 [.d (.str p0), .d (.str p1)] [] [] =
 γ179 [.d (.str p0), .d (.str p1)] [] [] fun r0 =>
 (some (.ret [.d (.str r0.1), .d (.bool r0.2)] [] [])) := by kernel_rfl
end
abbrev apq : aP := amT gG (cT 179 eN)
theorem ar6 : apq = aO gG := by unfold apq amT; rw [aK fun _ h => h]
theorem ab4 (p0 : Str) (p1 : Str) : Le (Option.map gT (qR p0 p1)) (aX SE 159 [.d (.str p0), .d (.str p1)] [] []) := by
 refine aQ ar6 rfl ?_
 refine Le.trans ?_ (le_of_eq (asF _ _ _ _  p0 p1).symm)
 unfold qR
 refine aM (good := good) eX wU (yH _ _) fun r0 _ => ?_
 exact aH rfl
section
variable (Γ : Fun)  (Λ2 J : Lam)
def aoe : aP := aO Γ
theorem ats (p0 : Str) (p1 : Int) : bB SE (aoe Γ) Λ2 J 193 [.d (.str p0), .d (.int .u8 p1)] [] [] =
 (some (.ret [.d (.int .i64 (Lib.indexByte p0 (UInt8.ofNat (Int.toNat p1)) : Int))] [] [])) := by kernel_rfl
end
abbrev ast : aP := aoe gG
theorem aqQ : ast = aO gG := rfl
theorem xL (p0 : Str) (p1 : Int) : Le (Option.map eM (n3 p0 p1)) (aX SE 193 [.d (.str p0), .d (.int .u8 p1)] [] []) := by
 refine aQ aqQ rfl ?_
 refine Le.trans ?_ (le_of_eq (ats _ _ _  p0 p1).symm)
 unfold n3
 exact aH rfl
section
variable (Γ : Fun) (γ193 : Gm (Int)) (Λ2 J : Lam)
def al7 : aP := aZ (aO Γ) 193 eM γ193
theorem asC (p0 : Str) (p1 : Str) : bB SE (al7 Γ γ193) Λ2 J 189 [.d (.str p0), .d (.str p1)] [] [] =
 cond ((List.length p1 : Int) == 0) (
 (some (.ret [.d (.int .i64 0)] [] []))) (
 cond (p1 == p0) (
 (some (.ret [.d (.int .i64 0)] [] []))) (
 cond ((List.length p1 : Int) == 1) (
 cond (decide (0 ≤ 0) && decide (0 < (List.length p1 : Int))) (
  γ193 [.d (.str p0), .d (.int .u8 (UInt8.toNat (List.getD p1 (Int.toNat 0) 0) : Int))] [] [] fun r0 =>
  (some (.ret [.d (.int .i64 r0)] [] []))) none) (
 cond (decide ((List.length p1 : Int) ≥ (List.length p0 : Int))) (
 (some (.ret [.d (.int .i64 (-1))] [] []))) none))) := by kernel_rfl
end
abbrev aoK : aP := al7 gG (cT 193 eM)
theorem ase : aoK = aO gG := by unfold aoK al7; rw [aK fun _ h => h]
theorem tG (p0 : Str) (p1 : Str) : Le (Option.map eD (nX p0 p1)) (aX SE 189 [.d (.str p0), .d (.str p1)] [] []) := by
 refine aQ ase rfl ?_
 refine Le.trans ?_ (le_of_eq (asC _ _ _ _  p0 p1).symm)
 unfold nX
 refine lC ?_ ?_
 ·exact aH rfl
 ·refine lC ?_ ?_
  ·exact aH rfl
  ·refine lC ?_ ?_
   ·refine lF ?_
    refine aM (good := good) eX wQ (xL _ _) fun r0 _ => ?_
    exact aH rfl
   ·refine lF ?_
    exact aH rfl
section
variable (Γ : Fun) (γ189 : Gm (Int)) (Λ2 J : Lam)
def amY : aP := aZ (aO Γ) 189 eD γ189
theorem atF (p0 : Str) (p1 : Str) : bB SE (amY Γ γ189) Λ2 J 180 [.d (.str p0), .d (.str p1)] [] [] =
 γ189 [.d (.str p0), .d (.str p1)] [] [] fun r0 =>
 cond (decide (r0 ≥ 0)) (
 cond (decide (0 ≤ r0) && decide (r0 ≤ ((List.length p0) : Int))) (
  cond (decide (0 ≤ (IntKind.wrap .i64 (r0 + (List.length p1 : Int)))) && decide ((IntKind.wrap .i64 (r0 + (List.length p1 : Int))) ≤ ((List.length p0) : Int))) (
  (some (.ret [.d (.str (bU p0 none (some r0))), .d (.str (bU p0 (some (IntKind.wrap .i64 (r0 + (List.length p1 : Int)))) none)), .d (.bool true)] [] []))) none) none) (
 (some (.ret [.d (.str p0), .d (.str ([] : Str)), .d (.bool false)] [] []))) := by kernel_rfl
end
abbrev aoW : aP := amY gG (cT 189 eD)
theorem arI : aoW = aO gG := by unfold aoW amY; rw [aK fun _ h => h]
theorem ada (p0 : Str) (p1 : Str) : Le (Option.map iS (sM p0 p1)) (aX SE 180 [.d (.str p0), .d (.str p1)] [] []) := by
 refine aQ arI rfl ?_
 refine Le.trans ?_ (le_of_eq (atF _ _ _ _  p0 p1).symm)
 unfold sM
 refine aM (good := good) eX sD (tG _ _) fun r0 _ => ?_
 refine lC ?_ ?_
 ·refine lF ?_
  refine lF ?_
  exact aH rfl
 ·exact aH rfl
section
variable (Γ : Fun) (γ180 : Gm (Str × Str × Bool)) (Λ2 J : Lam)
def amu : aP := aZ (aO Γ) 180 iS γ180
theorem asD (p0 : Str) (p1 : Str) : bB SE (amu Γ γ180) Λ2 J 160 [.d (.str p0), .d (.str p1)] [] [] =
 γ180 [.d (.str p0), .d (.str p1)] [] [] fun r0 =>
 (some (.ret [.d (.str r0.1), .d (.str r0.2.1), .d (.bool r0.2.2)] [] [])) := by kernel_rfl
end
abbrev ao8 : aP := amu gG (cT 180 iS)
theorem aqY : ao8 = aO gG := by unfold ao8 amu; rw [aK fun _ h => h]
theorem af1 (p0 : Str) (p1 : Str) : Le (Option.map kV (aal p0 p1)) (aX SE 160 [.d (.str p0), .d (.str p1)] [] []) := by
 refine aQ aqY rfl ?_
 refine Le.trans ?_ (le_of_eq (asD _ _ _ _  p0 p1).symm)
 unfold aal
 refine aM (good := good) eX acA (ada _ _) fun r0 _ => ?_
 exact aH rfl
def aiK (C : aP) (Λ2 J : Lam) (a0 : Int) (a1 : Int) (a2 : Bool) (a3 : Str) (a4 : Nat) : Res := lab SE C Λ2 J 139 0 [1, 1, 0, 1, 0, 0, 1, 1, 0, 1, 1, 0] (bA [(3, .d (.int .i64 a0)), (4, .d (.int .i32 a1)), (5, .d (.bool a2)), (15, .it 4000)] [] [] [(4000, (a3, a4))] [])
def ac3 (C : aP) (Λ2 J : Lam) (a0 : Str) (a1 : Nat) : Res := lab SE C Λ2 J 139 0 [1, 1, 0, 1, 0] (bA [(15, .it 4000)] [] [] [(4000, (a0, a1))] [])
def alf (C : aP) (Λ2 J : Lam) (a0 : Str) : Res := lab SE C Λ2 J 139 0 [1, 1, 0, 0] (bA [(0, .d (.str a0))] [] [] [] [])
section
variable (Γ : Fun)  (Λ2 J : Lam)
def wC : aP := aO Γ
theorem asl (p0 : Str) : bB SE (wC Γ) Λ2 J 139 [.d (.str p0)] [] [] =
 cond (decide ((List.length p0 : Int) < 1)) (
 (some (.ret [.d (.bool false)] [] []))) (
 cond (decide ((List.length p0 : Int) > 16)) (
 (some (.ret [.d (.bool false)] [] []))) (
 alf (wC Γ) Λ2 J p0)) := by kernel_rfl
theorem api (x3 : Int) (x4 : Int) (x5 : Bool) (s4000 : Str) (i4000 : Nat) : cG SE (wC Γ) Λ2 J 139 0 [1, 1, 0, 1, 0, 0, 1, 1, 0, 1, 1, 0] (bA [(3, .d (.int .i64 x3)), (4, .d (.int .i32 x4)), (5, .d (.bool x5)), (15, .it 4000)] [] [] [(4000, (s4000, i4000))] []) =
 cond (!x5) (
 cond (x3 == 0) (
  (some (.ret [.d (.bool false)] [] []))) (
 cond (x4 != 45) (
  cond (decide (x4 < 48)) (
  (some (.ret [.d (.bool false)] [] []))) (
  cond (decide (x4 > 57)) (
  (some (.ret [.d (.bool false)] [] []))) (
  ac3 (wC Γ) Λ2 J s4000 i4000))) (
 ac3 (wC Γ) Λ2 J s4000 i4000))) (
 ac3 (wC Γ) Λ2 J s4000 i4000) := by kernel_rfl
theorem ao0 (s4000 : Str) (i4000 : Nat) : cG SE (wC Γ) Λ2 J 139 0 [1, 1, 0, 1, 0] (bA [(15, .it 4000)] [] [] [(4000, (s4000, i4000))] []) =
 cond (decide (i4000 < List.length s4000)) (
 cond (decide (((dec s4000 i4000).1 : Int) ≥ 97)) (
  aiK (wC Γ) Λ2 J (i4000 : Int) ((dec s4000 i4000).1 : Int) (decide (((dec s4000 i4000).1 : Int) ≤ 122)) s4000 (i4000 + (dec s4000 i4000).2)) (
 aiK (wC Γ) Λ2 J (i4000 : Int) ((dec s4000 i4000).1 : Int) false s4000 (i4000 + (dec s4000 i4000).2))) (
 (some (.ret [.d (.bool true)] [] []))) := by kernel_rfl
theorem ap0 (x0 : Str) : cG SE (wC Γ) Λ2 J 139 0 [1, 1, 0, 0] (bA [(0, .d (.str x0))] [] [] [] []) =
 ac3 (wC Γ) Λ2 J x0 0 := by kernel_rfl
end
abbrev aen : aP := wC gG
theorem ahN : aen = aO gG := rfl
noncomputable abbrev aqc (a0 : Int) (a1 : Int) (a2 : Bool) (a3 : Str) (a4 : Nat) : Res := aiK aen (bY SE gG (SE.hl 139) (SE.hr 139)) (J0 SE aen) a0 a1 a2 a3 a4
noncomputable abbrev alD (a0 : Str) (a1 : Nat) : Res := ac3 aen (bY SE gG (SE.hl 139) (SE.hr 139)) (J0 SE aen) a0 a1
noncomputable abbrev apC (a0 : Str) : Res := alf aen (bY SE gG (SE.hl 139) (SE.hr 139)) (J0 SE aen) a0
theorem yR (k4 : Str → Nat → Option (Bool)) (hk4 : ∀ (s4000 : Str) (i4000 : Nat), Le (Option.map eF (k4 s4000 i4000)) (alD s4000 i4000)) (x3 : Int) (x4 : Int) (x5 : Bool) (s4000 : Str) (i4000 : Nat) : Le (Option.map eF (rK k4 x3 x4 x5 s4000 i4000)) (aqc x3 x4 x5 s4000 i4000) := by
 refine Le.trans ?_ (le_of_eq ((bC ahN).trans (api _ _ _  x3 x4 x5 s4000 i4000)).symm)
 unfold rK
 refine lC ?_ ?_
 ·refine lC ?_ ?_
  ·exact aH rfl
  ·refine lC ?_ ?_
   ·refine lC ?_ ?_
    ·exact aH rfl
    ·refine lC ?_ ?_
     ·exact aH rfl
     ·exact hk4 s4000 i4000
   ·exact hk4 s4000 i4000
 ·exact hk4 s4000 i4000
theorem aey : ∀ (fu : Nat) (s4000 : Str) (i4000 : Nat), Le (Option.map eF (o6 fu s4000 i4000)) (alD s4000 i4000) := by
 intro fu
 induction fu with
 | zero => intros; exact le_none
 | succ fu ih =>
  intro s4000 i4000
  refine Le.trans ?_ (le_of_eq ((bC ahN).trans (ao0 _ _ _  s4000 i4000)).symm)
  unfold o6
  refine lC ?_ ?_
  ·refine lC ?_ ?_
   ·exact yR _ (ih) (i4000 : Int) ((dec s4000 i4000).1 : Int) (decide (((dec s4000 i4000).1 : Int) ≤ 122)) s4000 (i4000 + (dec s4000 i4000).2)
   ·exact yR _ (ih) (i4000 : Int) ((dec s4000 i4000).1 : Int) false s4000 (i4000 + (dec s4000 i4000).2)
  ·exact aH rfl
theorem aer (x0 : Str) : Le (Option.map eF (wE x0)) (apC x0) := by
 refine Le.trans ?_ (le_of_eq ((bC ahN).trans (ap0 _ _ _  x0)).symm)
 unfold wE
 exact aey fuel x0 0
theorem acq (p0 : Str) : Le (Option.map eF (wW p0)) (aX SE 139 [.d (.str p0)] [] []) := by
 refine aQ ahN rfl ?_
 refine Le.trans ?_ (le_of_eq (asl _ _ _  p0).symm)
 unfold wW
 refine lC ?_ ?_
 ·exact aH rfl
 ·refine lC ?_ ?_
  ·exact aH rfl
  ·exact aer p0
def aeT (C : aP) (Λ2 J : Lam) (a0 : Int) (a1 : Str) (a2 : Nat) : Res := lab SE C Λ2 J 161 0 [1, 1, 1, 0, 1, 0] (bA [(3, .d (.int .i64 a0)), (15, .it 4000)] [] [] [(4000, (a1, a2))] [])
def alo (C : aP) (Λ2 J : Lam) (a0 : Str) : Res := lab SE C Λ2 J 161 0 [1, 1, 0] (bA [(0, .d (.str a0))] [] [] [] [])
section
variable (Γ : Fun)  (Λ2 J : Lam)
def ade : aP := aO Γ
theorem at2 (p0 : Str) : bB SE (ade Γ) Λ2 J 161 [.d (.str p0)] [] [] =
 cond (decide ((List.length p0 : Int) < 1)) (
 (some (.ret [.d (.bool false)] [] []))) (
 cond (decide ((List.length p0 : Int) > 64)) (
 (some (.ret [.d (.bool false)] [] []))) (
 alo (ade Γ) Λ2 J p0)) := by kernel_rfl
theorem aoo (x3 : Int) (s4000 : Str) (i4000 : Nat) : cG SE (ade Γ) Λ2 J 161 0 [1, 1, 1, 0, 1, 0] (bA [(3, .d (.int .i64 x3)), (15, .it 4000)] [] [] [(4000, (s4000, i4000))] []) =
 cond (decide (i4000 < List.length s4000)) (
 cond (((dec s4000 i4000).1 : Int) == 0) (
  (some (.ret [.d (.bool false)] [] []))) (
 cond (((dec s4000 i4000).1 : Int) == 47) (
  aeT (ade Γ) Λ2 J (IntKind.wrap .i64 (x3 + 1)) s4000 (i4000 + (dec s4000 i4000).2)) (
 aeT (ade Γ) Λ2 J x3 s4000 (i4000 + (dec s4000 i4000).2)))) (
 (some (.ret [.d (.bool (decide (x3 ≤ 8)))] [] []))) := by kernel_rfl
theorem apJ (x0 : Str) : cG SE (ade Γ) Λ2 J 161 0 [1, 1, 0] (bA [(0, .d (.str x0))] [] [] [] []) =
 aeT (ade Γ) Λ2 J 1 x0 0 := by kernel_rfl
end
abbrev ait : aP := ade gG
theorem akD : ait = aO gG := rfl
noncomputable abbrev aoA (a0 : Int) (a1 : Str) (a2 : Nat) : Res := aeT ait (bY SE gG (SE.hl 161) (SE.hr 161)) (J0 SE ait) a0 a1 a2
noncomputable abbrev aon (a0 : Str) : Res := alo ait (bY SE gG (SE.hl 161) (SE.hr 161)) (J0 SE ait) a0
theorem adU : ∀ (fu : Nat) (x3 : Int) (s4000 : Str) (i4000 : Nat), Le (Option.map fC (oA fu x3 s4000 i4000)) (aoA x3 s4000 i4000) := by
 intro fu
 induction fu with
 | zero => intros; exact le_none
 | succ fu ih =>
  intro x3 s4000 i4000
  refine Le.trans ?_ (le_of_eq ((bC akD).trans (aoo _ _ _  x3 s4000 i4000)).symm)
  unfold oA
  refine lC ?_ ?_
  ·refine lC ?_ ?_
   ·exact aH rfl
   ·refine lC ?_ ?_
    ·exact ih (IntKind.wrap .i64 (x3 + 1)) s4000 (i4000 + (dec s4000 i4000).2)
    ·exact ih x3 s4000 (i4000 + (dec s4000 i4000).2)
  ·exact aH rfl
theorem ad0 (x0 : Str) : Le (Option.map fC (uF x0)) (aon x0) := by
 refine Le.trans ?_ (le_of_eq ((bC akD).trans (apJ _ _ _  x0)).symm)
 unfold uF
 exact adU fuel 1 x0 0
theorem aa4 (p0 : Str) : Le (Option.map fC (uV p0)) (aX SE 161 [.d (.str p0)] [] []) := by
 refine aQ akD rfl ?_
 refine Le.trans ?_ (le_of_eq (at2 _ _ _  p0).symm)
 unfold uV
 refine lC ?_ ?_
 ·exact aH rfl
 ·refine lC ?_ ?_
  ·exact aH rfl
  ·exact ad0 p0
section
variable (Γ : Fun) (γ189 : Gm (Int)) (Λ2 J : Lam)
def alV : aP := aZ (aO Γ) 189 eD γ189
theorem asR (p0 : Str) (p1 : Str) : bB SE (alV Γ γ189) Λ2 J 199 [.d (.str p0), .d (.str p1)] [] [] =
 γ189 [.d (.str p0), .d (.str p1)] [] [] fun r0 =>
 (some (.ret [.d (.int .i64 r0)] [] [])) := by kernel_rfl
end
abbrev apb : aP := alV gG (cT 189 eD)
theorem arP : apb = aO gG := by unfold apb alV; rw [aK fun _ h => h]
theorem xS (p0 : Str) (p1 : Str) : Le (Option.map gA (rJ p0 p1)) (aX SE 199 [.d (.str p0), .d (.str p1)] [] []) := by
 refine aQ arP rfl ?_
 refine Le.trans ?_ (le_of_eq (asR _ _ _ _  p0 p1).symm)
 unfold rJ
 refine aM (good := good) eX sD (tG _ _) fun r0 _ => ?_
 exact aH rfl
def ahS (C : aP) (Λ2 J : Lam) (a0 : Str) (a1 : Str) (a2 : Int) : Res := lab SE C Λ2 J 198 0 [1, 1, 1, 1, 0] (bA [(0, .d (.str a0)), (1, .d (.str a1)), (5, .d (.int .i64 a2))] [] [] [] [])
section
variable (Γ : Fun) (γ199 : Gm (Int)) (Λ2 J : Lam)
def af5 : aP := aZ (aO Γ) 199 gA γ199
theorem atr (p0 : Str) (p1 : Str) : bB SE (af5 Γ γ199) Λ2 J 198 [.d (.str p0), .d (.str p1)] [] [] =
 cond ((List.length p1 : Int) == 0) (
 none) (
 cond ((List.length p1 : Int) == 1) (
 cond (decide (0 ≤ 0) && decide (0 < (List.length p1 : Int))) (
  (some (.ret [.d (.int .i64 (Lib.countByte p0 (UInt8.ofNat (Int.toNat (UInt8.toNat (List.getD p1 (Int.toNat 0) 0) : Int))) : Int))] [] []))) none) (
 ahS (af5 Γ γ199) Λ2 J p0 p1 0)) := by kernel_rfl
theorem aoE (x0 : Str) (x1 : Str) (x5 : Int) : cG SE (af5 Γ γ199) Λ2 J 198 0 [1, 1, 1, 1, 0] (bA [(0, .d (.str x0)), (1, .d (.str x1)), (5, .d (.int .i64 x5))] [] [] [] []) =
 γ199 [.d (.str x0), .d (.str x1)] [] [] fun r0 =>
 cond (r0 == (-1)) (
 (some (.ret [.d (.int .i64 x5)] [] []))) (
 cond (decide (0 ≤ (IntKind.wrap .i64 (r0 + (List.length x1 : Int)))) && decide ((IntKind.wrap .i64 (r0 + (List.length x1 : Int))) ≤ ((List.length x0) : Int))) (
 ahS (af5 Γ γ199) Λ2 J (bU x0 (some (IntKind.wrap .i64 (r0 + (List.length x1 : Int)))) none) x1 (IntKind.wrap .i64 (x5 + 1))) none) := by kernel_rfl
end
abbrev akz : aP := af5 gG (cT 199 gA)
theorem anl : akz = aO gG := by unfold akz af5; rw [aK fun _ h => h]
noncomputable abbrev apL (a0 : Str) (a1 : Str) (a2 : Int) : Res := ahS akz (bY SE gG (SE.hl 198) (SE.hr 198)) (J0 SE akz) a0 a1 a2
theorem acE : ∀ (fu : Nat) (x0 : Str) (x1 : Str) (x5 : Int), Le (Option.map iF (oS fu x0 x1 x5)) (apL x0 x1 x5) := by
 intro fu
 induction fu with
 | zero => intros; exact le_none
 | succ fu ih =>
  intro x0 x1 x5
  refine Le.trans ?_ (le_of_eq ((bC anl).trans (aoE _ _ _ _  x0 x1 x5)).symm)
  unfold oS
  refine aM (good := good) eX wG (xS _ _) fun r0 _ => ?_
  refine lC ?_ ?_
  ·exact aH rfl
  ·refine lF ?_
   exact ih (bU x0 (some (IntKind.wrap .i64 (r0 + (List.length x1 : Int)))) none) x1 (IntKind.wrap .i64 (x5 + 1))
theorem aeR (p0 : Str) (p1 : Str) : Le (Option.map iF (vZ p0 p1)) (aX SE 198 [.d (.str p0), .d (.str p1)] [] []) := by
 refine aQ anl rfl ?_
 refine Le.trans ?_ (le_of_eq (atr _ _ _ _  p0 p1).symm)
 unfold vZ
 refine lC ?_ ?_
 ·exact le_none
 ·refine lC ?_ ?_
  ·refine lF ?_
   exact aH rfl
  ·exact acE fuel p0 p1 0
def agx (C : aP) (Λ2 J : Lam) (a0 : Str) (a1 : Int) (a2 : (List (List D))) : Res := lab SE C Λ2 J 190 0 [1, 1, 1, 1, 1, 1, 1, 1, 1, 0] (bA [(0, .d (.str a0)), (9, .row 3009), (10, .d (.int .i64 a1))] [] [] [] [(3009, ⟨[.str], 9, 16, a2⟩)])
def agr (C : aP) (Λ2 J : Lam) (a0 : Str) (a1 : Str) (a2 : Int) (a3 : Int) (a4 : Int) (a5 : (List (List D))) : Res := lab SE C Λ2 J 190 0 [1, 1, 1, 1, 1, 1, 1, 1, 0, 0] (bA [(0, .d (.str a0)), (1, .d (.str a1)), (2, .d (.int .i64 a2)), (3, .d (.int .i64 a3)), (9, .row 3009), (10, .d (.int .i64 a4))] [] [] [] [(3009, ⟨[.str], 9, 16, a5⟩)])
def ahQ (C : aP) (Λ2 J : Lam) (a0 : Str) (a1 : Str) (a2 : Int) (a3 : Int) : Res := lab SE C Λ2 J 190 0 [1, 1, 1, 1, 0] (bA [(0, .d (.str a0)), (1, .d (.str a1)), (2, .d (.int .i64 a2)), (3, .d (.int .i64 a3))] [] [] [] [])
section
variable (Γ : Fun) (γ198 : Gm (Int)) (γ199 : Gm (Int)) (Λ2 J : Lam)
def vY : aP := aZ (aZ (aO Γ) 198 iF γ198) 199 gA γ199
theorem atJ (p0 : Str) (p1 : Str) (p2 : Int) (p3 : Int) : bB SE (vY Γ γ198 γ199) Λ2 J 190 [.d (.str p0), .d (.str p1), .d (.int .i64 p2), .d (.int .i64 p3)] [] [] =
 cond (p3 == 0) (
 (some (.ret [.d (.sl [.str] (List.map bF []))] [] []))) (
 cond (p1 == ([] : Str)) (
 none) (
 cond (decide (p3 < 0)) (
 γ198 [.d (.str p0), .d (.str p1)] [] [] fun r0 =>
 ahQ (vY Γ γ198 γ199) Λ2 J p0 p1 p2 (IntKind.wrap .i64 (r0 + 1))) (
 ahQ (vY Γ γ198 γ199) Λ2 J p0 p1 p2 p3))) := by kernel_rfl
theorem anT (x0 : Str) (x10 : Int) (w3009 : (List Str)) : cG SE (vY Γ γ198 γ199) Λ2 J 190 0 [1, 1, 1, 1, 1, 1, 1, 1, 1, 0] (bA [(0, .d (.str x0)), (9, .row 3009), (10, .d (.int .i64 x10))] [] [] [] [(3009, ⟨[.str], 9, 16, (List.map bF w3009)⟩)]) =
 cond (decide (0 ≤ x10) && decide (x10 < (List.length (List.map bF w3009) : Int))) (
 cond (decide (0 ≤ (IntKind.wrap .i64 (x10 + 1))) && decide ((IntKind.wrap .i64 (x10 + 1)) ≤ ((List.length (gN (List.map bF w3009) (Int.toNat x10) 0 [D.str x0])) : Int))) (
  (some (.ret [.d (.sl [.str] (List.take ((Int.toNat (IntKind.wrap .i64 (x10 + 1))) - 0) (List.drop 0 (gN (List.map bF w3009) (Int.toNat x10) 0 [D.str x0]))))] [] []))) none) none := by kernel_rfl
theorem an0 (x0 : Str) (x1 : Str) (x2 : Int) (x3 : Int) (x10 : Int) (w3009 : (List Str)) : cG SE (vY Γ γ198 γ199) Λ2 J 190 0 [1, 1, 1, 1, 1, 1, 1, 1, 0, 0] (bA [(0, .d (.str x0)), (1, .d (.str x1)), (2, .d (.int .i64 x2)), (3, .d (.int .i64 x3)), (9, .row 3009), (10, .d (.int .i64 x10))] [] [] [] [(3009, ⟨[.str], 9, 16, (List.map bF w3009)⟩)]) =
 cond (decide (x10 < x3)) (
 γ199 [.d (.str x0), .d (.str x1)] [] [] fun r1 =>
 cond (decide (r1 < 0)) (
  agx (vY Γ γ198 γ199) Λ2 J x0 x10 (List.map bF w3009)) (
 cond (decide (0 ≤ (IntKind.wrap .i64 (r1 + x2))) && decide ((IntKind.wrap .i64 (r1 + x2)) ≤ ((List.length x0) : Int))) (
  cond (decide (0 ≤ x10) && decide (x10 < (List.length (List.map bF w3009) : Int))) (
  cond (decide (0 ≤ (IntKind.wrap .i64 (r1 + (List.length x1 : Int)))) && decide ((IntKind.wrap .i64 (r1 + (List.length x1 : Int))) ≤ ((List.length x0) : Int))) (
   agr (vY Γ γ198 γ199) Λ2 J (bU x0 (some (IntKind.wrap .i64 (r1 + (List.length x1 : Int)))) none) x1 x2 x3 (IntKind.wrap .i64 (x10 + 1)) ((gN (List.map bF w3009) (Int.toNat x10) 0 [D.str (bU x0 none (some (IntKind.wrap .i64 (r1 + x2))))]))) none) none) none)) (
 agx (vY Γ γ198 γ199) Λ2 J x0 x10 (List.map bF w3009)) := by kernel_rfl
theorem apv (x0 : Str) (x1 : Str) (x2 : Int) (x3 : Int) : cG SE (vY Γ γ198 γ199) Λ2 J 190 0 [1, 1, 1, 1, 0] (bA [(0, .d (.str x0)), (1, .d (.str x1)), (2, .d (.int .i64 x2)), (3, .d (.int .i64 x3))] [] [] [] []) =
 cond (decide (0 ≤ (if (IntKind.wrap .i64 ((List.length x0 : Int) + 1)) < x3 then (IntKind.wrap .i64 ((List.length x0 : Int) + 1)) else x3)) && decide ((if (IntKind.wrap .i64 ((List.length x0 : Int) + 1)) < x3 then (IntKind.wrap .i64 ((List.length x0 : Int) + 1)) else x3) ≤ (if (IntKind.wrap .i64 ((List.length x0 : Int) + 1)) < x3 then (IntKind.wrap .i64 ((List.length x0 : Int) + 1)) else x3)) && decide ((if (IntKind.wrap .i64 ((List.length x0 : Int) + 1)) < x3 then (IntKind.wrap .i64 ((List.length x0 : Int) + 1)) else x3) * 16 ≤ 281474976710656)) (
 agr (vY Γ γ198 γ199) Λ2 J x0 x1 x2 ((IntKind.wrap .i64 ((if (IntKind.wrap .i64 ((List.length x0 : Int) + 1)) < x3 then (IntKind.wrap .i64 ((List.length x0 : Int) + 1)) else x3) - 1))) 0 ((List.replicate (Int.toNat (if (IntKind.wrap .i64 ((List.length x0 : Int) + 1)) < x3 then (IntKind.wrap .i64 ((List.length x0 : Int) + 1)) else x3)) [D.str ([] : Str)]))) none := by kernel_rfl
end
abbrev acY : aP := vY gG (cT 198 iF) (cT 199 gA)
theorem ahK : acY = aO gG := by unfold acY vY; rw [aK fun _ h => h, aK fun _ h => h]
noncomputable abbrev anZ (a0 : Str) (a1 : Int) (a2 : (List (List D))) : Res := agx acY (bY SE gG (SE.hl 190) (SE.hr 190)) (J0 SE acY) a0 a1 a2
noncomputable abbrev an9 (a0 : Str) (a1 : Str) (a2 : Int) (a3 : Int) (a4 : Int) (a5 : (List (List D))) : Res := agr acY (bY SE gG (SE.hl 190) (SE.hr 190)) (J0 SE acY) a0 a1 a2 a3 a4 a5
noncomputable abbrev apw (a0 : Str) (a1 : Str) (a2 : Int) (a3 : Int) : Res := ahQ acY (bY SE gG (SE.hl 190) (SE.hr 190)) (J0 SE acY) a0 a1 a2 a3
theorem qN (x0 : Str) (x10 : Int) (w3009 : (List Str)) : Le (Option.map cX (l7 x0 x10 w3009)) (anZ x0 x10 (List.map bF w3009)) := by
 refine Le.trans ?_ (le_of_eq ((bC ahK).trans (anT _ _ _ _ _  x0 x10 w3009)).symm)
 unfold l7
 refine lG (by simp only [EN]) ?_
 refine lG (by simp only [EN]) ?_
 exact aH (by first | rfl | simp only [EN, cX] <;> rfl)
theorem qP : ∀ (fu : Nat) (x0 : Str) (x1 : Str) (x2 : Int) (x3 : Int) (x10 : Int) (w3009 : (List Str)), Le (Option.map cX (lZ fu x0 x1 x2 x3 x10 w3009)) (an9 x0 x1 x2 x3 x10 (List.map bF w3009)) := by
 intro fu
 induction fu with
 | zero => intros; exact le_none
 | succ fu ih =>
  intro x0 x1 x2 x3 x10 w3009
  refine Le.trans ?_ (le_of_eq ((bC ahK).trans (an0 _ _ _ _ _  x0 x1 x2 x3 x10 w3009)).symm)
  unfold lZ
  refine lC ?_ ?_
  ·refine aM (good := good) eX wG (xS _ _) fun r1 _ => ?_
   refine lC ?_ ?_
   ·exact qN x0 x10 w3009
   ·refine lF ?_
    refine lG (by simp only [EN]) ?_
    refine lF ?_
    first | (simp only [EN]; exact ih (bU x0 (some (IntKind.wrap .i64 (r1 + (List.length x1 : Int)))) none) x1 x2 x3 (IntKind.wrap .i64 (x10 + 1)) ((List.set w3009 (Int.toNat x10) (bU x0 none (some (IntKind.wrap .i64 (r1 + x2))))))) | exact ih (bU x0 (some (IntKind.wrap .i64 (r1 + (List.length x1 : Int)))) none) x1 x2 x3 (IntKind.wrap .i64 (x10 + 1)) ((List.set w3009 (Int.toNat x10) (bU x0 none (some (IntKind.wrap .i64 (r1 + x2))))))
  ·exact qN x0 x10 w3009
theorem qX (x0 : Str) (x1 : Str) (x2 : Int) (x3 : Int) : Le (Option.map cX (mV x0 x1 x2 x3)) (apw x0 x1 x2 x3) := by
 refine Le.trans ?_ (le_of_eq ((bC ahK).trans (apv _ _ _ _ _  x0 x1 x2 x3)).symm)
 unfold mV
 refine lF ?_
 first | (simp only [EN]; exact qP fuel x0 x1 x2 ((IntKind.wrap .i64 ((if (IntKind.wrap .i64 ((List.length x0 : Int) + 1)) < x3 then (IntKind.wrap .i64 ((List.length x0 : Int) + 1)) else x3) - 1))) 0 ((List.replicate (Int.toNat (if (IntKind.wrap .i64 ((List.length x0 : Int) + 1)) < x3 then (IntKind.wrap .i64 ((List.length x0 : Int) + 1)) else x3)) default))) | exact qP fuel x0 x1 x2 ((IntKind.wrap .i64 ((if (IntKind.wrap .i64 ((List.length x0 : Int) + 1)) < x3 then (IntKind.wrap .i64 ((List.length x0 : Int) + 1)) else x3) - 1))) 0 ((List.replicate (Int.toNat (if (IntKind.wrap .i64 ((List.length x0 : Int) + 1)) < x3 then (IntKind.wrap .i64 ((List.length x0 : Int) + 1)) else x3)) default))
theorem acI (p0 : Str) (p1 : Str) (p2 : Int) (p3 : Int) : Le (Option.map cX (rN p0 p1 p2 p3)) (aX SE 190 [.d (.str p0), .d (.str p1), .d (.int .i64 p2), .d (.int .i64 p3)] [] []) := by
 refine aQ ahK rfl ?_
 refine Le.trans ?_ (le_of_eq (atJ _ _ _ _ _  p0 p1 p2 p3).symm)
 unfold rN
 refine lC ?_ ?_
 ·exact aH rfl
 ·refine lC ?_ ?_
  ·exact le_none
  ·refine lC ?_ ?_
   ·refine aM (good := good) eX adW (aeR _ _) fun r0 _ => ?_
    exact qX p0 p1 p2 (IntKind.wrap .i64 (r0 + 1))
   ·exact qX p0 p1 p2 p3
section
variable (Γ : Fun) (γ190 : Gm ((List Str))) (Λ2 J : Lam)
def amb : aP := aZ (aO Γ) 190 cX γ190
theorem asW (p0 : Str) (p1 : Str) : bB SE (amb Γ γ190) Λ2 J 181 [.d (.str p0), .d (.str p1)] [] [] =
 γ190 [.d (.str p0), .d (.str p1), .d (.int .i64 0), .d (.int .i64 (-1))] [] [] fun r0 =>
 (some (.ret [.d (.sl [.str] (List.map bF r0))] [] [])) := by kernel_rfl
end
abbrev apF : aP := amb gG (cT 190 cX)
theorem aqW : apF = aO gG := by unfold apF amb; rw [aK fun _ h => h]
theorem aek (p0 : Str) (p1 : Str) : Le (Option.map j0 (wA p0 p1)) (aX SE 181 [.d (.str p0), .d (.str p1)] [] []) := by
 refine aQ aqW rfl ?_
 refine Le.trans ?_ (le_of_eq (asW _ _ _ _  p0 p1).symm)
 unfold wA
 refine aM (good := good) eX abE (acI _ _ _ _) fun r0 _ => ?_
 exact aH rfl
section
variable (Γ : Fun) (γ181 : Gm ((List Str))) (Λ2 J : Lam)
def al3 : aP := aZ (aO Γ) 181 j0 γ181
theorem atK (p0 : Str) : bB SE (al3 Γ γ181) Λ2 J 162 [.d (.str p0)] [] [] =
 γ181 [.d (.str p0), .d (.str ([47] : Str))] [] [] fun r0 =>
 (some (.ret [.d (.sl [.str] (List.map bF r0))] [] [])) := by kernel_rfl
end
abbrev aoN : aP := al3 gG (cT 181 j0)
theorem aqV : aoN = aO gG := by unfold aoN al3; rw [aK fun _ h => h]
theorem afC (p0 : Str) : Le (Option.map kI (yI p0)) (aX SE 162 [.d (.str p0)] [] []) := by
 refine aQ aqV rfl ?_
 refine Le.trans ?_ (le_of_eq (atK _ _ _ _  p0).symm)
 unfold yI
 refine aM (good := good) eX ad3 (aek _ _) fun r0 _ => ?_
 exact aH rfl
def abo (C : aP) (Λ2 J : Lam) (a0 : (List (List D))) (a1 : Bool) (a2 : Int) (a3 : Str) (a4 : (List (List D))) (a5 : Int) (a6 : Int) (a7 : Str) (a8 : Nat) : Res := lab SE C Λ2 J 126 0 [1, 0, 1, 1, 1, 1, 0, 1, 0, 0, 1, 1, 0, 0, 1, 1, 0] (bA [(3, .d (.sl [.str] a0)), (4, .d (.bool a1)), (5, .d (.int .i64 a2)), (6, .d (.str a3)), (15, .d (.sl [.str] a4)), (16, .d (.int .i64 a5)), (17, .d (.int .i64 a6)), (23, .it 4000)] [] [] [(4000, (a7, a8))] [])
def aix (C : aP) (Λ2 J : Lam) (a0 : (List (List D))) (a1 : Bool) (a2 : (List (List D))) (a3 : Int) (a4 : Int) : Res := lab SE C Λ2 J 126 0 [1, 0, 1, 1, 1, 1, 0, 1, 0] (bA [(3, .d (.sl [.str] a0)), (4, .d (.bool a1)), (15, .d (.sl [.str] a2)), (16, .d (.int .i64 a3)), (17, .d (.int .i64 a4))] [] [] [] [])
section
variable (Γ : Fun) (γ161 : Gm (Bool)) (γ162 : Gm ((List Str))) (Λ2 J : Lam)
def wD : aP := aZ (aZ (aO Γ) 161 fC γ161) 162 kI γ162
theorem as3 (p0 : Str) : bB SE (wD Γ γ161 γ162) Λ2 J 126 [.d (.str p0)] [] [] =
 γ161 [.d (.str p0)] [] [] fun r0 =>
 cond (!r0) (
 (some (.ret [.d (.bool false)] [] []))) (
 γ162 [.d (.str p0)] [] [] fun r1 =>
 aix (wD Γ γ161 γ162) Λ2 J (List.map bF r1) true (List.map bF r1) (List.length (List.map bF r1) : Int) 0) := by kernel_rfl
theorem apV (x3 : (List Str)) (x4 : Bool) (x5 : Int) (x6 : Str) (x15 : (List Str)) (x16 : Int) (x17 : Int) (s4000 : Str) (i4000 : Nat) : cG SE (wD Γ γ161 γ162) Λ2 J 126 0 [1, 0, 1, 1, 1, 1, 0, 1, 0, 0, 1, 1, 0, 0, 1, 1, 0] (bA [(3, .d (.sl [.str] (List.map bF x3))), (4, .d (.bool x4)), (5, .d (.int .i64 x5)), (6, .d (.str x6)), (15, .d (.sl [.str] (List.map bF x15))), (16, .d (.int .i64 x16)), (17, .d (.int .i64 x17)), (23, .it 4000)] [] [] [(4000, (s4000, i4000))] []) =
 cond (decide (i4000 < List.length s4000)) (
 cond (((dec s4000 i4000).1 : Int) == 43) (
  cond (!((List.length x6 : Int) == 1)) (
  (some (.ret [.d (.bool false)] [] []))) (
  cond (((dec s4000 i4000).1 : Int) == 35) (
  cond (!((List.length x6 : Int) == 1)) (
   (some (.ret [.d (.bool false)] [] []))) (
  cond (decide (x5 < (IntKind.wrap .i64 ((List.length (List.map bF x3) : Int) - 1)))) (
   (some (.ret [.d (.bool false)] [] []))) (
  abo (wD Γ γ161 γ162) Λ2 J (List.map bF x3) x4 x5 x6 (List.map bF x15) x16 x17 s4000 (i4000 + (dec s4000 i4000).2)))) (
  abo (wD Γ γ161 γ162) Λ2 J (List.map bF x3) x4 x5 x6 (List.map bF x15) x16 x17 s4000 (i4000 + (dec s4000 i4000).2)))) (
 cond (((dec s4000 i4000).1 : Int) == 35) (
  cond (!((List.length x6 : Int) == 1)) (
  (some (.ret [.d (.bool false)] [] []))) (
  cond (decide (x5 < (IntKind.wrap .i64 ((List.length (List.map bF x3) : Int) - 1)))) (
  (some (.ret [.d (.bool false)] [] []))) (
  abo (wD Γ γ161 γ162) Λ2 J (List.map bF x3) x4 x5 x6 (List.map bF x15) x16 x17 s4000 (i4000 + (dec s4000 i4000).2)))) (
 abo (wD Γ γ161 γ162) Λ2 J (List.map bF x3) x4 x5 x6 (List.map bF x15) x16 x17 s4000 (i4000 + (dec s4000 i4000).2)))) (
 aix (wD Γ γ161 γ162) Λ2 J (List.map bF x3) x4 (List.map bF x15) x16 (IntKind.wrap .i64 (x17 + 1))) := by kernel_rfl
theorem ap1 (x3 : (List Str)) (x4 : Bool) (x15 : (List Str)) (x16 : Int) (x17 : Int) : cG SE (wD Γ γ161 γ162) Λ2 J 126 0 [1, 0, 1, 1, 1, 1, 0, 1, 0] (bA [(3, .d (.sl [.str] (List.map bF x3))), (4, .d (.bool x4)), (15, .d (.sl [.str] (List.map bF x15))), (16, .d (.int .i64 x16)), (17, .d (.int .i64 x17))] [] [] [] []) =
 cond (decide (x17 < x16)) (
 cond (decide (0 ≤ x17) && decide (x17 < (List.length (List.map bF x15) : Int))) (
  abo (wD Γ γ161 γ162) Λ2 J (List.map bF x3) x4 x17 ((aV (cellAt (elemAt (List.map bF x15) (Int.toNat x17)) 0))) (List.map bF x15) x16 x17 ((aV (cellAt (elemAt (List.map bF x15) (Int.toNat x17)) 0))) 0) none) (
 (some (.ret [.d (.bool x4)] [] []))) := by kernel_rfl
end
abbrev af3 : aP := wD gG (cT 161 fC) (cT 162 kI)
theorem aj2 : af3 = aO gG := by unfold af3 wD; rw [aK fun _ h => h, aK fun _ h => h]
noncomputable abbrev aqm (a0 : (List (List D))) (a1 : Bool) (a2 : Int) (a3 : Str) (a4 : (List (List D))) (a5 : Int) (a6 : Int) (a7 : Str) (a8 : Nat) : Res := abo af3 (bY SE gG (SE.hl 126) (SE.hr 126)) (J0 SE af3) a0 a1 a2 a3 a4 a5 a6 a7 a8
noncomputable abbrev ald (a0 : (List (List D))) (a1 : Bool) (a2 : (List (List D))) (a3 : Int) (a4 : Int) : Res := aix af3 (bY SE gG (SE.hl 126) (SE.hr 126)) (J0 SE af3) a0 a1 a2 a3 a4
theorem uZ : ∀ (fu : Nat) (k6 : (List Str) → Bool → (List Str) → Int → Int → Option (Bool)) (hk6 : ∀ (x3 : (List Str)) (x4 : Bool) (x15 : (List Str)) (x16 : Int) (x17 : Int), Le (Option.map dQ (k6 x3 x4 x15 x16 x17)) (ald (List.map bF x3) x4 (List.map bF x15) x16 x17)) (x3 : (List Str)) (x4 : Bool) (x5 : Int) (x6 : Str) (x15 : (List Str)) (x16 : Int) (x17 : Int) (s4000 : Str) (i4000 : Nat), Le (Option.map dQ (jS fu k6 x3 x4 x5 x6 x15 x16 x17 s4000 i4000)) (aqm (List.map bF x3) x4 x5 x6 (List.map bF x15) x16 x17 s4000 i4000) := by
 intro fu
 induction fu with
 | zero => intros; exact le_none
 | succ fu ih =>
  intro k6 hk6 x3 x4 x5 x6 x15 x16 x17 s4000 i4000
  refine Le.trans ?_ (le_of_eq ((bC aj2).trans (apV _ _ _ _ _  x3 x4 x5 x6 x15 x16 x17 s4000 i4000)).symm)
  unfold jS
  refine lC ?_ ?_
  ·refine lC ?_ ?_
   ·refine lC ?_ ?_
    ·exact aH rfl
    ·refine lC ?_ ?_
     ·refine lC ?_ ?_
      ·exact aH rfl
      ·refine lD (by simp only [EN]) ?_ ?_
       ·exact aH rfl
       ·exact ih _ hk6 x3 x4 x5 x6 x15 x16 x17 s4000 (i4000 + (dec s4000 i4000).2)
     ·exact ih _ hk6 x3 x4 x5 x6 x15 x16 x17 s4000 (i4000 + (dec s4000 i4000).2)
   ·refine lC ?_ ?_
    ·refine lC ?_ ?_
     ·exact aH rfl
     ·refine lD (by simp only [EN]) ?_ ?_
      ·exact aH rfl
      ·exact ih _ hk6 x3 x4 x5 x6 x15 x16 x17 s4000 (i4000 + (dec s4000 i4000).2)
    ·exact ih _ hk6 x3 x4 x5 x6 x15 x16 x17 s4000 (i4000 + (dec s4000 i4000).2)
  ·exact hk6 x3 x4 x15 x16 (IntKind.wrap .i64 (x17 + 1))
theorem vS : ∀ (fu : Nat) (x3 : (List Str)) (x4 : Bool) (x15 : (List Str)) (x16 : Int) (x17 : Int), Le (Option.map dQ (pH fu x3 x4 x15 x16 x17)) (ald (List.map bF x3) x4 (List.map bF x15) x16 x17) := by
 intro fu
 induction fu with
 | zero => intros; exact le_none
 | succ fu ih =>
  intro x3 x4 x15 x16 x17
  refine Le.trans ?_ (le_of_eq ((bC aj2).trans (ap1 _ _ _ _ _  x3 x4 x15 x16 x17)).symm)
  unfold pH
  refine lC ?_ ?_
  ·refine lG (by simp only [EN]) ?_
   first | (simp only [EN]; exact uZ fuel _ (ih) x3 x4 x17 (List.getD x15 (Int.toNat x17) default) x15 x16 x17 (List.getD x15 (Int.toNat x17) default) 0) | exact uZ fuel _ (ih) x3 x4 x17 (List.getD x15 (Int.toNat x17) default) x15 x16 x17 (List.getD x15 (Int.toNat x17) default) 0
  ·exact aH rfl
theorem zF (p0 : Str) : Le (Option.map dQ (sR p0)) (aX SE 126 [.d (.str p0)] [] []) := by
 refine aQ aj2 rfl ?_
 refine Le.trans ?_ (le_of_eq (as3 _ _ _ _ _  p0).symm)
 unfold sR
 refine aM (good := good) eX zL (aa4 _) fun r0 _ => ?_
 refine lC ?_ ?_
 ·exact aH rfl
 ·refine aM (good := good) eX aeD (afC _) fun r1 _ => ?_
  first | (simp only [EN]; exact vS fuel r1 true r1 (List.length r1 : Int) 0) | exact vS fuel r1 true r1 (List.length r1 : Int) 0
section
variable (Γ : Fun) (γ163 : Gm (Bool)) (Λ2 J : Lam)
def alF : aP := aZ (aO Γ) 163 cV γ163
theorem ate (p0 : Str) (p1 : Str) : bB SE (alF Γ γ163) Λ2 J 127 [.d (.str p0), .d (.str p1)] [] [] =
 γ163 [.d (.str p0), .d (.str p1)] [] [] fun r0 =>
 (some (.ret [.d (.bool r0)] [] [])) := by kernel_rfl
end
abbrev ao2 : aP := alF gG (cT 163 cV)
theorem ar3 : ao2 = aO gG := by unfold ao2 alF; rw [aK fun _ h => h]
theorem sX (p0 : Str) (p1 : Str) : Le (Option.map dV (nU p0 p1)) (aX SE 127 [.d (.str p0), .d (.str p1)] [] []) := by
 refine aQ ar3 rfl ?_
 refine Le.trans ?_ (le_of_eq (ate _ _ _ _  p0 p1).symm)
 unfold nU
 refine aM (good := good) eX pJ (p9 _ _) fun r0 _ => ?_
 exact aH rfl
section
variable (Γ : Fun) (γ159 : Gm (Str × Bool)) (γ160 : Gm (Str × Str × Bool)) (γ139 : Gm (Bool)) (γ126 : Gm (Bool)) (γ127 : Gm (Bool)) (Λ2 J : Lam)
def amA : aP := aZ (aZ (aZ (aZ (aZ (aO Γ) 159 gT γ159) 160 kV γ160) 139 eF γ139) 126 dQ γ126) 127 dV γ127
theorem asV (p0 : Str) : bB SE (amA Γ γ159 γ160 γ139 γ126 γ127) Λ2 J 124 [.d (.str p0)] [] [] =
 γ159 [.d (.str p0), .d (.str ([36, 115, 104, 97, 114, 101, 47] : Str))] [] [] fun r0 =>
 cond (!r0.2) (
 (some (.ret [.d (.str ([] : Str)), .d (.str ([] : Str)), .d (.bool false)] [] []))) (
 γ160 [.d (.str r0.1), .d (.str ([47] : Str))] [] [] fun r1 =>
 cond (!r1.2.2) (
 (some (.ret [.d (.str ([] : Str)), .d (.str ([] : Str)), .d (.bool false)] [] []))) (
 γ139 [.d (.str r1.1)] [] [] fun r2 =>
 cond (!r2) (
 (some (.ret [.d (.str ([] : Str)), .d (.str ([] : Str)), .d (.bool false)] [] []))) (
 γ126 [.d (.str r1.2.1)] [] [] fun r3 =>
 cond (!r3) (
 (some (.ret [.d (.str ([] : Str)), .d (.str ([] : Str)), .d (.bool false)] [] []))) (
 γ127 [.d (.str r1.2.1), .d (.str ([36, 115, 104, 97, 114, 101, 47] : Str))] [] [] fun r4 =>
 cond r4 (
 (some (.ret [.d (.str ([] : Str)), .d (.str ([] : Str)), .d (.bool false)] [] []))) (
 (some (.ret [.d (.str r1.1), .d (.str r1.2.1), .d (.bool true)] [] []))))))) := by kernel_rfl
end
abbrev aox : aP := amA gG (cT 159 gT) (cT 160 kV) (cT 139 eF) (cT 126 dQ) (cT 127 dV)
theorem aq7 : aox = aO gG := by unfold aox amA; rw [aK fun _ h => h, aK fun _ h => h, aK fun _ h => h, aK fun _ h => h, aK fun _ h => h]
theorem afM (p0 : Str) : Le (Option.map kD (yB p0)) (aX SE 124 [.d (.str p0)] [] []) := by
 refine aQ aq7 rfl ?_
 refine Le.trans ?_ (le_of_eq (asV _ _ _ _ _ _ _ _  p0).symm)
 unfold yB
 refine aM (good := good) eX aaO (ab4 _ _) fun r0 _ => ?_
 refine lC ?_ ?_
 ·exact aH rfl
 ·refine aM (good := good) eX afB (af1 _ _) fun r1 _ => ?_
  refine lC ?_ ?_
  ·exact aH rfl
  ·refine aM (good := good) eX aa5 (acq _) fun r2 _ => ?_
   refine lC ?_ ?_
   ·exact aH rfl
   ·refine aM (good := good) eX xG (zF _) fun r3 _ => ?_
    refine lC ?_ ?_
    ·exact aH rfl
    ·refine aM (good := good) eX sG (sX _ _) fun r4 _ => ?_
     refine lC ?_ ?_
     ·exact aH rfl
     ·exact aH rfl
section
variable (Γ : Fun) (γ126 : Gm (Bool)) (γ127 : Gm (Bool)) (Λ2 J : Lam)
def alO : aP := aZ (aZ (aO Γ) 126 dQ γ126) 127 dV γ127
theorem atI (p0 : aF) : bB SE (alO Γ γ126 γ127) Λ2 J 125 [.ptr 2000000000 0] [⟨60, (aF.avs p0)⟩] [] =
 γ126 [.d (.str p0.Filter)] [] [] fun r0 =>
 cond r0 (
 γ127 [.d (.str p0.Filter), .d (.str ([36, 115, 104, 97, 114, 101, 47] : Str))] [] [] fun r1 =>
 (some (.ret [.d (.bool (!r1))] [⟨60, (aF.avs p0)⟩] []))) (
 (some (.ret [.d (.bool false)] [⟨60, (aF.avs p0)⟩] []))) := by kernel_rfl
end
abbrev aov : aP := alO gG (cT 126 dQ) (cT 127 dV)
theorem asc : aov = aO gG := by unfold aov alO; rw [aK fun _ h => h, aK fun _ h => h]
theorem abh (p0 : aF) : Le (Option.map fW (pT p0)) (aX SE 125 [.ptr 2000000000 0] [⟨60, (aF.avs p0)⟩] []) := by
 refine aQ asc rfl ?_
 refine Le.trans ?_ (le_of_eq (atI _ _ _ _ _  p0).symm)
 unfold pT
 refine aM (good := good) eX xG (zF _) fun r0 _ => ?_
 refine lC ?_ ?_
 ·refine aM (good := good) eX sG (sX _ _) fun r1 _ => ?_
  exact aH rfl
 ·exact aH rfl
section
variable (Γ : Fun) (γ124 : Gm (Str × Str × Bool)) (γ125 : Gm (Bool × aF)) (Λ2 J : Lam)
def C66 : aP := aZ (aZ (aO Γ) 124 kD γ124) 125 fW γ125
theorem T66 (p0 : aF) : bB SE (C66 Γ γ124 γ125) Λ2 J 66 [aF.av p0] [] [] =
 γ124 [.d (.str p0.Filter)] [] [] fun r0 =>
 cond (!r0.2.2) (
 γ125 [.ptr 2000000000 0] [⟨60, (aF.avs p0)⟩] [] fun r1 =>
 cond (!r1.1) (
  (some (.ret [.d (.int .i64 13)] [] []))) (
 cond (decide (r1.2.Level < 0)) (
  (some (.ret [.d (.int .i64 14)] [] []))) (
 cond (decide (r1.2.Level > 2)) (
  (some (.ret [.d (.int .i64 14)] [] []))) (
 cond r1.2.NoLocal (
  cond r0.2.2 (
  (some (.ret [.d (.int .i64 28)] [] []))) (
  (some (.ret [.d (.int .i64 0)] [] [])))) (
 (some (.ret [.d (.int .i64 0)] [] []))))))) (
 cond (decide (p0.Level < 0)) (
 (some (.ret [.d (.int .i64 14)] [] []))) (
 cond (decide (p0.Level > 2)) (
 (some (.ret [.d (.int .i64 14)] [] []))) (
 cond p0.NoLocal (
 cond r0.2.2 (
  (some (.ret [.d (.int .i64 28)] [] []))) (
 (some (.ret [.d (.int .i64 0)] [] [])))) (
 (some (.ret [.d (.int .i64 0)] [] [])))))) := by kernel_rfl
end
abbrev X66 : aP := C66 gG (cT 124 kD) (cT 125 fW)
theorem atw : X66 = aO gG := by unfold X66 C66; rw [aK fun _ h => h, aK fun _ h => h]
theorem acC (p0 : aF) : Le (Option.map hZ (rQ p0)) (aX SE 66 [aF.av p0] [] []) := by
 refine aQ atw rfl ?_
 refine Le.trans ?_ (le_of_eq (T66 _ _ _ _ _  p0).symm)
 unfold rQ
 refine aM (good := good) eX aeu (afM _) fun r0 _ => ?_
 refine lC ?_ ?_
 ·refine aM (good := good) eX aav (abh _) fun r1 _ => ?_
  refine lC ?_ ?_
  ·exact aH rfl
  ·refine lC ?_ ?_
   ·exact aH rfl
   ·refine lC ?_ ?_
    ·exact aH rfl
    ·refine lC ?_ ?_
     ·refine lC ?_ ?_
      ·exact aH rfl
      ·exact aH rfl
     ·exact aH rfl
 ·refine lC ?_ ?_
  ·exact aH rfl
  ·refine lC ?_ ?_
   ·exact aH rfl
   ·refine lC ?_ ?_
    ·refine lC ?_ ?_
     ·exact aH rfl
     ·exact aH rfl
    ·exact aH rfl
section
variable (Γ : Fun)  (Λ2 J : Lam)
def aop : aP := aO Γ
theorem at0 (p0 : Str) (p1 : Str) : bB SE (aop Γ) Λ2 J 164 [.d (.str p0), .d (.str p1)] [] [] =
 (some (.ret [.d (.int .i64 (Lib.compareBytes p0 p1))] [] [])) := by kernel_rfl
end
abbrev as4 : aP := aop gG
theorem arp : as4 = aO gG := rfl
theorem xM (p0 : Str) (p1 : Str) : Le (Option.map eK (oG p0 p1)) (aX SE 164 [.d (.str p0), .d (.str p1)] [] []) := by
 refine aQ arp rfl ?_
 refine Le.trans ?_ (le_of_eq (at0 _ _ _  p0 p1).symm)
 unfold oG
 exact aH rfl
section
variable (Γ : Fun) (γ164 : Gm (Int)) (Λ2 J : Lam)
def amU : aP := aZ (aO Γ) 164 eK γ164
theorem atQ (p0 : Str) (p1 : Str) : bB SE (amU Γ γ164) Λ2 J 130 [.d (.str p0), .d (.str p1)] [] [] =
 γ164 [.d (.str p0), .d (.str p1)] [] [] fun r0 =>
 (some (.ret [.d (.int .i64 r0)] [] [])) := by kernel_rfl
end
abbrev aoJ : aP := amU gG (cT 164 eK)
theorem arf : aoJ = aO gG := by unfold aoJ amU; rw [aK fun _ h => h]
theorem acW (p0 : Str) (p1 : Str) : Le (Option.map iM (tF p0 p1)) (aX SE 130 [.d (.str p0), .d (.str p1)] [] []) := by
 refine aQ arf rfl ?_
 refine Le.trans ?_ (le_of_eq (atQ _ _ _ _  p0 p1).symm)
 unfold tF
 refine aM (good := good) eX wR (xM _ _) fun r0 _ => ?_
 exact aH rfl
section
variable (Γ : Fun) (γ130 : Gm (Int)) (Λ2 J : Lam)
def al8 : aP := aZ (aO Γ) 130 iM γ130
theorem atO (p0 : aF) (p1 : Str) : bB SE (al8 Γ γ130) Λ2 J 129 [aF.av p0, .d (.str p1)] [] [] =
 γ130 [.d (.str p0.Filter), .d (.str p1)] [] [] fun r0 =>
 (some (.ret [.d (.int .i64 r0)] [] [])) := by kernel_rfl
end
abbrev apW : aP := al8 gG (cT 130 iM)
theorem arM : apW = aO gG := by unfold apW al8; rw [aK fun _ h => h]
theorem nV (p0 : aF) (p1 : Str) : Le (Option.map jL (qG p0 p1)) (aX SE 129 [aF.av p0, .d (.str p1)] [] []) := by
 refine aQ arM rfl ?_
 refine Le.trans ?_ (le_of_eq (atO _ _ _ _  p0 p1).symm)
 unfold qG
 refine aM (good := good) eX acF (acW _ _) fun r0 _ => ?_
 exact aH rfl
end Te
end PX
