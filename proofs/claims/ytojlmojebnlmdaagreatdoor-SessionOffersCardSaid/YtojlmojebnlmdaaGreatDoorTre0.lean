import Derived.Test.YtojlmojebnlmdaaGreatDoorTab
set_option linter.unusedVariables false
set_option linter.unusedSimpArgs false
set_option maxRecDepth 100000
noncomputable section
namespace PX
open Go
open Md
namespace Te
section
variable (Γ : Fun)  (Λ2 J : Lam)
def arA : aP := aO Γ
theorem auA (p0 : Int) : bC SE (arA Γ) Λ2 J 100 [.d (.int .u8 p0)] [] [] =
 cond (decide (p0 ≥ 97)) (
 (some (.ret [.d (.bool (decide (p0 ≤ 122)))] [] []))) (
 (some (.ret [.d (.bool false)] [] []))) := by kernel_rfl
end
abbrev avg : aP := arA gG
theorem ar8 : avg = aO gG := rfl
theorem tY (p0 : Int) : Le (Option.map g9 (kB p0)) (aY SE 100 [.d (.int .u8 p0)] [] []) := by
 refine aS ar8 rfl ?_
 refine Le.trans ?_ (le_of_eq (auA _ _ _  p0).symm)
 unfold kB
 refine lC ?_ ?_
 ·exact aH rfl
 ·exact aH rfl
section
variable (Γ : Fun)  (Λ2 J : Lam)
def aqQ : aP := aO Γ
theorem auw (p0 : Int) : bC SE (aqQ Γ) Λ2 J 101 [.d (.int .u8 p0)] [] [] =
 cond (decide (p0 ≥ 48)) (
 (some (.ret [.d (.bool (decide (p0 ≤ 57)))] [] []))) (
 (some (.ret [.d (.bool false)] [] []))) := by kernel_rfl
end
abbrev auR : aP := aqQ gG
theorem atp : auR = aO gG := rfl
theorem acB (p0 : Int) : Le (Option.map hR (l7 p0)) (aY SE 101 [.d (.int .u8 p0)] [] []) := by
 refine aS atp rfl ?_
 refine Le.trans ?_ (le_of_eq (auw _ _ _  p0).symm)
 unfold l7
 refine lC ?_ ?_
 ·exact aH rfl
 ·exact aH rfl
def agV (C : aP) (Λ2 J : Lam) (a0 : Str) (a1 : Int) : Res := lab SE C Λ2 J 48 0 [1, 1, 0, 1, 0] (bA [(0, .d (.str a0)), (3, .d (.int .i64 a1))] [] [] [] [])
def aoS (C : aP) (Λ2 J : Lam) (a0 : Str) : Res := lab SE C Λ2 J 48 0 [1, 1, 0, 0] (bA [(0, .d (.str a0))] [] [] [] [])
section
variable (Γ : Fun) (γ100 : Gm (Bool)) (γ101 : Gm (Bool)) (Λ2 J : Lam)
def C48 : aP := aZ (aZ (aO Γ) 100 g9 γ100) 101 hR γ101
theorem T48 (p0 : Str) : bC SE (C48 Γ γ100 γ101) Λ2 J 48 [.d (.str p0)] [] [] =
 cond (decide ((List.length p0 : Int) < 1)) (
 (some (.ret [.d (.bool false)] [] []))) (
 cond (decide ((List.length p0 : Int) > 16)) (
 (some (.ret [.d (.bool false)] [] []))) (
 cond (decide (0 ≤ 0) && decide (0 < (List.length p0 : Int))) (
 γ100 [.d (.int .u8 (UInt8.toNat (List.getD p0 (Int.toNat 0) 0) : Int))] [] [] fun r0 =>
 cond (!r0) (
  (some (.ret [.d (.bool false)] [] []))) (
 aoS (C48 Γ γ100 γ101) Λ2 J p0)) none)) := by kernel_rfl
theorem asz (x0 : Str) (x3 : Int) : bW SE (C48 Γ γ100 γ101) Λ2 J 48 0 [1, 1, 0, 1, 0] (bA [(0, .d (.str x0)), (3, .d (.int .i64 x3))] [] [] [] []) =
 cond (decide (x3 < (List.length x0 : Int))) (
 cond (decide (0 ≤ x3) && decide (x3 < (List.length x0 : Int))) (
  γ100 [.d (.int .u8 (UInt8.toNat (List.getD x0 (Int.toNat x3) 0) : Int))] [] [] fun r1 =>
  cond (!r1) (
  cond (decide (0 ≤ x3) && decide (x3 < (List.length x0 : Int))) (
   γ101 [.d (.int .u8 (UInt8.toNat (List.getD x0 (Int.toNat x3) 0) : Int))] [] [] fun r2 =>
   cond (!r2) (
   cond (decide (0 ≤ x3) && decide (x3 < (List.length x0 : Int))) (
    cond ((UInt8.toNat (List.getD x0 (Int.toNat x3) 0) : Int) != 45) (
    (some (.ret [.d (.bool false)] [] []))) (
    agV (C48 Γ γ100 γ101) Λ2 J x0 (IntKind.wrap .i64 (x3 + 1)))) none) (
   agV (C48 Γ γ100 γ101) Λ2 J x0 (IntKind.wrap .i64 (x3 + 1)))) none) (
  agV (C48 Γ γ100 γ101) Λ2 J x0 (IntKind.wrap .i64 (x3 + 1)))) none) (
 (some (.ret [.d (.bool true)] [] []))) := by kernel_rfl
theorem atw (x0 : Str) : bW SE (C48 Γ γ100 γ101) Λ2 J 48 0 [1, 1, 0, 0] (bA [(0, .d (.str x0))] [] [] [] []) =
 agV (C48 Γ γ100 γ101) Λ2 J x0 0 := by kernel_rfl
end
abbrev X48 : aP := C48 gG (cT 100 g9) (cT 101 hR)
theorem anP : X48 = aO gG := by unfold X48 C48; rw [aK fun _ h => h, aK fun _ h => h]
noncomputable abbrev atz (a0 : Str) (a1 : Int) : Res := agV X48 (bU SE gG (SE.hl 48) (SE.hr 48)) (J0 SE X48) a0 a1
noncomputable abbrev asB (a0 : Str) : Res := aoS X48 (bU SE gG (SE.hl 48) (SE.hr 48)) (J0 SE X48) a0
theorem aaP : ∀ (fu : Nat) (x0 : Str) (x3 : Int), Le (Option.map cE (dU fu x0 x3)) (atz x0 x3) := by
 intro fu
 induction fu with
 | zero => intros; exact le_none
 | succ fu ih =>
  intro x0 x3
  refine Le.trans ?_ (le_of_eq ((bB anP).trans (asz _ _ _ _ _  x0 x3)).symm)
  unfold dU
  refine lC ?_ ?_
  ·refine lF ?_
   refine aM (good := good) eX sX (tY _) fun r1 _ => ?_
   refine lC ?_ ?_
   ·refine lF ?_
    refine aM (good := good) eX abU (acB _) fun r2 _ => ?_
    refine lC ?_ ?_
    ·refine lF ?_
     refine lC ?_ ?_
     ·exact aH rfl
     ·exact ih x0 (IntKind.wrap .i64 (x3 + 1))
    ·exact ih x0 (IntKind.wrap .i64 (x3 + 1))
   ·exact ih x0 (IntKind.wrap .i64 (x3 + 1))
  ·exact aH rfl
theorem aaN (x0 : Str) : Le (Option.map cE (nU x0)) (asB x0) := by
 refine Le.trans ?_ (le_of_eq ((bB anP).trans (atw _ _ _ _ _  x0)).symm)
 unfold nU
 exact aaP fuel x0 0
theorem nT (p0 : Str) : Le (Option.map cE (iB p0)) (aY SE 48 [.d (.str p0)] [] []) := by
 refine aS anP rfl ?_
 refine Le.trans ?_ (le_of_eq (T48 _ _ _ _ _  p0).symm)
 unfold iB
 refine lC ?_ ?_
 ·exact aH rfl
 ·refine lC ?_ ?_
  ·exact aH rfl
  ·refine lF ?_
   refine aM (good := good) eX sX (tY _) fun r0 _ => ?_
   refine lC ?_ ?_
   ·exact aH rfl
   ·exact aaN p0
section
variable (Γ : Fun)  (Λ2 J : Lam)
def C94 : aP := aO Γ
theorem T94 (p0 : Int) (p1 : Int) : bC SE (C94 Γ) Λ2 J 94 [.d (.int .i64 p0), .d (.int .i64 p1)] [] [] =
 cond (decide (p0 ≥ 0)) (
 (some (.ret [.d (.bool (decide (p0 ≤ p1)))] [] []))) (
 (some (.ret [.d (.bool false)] [] []))) := by kernel_rfl
end
abbrev X94 : aP := C94 gG
theorem avk : X94 = aO gG := rfl
theorem rT (p0 : Int) (p1 : Int) : Le (Option.map jT (kU p0 p1)) (aY SE 94 [.d (.int .i64 p0), .d (.int .i64 p1)] [] []) := by
 refine aS avk rfl ?_
 refine Le.trans ?_ (le_of_eq (T94 _ _ _  p0 p1).symm)
 unfold kU
 refine lC ?_ ?_
 ·exact aH rfl
 ·exact aH rfl
def agR (C : aP) (Λ2 J : Lam) (a0 : (List D)) : Res := lab SE C Λ2 J 41 0 [1, 1, 1, 0, 0] (bA [(1, .ptr 1000000000 0)] [⟨38, (List.map AV.d a0)⟩] [] [] [])
def alq (C : aP) (Λ2 J : Lam) (a0 : (List D)) : Res := lab SE C Λ2 J 41 0 [1, 1, 0, 0] (bA [(1, .ptr 1000000000 0)] [⟨38, (List.map AV.d a0)⟩] [] [] [])
section
variable (Γ : Fun) (γ48 : Gm (Bool)) (γ94 : Gm (Bool)) (Λ2 J : Lam)
def C41 : aP := aZ (aZ (aO Γ) 48 cE γ48) 94 jT γ94
theorem T41 (p0 : aC) : bC SE (C41 Γ γ48 γ94) Λ2 J 41 [aC.av p0] [] [] =
 γ48 [.d (.str p0.Client)] [] [] fun r0 =>
 cond (!r0) (
 (some (.ret [.d (.int .i64 11)] [] []))) (
 cond (!(p0.User == ([] : Str))) (
 γ48 [.d (.str p0.User)] [] [] fun r1 =>
 cond (!r1) (
  (some (.ret [.d (.int .i64 11)] [] []))) (
 alq (C41 Γ γ48 γ94) Λ2 J (aC.enc p0))) (
 alq (C41 Γ γ48 γ94) Λ2 J (aC.enc p0))) := by kernel_rfl
theorem atK (b0 : aC) : bW SE (C41 Γ γ48 γ94) Λ2 J 41 0 [1, 1, 1, 0, 0] (bA [(1, .ptr 1000000000 0)] [⟨38, (List.map AV.d (aC.enc b0))⟩] [] [] []) =
 γ94 [.d (.int .i64 b0.Expiry), .d (.int .i64 1099511627776)] [] [] fun r2 =>
 cond (!r2) (
 (some (.ret [.d (.int .i64 1)] [] []))) (
 γ94 [.d (.int .i64 b0.Until), .d (.int .i64 1099511627776)] [] [] fun r3 =>
 cond (!r3) (
 (some (.ret [.d (.int .i64 1)] [] []))) (
 γ94 [.d (.int .i64 b0.Dropped), .d (.int .i64 1099511627776)] [] [] fun r4 =>
 cond (!r4) (
 (some (.ret [.d (.int .i64 1)] [] []))) (
 (some (.ret [.d (.int .i64 0)] [] []))))) := by kernel_rfl
theorem asY (b0 : aC) : bW SE (C41 Γ γ48 γ94) Λ2 J 41 0 [1, 1, 0, 0] (bA [(1, .ptr 1000000000 0)] [⟨38, (List.map AV.d (aC.enc b0))⟩] [] [] []) =
 cond (!b0.Online) (
 cond (b0.Conn != 0) (
  (some (.ret [.d (.int .i64 9)] [] []))) (
 cond b0.Online (
  cond (b0.Until != 0) (
  (some (.ret [.d (.int .i64 9)] [] []))) (
  agR (C41 Γ γ48 γ94) Λ2 J (aC.enc b0))) (
 agR (C41 Γ γ48 γ94) Λ2 J (aC.enc b0)))) (
 cond b0.Online (
 cond (b0.Until != 0) (
  (some (.ret [.d (.int .i64 9)] [] []))) (
 agR (C41 Γ γ48 γ94) Λ2 J (aC.enc b0))) (
 agR (C41 Γ γ48 γ94) Λ2 J (aC.enc b0))) := by kernel_rfl
end
abbrev X41 : aP := C41 gG (cT 48 cE) (cT 94 jT)
theorem an7 : X41 = aO gG := by unfold X41 C41; rw [aK fun _ h => h, aK fun _ h => h]
noncomputable abbrev atb (a0 : (List D)) : Res := agR X41 (bU SE gG (SE.hl 41) (SE.hr 41)) (J0 SE X41) a0
noncomputable abbrev arW (a0 : (List D)) : Res := alq X41 (bU SE gG (SE.hl 41) (SE.hr 41)) (J0 SE X41) a0
theorem k9 (b0 : aC) : Le (Option.map eL (gN b0)) (atb (aC.enc b0)) := by
 refine Le.trans ?_ (le_of_eq ((bB an7).trans (atK _ _ _ _ _  b0)).symm)
 unfold gN
 refine aM (good := good) eX qX (rT _ _) fun r2 _ => ?_
 refine lC ?_ ?_
 ·exact aH rfl
 ·refine aM (good := good) eX qX (rT _ _) fun r3 _ => ?_
  refine lC ?_ ?_
  ·exact aH rfl
  ·refine aM (good := good) eX qX (rT _ _) fun r4 _ => ?_
   refine lC ?_ ?_
   ·exact aH rfl
   ·exact aH rfl
theorem sH (b0 : aC) : Le (Option.map eL (kP b0)) (arW (aC.enc b0)) := by
 refine Le.trans ?_ (le_of_eq ((bB an7).trans (asY _ _ _ _ _  b0)).symm)
 unfold kP
 refine lC ?_ ?_
 ·refine lC ?_ ?_
  ·exact aH rfl
  ·refine lC ?_ ?_
   ·refine lC ?_ ?_
    ·exact aH rfl
    ·exact k9 b0
   ·exact k9 b0
 ·refine lC ?_ ?_
  ·refine lC ?_ ?_
   ·exact aH rfl
   ·exact k9 b0
  ·exact k9 b0
theorem adl (p0 : aC) : Le (Option.map eL (m8 p0)) (aY SE 41 [aC.av p0] [] []) := by
 refine aS an7 rfl ?_
 refine Le.trans ?_ (le_of_eq (T41 _ _ _ _ _  p0).symm)
 unfold m8
 refine aM (good := good) eX mN (nT _) fun r0 _ => ?_
 refine lC ?_ ?_
 ·exact aH rfl
 ·refine lC ?_ ?_
  ·refine aM (good := good) eX mN (nT _) fun r1 _ => ?_
   refine lC ?_ ?_
   ·exact aH rfl
   ·exact sH p0
  ·exact sH p0
section
variable (Γ : Fun)  (Λ2 J : Lam)
def arO : aP := aO Γ
theorem auN (p0 : Str) (p1 : Str) : bC SE (arO Γ) Λ2 J 168 [.d (.str p0), .d (.str p1)] [] [] =
 cond (decide ((List.length p0 : Int) ≥ (List.length p1 : Int))) (
 cond (decide (0 ≤ (List.length p1 : Int)) && decide ((List.length p1 : Int) ≤ ((List.length p0) : Int))) (
  (some (.ret [.d (.bool ((bO p0 none (some (List.length p1 : Int))) == p1))] [] []))) none) (
 (some (.ret [.d (.bool false)] [] []))) := by kernel_rfl
end
abbrev au9 : aP := arO gG
theorem ath : au9 = aO gG := rfl
theorem pE (p0 : Str) (p1 : Str) : Le (Option.map dK (jK p0 p1)) (aY SE 168 [.d (.str p0), .d (.str p1)] [] []) := by
 refine aS ath rfl ?_
 refine Le.trans ?_ (le_of_eq (auN _ _ _  p0 p1).symm)
 unfold jK
 refine lC ?_ ?_
 ·refine lF ?_
  exact aH rfl
 ·exact aH rfl
def ak6 (C : aP) (Λ2 J : Lam) (a0 : Str) (a1 : Int) (a2 : Int) : Res := lab SE C Λ2 J 99 0 [1, 0, 1, 0] (bA [(0, .d (.str a0)), (1, .d (.int .u8 a1)), (5, .d (.int .i64 a2))] [] [] [] [])
section
variable (Γ : Fun)  (Λ2 J : Lam)
def C99 : aP := aO Γ
theorem T99 (p0 : Str) (p1 : Int) : bC SE (C99 Γ) Λ2 J 99 [.d (.str p0), .d (.int .u8 p1)] [] [] =
 ak6 (C99 Γ) Λ2 J p0 p1 0 := by kernel_rfl
theorem ar1 (x0 : Str) (x1 : Int) (x5 : Int) : bW SE (C99 Γ) Λ2 J 99 0 [1, 0, 1, 0] (bA [(0, .d (.str x0)), (1, .d (.int .u8 x1)), (5, .d (.int .i64 x5))] [] [] [] []) =
 cond (decide (x5 < (List.length x0 : Int))) (
 cond (decide (0 ≤ x5) && decide (x5 < (List.length x0 : Int))) (
  cond ((UInt8.toNat (List.getD x0 (Int.toNat x5) 0) : Int) == x1) (
  (some (.ret [.d (.bool true)] [] []))) (
  ak6 (C99 Γ) Λ2 J x0 x1 (IntKind.wrap .i64 (x5 + 1)))) none) (
 (some (.ret [.d (.bool false)] [] []))) := by kernel_rfl
end
abbrev X99 : aP := C99 gG
theorem aq5 : X99 = aO gG := rfl
noncomputable abbrev atj (a0 : Str) (a1 : Int) (a2 : Int) : Res := ak6 X99 (bU SE gG (SE.hl 99) (SE.hr 99)) (J0 SE X99) a0 a1 a2
theorem abq : ∀ (fu : Nat) (x0 : Str) (x1 : Int) (x5 : Int), Le (Option.map cR (iD fu x0 x1 x5)) (atj x0 x1 x5) := by
 intro fu
 induction fu with
 | zero => intros; exact le_none
 | succ fu ih =>
  intro x0 x1 x5
  refine Le.trans ?_ (le_of_eq ((bB aq5).trans (ar1 _ _ _  x0 x1 x5)).symm)
  unfold iD
  refine lC ?_ ?_
  ·refine lF ?_
   refine lC ?_ ?_
   ·exact aH rfl
   ·exact ih x0 x1 (IntKind.wrap .i64 (x5 + 1))
  ·exact aH rfl
theorem iC (p0 : Str) (p1 : Int) : Le (Option.map cR (gZ p0 p1)) (aY SE 99 [.d (.str p0), .d (.int .u8 p1)] [] []) := by
 refine aS aq5 rfl ?_
 refine Le.trans ?_ (le_of_eq (T99 _ _ _  p0 p1).symm)
 unfold gZ
 exact abq fuel p0 p1 0
def agh (C : aP) (Λ2 J : Lam) (a0 : Str) (a1 : Int) (a2 : Int) (a3 : (List (List D))) : Res := lab SE C Λ2 J 150 0 [1, 1, 1, 0, 1, 0] (bA [(0, .d (.str a0)), (3, .row 3003), (4, .d (.int .i64 a1)), (5, .d (.int .i64 a2))] [] [] [] [(3003, ⟨[.str], 9, 16, a3⟩)])
section
variable (Γ : Fun)  (Λ2 J : Lam)
def ahf : aP := aO Γ
theorem au5 (p0 : Str) : bC SE (ahf Γ) Λ2 J 150 [.d (.str p0)] [] [] =
 agh (ahf Γ) Λ2 J p0 0 0 (List.map bF []) := by kernel_rfl
theorem apt (x0 : Str) (x4 : Int) (x5 : Int) (w3003 : (List Str)) : bW SE (ahf Γ) Λ2 J 150 0 [1, 1, 1, 0, 1, 0] (bA [(0, .d (.str x0)), (3, .row 3003), (4, .d (.int .i64 x4)), (5, .d (.int .i64 x5))] [] [] [] [(3003, ⟨[.str], 9, 16, (List.map bF w3003)⟩)]) =
 cond (decide (x5 < (List.length x0 : Int))) (
 cond (decide (0 ≤ x5) && decide (x5 < (List.length x0 : Int))) (
  cond ((UInt8.toNat (List.getD x0 (Int.toNat x5) 0) : Int) == 47) (
  cond (decide (0 ≤ x5) && decide (x5 ≤ ((List.length x0) : Int))) (
   cond (decide (0 ≤ x4) && decide (x4 ≤ x5)) (
   cond (decide ((List.length (List.map bF w3003) + List.length (List.map bF [(bO x0 (some x4) (some x5))])) * 16 ≤ 140737488355328)) (
    agh (ahf Γ) Λ2 J x0 (IntKind.wrap .i64 (x5 + 1)) (IntKind.wrap .i64 (x5 + 1)) (((List.map bF w3003) ++ (List.map bF [(bO x0 (some x4) (some x5))])))) none) none) none) (
  agh (ahf Γ) Λ2 J x0 x4 (IntKind.wrap .i64 (x5 + 1)) (List.map bF w3003))) none) (
 cond (decide (0 ≤ x4) && decide (x4 ≤ ((List.length x0) : Int))) (
 cond (decide ((List.length (List.map bF w3003) + List.length (List.map bF [(bO x0 (some x4) none)])) * 16 ≤ 140737488355328)) (
  (some (.ret [.row 0] [] [⟨[.str], 9, 16, ((List.map bF w3003) ++ (List.map bF [(bO x0 (some x4) none)]))⟩]))) none) none) := by kernel_rfl
end
abbrev ang : aP := ahf gG
theorem aoB : ang = aO gG := rfl
noncomputable abbrev apn (a0 : Str) (a1 : Int) (a2 : Int) (a3 : (List (List D))) : Res := agh ang (bU SE gG (SE.hl 150) (SE.hr 150)) (J0 SE ang) a0 a1 a2 a3
theorem qK : ∀ (fu : Nat) (x0 : Str) (x4 : Int) (x5 : Int) (w3003 : (List Str)), Le (Option.map cJ (dV fu x0 x4 x5 w3003)) (apn x0 x4 x5 (List.map bF w3003)) := by
 intro fu
 induction fu with
 | zero => intros; exact le_none
 | succ fu ih =>
  intro x0 x4 x5 w3003
  refine Le.trans ?_ (le_of_eq ((bB aoB).trans (apt _ _ _  x0 x4 x5 w3003)).symm)
  unfold dV
  refine lC ?_ ?_
  ·refine lF ?_
   refine lC ?_ ?_
   ·refine lF ?_
    refine lF ?_
    refine lG (by simp only [EN]) ?_
    first | (simp only [EN]; exact ih x0 (IntKind.wrap .i64 (x5 + 1)) (IntKind.wrap .i64 (x5 + 1)) ((w3003 ++ [(bO x0 (some x4) (some x5))]))) | exact ih x0 (IntKind.wrap .i64 (x5 + 1)) (IntKind.wrap .i64 (x5 + 1)) ((w3003 ++ [(bO x0 (some x4) (some x5))]))
   ·exact ih x0 x4 (IntKind.wrap .i64 (x5 + 1)) w3003
  ·refine lF ?_
   refine lG (by simp only [EN]) ?_
   exact aH (by first | rfl | simp only [EN, cJ] <;> rfl)
theorem tK (p0 : Str) : Le (Option.map cJ (lB p0)) (aY SE 150 [.d (.str p0)] [] []) := by
 refine aS aoB rfl ?_
 refine Le.trans ?_ (le_of_eq (au5 _ _ _  p0).symm)
 unfold lB
 first | (simp only [EN]; exact qK fuel p0 0 0 ([] : List Str)) | exact qK fuel p0 0 0 ([] : List Str)
section
variable (Γ : Fun) (γ99 : Gm (Bool)) (γ150 : Gm ((List Str))) (Λ2 J : Lam)
def C98 : aP := aZ (aZ (aO Γ) 99 cR γ99) 150 cJ γ150
theorem T98 (p0 : Str) : bC SE (C98 Γ γ99 γ150) Λ2 J 98 [.d (.str p0)] [] [] =
 cond (decide ((List.length p0 : Int) ≥ 1)) (
 cond (decide ((List.length p0 : Int) ≤ 64)) (
  γ99 [.d (.str p0), .d (.int .u8 0)] [] [] fun r0 =>
  cond (!r0) (
  γ150 [.d (.str p0)] [] [] fun r1 =>
  (some (.ret [.d (.bool (decide ((List.length (List.map bF r1) : Int) ≤ 8)))] [] []))) (
  (some (.ret [.d (.bool false)] [] [])))) (
 (some (.ret [.d (.bool false)] [] [])))) (
 (some (.ret [.d (.bool false)] [] []))) := by kernel_rfl
end
abbrev X98 : aP := C98 gG (cT 99 cR) (cT 150 cJ)
theorem aug : X98 = aO gG := by unfold X98 C98; rw [aK fun _ h => h, aK fun _ h => h]
theorem tW (p0 : Str) : Le (Option.map c7 (kF p0)) (aY SE 98 [.d (.str p0)] [] []) := by
 refine aS aug rfl ?_
 refine Le.trans ?_ (le_of_eq (T98 _ _ _ _ _  p0).symm)
 unfold kF
 refine lC ?_ ?_
 ·refine lC ?_ ?_
  ·refine aM (good := good) eX kN (iC _ _) fun r0 _ => ?_
   refine lC ?_ ?_
   ·refine aM (good := good) eX rY (tK _) fun r1 _ => ?_
    exact aH (by first | rfl | simp only [EN, c7] <;> rfl)
   ·exact aH rfl
  ·exact aH rfl
 ·exact aH rfl
def aja (C : aP) (Λ2 J : Lam) (a0 : Int) (a1 : (List (List D))) : Res := lab SE C Λ2 J 167 0 [1, 1, 1, 0, 1, 0, 0, 1, 0, 0, 1, 0] (bA [(3, .row 3003), (4, .d (.int .i64 a0))] [] [] [] [(3003, ⟨[.str], 9, 16, a1⟩)])
def agU (C : aP) (Λ2 J : Lam) (a0 : Int) (a1 : (List (List D))) : Res := lab SE C Λ2 J 167 0 [1, 1, 1, 0, 1, 0] (bA [(3, .row 3003), (4, .d (.int .i64 a0))] [] [] [] [(3003, ⟨[.str], 9, 16, a1⟩)])
section
variable (Γ : Fun) (γ98 : Gm (Bool)) (γ150 : Gm ((List Str))) (γ99 : Gm (Bool)) (Λ2 J : Lam)
def aaU : aP := aZ (aZ (aZ (aO Γ) 98 c7 γ98) 150 cJ γ150) 99 cR γ99
theorem atY (p0 : Str) : bC SE (aaU Γ γ98 γ150 γ99) Λ2 J 167 [.d (.str p0)] [] [] =
 γ98 [.d (.str p0)] [] [] fun r0 =>
 cond (!r0) (
 (some (.ret [.d (.bool false)] [] []))) (
 γ150 [.d (.str p0)] [] [] fun r1 =>
 agU (aaU Γ γ98 γ150 γ99) Λ2 J 0 (List.map bF r1)) := by kernel_rfl
theorem arQ (x4 : Int) (w3003 : (List Str)) : bW SE (aaU Γ γ98 γ150 γ99) Λ2 J 167 0 [1, 1, 1, 0, 1, 0, 0, 1, 0, 0, 1, 0] (bA [(3, .row 3003), (4, .d (.int .i64 x4))] [] [] [] [(3003, ⟨[.str], 9, 16, (List.map bF w3003)⟩)]) =
 cond (decide (0 ≤ x4) && decide (x4 < (List.length (List.map bF w3003) : Int))) (
 γ99 [.d (.str (aV (cellAt (elemAt (List.map bF w3003) (Int.toNat x4)) 0))), .d (.int .u8 35)] [] [] fun r3 =>
 cond r3 (
  cond (decide (0 ≤ x4) && decide (x4 < (List.length (List.map bF w3003) : Int))) (
  cond (!((aV (cellAt (elemAt (List.map bF w3003) (Int.toNat x4)) 0)) == ([35] : Str))) (
   (some (.ret [.d (.bool false)] [] []))) (
  cond (x4 != (IntKind.wrap .i64 ((List.length (List.map bF w3003) : Int) - 1))) (
   (some (.ret [.d (.bool false)] [] []))) (
  agU (aaU Γ γ98 γ150 γ99) Λ2 J (IntKind.wrap .i64 (x4 + 1)) (List.map bF w3003)))) none) (
 agU (aaU Γ γ98 γ150 γ99) Λ2 J (IntKind.wrap .i64 (x4 + 1)) (List.map bF w3003))) none := by kernel_rfl
theorem aqT (x4 : Int) (w3003 : (List Str)) : bW SE (aaU Γ γ98 γ150 γ99) Λ2 J 167 0 [1, 1, 1, 0, 1, 0] (bA [(3, .row 3003), (4, .d (.int .i64 x4))] [] [] [] [(3003, ⟨[.str], 9, 16, (List.map bF w3003)⟩)]) =
 cond (decide (x4 < (List.length (List.map bF w3003) : Int))) (
 cond (decide (0 ≤ x4) && decide (x4 < (List.length (List.map bF w3003) : Int))) (
  γ99 [.d (.str (aV (cellAt (elemAt (List.map bF w3003) (Int.toNat x4)) 0))), .d (.int .u8 43)] [] [] fun r2 =>
  cond r2 (
  cond (decide (0 ≤ x4) && decide (x4 < (List.length (List.map bF w3003) : Int))) (
   cond (!((aV (cellAt (elemAt (List.map bF w3003) (Int.toNat x4)) 0)) == ([43] : Str))) (
   (some (.ret [.d (.bool false)] [] []))) (
   aja (aaU Γ γ98 γ150 γ99) Λ2 J x4 (List.map bF w3003))) none) (
  aja (aaU Γ γ98 γ150 γ99) Λ2 J x4 (List.map bF w3003))) none) (
 (some (.ret [.d (.bool true)] [] []))) := by kernel_rfl
end
abbrev ahu : aP := aaU gG (cT 98 c7) (cT 150 cJ) (cT 99 cR)
theorem akB : ahu = aO gG := by unfold ahu aaU; rw [aK fun _ h => h, aK fun _ h => h, aK fun _ h => h]
noncomputable abbrev aqh (a0 : Int) (a1 : (List (List D))) : Res := aja ahu (bU SE gG (SE.hl 167) (SE.hr 167)) (J0 SE ahu) a0 a1
noncomputable abbrev amr (a0 : Int) (a1 : (List (List D))) : Res := agU ahu (bU SE gG (SE.hl 167) (SE.hr 167)) (J0 SE ahu) a0 a1
theorem qU (k5 : Int → (List Str) → Option (Bool)) (hk5 : ∀ (x4 : Int) (w3003 : (List Str)), Le (Option.map cC (k5 x4 w3003)) (amr x4 (List.map bF w3003))) (x4 : Int) (w3003 : (List Str)) : Le (Option.map cC (hJ k5 x4 w3003)) (aqh x4 (List.map bF w3003)) := by
 refine Le.trans ?_ (le_of_eq ((bB akB).trans (arQ _ _ _ _ _ _  x4 w3003)).symm)
 unfold hJ
 refine lG (by simp only [EN]) ?_
 refine aM (good := good) eX kN (by first | (simp only [EN]; exact iC (List.getD w3003 (Int.toNat x4) default) 35) | exact iC (List.getD w3003 (Int.toNat x4) default) 35) fun r3 _ => ?_
 refine lC ?_ ?_
 ·refine lG (by simp only [EN]) ?_
  refine lD (by simp only [EN]) ?_ ?_
  ·exact aH rfl
  ·refine lD (by simp only [EN]) ?_ ?_
   ·exact aH rfl
   ·exact hk5 (IntKind.wrap .i64 (x4 + 1)) w3003
 ·exact hk5 (IntKind.wrap .i64 (x4 + 1)) w3003
theorem zK : ∀ (fu : Nat) (x4 : Int) (w3003 : (List Str)), Le (Option.map cC (dX fu x4 w3003)) (amr x4 (List.map bF w3003)) := by
 intro fu
 induction fu with
 | zero => intros; exact le_none
 | succ fu ih =>
  intro x4 w3003
  refine Le.trans ?_ (le_of_eq ((bB akB).trans (aqT _ _ _ _ _ _  x4 w3003)).symm)
  unfold dX
  refine lD (by simp only [EN]) ?_ ?_
  ·refine lG (by simp only [EN]) ?_
   refine aM (good := good) eX kN (by first | (simp only [EN]; exact iC (List.getD w3003 (Int.toNat x4) default) 43) | exact iC (List.getD w3003 (Int.toNat x4) default) 43) fun r2 _ => ?_
   refine lC ?_ ?_
   ·refine lG (by simp only [EN]) ?_
    refine lD (by simp only [EN]) ?_ ?_
    ·exact aH rfl
    ·exact qU _ (ih) x4 w3003
   ·exact qU _ (ih) x4 w3003
  ·exact aH rfl
theorem tA (p0 : Str) : Le (Option.map cC (jV p0)) (aY SE 167 [.d (.str p0)] [] []) := by
 refine aS akB rfl ?_
 refine Le.trans ?_ (le_of_eq (atY _ _ _ _ _ _  p0).symm)
 unfold jV
 refine aM (good := good) eX tB (tW _) fun r0 _ => ?_
 refine lC ?_ ?_
 ·exact aH rfl
 ·refine aM (good := good) eX rY (tK _) fun r1 _ => ?_
  exact zK fuel 0 r1
def al3 (C : aP) (Λ2 J : Lam) (a0 : Str) (a1 : Int) : Res := lab SE C Λ2 J 166 0 [1, 1, 1, 1, 1, 1, 0] (bA [(5, .d (.str a0)), (6, .d (.int .i64 a1))] [] [] [] [])
def ajN (C : aP) (Λ2 J : Lam) (a0 : Str) (a1 : Int) : Res := lab SE C Λ2 J 166 0 [1, 1, 1, 1, 1, 0, 0] (bA [(5, .d (.str a0)), (6, .d (.int .i64 a1))] [] [] [] [])
def ajK (C : aP) (Λ2 J : Lam) (a0 : Str) (a1 : Int) : Res := lab SE C Λ2 J 166 0 [1, 1, 1, 1, 0, 0] (bA [(5, .d (.str a0)), (6, .d (.int .i64 a1))] [] [] [] [])
section
variable (Γ : Fun) (γ168 : Gm (Bool)) (γ48 : Gm (Bool)) (γ167 : Gm (Bool)) (Λ2 J : Lam)
def y0 : aP := aZ (aZ (aZ (aO Γ) 168 dK γ168) 48 cE γ48) 167 cC γ167
theorem avK (p0 : Str) : bC SE (y0 Γ γ168 γ48 γ167) Λ2 J 166 [.d (.str p0)] [] [] =
 γ168 [.d (.str p0), .d (.str ([36, 115, 104, 97, 114, 101, 47] : Str))] [] [] fun r0 =>
 cond (!r0) (
 (some (.ret [.d (.str ([] : Str)), .d (.str ([] : Str)), .d (.bool false)] [] []))) (
 cond (decide (0 ≤ 7) && decide (7 ≤ ((List.length p0) : Int))) (
 ajK (y0 Γ γ168 γ48 γ167) Λ2 J (bO p0 (some 7) none) 0) none) := by kernel_rfl
theorem arI (x5 : Str) (x6 : Int) : bW SE (y0 Γ γ168 γ48 γ167) Λ2 J 166 0 [1, 1, 1, 1, 1, 1, 0] (bA [(5, .d (.str x5)), (6, .d (.int .i64 x6))] [] [] [] []) =
 cond (decide (0 ≤ x6) && decide (x6 ≤ ((List.length x5) : Int))) (
 cond (decide (0 ≤ (IntKind.wrap .i64 (x6 + 1))) && decide ((IntKind.wrap .i64 (x6 + 1)) ≤ ((List.length x5) : Int))) (
  (some (.ret [.d (.str (bO x5 none (some x6))), .d (.str (bO x5 (some (IntKind.wrap .i64 (x6 + 1))) none)), .d (.bool true)] [] []))) none) none := by kernel_rfl
theorem arD (x5 : Str) (x6 : Int) : bW SE (y0 Γ γ168 γ48 γ167) Λ2 J 166 0 [1, 1, 1, 1, 1, 0, 0] (bA [(5, .d (.str x5)), (6, .d (.int .i64 x6))] [] [] [] []) =
 cond (x6 == (List.length x5 : Int)) (
 (some (.ret [.d (.str ([] : Str)), .d (.str ([] : Str)), .d (.bool false)] [] []))) (
 cond (decide (0 ≤ x6) && decide (x6 ≤ ((List.length x5) : Int))) (
 γ48 [.d (.str (bO x5 none (some x6)))] [] [] fun r1 =>
 cond (!r1) (
  (some (.ret [.d (.str ([] : Str)), .d (.str ([] : Str)), .d (.bool false)] [] []))) (
 cond (decide (0 ≤ (IntKind.wrap .i64 (x6 + 1))) && decide ((IntKind.wrap .i64 (x6 + 1)) ≤ ((List.length x5) : Int))) (
  γ167 [.d (.str (bO x5 (some (IntKind.wrap .i64 (x6 + 1))) none))] [] [] fun r2 =>
  cond (!r2) (
  (some (.ret [.d (.str ([] : Str)), .d (.str ([] : Str)), .d (.bool false)] [] []))) (
  cond (decide (0 ≤ (IntKind.wrap .i64 (x6 + 1))) && decide ((IntKind.wrap .i64 (x6 + 1)) ≤ ((List.length x5) : Int))) (
  γ168 [.d (.str (bO x5 (some (IntKind.wrap .i64 (x6 + 1))) none)), .d (.str ([36, 115, 104, 97, 114, 101, 47] : Str))] [] [] fun r3 =>
  cond r3 (
   (some (.ret [.d (.str ([] : Str)), .d (.str ([] : Str)), .d (.bool false)] [] []))) (
  al3 (y0 Γ γ168 γ48 γ167) Λ2 J x5 x6)) none)) none)) none) := by kernel_rfl
theorem aqR (x5 : Str) (x6 : Int) : bW SE (y0 Γ γ168 γ48 γ167) Λ2 J 166 0 [1, 1, 1, 1, 0, 0] (bA [(5, .d (.str x5)), (6, .d (.int .i64 x6))] [] [] [] []) =
 cond (decide (x6 < (List.length x5 : Int))) (
 cond (decide (0 ≤ x6) && decide (x6 < (List.length x5 : Int))) (
  cond ((UInt8.toNat (List.getD x5 (Int.toNat x6) 0) : Int) != 47) (
  ajK (y0 Γ γ168 γ48 γ167) Λ2 J x5 (IntKind.wrap .i64 (x6 + 1))) (
  ajN (y0 Γ γ168 γ48 γ167) Λ2 J x5 x6)) none) (
 ajN (y0 Γ γ168 γ48 γ167) Λ2 J x5 x6) := by kernel_rfl
end
abbrev ad9 : aP := y0 gG (cT 168 dK) (cT 48 cE) (cT 167 cC)
theorem aiu : ad9 = aO gG := by unfold ad9 y0; rw [aK fun _ h => h, aK fun _ h => h, aK fun _ h => h]
noncomputable abbrev arH (a0 : Str) (a1 : Int) : Res := al3 ad9 (bU SE gG (SE.hl 166) (SE.hr 166)) (J0 SE ad9) a0 a1
noncomputable abbrev aq8 (a0 : Str) (a1 : Int) : Res := ajN ad9 (bU SE gG (SE.hl 166) (SE.hr 166)) (J0 SE ad9) a0 a1
noncomputable abbrev aqS (a0 : Str) (a1 : Int) : Res := ajK ad9 (bU SE gG (SE.hl 166) (SE.hr 166)) (J0 SE ad9) a0 a1
theorem zN (x5 : Str) (x6 : Int) : Le (Option.map cB (lN x5 x6)) (arH x5 x6) := by
 refine Le.trans ?_ (le_of_eq ((bB aiu).trans (arI _ _ _ _ _ _  x5 x6)).symm)
 unfold lN
 refine lF ?_
 refine lF ?_
 exact aH rfl
theorem qZ (x5 : Str) (x6 : Int) : Le (Option.map cB (g7 x5 x6)) (aq8 x5 x6) := by
 refine Le.trans ?_ (le_of_eq ((bB aiu).trans (arD _ _ _ _ _ _  x5 x6)).symm)
 unfold g7
 refine lC ?_ ?_
 ·exact aH rfl
 ·refine lF ?_
  refine aM (good := good) eX mN (nT _) fun r1 _ => ?_
  refine lC ?_ ?_
  ·exact aH rfl
  ·refine lF ?_
   refine aM (good := good) eX sI (tA _) fun r2 _ => ?_
   refine lC ?_ ?_
   ·exact aH rfl
   ·refine lF ?_
    refine aM (good := good) eX oO (pE _ _) fun r3 _ => ?_
    refine lC ?_ ?_
    ·exact aH rfl
    ·exact zN x5 x6
theorem yU : ∀ (fu : Nat) (x5 : Str) (x6 : Int), Le (Option.map cB (fB fu x5 x6)) (aqS x5 x6) := by
 intro fu
 induction fu with
 | zero => intros; exact le_none
 | succ fu ih =>
  intro x5 x6
  refine Le.trans ?_ (le_of_eq ((bB aiu).trans (aqR _ _ _ _ _ _  x5 x6)).symm)
  unfold fB
  refine lC ?_ ?_
  ·refine lF ?_
   refine lC ?_ ?_
   ·exact ih x5 (IntKind.wrap .i64 (x6 + 1))
   ·exact qZ x5 x6
  ·exact qZ x5 x6
theorem tD (p0 : Str) : Le (Option.map cB (jL p0)) (aY SE 166 [.d (.str p0)] [] []) := by
 refine aS aiu rfl ?_
 refine Le.trans ?_ (le_of_eq (avK _ _ _ _ _ _  p0).symm)
 unfold jL
 refine aM (good := good) eX oO (pE _ _) fun r0 _ => ?_
 refine lC ?_ ?_
 ·exact aH rfl
 ·refine lF ?_
  exact yU fuel (bO p0 (some 7) none) 0
section
variable (Γ : Fun) (γ166 : Gm (Str × Str × Bool)) (γ167 : Gm (Bool)) (γ168 : Gm (Bool)) (Λ2 J : Lam)
def amY : aP := aZ (aZ (aZ (aO Γ) 166 cB γ166) 167 cC γ167) 168 dK γ168
theorem avx (p0 : Str) : bC SE (amY Γ γ166 γ167 γ168) Λ2 J 133 [.d (.str p0)] [] [] =
 γ166 [.d (.str p0)] [] [] fun r0 =>
 cond r0.2.2 (
 (some (.ret [.d (.bool true)] [] []))) (
 γ167 [.d (.str p0)] [] [] fun r1 =>
 cond r1 (
 γ168 [.d (.str p0), .d (.str ([36, 115, 104, 97, 114, 101, 47] : Str))] [] [] fun r2 =>
 (some (.ret [.d (.bool (!r2))] [] []))) (
 (some (.ret [.d (.bool false)] [] [])))) := by kernel_rfl
end
abbrev apE : aP := amY gG (cT 166 cB) (cT 167 cC) (cT 168 dK)
theorem asi : apE = aO gG := by unfold apE amY; rw [aK fun _ h => h, aK fun _ h => h, aK fun _ h => h]
theorem abp (p0 : Str) : Le (Option.map gD (lK p0)) (aY SE 133 [.d (.str p0)] [] []) := by
 refine aS asi rfl ?_
 refine Le.trans ?_ (le_of_eq (avx _ _ _ _ _ _  p0).symm)
 unfold lK
 refine aM (good := good) eX sG (tD _) fun r0 _ => ?_
 refine lC ?_ ?_
 ·exact aH rfl
 ·refine aM (good := good) eX sI (tA _) fun r1 _ => ?_
  refine lC ?_ ?_
  ·refine aM (good := good) eX oO (pE _ _) fun r2 _ => ?_
   exact aH rfl
  ·exact aH rfl
section
variable (Γ : Fun)  (Λ2 J : Lam)
def ark : aP := aO Γ
theorem avW (p0 : Int) : bC SE (ark Γ) Λ2 J 134 [.d (.int .i64 p0)] [] [] =
 cond (p0 == 0) (
 (some (.ret [.d (.bool true)] [] []))) (
 cond (p0 == 1) (
 (some (.ret [.d (.bool true)] [] []))) (
 (some (.ret [.d (.bool (p0 == 2))] [] [])))) := by kernel_rfl
end
abbrev ave : aP := ark gG
theorem asq : ave = aO gG := rfl
theorem acO (p0 : Int) : Le (Option.map g8 (l8 p0)) (aY SE 134 [.d (.int .i64 p0)] [] []) := by
 refine aS asq rfl ?_
 refine Le.trans ?_ (le_of_eq (avW _ _ _  p0).symm)
 unfold l8
 refine lC ?_ ?_
 ·exact aH rfl
 ·refine lC ?_ ?_
  ·exact aH rfl
  ·exact aH rfl
section
variable (Γ : Fun) (γ166 : Gm (Str × Str × Bool)) (Λ2 J : Lam)
def amQ : aP := aZ (aO Γ) 166 cB γ166
theorem at4 (p0 : Str) : bC SE (amQ Γ γ166) Λ2 J 135 [.d (.str p0)] [] [] =
 γ166 [.d (.str p0)] [] [] fun r0 =>
 (some (.ret [.d (.bool r0.2.2)] [] [])) := by kernel_rfl
end
abbrev aqK : aP := amQ gG (cT 166 cB)
theorem as7 : aqK = aO gG := by unfold aqK amQ; rw [aK fun _ h => h]
theorem abR (p0 : Str) : Le (Option.map gE (n7 p0)) (aY SE 135 [.d (.str p0)] [] []) := by
 refine aS as7 rfl ?_
 refine Le.trans ?_ (le_of_eq (at4 _ _ _ _  p0).symm)
 unfold n7
 refine aM (good := good) eX sG (tD _) fun r0 _ => ?_
 exact aH rfl
section
variable (Γ : Fun) (γ133 : Gm (Bool)) (γ134 : Gm (Bool)) (γ135 : Gm (Bool)) (Λ2 J : Lam)
def C69 : aP := aZ (aZ (aZ (aO Γ) 133 gD γ133) 134 g8 γ134) 135 gE γ135
theorem T69 (p0 : aF) : bC SE (C69 Γ γ133 γ134 γ135) Λ2 J 69 [aF.av p0] [] [] =
 γ133 [.d (.str p0.Filter)] [] [] fun r0 =>
 cond (!r0) (
 (some (.ret [.d (.int .i64 13)] [] []))) (
 γ134 [.d (.int .i64 p0.Level)] [] [] fun r1 =>
 cond (!r1) (
 (some (.ret [.d (.int .i64 14)] [] []))) (
 cond p0.NoLocal (
 γ135 [.d (.str p0.Filter)] [] [] fun r2 =>
 cond r2 (
  (some (.ret [.d (.int .i64 28)] [] []))) (
 (some (.ret [.d (.int .i64 0)] [] [])))) (
 (some (.ret [.d (.int .i64 0)] [] []))))) := by kernel_rfl
end
abbrev X69 : aP := C69 gG (cT 133 gD) (cT 134 g8) (cT 135 gE)
theorem at2 : X69 = aO gG := by unfold X69 C69; rw [aK fun _ h => h, aK fun _ h => h, aK fun _ h => h]
theorem wQ (p0 : aF) : Le (Option.map iZ (n4 p0)) (aY SE 69 [aF.av p0] [] []) := by
 refine aS at2 rfl ?_
 refine Le.trans ?_ (le_of_eq (T69 _ _ _ _ _ _  p0).symm)
 unfold n4
 refine aM (good := good) eX aaS (abp _) fun r0 _ => ?_
 refine lC ?_ ?_
 ·exact aH rfl
 ·refine aM (good := good) eX abT (acO _) fun r1 _ => ?_
  refine lC ?_ ?_
  ·exact aH rfl
  ·refine lC ?_ ?_
   ·refine aM (good := good) eX aaV (abR _) fun r2 _ => ?_
    refine lC ?_ ?_
    ·exact aH rfl
    ·exact aH rfl
   ·exact aH rfl
def aiy (C : aP) (Λ2 J : Lam) (a0 : (List (List D))) (a1 : Int) : Res := lab SE C Λ2 J 42 0 [1, 1, 0, 1, 0] (bA [(0, .d (.sl aF.ks a0)), (3, .d (.int .i64 a1))] [] [] [] [])
section
variable (Γ : Fun) (γ69 : Gm (Int)) (Λ2 J : Lam)
def C42 : aP := aZ (aO Γ) 69 iZ γ69
theorem T42 (p0 : (List aF)) : bC SE (C42 Γ γ69) Λ2 J 42 [.d (.sl aF.ks (List.map aF.enc p0))] [] [] =
 cond (decide ((List.length (List.map aF.enc p0) : Int) > 32)) (
 (some (.ret [.d (.int .i64 5)] [] []))) (
 aiy (C42 Γ γ69) Λ2 J (List.map aF.enc p0) 0) := by kernel_rfl
theorem asM (x0 : (List aF)) (x3 : Int) : bW SE (C42 Γ γ69) Λ2 J 42 0 [1, 1, 0, 1, 0] (bA [(0, .d (.sl aF.ks (List.map aF.enc x0))), (3, .d (.int .i64 x3))] [] [] [] []) =
 cond (decide (x3 < (List.length (List.map aF.enc x0) : Int))) (
 cond (decide (0 ≤ x3) && decide (x3 < (List.length (List.map aF.enc x0) : Int))) (
  γ69 [.agg [.d (.str (aV (cellAt (elemAt (List.map aF.enc x0) (Int.toNat x3)) 0))), .d (.int .i64 (aL (cellAt (elemAt (List.map aF.enc x0) (Int.toNat x3)) 1))), .d (.bool (aX (cellAt (elemAt (List.map aF.enc x0) (Int.toNat x3)) 2)))]] [] [] fun r0 =>
  cond (r0 != 0) (
  (some (.ret [.d (.int .i64 r0)] [] []))) (
  cond (decide (x3 > 0)) (
  cond (decide (0 ≤ x3) && decide (x3 < (List.length (List.map aF.enc x0) : Int))) (
   cond (decide (0 ≤ (IntKind.wrap .i64 (x3 - 1))) && decide ((IntKind.wrap .i64 (x3 - 1)) < (List.length (List.map aF.enc x0) : Int))) (
   cond (Op.bytesLess (aV (cellAt (elemAt (List.map aF.enc x0) (Int.toNat x3)) 0)) (aV (cellAt (elemAt (List.map aF.enc x0) (Int.toNat (IntKind.wrap .i64 (x3 - 1)))) 0)) || (aV (cellAt (elemAt (List.map aF.enc x0) (Int.toNat x3)) 0)) == (aV (cellAt (elemAt (List.map aF.enc x0) (Int.toNat (IntKind.wrap .i64 (x3 - 1)))) 0))) (
    (some (.ret [.d (.int .i64 22)] [] []))) (
   aiy (C42 Γ γ69) Λ2 J (List.map aF.enc x0) (IntKind.wrap .i64 (x3 + 1)))) none) none) (
  aiy (C42 Γ γ69) Λ2 J (List.map aF.enc x0) (IntKind.wrap .i64 (x3 + 1))))) none) (
 (some (.ret [.d (.int .i64 0)] [] []))) := by kernel_rfl
end
abbrev X42 : aP := C42 gG (cT 69 iZ)
theorem apM : X42 = aO gG := by unfold X42 C42; rw [aK fun _ h => h]
noncomputable abbrev asc (a0 : (List (List D))) (a1 : Int) : Res := aiy X42 (bU SE gG (SE.hl 42) (SE.hr 42)) (J0 SE X42) a0 a1
theorem aaY : ∀ (fu : Nat) (x0 : (List aF)) (x3 : Int), Le (Option.map fP (eW fu x0 x3)) (asc (List.map aF.enc x0) x3) := by
 intro fu
 induction fu with
 | zero => intros; exact le_none
 | succ fu ih =>
  intro x0 x3
  refine Le.trans ?_ (le_of_eq ((bB apM).trans (asM _ _ _ _  x0 x3)).symm)
  unfold eW
  refine lD (by simp only [EN]) ?_ ?_
  ·refine lG (by simp only [EN]) ?_
   refine aM (good := good) eX adw (by first | (simp only [EN]; exact wQ (List.getD x0 (Int.toNat x3) default)) | exact wQ (List.getD x0 (Int.toNat x3) default)) fun r0 _ => ?_
   refine lC ?_ ?_
   ·exact aH rfl
   ·refine lC ?_ ?_
    ·refine lG (by simp only [EN]) ?_
     refine lG (by simp only [EN]) ?_
     refine lD (by simp only [EN]) ?_ ?_
     ·exact aH rfl
     ·exact ih x0 (IntKind.wrap .i64 (x3 + 1))
    ·exact ih x0 (IntKind.wrap .i64 (x3 + 1))
  ·exact aH rfl
theorem ade (p0 : (List aF)) : Le (Option.map fP (nO p0)) (aY SE 42 [.d (.sl aF.ks (List.map aF.enc p0))] [] []) := by
 refine aS apM rfl ?_
 refine Le.trans ?_ (le_of_eq (T42 _ _ _ _  p0).symm)
 unfold nO
 refine lD (by simp only [EN]) ?_ ?_
 ·exact aH rfl
 ·exact aaY fuel p0 0
section
variable (Γ : Fun) (γ98 : Gm (Bool)) (γ99 : Gm (Bool)) (Λ2 J : Lam)
def C47 : aP := aZ (aZ (aO Γ) 98 c7 γ98) 99 cR γ99
theorem T47 (p0 : Str) : bC SE (C47 Γ γ98 γ99) Λ2 J 47 [.d (.str p0)] [] [] =
 γ98 [.d (.str p0)] [] [] fun r0 =>
 cond r0 (
 γ99 [.d (.str p0), .d (.int .u8 43)] [] [] fun r1 =>
 cond (!r1) (
  γ99 [.d (.str p0), .d (.int .u8 35)] [] [] fun r2 =>
  (some (.ret [.d (.bool (!r2))] [] []))) (
 (some (.ret [.d (.bool false)] [] [])))) (
 (some (.ret [.d (.bool false)] [] []))) := by kernel_rfl
end
abbrev X47 : aP := C47 gG (cT 98 c7) (cT 99 cR)
theorem avj : X47 = aO gG := by unfold X47 C47; rw [aK fun _ h => h, aK fun _ h => h]
theorem acb (p0 : Str) : Le (Option.map hH (mC p0)) (aY SE 47 [.d (.str p0)] [] []) := by
 refine aS avj rfl ?_
 refine Le.trans ?_ (le_of_eq (T47 _ _ _ _ _  p0).symm)
 unfold mC
 refine aM (good := good) eX tB (tW _) fun r0 _ => ?_
 refine lC ?_ ?_
 ·refine aM (good := good) eX kN (iC _ _) fun r1 _ => ?_
  refine lC ?_ ?_
  ·refine aM (good := good) eX kN (iC _ _) fun r2 _ => ?_
   exact aH rfl
  ·exact aH rfl
 ·exact aH rfl
def uB (C : aP) (Λ2 J : Lam) (a0 : Str) (a1 : Int) : Res := lab SE C Λ2 J 102 0 [1, 1, 0, 1, 0] (bA [(0, .d (.str a0)), (3, .d (.int .i64 a1))] [] [] [] [])
def alY (C : aP) (Λ2 J : Lam) (a0 : Str) : Res := lab SE C Λ2 J 102 0 [1, 1, 0, 0] (bA [(0, .d (.str a0))] [] [] [] [])
section
variable (Γ : Fun)  (Λ2 J : Lam)
def vF : aP := aO Γ
theorem auU (p0 : Str) : bC SE (vF Γ) Λ2 J 102 [.d (.str p0)] [] [] =
 cond (decide ((List.length p0 : Int) < 1)) (
 (some (.ret [.d (.bool false)] [] []))) (
 cond (decide ((List.length p0 : Int) > 16)) (
 (some (.ret [.d (.bool false)] [] []))) (
 alY (vF Γ) Λ2 J p0)) := by kernel_rfl
theorem ari (x0 : Str) (x3 : Int) : bW SE (vF Γ) Λ2 J 102 0 [1, 1, 0, 1, 0] (bA [(0, .d (.str x0)), (3, .d (.int .i64 x3))] [] [] [] []) =
 cond (decide (x3 < (List.length x0 : Int))) (
 cond (decide (0 ≤ x3) && decide (x3 < (List.length x0 : Int))) (
  cond (decide ((UInt8.toNat (List.getD x0 (Int.toNat x3) 0) : Int) ≥ 97)) (
  cond (!(decide ((UInt8.toNat (List.getD x0 (Int.toNat x3) 0) : Int) ≤ 122))) (
   cond (decide ((UInt8.toNat (List.getD x0 (Int.toNat x3) 0) : Int) ≥ 48)) (
   cond (!(decide ((UInt8.toNat (List.getD x0 (Int.toNat x3) 0) : Int) ≤ 57))) (
    cond ((UInt8.toNat (List.getD x0 (Int.toNat x3) 0) : Int) != 45) (
    (some (.ret [.d (.bool false)] [] []))) (
    uB (vF Γ) Λ2 J x0 (IntKind.wrap .i64 (x3 + 1)))) (
   uB (vF Γ) Λ2 J x0 (IntKind.wrap .i64 (x3 + 1)))) (
   cond ((UInt8.toNat (List.getD x0 (Int.toNat x3) 0) : Int) != 45) (
   (some (.ret [.d (.bool false)] [] []))) (
   uB (vF Γ) Λ2 J x0 (IntKind.wrap .i64 (x3 + 1))))) (
  uB (vF Γ) Λ2 J x0 (IntKind.wrap .i64 (x3 + 1)))) (
  cond (decide ((UInt8.toNat (List.getD x0 (Int.toNat x3) 0) : Int) ≥ 48)) (
  cond (!(decide ((UInt8.toNat (List.getD x0 (Int.toNat x3) 0) : Int) ≤ 57))) (
   cond ((UInt8.toNat (List.getD x0 (Int.toNat x3) 0) : Int) != 45) (
   (some (.ret [.d (.bool false)] [] []))) (
   uB (vF Γ) Λ2 J x0 (IntKind.wrap .i64 (x3 + 1)))) (
  uB (vF Γ) Λ2 J x0 (IntKind.wrap .i64 (x3 + 1)))) (
  cond ((UInt8.toNat (List.getD x0 (Int.toNat x3) 0) : Int) != 45) (
  (some (.ret [.d (.bool false)] [] []))) (
  uB (vF Γ) Λ2 J x0 (IntKind.wrap .i64 (x3 + 1)))))) none) (
 (some (.ret [.d (.bool true)] [] []))) := by kernel_rfl
theorem apK (x0 : Str) : bW SE (vF Γ) Λ2 J 102 0 [1, 1, 0, 0] (bA [(0, .d (.str x0))] [] [] [] []) =
 uB (vF Γ) Λ2 J x0 0 := by kernel_rfl
end
abbrev ai6 : aP := vF gG
theorem aln : ai6 = aO gG := rfl
noncomputable abbrev apX (a0 : Str) (a1 : Int) : Res := uB ai6 (bU SE gG (SE.hl 102) (SE.hr 102)) (J0 SE ai6) a0 a1
noncomputable abbrev apI (a0 : Str) : Res := alY ai6 (bU SE gG (SE.hl 102) (SE.hr 102)) (J0 SE ai6) a0
theorem abo : ∀ (fu : Nat) (x0 : Str) (x3 : Int), Le (Option.map eZ (cG fu x0 x3)) (apX x0 x3) := by
 intro fu
 induction fu with
 | zero => intros; exact le_none
 | succ fu ih =>
  intro x0 x3
  refine Le.trans ?_ (le_of_eq ((bB aln).trans (ari _ _ _  x0 x3)).symm)
  unfold cG
  refine lC ?_ ?_
  ·refine lF ?_
   refine lC ?_ ?_
   ·refine lC ?_ ?_
    ·refine lC ?_ ?_
     ·refine lC ?_ ?_
      ·refine lC ?_ ?_
       ·exact aH rfl
       ·exact ih x0 (IntKind.wrap .i64 (x3 + 1))
      ·exact ih x0 (IntKind.wrap .i64 (x3 + 1))
     ·refine lC ?_ ?_
      ·exact aH rfl
      ·exact ih x0 (IntKind.wrap .i64 (x3 + 1))
    ·exact ih x0 (IntKind.wrap .i64 (x3 + 1))
   ·refine lC ?_ ?_
    ·refine lC ?_ ?_
     ·refine lC ?_ ?_
      ·exact aH rfl
      ·exact ih x0 (IntKind.wrap .i64 (x3 + 1))
     ·exact ih x0 (IntKind.wrap .i64 (x3 + 1))
    ·refine lC ?_ ?_
     ·exact aH rfl
     ·exact ih x0 (IntKind.wrap .i64 (x3 + 1))
  ·exact aH rfl
theorem abK (x0 : Str) : Le (Option.map eZ (oE x0)) (apI x0) := by
 refine Le.trans ?_ (le_of_eq ((bB aln).trans (apK _ _ _  x0)).symm)
 unfold oE
 exact abo fuel x0 0
theorem wV (p0 : Str) : Le (Option.map eZ (oF p0)) (aY SE 102 [.d (.str p0)] [] []) := by
 refine aS aln rfl ?_
 refine Le.trans ?_ (le_of_eq (auU _ _ _  p0).symm)
 unfold oF
 refine lC ?_ ?_
 ·exact aH rfl
 ·refine lC ?_ ?_
  ·exact aH rfl
  ·exact abK p0
def aiI (C : aP) (Λ2 J : Lam) (a0 : (List (List D))) (a1 : Int) : Res := lab SE C Λ2 J 49 0 [1, 1, 0, 1, 0] (bA [(0, .d (.sl aD.ks a0)), (3, .d (.int .i64 a1))] [] [] [] [])
section
variable (Γ : Fun) (γ102 : Gm (Bool)) (Λ2 J : Lam)
def C49 : aP := aZ (aO Γ) 102 eZ γ102
theorem T49 (p0 : (List aD)) : bC SE (C49 Γ γ102) Λ2 J 49 [.d (.sl aD.ks (List.map aD.enc p0))] [] [] =
 cond (decide ((List.length (List.map aD.enc p0) : Int) > 8)) (
 (some (.ret [.d (.int .i64 5)] [] []))) (
 aiI (C49 Γ γ102) Λ2 J (List.map aD.enc p0) 0) := by kernel_rfl
theorem atv (x0 : (List aD)) (x3 : Int) : bW SE (C49 Γ γ102) Λ2 J 49 0 [1, 1, 0, 1, 0] (bA [(0, .d (.sl aD.ks (List.map aD.enc x0))), (3, .d (.int .i64 x3))] [] [] [] []) =
 cond (decide (x3 < (List.length (List.map aD.enc x0) : Int))) (
 cond (decide (0 ≤ x3) && decide (x3 < (List.length (List.map aD.enc x0) : Int))) (
  γ102 [.d (.str (aV (cellAt (elemAt (List.map aD.enc x0) (Int.toNat x3)) 0)))] [] [] fun r0 =>
  cond (!r0) (
  (some (.ret [.d (.int .i64 16)] [] []))) (
  cond (decide (0 ≤ x3) && decide (x3 < (List.length (List.map aD.enc x0) : Int))) (
  cond (decide ((List.length (aV (cellAt (elemAt (List.map aD.enc x0) (Int.toNat x3)) 1)) : Int) > 160)) (
   (some (.ret [.d (.int .i64 5)] [] []))) (
  cond (decide (x3 > 0)) (
   cond (decide (0 ≤ x3) && decide (x3 < (List.length (List.map aD.enc x0) : Int))) (
   cond (decide (0 ≤ (IntKind.wrap .i64 (x3 - 1))) && decide ((IntKind.wrap .i64 (x3 - 1)) < (List.length (List.map aD.enc x0) : Int))) (
    cond (Op.bytesLess (aV (cellAt (elemAt (List.map aD.enc x0) (Int.toNat x3)) 0)) (aV (cellAt (elemAt (List.map aD.enc x0) (Int.toNat (IntKind.wrap .i64 (x3 - 1)))) 0)) || (aV (cellAt (elemAt (List.map aD.enc x0) (Int.toNat x3)) 0)) == (aV (cellAt (elemAt (List.map aD.enc x0) (Int.toNat (IntKind.wrap .i64 (x3 - 1)))) 0))) (
    (some (.ret [.d (.int .i64 16)] [] []))) (
    aiI (C49 Γ γ102) Λ2 J (List.map aD.enc x0) (IntKind.wrap .i64 (x3 + 1)))) none) none) (
  aiI (C49 Γ γ102) Λ2 J (List.map aD.enc x0) (IntKind.wrap .i64 (x3 + 1))))) none)) none) (
 (some (.ret [.d (.int .i64 0)] [] []))) := by kernel_rfl
end
abbrev X49 : aP := C49 gG (cT 102 eZ)
theorem aqd : X49 = aO gG := by unfold X49 C49; rw [aK fun _ h => h]
noncomputable abbrev aty (a0 : (List (List D))) (a1 : Int) : Res := aiI X49 (bU SE gG (SE.hl 49) (SE.hr 49)) (J0 SE X49) a0 a1
theorem aai : ∀ (fu : Nat) (x0 : (List aD)) (x3 : Int), Le (Option.map fF (eM fu x0 x3)) (aty (List.map aD.enc x0) x3) := by
 intro fu
 induction fu with
 | zero => intros; exact le_none
 | succ fu ih =>
  intro x0 x3
  refine Le.trans ?_ (le_of_eq ((bB aqd).trans (atv _ _ _ _  x0 x3)).symm)
  unfold eM
  refine lD (by simp only [EN]) ?_ ?_
  ·refine lG (by simp only [EN]) ?_
   refine aM (good := good) eX adu (by first | (simp only [EN]; exact wV ((List.getD x0 (Int.toNat x3) default).Key)) | exact wV ((List.getD x0 (Int.toNat x3) default).Key)) fun r0 _ => ?_
   refine lC ?_ ?_
   ·exact aH rfl
   ·refine lG (by simp only [EN]) ?_
    refine lD (by simp only [EN]) ?_ ?_
    ·exact aH rfl
    ·refine lC ?_ ?_
     ·refine lG (by simp only [EN]) ?_
      refine lG (by simp only [EN]) ?_
      refine lD (by simp only [EN]) ?_ ?_
      ·exact aH rfl
      ·exact ih x0 (IntKind.wrap .i64 (x3 + 1))
     ·exact ih x0 (IntKind.wrap .i64 (x3 + 1))
  ·exact aH rfl
theorem acK (p0 : (List aD)) : Le (Option.map fF (l5 p0)) (aY SE 49 [.d (.sl aD.ks (List.map aD.enc p0))] [] []) := by
 refine aS aqd rfl ?_
 refine Le.trans ?_ (le_of_eq (T49 _ _ _ _  p0).symm)
 unfold l5
 refine lD (by simp only [EN]) ?_ ?_
 ·exact aH rfl
 ·exact aai fuel p0 0
def ajH (C : aP) (Λ2 J : Lam) (a0 : (List D)) : Res := lab SE C Λ2 J 13 0 [1, 1, 1, 1, 1, 1, 0, 0] (bA [(1, .ptr 1000000000 0)] [⟨34, (List.map AV.d a0)⟩] [] [] [])
def aov (C : aP) (Λ2 J : Lam) (a0 : (List D)) : Res := lab SE C Λ2 J 13 0 [1, 1, 1, 1, 1, 0, 0] (bA [(1, .ptr 1000000000 0)] [⟨34, (List.map AV.d a0)⟩] [] [] [])
def aoI (C : aP) (Λ2 J : Lam) (a0 : (List D)) : Res := lab SE C Λ2 J 13 0 [1, 1, 1, 1, 0, 0] (bA [(1, .ptr 1000000000 0)] [⟨34, (List.map AV.d a0)⟩] [] [] [])
section
variable (Γ : Fun) (γ47 : Gm (Bool)) (γ48 : Gm (Bool)) (γ49 : Gm (Int)) (Λ2 J : Lam)
def C13 : aP := aZ (aZ (aZ (aO Γ) 47 hH γ47) 48 cE γ48) 49 fF γ49
theorem T13 (p0 : aA) : bC SE (C13 Γ γ47 γ48 γ49) Λ2 J 13 [aA.av p0] [] [] =
 γ47 [.d (.str p0.Topic)] [] [] fun r0 =>
 cond (!r0) (
 (some (.ret [.d (.int .i64 12)] [] []))) (
 cond (decide ((List.length p0.Payload : Int) > 256)) (
 (some (.ret [.d (.int .i64 5)] [] []))) (
 cond (decide (p0.Level < 0)) (
 (some (.ret [.d (.int .i64 14)] [] []))) (
 cond (decide (p0.Level > 2)) (
 (some (.ret [.d (.int .i64 14)] [] []))) (
 aoI (C13 Γ γ47 γ48 γ49) Λ2 J (aA.enc p0))))) := by kernel_rfl
theorem aru (b0 : aA) : bW SE (C13 Γ γ47 γ48 γ49) Λ2 J 13 0 [1, 1, 1, 1, 1, 1, 0, 0] (bA [(1, .ptr 1000000000 0)] [⟨34, (List.map AV.d (aA.enc b0))⟩] [] [] []) =
 cond (decide (b0.Seq < 0)) (
 (some (.ret [.d (.int .i64 1)] [] []))) (
 cond (decide (b0.Seq > 1099511627776)) (
 (some (.ret [.d (.int .i64 1)] [] []))) (
 γ49 [.d (.sl aD.ks (List.map aD.enc b0.Props))] [] [] fun r2 =>
 (some (.ret [.d (.int .i64 r2)] [] [])))) := by kernel_rfl
theorem asH (b0 : aA) : bW SE (C13 Γ γ47 γ48 γ49) Λ2 J 13 0 [1, 1, 1, 1, 1, 0, 0] (bA [(1, .ptr 1000000000 0)] [⟨34, (List.map AV.d (aA.enc b0))⟩] [] [] []) =
 cond (!(b0.From == ([] : Str))) (
 γ48 [.d (.str b0.From)] [] [] fun r1 =>
 cond (!r1) (
  (some (.ret [.d (.int .i64 11)] [] []))) (
 ajH (C13 Γ γ47 γ48 γ49) Λ2 J (aA.enc b0))) (
 ajH (C13 Γ γ47 γ48 γ49) Λ2 J (aA.enc b0)) := by kernel_rfl
theorem ar4 (b0 : aA) : bW SE (C13 Γ γ47 γ48 γ49) Λ2 J 13 0 [1, 1, 1, 1, 0, 0] (bA [(1, .ptr 1000000000 0)] [⟨34, (List.map AV.d (aA.enc b0))⟩] [] [] []) =
 cond (decide (b0.Priority < 0)) (
 (some (.ret [.d (.int .i64 1)] [] []))) (
 cond (decide (b0.Priority > 9)) (
 (some (.ret [.d (.int .i64 1)] [] []))) (
 cond (decide (b0.Expires < 0)) (
 (some (.ret [.d (.int .i64 1)] [] []))) (
 cond (decide (b0.Expires > 1099511627776)) (
 (some (.ret [.d (.int .i64 1)] [] []))) (
 aov (C13 Γ γ47 γ48 γ49) Λ2 J (aA.enc b0))))) := by kernel_rfl
end
abbrev X13 : aP := C13 gG (cT 47 hH) (cT 48 cE) (cT 49 fF)
theorem akX : X13 = aO gG := by unfold X13 C13; rw [aK fun _ h => h, aK fun _ h => h, aK fun _ h => h]
noncomputable abbrev arF (a0 : (List D)) : Res := ajH X13 (bU SE gG (SE.hl 13) (SE.hr 13)) (J0 SE X13) a0
noncomputable abbrev asj (a0 : (List D)) : Res := aov X13 (bU SE gG (SE.hl 13) (SE.hr 13)) (J0 SE X13) a0
noncomputable abbrev asb (a0 : (List D)) : Res := aoI X13 (bU SE gG (SE.hl 13) (SE.hr 13)) (J0 SE X13) a0
theorem qN (b0 : aA) : Le (Option.map bN (jQ b0)) (arF (aA.enc b0)) := by
 refine Le.trans ?_ (le_of_eq ((bB akX).trans (aru _ _ _ _ _ _  b0)).symm)
 unfold jQ
 refine lC ?_ ?_
 ·exact aH rfl
 ·refine lC ?_ ?_
  ·exact aH rfl
  ·refine aM (good := good) eX aby (acK _) fun r2 _ => ?_
   exact aH rfl
theorem aah (b0 : aA) : Le (Option.map bN (mI b0)) (asj (aA.enc b0)) := by
 refine Le.trans ?_ (le_of_eq ((bB akX).trans (asH _ _ _ _ _ _  b0)).symm)
 unfold mI
 refine lC ?_ ?_
 ·refine aM (good := good) eX mN (nT _) fun r1 _ => ?_
  refine lC ?_ ?_
  ·exact aH rfl
  ·exact qN b0
 ·exact qN b0
theorem aaf (b0 : aA) : Le (Option.map bN (mH b0)) (asb (aA.enc b0)) := by
 refine Le.trans ?_ (le_of_eq ((bB akX).trans (ar4 _ _ _ _ _ _  b0)).symm)
 unfold mH
 refine lC ?_ ?_
 ·exact aH rfl
 ·refine lC ?_ ?_
  ·exact aH rfl
  ·refine lC ?_ ?_
   ·exact aH rfl
   ·refine lC ?_ ?_
    ·exact aH rfl
    ·exact aah b0
theorem j3 (p0 : aA) : Le (Option.map bN (gI p0)) (aY SE 13 [aA.av p0] [] []) := by
 refine aS akX rfl ?_
 refine Le.trans ?_ (le_of_eq (T13 _ _ _ _ _ _  p0).symm)
 unfold gI
 refine aM (good := good) eX abr (acb _) fun r0 _ => ?_
 refine lC ?_ ?_
 ·exact aH rfl
 ·refine lC ?_ ?_
  ·exact aH rfl
  ·refine lC ?_ ?_
   ·exact aH rfl
   ·refine lC ?_ ?_
    ·exact aH rfl
    ·exact aaf p0
def akG (C : aP) (Λ2 J : Lam) (a0 : (List (List D))) (a1 : Int) : Res := lab SE C Λ2 J 43 0 [1, 1, 0, 1, 0] (bA [(0, .d (.sl aA.ks a0)), (3, .d (.int .i64 a1))] [] [] [] [])
section
variable (Γ : Fun) (γ13 : Gm (Int)) (Λ2 J : Lam)
def C43 : aP := aZ (aO Γ) 13 bN γ13
theorem T43 (p0 : (List aA)) : bC SE (C43 Γ γ13) Λ2 J 43 [.d (.sl aA.ks (List.map aA.enc p0))] [] [] =
 cond (decide ((List.length (List.map aA.enc p0) : Int) > 256)) (
 (some (.ret [.d (.int .i64 5)] [] []))) (
 akG (C43 Γ γ13) Λ2 J (List.map aA.enc p0) 0) := by kernel_rfl
theorem ar6 (x0 : (List aA)) (x3 : Int) : bW SE (C43 Γ γ13) Λ2 J 43 0 [1, 1, 0, 1, 0] (bA [(0, .d (.sl aA.ks (List.map aA.enc x0))), (3, .d (.int .i64 x3))] [] [] [] []) =
 cond (decide (x3 < (List.length (List.map aA.enc x0) : Int))) (
 cond (decide (0 ≤ x3) && decide (x3 < (List.length (List.map aA.enc x0) : Int))) (
  γ13 [.agg [.d (.str (aV (cellAt (elemAt (List.map aA.enc x0) (Int.toNat x3)) 0))), .d (.str (aV (cellAt (elemAt (List.map aA.enc x0) (Int.toNat x3)) 1))), .d (.int .i64 (aL (cellAt (elemAt (List.map aA.enc x0) (Int.toNat x3)) 2))), .d (.bool (aX (cellAt (elemAt (List.map aA.enc x0) (Int.toNat x3)) 3))), .d (.int .i64 (aL (cellAt (elemAt (List.map aA.enc x0) (Int.toNat x3)) 4))), .d (.int .i64 (aL (cellAt (elemAt (List.map aA.enc x0) (Int.toNat x3)) 5))), .d (.str (aV (cellAt (elemAt (List.map aA.enc x0) (Int.toNat x3)) 6))), .d (.int .i64 (aL (cellAt (elemAt (List.map aA.enc x0) (Int.toNat x3)) 7))), .d (.sl aD.ks (dSl (cellAt (elemAt (List.map aA.enc x0) (Int.toNat x3)) 8)))]] [] [] fun r0 =>
  cond (r0 != 0) (
  (some (.ret [.d (.int .i64 r0)] [] []))) (
  akG (C43 Γ γ13) Λ2 J (List.map aA.enc x0) (IntKind.wrap .i64 (x3 + 1)))) none) (
 (some (.ret [.d (.int .i64 0)] [] []))) := by kernel_rfl
end
abbrev X43 : aP := C43 gG (cT 13 bN)
theorem apw : X43 = aO gG := by unfold X43 C43; rw [aK fun _ h => h]
noncomputable abbrev ate (a0 : (List (List D))) (a1 : Int) : Res := akG X43 (bU SE gG (SE.hl 43) (SE.hr 43)) (J0 SE X43) a0 a1
theorem aaj : ∀ (fu : Nat) (x0 : (List aA)) (x3 : Int), Le (Option.map fE (fQ fu x0 x3)) (ate (List.map aA.enc x0) x3) := by
 intro fu
 induction fu with
 | zero => intros; exact le_none
 | succ fu ih =>
  intro x0 x3
  refine Le.trans ?_ (le_of_eq ((bB apw).trans (ar6 _ _ _ _  x0 x3)).symm)
  unfold fQ
  refine lD (by simp only [EN]) ?_ ?_
  ·refine lG (by simp only [EN]) ?_
   refine aM (good := good) eX lW (by first | (simp only [EN]; exact j3 (List.getD x0 (Int.toNat x3) default)) | exact j3 (List.getD x0 (Int.toNat x3) default)) fun r0 _ => ?_
   refine lC ?_ ?_
   ·exact aH rfl
   ·exact ih x0 (IntKind.wrap .i64 (x3 + 1))
  ·exact aH rfl
theorem acm (p0 : (List aA)) : Le (Option.map fE (l6 p0)) (aY SE 43 [.d (.sl aA.ks (List.map aA.enc p0))] [] []) := by
 refine aS apw rfl ?_
 refine Le.trans ?_ (le_of_eq (T43 _ _ _ _  p0).symm)
 unfold l6
 refine lD (by simp only [EN]) ?_ ?_
 ·exact aH rfl
 ·exact aaj fuel p0 0
def aiw (C : aP) (Λ2 J : Lam) (a0 : Int) (a1 : (List D)) : Res := lab SE C Λ2 J 95 0 [1, 1, 0, 1, 0] (bA [(1, .ptr 1000000000 0), (3, .d (.int .i64 a0))] [⟨27, (List.map AV.d a1)⟩] [] [] [])
section
variable (Γ : Fun)  (Λ2 J : Lam)
def C95 : aP := aO Γ
theorem T95 (p0 : aJ) : bC SE (C95 Γ) Λ2 J 95 [aJ.av p0] [] [] =
 cond (decide ((List.length (List.map (encI .i64) p0.Used) : Int) > 32)) (
 (some (.ret [.d (.int .i64 5)] [] []))) (
 aiw (C95 Γ) Λ2 J 0 (aJ.enc p0)) := by kernel_rfl
theorem asD (x3 : Int) (b0 : aJ) : bW SE (C95 Γ) Λ2 J 95 0 [1, 1, 0, 1, 0] (bA [(1, .ptr 1000000000 0), (3, .d (.int .i64 x3))] [⟨27, (List.map AV.d (aJ.enc b0))⟩] [] [] []) =
 cond (decide (x3 < (List.length (List.map (encI .i64) b0.Used) : Int))) (
 cond (decide (0 ≤ x3) && decide (x3 < (List.length (List.map (encI .i64) b0.Used) : Int))) (
  cond (decide ((aL (cellAt (elemAt (List.map (encI .i64) b0.Used) (Int.toNat x3)) 0)) < 1)) (
  (some (.ret [.d (.int .i64 15)] [] []))) (
  cond (decide (0 ≤ x3) && decide (x3 < (List.length (List.map (encI .i64) b0.Used) : Int))) (
  cond (decide ((aL (cellAt (elemAt (List.map (encI .i64) b0.Used) (Int.toNat x3)) 0)) > 65535)) (
   (some (.ret [.d (.int .i64 15)] [] []))) (
  cond (decide (x3 > 0)) (
   cond (decide (0 ≤ x3) && decide (x3 < (List.length (List.map (encI .i64) b0.Used) : Int))) (
   cond (decide (0 ≤ (IntKind.wrap .i64 (x3 - 1))) && decide ((IntKind.wrap .i64 (x3 - 1)) < (List.length (List.map (encI .i64) b0.Used) : Int))) (
    cond (decide ((aL (cellAt (elemAt (List.map (encI .i64) b0.Used) (Int.toNat x3)) 0)) ≤ (aL (cellAt (elemAt (List.map (encI .i64) b0.Used) (Int.toNat (IntKind.wrap .i64 (x3 - 1)))) 0)))) (
    (some (.ret [.d (.int .i64 15)] [] []))) (
    aiw (C95 Γ) Λ2 J (IntKind.wrap .i64 (x3 + 1)) (aJ.enc b0))) none) none) (
  aiw (C95 Γ) Λ2 J (IntKind.wrap .i64 (x3 + 1)) (aJ.enc b0)))) none)) none) (
 cond (decide (b0.Last < 0)) (
 (some (.ret [.d (.int .i64 1)] [] []))) (
 cond (decide (b0.Last > 65535)) (
 (some (.ret [.d (.int .i64 1)] [] []))) (
 (some (.ret [.d (.int .i64 0)] [] []))))) := by kernel_rfl
end
abbrev X95 : aP := C95 gG
theorem apY : X95 = aO gG := rfl
noncomputable abbrev atL (a0 : Int) (a1 : (List D)) : Res := aiw X95 (bU SE gG (SE.hl 95) (SE.hr 95)) (J0 SE X95) a0 a1
theorem aak : ∀ (fu : Nat) (x3 : Int) (b0 : aJ), Le (Option.map cZ (cK fu x3 b0)) (atL x3 (aJ.enc b0)) := by
 intro fu
 induction fu with
 | zero => intros; exact le_none
 | succ fu ih =>
  intro x3 b0
  refine Le.trans ?_ (le_of_eq ((bB apY).trans (asD _ _ _  x3 b0)).symm)
  unfold cK
  refine lD (by simp only [EN]) ?_ ?_
  ·refine lG (by simp only [EN]) ?_
   refine lD (by simp only [EN]) ?_ ?_
   ·exact aH rfl
   ·refine lG (by simp only [EN]) ?_
    refine lD (by simp only [EN]) ?_ ?_
    ·exact aH rfl
    ·refine lC ?_ ?_
     ·refine lG (by simp only [EN]) ?_
      refine lG (by simp only [EN]) ?_
      refine lD (by simp only [EN]) ?_ ?_
      ·exact aH rfl
      ·exact ih (IntKind.wrap .i64 (x3 + 1)) b0
     ·exact ih (IntKind.wrap .i64 (x3 + 1)) b0
  ·refine lC ?_ ?_
   ·exact aH rfl
   ·refine lC ?_ ?_
    ·exact aH rfl
    ·exact aH rfl
theorem uJ (p0 : aJ) : Le (Option.map cZ (gF p0)) (aY SE 95 [aJ.av p0] [] []) := by
 refine aS apY rfl ?_
 refine Le.trans ?_ (le_of_eq (T95 _ _ _  p0).symm)
 unfold gF
 refine lD (by simp only [EN]) ?_ ?_
 ·exact aH rfl
 ·exact aak fuel 0 p0
def aiR (C : aP) (Λ2 J : Lam) (a0 : Int) (a1 : Int) (a2 : (List D)) : Res := lab SE C Λ2 J 148 0 [1, 0, 1, 0] (bA [(1, .d (.int .i64 a0)), (2, .ptr 1000000000 0), (5, .d (.int .i64 a1))] [⟨27, (List.map AV.d a2)⟩] [] [] [])
section
variable (Γ : Fun)  (Λ2 J : Lam)
def aiN : aP := aO Γ
theorem auq (p0 : aJ) (p1 : Int) : bC SE (aiN Γ) Λ2 J 148 [aJ.av p0, .d (.int .i64 p1)] [] [] =
 aiR (aiN Γ) Λ2 J p1 0 (aJ.enc p0) := by kernel_rfl
theorem apW (x1 : Int) (x5 : Int) (b0 : aJ) : bW SE (aiN Γ) Λ2 J 148 0 [1, 0, 1, 0] (bA [(1, .d (.int .i64 x1)), (2, .ptr 1000000000 0), (5, .d (.int .i64 x5))] [⟨27, (List.map AV.d (aJ.enc b0))⟩] [] [] []) =
 cond (decide (x5 < (List.length (List.map (encI .i64) b0.Used) : Int))) (
 cond (decide (0 ≤ x5) && decide (x5 < (List.length (List.map (encI .i64) b0.Used) : Int))) (
  cond ((aL (cellAt (elemAt (List.map (encI .i64) b0.Used) (Int.toNat x5)) 0)) == x1) (
  (some (.ret [.d (.bool true)] [] []))) (
  aiR (aiN Γ) Λ2 J x1 (IntKind.wrap .i64 (x5 + 1)) (aJ.enc b0))) none) (
 (some (.ret [.d (.bool false)] [] []))) := by kernel_rfl
end
abbrev ana : aP := aiN gG
theorem aoO : ana = aO gG := rfl
noncomputable abbrev apu (a0 : Int) (a1 : Int) (a2 : (List D)) : Res := aiR ana (bU SE gG (SE.hl 148) (SE.hr 148)) (J0 SE ana) a0 a1 a2
theorem abG : ∀ (fu : Nat) (x1 : Int) (x5 : Int) (b0 : aJ), Le (Option.map gU (iE fu x1 x5 b0)) (apu x1 x5 (aJ.enc b0)) := by
 intro fu
 induction fu with
 | zero => intros; exact le_none
 | succ fu ih =>
  intro x1 x5 b0
  refine Le.trans ?_ (le_of_eq ((bB aoO).trans (apW _ _ _  x1 x5 b0)).symm)
  unfold iE
  refine lD (by simp only [EN]) ?_ ?_
  ·refine lG (by simp only [EN]) ?_
   refine lD (by simp only [EN]) ?_ ?_
   ·exact aH rfl
   ·exact ih x1 (IntKind.wrap .i64 (x5 + 1)) b0
  ·exact aH rfl
theorem w5 (p0 : aJ) (p1 : Int) : Le (Option.map gU (oA p0 p1)) (aY SE 148 [aJ.av p0, .d (.int .i64 p1)] [] []) := by
 refine aS aoO rfl ?_
 refine Le.trans ?_ (le_of_eq (auq _ _ _  p0 p1).symm)
 unfold oA
 exact abG fuel p1 0 p0
def ai9 (C : aP) (Λ2 J : Lam) (a0 : (List (List D))) (a1 : Int) (a2 : Int) : Res := lab SE C Λ2 J 115 0 [1, 0, 1, 0] (bA [(0, .d (.sl aB.ks a0)), (1, .d (.int .i64 a1)), (5, .d (.int .i64 a2))] [] [] [] [])
section
variable (Γ : Fun)  (Λ2 J : Lam)
def ajV : aP := aO Γ
theorem auP (p0 : (List aB)) (p1 : Int) : bC SE (ajV Γ) Λ2 J 115 [.d (.sl aB.ks (List.map aB.enc p0)), .d (.int .i64 p1)] [] [] =
 ai9 (ajV Γ) Λ2 J (List.map aB.enc p0) p1 0 := by kernel_rfl
theorem aqA (x0 : (List aB)) (x1 : Int) (x5 : Int) : bW SE (ajV Γ) Λ2 J 115 0 [1, 0, 1, 0] (bA [(0, .d (.sl aB.ks (List.map aB.enc x0))), (1, .d (.int .i64 x1)), (5, .d (.int .i64 x5))] [] [] [] []) =
 cond (decide (x5 < (List.length (List.map aB.enc x0) : Int))) (
 cond (decide (0 ≤ x5) && decide (x5 < (List.length (List.map aB.enc x0) : Int))) (
  cond ((aL (cellAt (elemAt (List.map aB.enc x0) (Int.toNat x5)) 0)) == x1) (
  (some (.ret [.d (.int .i64 x5)] [] []))) (
  ai9 (ajV Γ) Λ2 J (List.map aB.enc x0) x1 (IntKind.wrap .i64 (x5 + 1)))) none) (
 (some (.ret [.d (.int .i64 (-1))] [] []))) := by kernel_rfl
end
abbrev anK : aP := ajV gG
theorem aoK : anK = aO gG := rfl
noncomputable abbrev aqa (a0 : (List (List D))) (a1 : Int) (a2 : Int) : Res := ai9 anK (bU SE gG (SE.hl 115) (SE.hr 115)) (J0 SE anK) a0 a1 a2
theorem acU : ∀ (fu : Nat) (x0 : (List aB)) (x1 : Int) (x5 : Int), Le (Option.map iA (iS fu x0 x1 x5)) (aqa (List.map aB.enc x0) x1 x5) := by
 intro fu
 induction fu with
 | zero => intros; exact le_none
 | succ fu ih =>
  intro x0 x1 x5
  refine Le.trans ?_ (le_of_eq ((bB aoK).trans (aqA _ _ _  x0 x1 x5)).symm)
  unfold iS
  refine lD (by simp only [EN]) ?_ ?_
  ·refine lG (by simp only [EN]) ?_
   refine lD (by simp only [EN]) ?_ ?_
   ·exact aH rfl
   ·exact ih x0 x1 (IntKind.wrap .i64 (x5 + 1))
  ·exact aH rfl
theorem xR (p0 : (List aB)) (p1 : Int) : Le (Option.map iA (o9 p0 p1)) (aY SE 115 [.d (.sl aB.ks (List.map aB.enc p0)), .d (.int .i64 p1)] [] []) := by
 refine aS aoK rfl ?_
 refine Le.trans ?_ (le_of_eq (auP _ _ _  p0 p1).symm)
 unfold o9
 exact acU fuel p0 p1 0
def aoy (C : aP) (Λ2 J : Lam) (a0 : (List D)) : Res := lab SE C Λ2 J 96 0 [1, 1, 1, 0] (bA [(5, .ptr 1000000000 0)] [⟨122, (List.map AV.d a0)⟩] [] [] [])
section
variable (Γ : Fun) (γ148 : Gm (Bool)) (γ115 : Gm (Int)) (γ13 : Gm (Int)) (Λ2 J : Lam)
def C96 : aP := aZ (aZ (aZ (aO Γ) 148 gU γ148) 115 iA γ115) 13 bN γ13
theorem T96 (p0 : aG) (p1 : Int) : bC SE (C96 Γ γ148 γ115 γ13) Λ2 J 96 [aG.av p0, .d (.int .i64 p1)] [] [] =
 cond (decide (0 ≤ p1) && decide (p1 < (List.length (List.map aB.enc p0.Items) : Int))) (
 γ148 [aJ.av p0.Pool, .d (.int .i64 (aL (cellAt (elemAt (List.map aB.enc p0.Items) (Int.toNat p1)) 0)))] [] [] fun r0 =>
 cond (!r0) (
  (some (.ret [.d (.int .i64 15)] [] []))) (
 γ115 [.d (.sl aB.ks (List.map aB.enc p0.Items)), .d (.int .i64 (aL (cellAt (elemAt (List.map aB.enc p0.Items) (Int.toNat p1)) 0)))] [] [] fun r1 =>
 cond (decide (r1 < p1)) (
  (some (.ret [.d (.int .i64 15)] [] []))) (
 aoy (C96 Γ γ148 γ115 γ13) Λ2 J [D.int .i64 (aL (cellAt (elemAt (List.map aB.enc p0.Items) (Int.toNat p1)) 0)), D.int .i64 (aL (cellAt (elemAt (List.map aB.enc p0.Items) (Int.toNat p1)) 1)), D.str (aV (cellAt (elemAt (List.map aB.enc p0.Items) (Int.toNat p1)) 2)), D.str (aV (cellAt (elemAt (List.map aB.enc p0.Items) (Int.toNat p1)) 3)), D.int .i64 (aL (cellAt (elemAt (List.map aB.enc p0.Items) (Int.toNat p1)) 4)), D.bool (aX (cellAt (elemAt (List.map aB.enc p0.Items) (Int.toNat p1)) 5)), D.int .i64 (aL (cellAt (elemAt (List.map aB.enc p0.Items) (Int.toNat p1)) 6)), D.int .i64 (aL (cellAt (elemAt (List.map aB.enc p0.Items) (Int.toNat p1)) 7)), D.str (aV (cellAt (elemAt (List.map aB.enc p0.Items) (Int.toNat p1)) 8)), D.int .i64 (aL (cellAt (elemAt (List.map aB.enc p0.Items) (Int.toNat p1)) 9)), D.sl aD.ks (dSl (cellAt (elemAt (List.map aB.enc p0.Items) (Int.toNat p1)) 10))]))) none := by kernel_rfl
theorem ar9 (b0 : aB) : bW SE (C96 Γ γ148 γ115 γ13) Λ2 J 96 0 [1, 1, 1, 0] (bA [(5, .ptr 1000000000 0)] [⟨122, (List.map AV.d (aB.enc b0))⟩] [] [] []) =
 γ13 [aA.av b0.Message] [] [] fun r2 =>
 cond (r2 != 0) (
 (some (.ret [.d (.int .i64 r2)] [] []))) (
 cond (b0.Message.Level == 0) (
 (some (.ret [.d (.int .i64 14)] [] []))) (
 cond (b0.State != 1) (
 cond (b0.State != 2) (
  (some (.ret [.d (.int .i64 9)] [] []))) (
 cond (b0.Message.Level == 1) (
  (some (.ret [.d (.int .i64 9)] [] []))) (
 (some (.ret [.d (.int .i64 0)] [] []))))) (
 (some (.ret [.d (.int .i64 0)] [] []))))) := by kernel_rfl
end
abbrev X96 : aP := C96 gG (cT 148 gU) (cT 115 iA) (cT 13 bN)
theorem apG : X96 = aO gG := by unfold X96 C96; rw [aK fun _ h => h, aK fun _ h => h, aK fun _ h => h]
noncomputable abbrev as0 (a0 : (List D)) : Res := aoy X96 (bU SE gG (SE.hl 96) (SE.hr 96)) (J0 SE X96) a0
theorem sF (b0 : aB) : Le (Option.map fV (nV b0)) (as0 (aB.enc b0)) := by
 refine Le.trans ?_ (le_of_eq ((bB apG).trans (ar9 _ _ _ _ _ _  b0)).symm)
 unfold nV
 refine aM (good := good) eX lW (j3 _) fun r2 _ => ?_
 refine lC ?_ ?_
 ·exact aH rfl
 ·refine lC ?_ ?_
  ·exact aH rfl
  ·refine lC ?_ ?_
   ·refine lC ?_ ?_
    ·exact aH rfl
    ·refine lC ?_ ?_
     ·exact aH rfl
     ·exact aH rfl
   ·exact aH rfl
theorem adp (p0 : aG) (p1 : Int) : Le (Option.map fV (nB p0 p1)) (aY SE 96 [aG.av p0, .d (.int .i64 p1)] [] []) := by
 refine aS apG rfl ?_
 refine Le.trans ?_ (le_of_eq (T96 _ _ _ _ _ _  p0 p1).symm)
 unfold nB
 refine lG (by simp only [EN]) ?_
 refine aM (good := good) eX ado (by first | (simp only [EN]; exact w5 p0.Pool ((List.getD p0.Items (Int.toNat p1) default).ID)) | exact w5 p0.Pool ((List.getD p0.Items (Int.toNat p1) default).ID)) fun r0 _ => ?_
 refine lC ?_ ?_
 ·exact aH rfl
 ·refine aM (good := good) eX adC (by first | (simp only [EN]; exact xR p0.Items ((List.getD p0.Items (Int.toNat p1) default).ID)) | exact xR p0.Items ((List.getD p0.Items (Int.toNat p1) default).ID)) fun r1 _ => ?_
  refine lC ?_ ?_
  ·exact aH rfl
  ·first | (simp only [EN]; exact sF (List.getD p0.Items (Int.toNat p1) default)) | exact sF (List.getD p0.Items (Int.toNat p1) default)
def alz (C : aP) (Λ2 J : Lam) (a0 : Int) (a1 : (List D)) : Res := lab SE C Λ2 J 44 0 [1, 1, 1, 1, 1, 0, 1, 0] (bA [(1, .ptr 1000000000 0), (4, .d (.int .i64 a0))] [⟨29, (List.map AV.d a1)⟩] [] [] [])
def aox (C : aP) (Λ2 J : Lam) (a0 : (List D)) : Res := lab SE C Λ2 J 44 0 [1, 1, 0] (bA [(1, .ptr 1000000000 0)] [⟨29, (List.map AV.d a0)⟩] [] [] [])
section
variable (Γ : Fun) (γ95 : Gm (Int)) (γ96 : Gm (Int)) (Λ2 J : Lam)
def C44 : aP := aZ (aZ (aO Γ) 95 cZ γ95) 96 fV γ96
theorem T44 (p0 : aG) : bC SE (C44 Γ γ95 γ96) Λ2 J 44 [aG.av p0] [] [] =
 cond (decide (p0.Limit < 0)) (
 (some (.ret [.d (.int .i64 1)] [] []))) (
 cond (decide (p0.Limit > 32)) (
 (some (.ret [.d (.int .i64 1)] [] []))) (
 aox (C44 Γ γ95 γ96) Λ2 J (aG.enc p0))) := by kernel_rfl
theorem arS (x4 : Int) (b0 : aG) : bW SE (C44 Γ γ95 γ96) Λ2 J 44 0 [1, 1, 1, 1, 1, 0, 1, 0] (bA [(1, .ptr 1000000000 0), (4, .d (.int .i64 x4))] [⟨29, (List.map AV.d (aG.enc b0))⟩] [] [] []) =
 cond (decide (x4 < (List.length (List.map aB.enc b0.Items) : Int))) (
 γ96 [aG.av b0, .d (.int .i64 x4)] [] [] fun r1 =>
 cond (r1 != 0) (
  (some (.ret [.d (.int .i64 r1)] [] []))) (
 alz (C44 Γ γ95 γ96) Λ2 J (IntKind.wrap .i64 (x4 + 1)) (aG.enc b0))) (
 cond (decide ((List.length (List.map aB.enc b0.Items) : Int) < (List.length (List.map (encI .i64) b0.Pool.Used) : Int))) (
 (some (.ret [.d (.int .i64 15)] [] []))) (
 (some (.ret [.d (.int .i64 0)] [] [])))) := by kernel_rfl
theorem atf (b0 : aG) : bW SE (C44 Γ γ95 γ96) Λ2 J 44 0 [1, 1, 0] (bA [(1, .ptr 1000000000 0)] [⟨29, (List.map AV.d (aG.enc b0))⟩] [] [] []) =
 γ95 [aJ.av b0.Pool] [] [] fun r0 =>
 cond (r0 != 0) (
 (some (.ret [.d (.int .i64 r0)] [] []))) (
 cond (decide ((List.length (List.map aB.enc b0.Items) : Int) > 32)) (
 (some (.ret [.d (.int .i64 5)] [] []))) (
 alz (C44 Γ γ95 γ96) Λ2 J 0 (aG.enc b0))) := by kernel_rfl
end
abbrev X44 : aP := C44 gG (cT 95 cZ) (cT 96 fV)
theorem am6 : X44 = aO gG := by unfold X44 C44; rw [aK fun _ h => h, aK fun _ h => h]
noncomputable abbrev asm (a0 : Int) (a1 : (List D)) : Res := alz X44 (bU SE gG (SE.hl 44) (SE.hr 44)) (J0 SE X44) a0 a1
noncomputable abbrev arZ (a0 : (List D)) : Res := aox X44 (bU SE gG (SE.hl 44) (SE.hr 44)) (J0 SE X44) a0
theorem aag : ∀ (fu : Nat) (x4 : Int) (b0 : aG), Le (Option.map dY (fS fu x4 b0)) (asm x4 (aG.enc b0)) := by
 intro fu
 induction fu with
 | zero => intros; exact le_none
 | succ fu ih =>
  intro x4 b0
  refine Le.trans ?_ (le_of_eq ((bB am6).trans (arS _ _ _ _ _  x4 b0)).symm)
  unfold fS
  refine lD (by simp only [EN]) ?_ ?_
  ·refine aM (good := good) eX acY (adp _ _) fun r1 _ => ?_
   refine lC ?_ ?_
   ·exact aH rfl
   ·exact ih (IntKind.wrap .i64 (x4 + 1)) b0
  ·refine lD (by simp only [EN]) ?_ ?_
   ·exact aH rfl
   ·exact aH rfl
theorem aal (b0 : aG) : Le (Option.map dY (mS b0)) (arZ (aG.enc b0)) := by
 refine Le.trans ?_ (le_of_eq ((bB am6).trans (atf _ _ _ _ _  b0)).symm)
 unfold mS
 refine aM (good := good) eX tE (uJ _) fun r0 _ => ?_
 refine lC ?_ ?_
 ·exact aH rfl
 ·refine lD (by simp only [EN]) ?_ ?_
  ·exact aH rfl
  ·exact aag fuel 0 b0
theorem acj (p0 : aG) : Le (Option.map dY (l9 p0)) (aY SE 44 [aG.av p0] [] []) := by
 refine aS am6 rfl ?_
 refine Le.trans ?_ (le_of_eq (T44 _ _ _ _ _  p0).symm)
 unfold l9
 refine lC ?_ ?_
 ·exact aH rfl
 ·refine lC ?_ ?_
  ·exact aH rfl
  ·exact aal p0
section
variable (Γ : Fun) (γ95 : Gm (Int)) (Λ2 J : Lam)
def C45 : aP := aZ (aO Γ) 95 cZ γ95
theorem T45 (p0 : aQ) : bC SE (C45 Γ γ95) Λ2 J 45 [aQ.av p0] [] [] =
 γ95 [aJ.av (aJ.mk p0.IDs 0)] [] [] fun r0 =>
 (some (.ret [.d (.int .i64 r0)] [] [])) := by kernel_rfl
end
abbrev X45 : aP := C45 gG (cT 95 cZ)
theorem auu : X45 = aO gG := by unfold X45 C45; rw [aK fun _ h => h]
theorem acQ (p0 : aQ) : Le (Option.map hI (mG p0)) (aY SE 45 [aQ.av p0] [] []) := by
 refine aS auu rfl ?_
 refine Le.trans ?_ (le_of_eq (T45 _ _ _ _  p0).symm)
 unfold mG
 refine aM (good := good) eX tE (uJ _) fun r0 _ => ?_
 exact aH rfl
def ajr (C : aP) (Λ2 J : Lam) (a0 : (List (List D))) (a1 : (List (List D))) (a2 : Int) : Res := lab SE C Λ2 J 149 0 [1, 1, 0, 1, 0] (bA [(0, .d (.sl aD.ks a0)), (1, .d (.sl aD.ks a1)), (5, .d (.int .i64 a2))] [] [] [] [])
section
variable (Γ : Fun)  (Λ2 J : Lam)
def aji : aP := aO Γ
theorem au7 (p0 : (List aD)) (p1 : (List aD)) : bC SE (aji Γ) Λ2 J 149 [.d (.sl aD.ks (List.map aD.enc p0)), .d (.sl aD.ks (List.map aD.enc p1))] [] [] =
 cond ((List.length (List.map aD.enc p0) : Int) != (List.length (List.map aD.enc p1) : Int)) (
 (some (.ret [.d (.bool false)] [] []))) (
 ajr (aji Γ) Λ2 J (List.map aD.enc p0) (List.map aD.enc p1) 0) := by kernel_rfl
theorem aq9 (x0 : (List aD)) (x1 : (List aD)) (x5 : Int) : bW SE (aji Γ) Λ2 J 149 0 [1, 1, 0, 1, 0] (bA [(0, .d (.sl aD.ks (List.map aD.enc x0))), (1, .d (.sl aD.ks (List.map aD.enc x1))), (5, .d (.int .i64 x5))] [] [] [] []) =
 cond (decide (x5 < (List.length (List.map aD.enc x0) : Int))) (
 cond (decide (0 ≤ x5) && decide (x5 < (List.length (List.map aD.enc x0) : Int))) (
  cond (decide (0 ≤ x5) && decide (x5 < (List.length (List.map aD.enc x1) : Int))) (
  cond (!(((aV (cellAt (elemAt (List.map aD.enc x0) (Int.toNat x5)) 0)) == (aV (cellAt (elemAt (List.map aD.enc x1) (Int.toNat x5)) 0))) && (((aV (cellAt (elemAt (List.map aD.enc x0) (Int.toNat x5)) 1)) == (aV (cellAt (elemAt (List.map aD.enc x1) (Int.toNat x5)) 1))) && true))) (
   (some (.ret [.d (.bool false)] [] []))) (
  ajr (aji Γ) Λ2 J (List.map aD.enc x0) (List.map aD.enc x1) (IntKind.wrap .i64 (x5 + 1)))) none) none) (
 (some (.ret [.d (.bool true)] [] []))) := by kernel_rfl
end
abbrev an3 : aP := aji gG
theorem aot : an3 = aO gG := rfl
noncomputable abbrev aqi (a0 : (List (List D))) (a1 : (List (List D))) (a2 : Int) : Res := ajr an3 (bU SE gG (SE.hl 149) (SE.hr 149)) (J0 SE an3) a0 a1 a2
theorem wW : ∀ (fu : Nat) (x0 : (List aD)) (x1 : (List aD)) (x5 : Int), Le (Option.map dH (dQ fu x0 x1 x5)) (aqi (List.map aD.enc x0) (List.map aD.enc x1) x5) := by
 intro fu
 induction fu with
 | zero => intros; exact le_none
 | succ fu ih =>
  intro x0 x1 x5
  refine Le.trans ?_ (le_of_eq ((bB aot).trans (aq9 _ _ _  x0 x1 x5)).symm)
  unfold dQ
  refine lD (by simp only [EN]) ?_ ?_
  ·refine lG (by simp only [EN]) ?_
   refine lG (by simp only [EN]) ?_
   refine lD (by simp only [EN]) ?_ ?_
   ·exact aH rfl
   ·exact ih x0 x1 (IntKind.wrap .i64 (x5 + 1))
  ·exact aH rfl
theorem zB (p0 : (List aD)) (p1 : (List aD)) : Le (Option.map dH (jO p0 p1)) (aY SE 149 [.d (.sl aD.ks (List.map aD.enc p0)), .d (.sl aD.ks (List.map aD.enc p1))] [] []) := by
 refine aS aot rfl ?_
 refine Le.trans ?_ (le_of_eq (au7 _ _ _  p0 p1).symm)
 unfold jO
 refine lD (by simp only [EN]) ?_ ?_
 ·exact aH rfl
 ·exact wW fuel p0 p1 0
section
variable (Γ : Fun) (γ149 : Gm (Bool)) (Λ2 J : Lam)
def C97 : aP := aZ (aO Γ) 149 dH γ149
theorem T97 (p0 : aA) (p1 : aA) : bC SE (C97 Γ γ149) Λ2 J 97 [aA.av p0, aA.av p1] [] [] =
 cond (p0.Topic == p1.Topic) (
 cond (p0.Payload == p1.Payload) (
  cond (p0.Level == p1.Level) (
  cond (p0.Retain == p1.Retain) (
   cond (p0.Priority == p1.Priority) (
   cond (p0.Expires == p1.Expires) (
    cond (p0.From == p1.From) (
    cond (p0.Seq == p1.Seq) (
     γ149 [.d (.sl aD.ks (List.map aD.enc p0.Props)), .d (.sl aD.ks (List.map aD.enc p1.Props))] [] [] fun r0 =>
     (some (.ret [.d (.bool r0)] [] []))) (
    (some (.ret [.d (.bool false)] [] [])))) (
    (some (.ret [.d (.bool false)] [] [])))) (
   (some (.ret [.d (.bool false)] [] [])))) (
   (some (.ret [.d (.bool false)] [] [])))) (
  (some (.ret [.d (.bool false)] [] [])))) (
  (some (.ret [.d (.bool false)] [] [])))) (
 (some (.ret [.d (.bool false)] [] [])))) (
 (some (.ret [.d (.bool false)] [] []))) := by kernel_rfl
end
abbrev X97 : aP := C97 gG (cT 149 dH)
theorem avi : X97 = aO gG := by unfold X97 C97; rw [aK fun _ h => h]
theorem gV (p0 : aA) (p1 : aA) : Le (Option.map cD (iG p0 p1)) (aY SE 97 [aA.av p0, aA.av p1] [] []) := by
 refine aS avi rfl ?_
 refine Le.trans ?_ (le_of_eq (T97 _ _ _ _  p0 p1).symm)
 unfold iG
 refine lC ?_ ?_
 ·refine lC ?_ ?_
  ·refine lC ?_ ?_
   ·refine lC ?_ ?_
    ·refine lC ?_ ?_
     ·refine lC ?_ ?_
      ·refine lC ?_ ?_
       ·refine lC ?_ ?_
        ·refine aM (good := good) eX yD (zB _ _) fun r0 _ => ?_
         exact aH rfl
        ·exact aH rfl
       ·exact aH rfl
      ·exact aH rfl
     ·exact aH rfl
    ·exact aH rfl
   ·exact aH rfl
  ·exact aH rfl
 ·exact aH rfl
section
variable (Γ : Fun) (γ97 : Gm (Bool)) (γ13 : Gm (Int)) (Λ2 J : Lam)
def C46 : aP := aZ (aZ (aO Γ) 97 cD γ97) 13 bN γ13
theorem T46 (p0 : aN) : bC SE (C46 Γ γ97 γ13) Λ2 J 46 [aN.av p0] [] [] =
 cond (!p0.Set) (
 cond (p0.Delay != 0) (
  (some (.ret [.d (.int .i64 28)] [] []))) (
 γ97 [aA.av p0.Message, .agg [.d (.str ([] : Str)), .d (.str ([] : Str)), .d (.int .i64 0), .d (.bool false), .d (.int .i64 0), .d (.int .i64 0), .d (.str ([] : Str)), .d (.int .i64 0), .d (.sl aD.ks (List.map aD.enc []))]] [] [] fun r0 =>
 cond (!r0) (
  (some (.ret [.d (.int .i64 28)] [] []))) (
 (some (.ret [.d (.int .i64 0)] [] []))))) (
 cond (decide (p0.Delay < 0)) (
 (some (.ret [.d (.int .i64 1)] [] []))) (
 cond (decide (p0.Delay > 1099511627776)) (
 (some (.ret [.d (.int .i64 1)] [] []))) (
 γ13 [aA.av p0.Message] [] [] fun r1 =>
 (some (.ret [.d (.int .i64 r1)] [] []))))) := by kernel_rfl
end
abbrev X46 : aP := C46 gG (cT 97 cD) (cT 13 bN)
theorem ava : X46 = aO gG := by unfold X46 C46; rw [aK fun _ h => h, aK fun _ h => h]
theorem aco (p0 : aN) : Le (Option.map hY (mF p0)) (aY SE 46 [aN.av p0] [] []) := by
 refine aS ava rfl ?_
 refine Le.trans ?_ (le_of_eq (T46 _ _ _ _ _  p0).symm)
 unfold mF
 refine lC ?_ ?_
 ·refine lC ?_ ?_
  ·exact aH rfl
  ·refine aM (good := good) eX mT (by first | (simp only [EN]; exact gV p0.Message ((aA.mk ([] : Str) ([] : Str) 0 false 0 0 ([] : Str) 0 ([] : List aD)))) | exact gV p0.Message ((aA.mk ([] : Str) ([] : Str) 0 false 0 0 ([] : Str) 0 ([] : List aD)))) fun r0 _ => ?_
   refine lC ?_ ?_
   ·exact aH rfl
   ·exact aH rfl
 ·refine lC ?_ ?_
  ·exact aH rfl
  ·refine lC ?_ ?_
   ·exact aH rfl
   ·refine aM (good := good) eX lW (j3 _) fun r1 _ => ?_
    exact aH rfl
def akD (C : aP) (Λ2 J : Lam) (a0 : (List (List D))) (a1 : Int) : Res := lab SE C Λ2 J 40 0 [1, 0, 1, 0] (bA [(0, .d (.sl [.int .i64] a0)), (3, .d (.int .i64 a1))] [] [] [] [])
section
variable (Γ : Fun)  (Λ2 J : Lam)
def C40 : aP := aO Γ
theorem T40 (p0 : (List Int)) : bC SE (C40 Γ) Λ2 J 40 [.d (.sl [.int .i64] (List.map (encI .i64) p0))] [] [] =
 akD (C40 Γ) Λ2 J (List.map (encI .i64) p0) 0 := by kernel_rfl
theorem atg (x0 : (List Int)) (x3 : Int) : bW SE (C40 Γ) Λ2 J 40 0 [1, 0, 1, 0] (bA [(0, .d (.sl [.int .i64] (List.map (encI .i64) x0))), (3, .d (.int .i64 x3))] [] [] [] []) =
 cond (decide (x3 < (List.length (List.map (encI .i64) x0) : Int))) (
 cond (decide (0 ≤ x3) && decide (x3 < (List.length (List.map (encI .i64) x0) : Int))) (
  cond ((aL (cellAt (elemAt (List.map (encI .i64) x0) (Int.toNat x3)) 0)) != 0) (
  cond (decide (0 ≤ x3) && decide (x3 < (List.length (List.map (encI .i64) x0) : Int))) (
   (some (.ret [.d (.int .i64 (aL (cellAt (elemAt (List.map (encI .i64) x0) (Int.toNat x3)) 0)))] [] []))) none) (
  akD (C40 Γ) Λ2 J (List.map (encI .i64) x0) (IntKind.wrap .i64 (x3 + 1)))) none) (
 (some (.ret [.d (.int .i64 0)] [] []))) := by kernel_rfl
end
abbrev X40 : aP := C40 gG
theorem aqn : X40 = aO gG := rfl
noncomputable abbrev asv (a0 : (List (List D))) (a1 : Int) : Res := akD X40 (bU SE gG (SE.hl 40) (SE.hr 40)) (J0 SE X40) a0 a1
theorem aam : ∀ (fu : Nat) (x0 : (List Int)) (x3 : Int), Le (Option.map eB (fU fu x0 x3)) (asv (List.map (encI .i64) x0) x3) := by
 intro fu
 induction fu with
 | zero => intros; exact le_none
 | succ fu ih =>
  intro x0 x3
  refine Le.trans ?_ (le_of_eq ((bB aqn).trans (atg _ _ _  x0 x3)).symm)
  unfold fU
  refine lD (by simp only [EN]) ?_ ?_
  ·refine lG (by simp only [EN]) ?_
   refine lD (by simp only [EN]) ?_ ?_
   ·refine lG (by simp only [EN]) ?_
    exact aH (by first | rfl | simp only [EN, eB] <;> rfl)
   ·exact ih x0 (IntKind.wrap .i64 (x3 + 1))
  ·exact aH rfl
theorem acu (p0 : (List Int)) : Le (Option.map eB (mB p0)) (aY SE 40 [.d (.sl [.int .i64] (List.map (encI .i64) p0))] [] []) := by
 refine aS aqn rfl ?_
 refine Le.trans ?_ (le_of_eq (T40 _ _ _  p0).symm)
 unfold mB
 exact aam fuel p0 0
section
variable (Γ : Fun) (γ41 : Gm (Int)) (γ42 : Gm (Int)) (γ43 : Gm (Int)) (γ44 : Gm (Int)) (γ45 : Gm (Int)) (γ46 : Gm (Int)) (γ40 : Gm (Int)) (Λ2 J : Lam)
def C12 : aP := aZ (aZ (aZ (aZ (aZ (aZ (aZ (aO Γ) 41 eL γ41) 42 fP γ42) 43 fE γ43) 44 dY γ44) 45 hI γ45) 46 hY γ46) 40 eB γ40
theorem T12 (p0 : aC) : bC SE (C12 Γ γ41 γ42 γ43 γ44 γ45 γ46 γ40) Λ2 J 12 [aC.av p0] [] [] =
 γ41 [aC.av p0] [] [] fun r0 =>
 γ42 [.d (.sl aF.ks (List.map aF.enc p0.Subs))] [] [] fun r1 =>
 γ43 [.d (.sl aA.ks (List.map aA.enc p0.Queue))] [] [] fun r2 =>
 γ44 [aG.av p0.Out] [] [] fun r3 =>
 γ45 [aQ.av p0.In] [] [] fun r4 =>
 γ46 [aN.av p0.Will] [] [] fun r5 =>
 γ40 [.d (.sl [.int .i64] (List.map (encI .i64) [r0, r1, r2, r3, r4, r5]))] [] [] fun r6 =>
 (some (.ret [.d (.int .i64 r6)] [] [])) := by kernel_rfl
end
abbrev X12 : aP := C12 gG (cT 41 eL) (cT 42 fP) (cT 43 fE) (cT 44 dY) (cT 45 hI) (cT 46 hY) (cT 40 eB)
theorem auk : X12 = aO gG := by unfold X12 C12; rw [aK fun _ h => h, aK fun _ h => h, aK fun _ h => h, aK fun _ h => h, aK fun _ h => h, aK fun _ h => h, aK fun _ h => h]
theorem aca (p0 : aC) : Le (Option.map hQ (mE p0)) (aY SE 12 [aC.av p0] [] []) := by
 refine aS auk rfl ?_
 refine Le.trans ?_ (le_of_eq (T12 _ _ _ _ _ _ _ _ _ _  p0).symm)
 unfold mE
 refine aM (good := good) eX acJ (adl _) fun r0 _ => ?_
 refine aM (good := good) eX acH (ade _) fun r1 _ => ?_
 refine aM (good := good) eX abA (acm _) fun r2 _ => ?_
 refine aM (good := good) eX abf (acj _) fun r3 _ => ?_
 refine aM (good := good) eX abu (acQ _) fun r4 _ => ?_
 refine aM (good := good) eX abx (aco _) fun r5 _ => ?_
 refine aM (good := good) eX abO (acu _) fun r6 _ => ?_
 exact aH rfl
section
variable (Γ : Fun)  (Λ2 J : Lam)
def arl : aP := aO Γ
theorem auW (p0 : (List aD)) : bC SE (arl Γ) Λ2 J 138 [.d (.sl aD.ks (List.map aD.enc p0))] [] [] =
 cond (List.isEmpty (List.map aD.enc p0)) (
 wD (
  (some (.ret [.row 0] [] [⟨aD.ks, 130, 32, []⟩]))) (
  cond (decide ((List.length (List.map aD.enc []) + List.length (List.map aD.enc p0)) * 32 ≤ 140737488355328)) (
  (some (.ret [.row 0] [] [⟨aD.ks, 130, 32, ((List.map aD.enc []) ++ (List.map aD.enc p0))⟩]))) none)) (
 cond (decide ((List.length (List.map aD.enc []) + List.length (List.map aD.enc p0)) * 32 ≤ 140737488355328)) (
 (some (.ret [.row 0] [] [⟨aD.ks, 130, 32, ((List.map aD.enc []) ++ (List.map aD.enc p0))⟩]))) none) := by kernel_rfl
end
abbrev auz : aP := arl gG
theorem arY : auz = aO gG := rfl
theorem lE (p0 : (List aD)) : Le (Option.map bP (cO p0)) (aY SE 138 [.d (.sl aD.ks (List.map aD.enc p0))] [] []) := by
 refine aS arY rfl ?_
 refine Le.trans ?_ (le_of_eq (auW _ _ _  p0).symm)
 unfold cO
 refine lD (by simp only [EN]) ?_ ?_
 ·refine aht ?_ ?_
  ·exact aH rfl
  ·refine lG (by simp only [EN]) ?_
   exact aH rfl
 ·refine lG (by simp only [EN]) ?_
  exact aH rfl
section
variable (Γ : Fun) (γ138 : Gm ((List aD))) (Λ2 J : Lam)
def C80 : aP := aZ (aO Γ) 138 bP γ138
theorem T80 (p0 : aA) : bC SE (C80 Γ γ138) Λ2 J 80 [aA.av p0] [] [] =
 γ138 [.d (.sl aD.ks (List.map aD.enc p0.Props))] [] [] fun r0 =>
 (some (.ret [.agg [.d (.str p0.Topic), .d (.str p0.Payload), .d (.int .i64 p0.Level), .d (.bool p0.Retain), .d (.int .i64 p0.Priority), .d (.int .i64 p0.Expires), .d (.str p0.From), .d (.int .i64 p0.Seq), .row 0]] [] [⟨aD.ks, 130, 32, (List.map aD.enc r0)⟩])) := by kernel_rfl
end
abbrev X80 : aP := C80 gG (cT 138 bP)
theorem au8 : X80 = aO gG := by unfold X80 C80; rw [aK fun _ h => h]
theorem e9 (p0 : aA) : Le (Option.map cN (gA p0)) (aY SE 80 [aA.av p0] [] []) := by
 refine aS au8 rfl ?_
 refine Le.trans ?_ (le_of_eq (T80 _ _ _ _  p0).symm)
 unfold gA
 refine aM (good := good) eX k8 (lE _) fun r0 _ => ?_
 exact aH rfl
section
variable (Γ : Fun)  (Λ2 J : Lam)
def C81 : aP := aO Γ
theorem T81 (p0 : Int) : bC SE (C81 Γ) Λ2 J 81 [.d (.int .i64 p0)] [] [] =
 cond (decide (p0 < 0)) (
 (some (.ret [.agg [.d (.int .i64 (if 32 < 0 then 32 else 0)), .row 0, .row 1, .d (.int .i64 0)]] [] [⟨aB.ks, 122, 128, (List.map aB.enc [])⟩, ⟨[.int .i64], 3, 8, (List.map (encI .i64) [])⟩]))) (
 (some (.ret [.agg [.d (.int .i64 (if 32 < p0 then 32 else p0)), .row 0, .row 1, .d (.int .i64 0)]] [] [⟨aB.ks, 122, 128, (List.map aB.enc [])⟩, ⟨[.int .i64], 3, 8, (List.map (encI .i64) [])⟩]))) := by kernel_rfl
end
abbrev X81 : aP := C81 gG
theorem at3 : X81 = aO gG := rfl
theorem agJ (p0 : Int) : Le (Option.map kW (zV p0)) (aY SE 81 [.d (.int .i64 p0)] [] []) := by
 refine aS at3 rfl ?_
 refine Le.trans ?_ (le_of_eq (T81 _ _ _  p0).symm)
 unfold zV
 refine lC ?_ ?_
 ·exact aH rfl
 ·exact aH rfl
section
variable (Γ : Fun) (γ80 : Gm (aA)) (γ81 : Gm (aG)) (Λ2 J : Lam)
def C31 : aP := aZ (aZ (aO Γ) 80 cN γ80) 81 kW γ81
theorem T31 (p0 : aE) (p1 : Int) : bC SE (C31 Γ γ80 γ81) Λ2 J 31 [aE.av p0, .d (.int .i64 p1)] [] [] =
 γ80 [aA.av p0.Will.Message] [] [] fun r0 =>
 γ81 [.d (.int .i64 p0.Window)] [] [] fun r1 =>
 (some (.ret [.agg [.d (.str p0.Client), .d (.str p0.User), .d (.bool true), .d (.int .i64 p1), .d (.int .i64 p0.Expiry), .d (.int .i64 0), .d (.int .i64 0), .row 0, .row 1, .d (.int .i64 r1.Limit), .row 2, .row 3, .d (.int .i64 r1.Pool.Last), .row 4, .d (.bool p0.Will.Set), .d (.int .i64 p0.Will.Delay), .d (.str r0.Topic), .d (.str r0.Payload), .d (.int .i64 r0.Level), .d (.bool r0.Retain), .d (.int .i64 r0.Priority), .d (.int .i64 r0.Expires), .d (.str r0.From), .d (.int .i64 r0.Seq), .row 5]] [] [⟨aF.ks, 60, 32, (List.map aF.enc [])⟩, ⟨aA.ks, 34, 112, (List.map aA.enc [])⟩, ⟨aB.ks, 122, 128, (List.map aB.enc r1.Items)⟩, ⟨[.int .i64], 3, 8, (List.map (encI .i64) r1.Pool.Used)⟩, ⟨[.int .i64], 3, 8, (List.map (encI .i64) [])⟩, ⟨aD.ks, 130, 32, (List.map aD.enc r0.Props)⟩])) := by kernel_rfl
end
abbrev X31 : aP := C31 gG (cT 80 cN) (cT 81 kW)
theorem avn : X31 = aO gG := by unfold X31 C31; rw [aK fun _ h => h, aK fun _ h => h]
theorem abZ (p0 : aE) (p1 : Int) : Le (Option.map lP (aaO p0 p1)) (aY SE 31 [aE.av p0, .d (.int .i64 p1)] [] []) := by
 refine aS avn rfl ?_
 refine Le.trans ?_ (le_of_eq (T31 _ _ _ _ _  p0 p1).symm)
 unfold aaO
 refine aM (good := good) eX jX (e9 _) fun r0 _ => ?_
 refine aM (good := good) eX afG (agJ _) fun r1 _ => ?_
 exact aH rfl
section
variable (Γ : Fun)  (Λ2 J : Lam)
def arG : aP := aO Γ
theorem avU (p0 : Str) (p1 : Str) : bC SE (arG Γ) Λ2 J 163 [.d (.str p0), .d (.str p1)] [] [] =
 cond (decide ((List.length p0 : Int) ≥ (List.length p1 : Int))) (
 cond (decide (0 ≤ (List.length p1 : Int)) && decide ((List.length p1 : Int) ≤ ((List.length p0) : Int))) (
  (some (.ret [.d (.bool ((bO p0 none (some (List.length p1 : Int))) == p1))] [] []))) none) (
 (some (.ret [.d (.bool false)] [] []))) := by kernel_rfl
end
abbrev at0 : aP := arG gG
theorem as9 : at0 = aO gG := rfl
theorem qW (p0 : Str) (p1 : Str) : Le (Option.map cS (hU p0 p1)) (aY SE 163 [.d (.str p0), .d (.str p1)] [] []) := by
 refine aS as9 rfl ?_
 refine Le.trans ?_ (le_of_eq (avU _ _ _  p0 p1).symm)
 unfold hU
 refine lC ?_ ?_
 ·refine lF ?_
  exact aH rfl
 ·exact aH rfl
section
variable (Γ : Fun) (γ163 : Gm (Bool)) (Λ2 J : Lam)
def amX : aP := aZ (aO Γ) 163 cS γ163
theorem au2 (p0 : Str) (p1 : Str) : bC SE (amX Γ γ163) Λ2 J 179 [.d (.str p0), .d (.str p1)] [] [] =
 γ163 [.d (.str p0), .d (.str p1)] [] [] fun r0 =>
 cond (!r0) (
 (some (.ret [.d (.str p0), .d (.bool false)] [] []))) (
 cond (decide (0 ≤ (List.length p1 : Int)) && decide ((List.length p1 : Int) ≤ ((List.length p0) : Int))) (
 (some (.ret [.d (.str (bO p0 (some (List.length p1 : Int)) none)), .d (.bool true)] [] []))) none) := by kernel_rfl
end
abbrev arj : aP := amX gG (cT 163 cS)
theorem ar3 : arj = aO gG := by unfold arj amX; rw [aK fun _ h => h]
theorem zJ (p0 : Str) (p1 : Str) : Le (Option.map eP (pC p0 p1)) (aY SE 179 [.d (.str p0), .d (.str p1)] [] []) := by
 refine aS ar3 rfl ?_
 refine Le.trans ?_ (le_of_eq (au2 _ _ _ _  p0 p1).symm)
 unfold pC
 refine aM (good := good) eX qF (qW _ _) fun r0 _ => ?_
 refine lC ?_ ?_
 ·exact aH rfl
 ·refine lF ?_
  exact aH rfl
section
variable (Γ : Fun) (γ179 : Gm (Str × Bool)) (Λ2 J : Lam)
def aoi : aP := aZ (aO Γ) 179 eP γ179
theorem auJ (p0 : Str) (p1 : Str) : bC SE (aoi Γ γ179) Λ2 J 159 [.d (.str p0), .d (.str p1)] [] [] =
 γ179 [.d (.str p0), .d (.str p1)] [] [] fun r0 =>
 (some (.ret [.d (.str r0.1), .d (.bool r0.2)] [] [])) := by kernel_rfl
end
abbrev aqG : aP := aoi gG (cT 179 eP)
theorem asV : aqG = aO gG := by unfold aqG aoi; rw [aK fun _ h => h]
theorem aci (p0 : Str) (p1 : Str) : Le (Option.map g6 (rW p0 p1)) (aY SE 159 [.d (.str p0), .d (.str p1)] [] []) := by
 refine aS asV rfl ?_
 refine Le.trans ?_ (le_of_eq (auJ _ _ _ _  p0 p1).symm)
 unfold rW
 refine aM (good := good) eX yG (zJ _ _) fun r0 _ => ?_
 exact aH rfl
section
variable (Γ : Fun)  (Λ2 J : Lam)
def aqf : aP := aO Γ
theorem avo (p0 : Str) (p1 : Int) : bC SE (aqf Γ) Λ2 J 193 [.d (.str p0), .d (.int .u8 p1)] [] [] =
 (some (.ret [.d (.int .i64 (Lib.indexByte p0 (UInt8.ofNat (Int.toNat p1)) : Int))] [] [])) := by kernel_rfl
end
abbrev auT : aP := aqf gG
theorem atV : auT = aO gG := rfl
theorem y9 (p0 : Str) (p1 : Int) : Le (Option.map eR (o7 p0 p1)) (aY SE 193 [.d (.str p0), .d (.int .u8 p1)] [] []) := by
 refine aS atV rfl ?_
 refine Le.trans ?_ (le_of_eq (avo _ _ _  p0 p1).symm)
 unfold o7
 exact aH rfl
section
variable (Γ : Fun) (γ193 : Gm (Int)) (Λ2 J : Lam)
def an1 : aP := aZ (aO Γ) 193 eR γ193
theorem avh (p0 : Str) (p1 : Str) : bC SE (an1 Γ γ193) Λ2 J 189 [.d (.str p0), .d (.str p1)] [] [] =
 cond ((List.length p1 : Int) == 0) (
 (some (.ret [.d (.int .i64 0)] [] []))) (
 cond (p1 == p0) (
 (some (.ret [.d (.int .i64 0)] [] []))) (
 cond ((List.length p1 : Int) == 1) (
 cond (decide (0 ≤ 0) && decide (0 < (List.length p1 : Int))) (
  γ193 [.d (.str p0), .d (.int .u8 (UInt8.toNat (List.getD p1 (Int.toNat 0) 0) : Int))] [] [] fun r0 =>
  (some (.ret [.d (.int .i64 r0)] [] []))) none) (
 cond (decide ((List.length p1 : Int) ≥ (List.length p0 : Int))) (
 (some (.ret [.d (.int .i64 (-1))] [] []))) none))) := by kernel_rfl
end
abbrev apC : aP := an1 gG (cT 193 eR)
theorem ass : apC = aO gG := by unfold apC an1; rw [aK fun _ h => h]
theorem uH (p0 : Str) (p1 : Str) : Le (Option.map eD (oV p0 p1)) (aY SE 189 [.d (.str p0), .d (.str p1)] [] []) := by
 refine aS ass rfl ?_
 refine Le.trans ?_ (le_of_eq (avh _ _ _ _  p0 p1).symm)
 unfold oV
 refine lC ?_ ?_
 ·exact aH rfl
 ·refine lC ?_ ?_
  ·exact aH rfl
  ·refine lC ?_ ?_
   ·refine lF ?_
    refine aM (good := good) eX yB (y9 _ _) fun r0 _ => ?_
    exact aH rfl
   ·refine lF ?_
    exact aH rfl
section
variable (Γ : Fun) (γ189 : Gm (Int)) (Λ2 J : Lam)
def am7 : aP := aZ (aO Γ) 189 eD γ189
theorem au6 (p0 : Str) (p1 : Str) : bC SE (am7 Γ γ189) Λ2 J 180 [.d (.str p0), .d (.str p1)] [] [] =
 γ189 [.d (.str p0), .d (.str p1)] [] [] fun r0 =>
 cond (decide (r0 ≥ 0)) (
 cond (decide (0 ≤ r0) && decide (r0 ≤ ((List.length p0) : Int))) (
  cond (decide (0 ≤ (IntKind.wrap .i64 (r0 + (List.length p1 : Int)))) && decide ((IntKind.wrap .i64 (r0 + (List.length p1 : Int))) ≤ ((List.length p0) : Int))) (
  (some (.ret [.d (.str (bO p0 none (some r0))), .d (.str (bO p0 (some (IntKind.wrap .i64 (r0 + (List.length p1 : Int)))) none)), .d (.bool true)] [] []))) none) none) (
 (some (.ret [.d (.str p0), .d (.str ([] : Str)), .d (.bool false)] [] []))) := by kernel_rfl
end
abbrev arN : aP := am7 gG (cT 189 eD)
theorem atT : arN = aO gG := by unfold arN am7; rw [aK fun _ h => h]
theorem adJ (p0 : Str) (p1 : Str) : Le (Option.map jA (tU p0 p1)) (aY SE 180 [.d (.str p0), .d (.str p1)] [] []) := by
 refine aS atT rfl ?_
 refine Le.trans ?_ (le_of_eq (au6 _ _ _ _  p0 p1).symm)
 unfold tU
 refine aM (good := good) eX tL (uH _ _) fun r0 _ => ?_
 refine lC ?_ ?_
 ·refine lF ?_
  refine lF ?_
  exact aH rfl
 ·exact aH rfl
section
variable (Γ : Fun) (γ180 : Gm (Str × Str × Bool)) (Λ2 J : Lam)
def aom : aP := aZ (aO Γ) 180 jA γ180
theorem aur (p0 : Str) (p1 : Str) : bC SE (aom Γ γ180) Λ2 J 160 [.d (.str p0), .d (.str p1)] [] [] =
 γ180 [.d (.str p0), .d (.str p1)] [] [] fun r0 =>
 (some (.ret [.d (.str r0.1), .d (.str r0.2.1), .d (.bool r0.2.2)] [] [])) := by kernel_rfl
end
abbrev arJ : aP := aom gG (cT 180 jA)
theorem atr : arJ = aO gG := by unfold arJ aom; rw [aK fun _ h => h]
theorem ahz (p0 : Str) (p1 : Str) : Le (Option.map lT (aa5 p0 p1)) (aY SE 160 [.d (.str p0), .d (.str p1)] [] []) := by
 refine aS atr rfl ?_
 refine Le.trans ?_ (le_of_eq (aur _ _ _ _  p0 p1).symm)
 unfold aa5
 refine aM (good := good) eX adr (adJ _ _) fun r0 _ => ?_
 exact aH rfl
def ajB (C : aP) (Λ2 J : Lam) (a0 : Int) (a1 : Int) (a2 : Bool) (a3 : Str) (a4 : Nat) : Res := lab SE C Λ2 J 139 0 [1, 1, 0, 1, 0, 0, 1, 1, 0, 1, 1, 0] (bA [(3, .d (.int .i64 a0)), (4, .d (.int .i32 a1)), (5, .d (.bool a2)), (15, .it 4000)] [] [] [(4000, (a3, a4))] [])
def ad3 (C : aP) (Λ2 J : Lam) (a0 : Str) (a1 : Nat) : Res := lab SE C Λ2 J 139 0 [1, 1, 0, 1, 0] (bA [(15, .it 4000)] [] [] [(4000, (a0, a1))] [])
def al8 (C : aP) (Λ2 J : Lam) (a0 : Str) : Res := lab SE C Λ2 J 139 0 [1, 1, 0, 0] (bA [(0, .d (.str a0))] [] [] [] [])
section
variable (Γ : Fun)  (Λ2 J : Lam)
def xH : aP := aO Γ
theorem atX (p0 : Str) : bC SE (xH Γ) Λ2 J 139 [.d (.str p0)] [] [] =
 cond (decide ((List.length p0 : Int) < 1)) (
 (some (.ret [.d (.bool false)] [] []))) (
 cond (decide ((List.length p0 : Int) > 16)) (
 (some (.ret [.d (.bool false)] [] []))) (
 al8 (xH Γ) Λ2 J p0)) := by kernel_rfl
theorem aqO (x3 : Int) (x4 : Int) (x5 : Bool) (s4000 : Str) (i4000 : Nat) : bW SE (xH Γ) Λ2 J 139 0 [1, 1, 0, 1, 0, 0, 1, 1, 0, 1, 1, 0] (bA [(3, .d (.int .i64 x3)), (4, .d (.int .i32 x4)), (5, .d (.bool x5)), (15, .it 4000)] [] [] [(4000, (s4000, i4000))] []) =
 cond (!x5) (
 cond (x3 == 0) (
  (some (.ret [.d (.bool false)] [] []))) (
 cond (x4 != 45) (
  cond (decide (x4 < 48)) (
  (some (.ret [.d (.bool false)] [] []))) (
  cond (decide (x4 > 57)) (
  (some (.ret [.d (.bool false)] [] []))) (
  ad3 (xH Γ) Λ2 J s4000 i4000))) (
 ad3 (xH Γ) Λ2 J s4000 i4000))) (
 ad3 (xH Γ) Λ2 J s4000 i4000) := by kernel_rfl
theorem aqy (s4000 : Str) (i4000 : Nat) : bW SE (xH Γ) Λ2 J 139 0 [1, 1, 0, 1, 0] (bA [(15, .it 4000)] [] [] [(4000, (s4000, i4000))] []) =
 cond (decide (i4000 < List.length s4000)) (
 cond (decide (((dec s4000 i4000).1 : Int) ≥ 97)) (
  ajB (xH Γ) Λ2 J (i4000 : Int) ((dec s4000 i4000).1 : Int) (decide (((dec s4000 i4000).1 : Int) ≤ 122)) s4000 (i4000 + (dec s4000 i4000).2)) (
 ajB (xH Γ) Λ2 J (i4000 : Int) ((dec s4000 i4000).1 : Int) false s4000 (i4000 + (dec s4000 i4000).2))) (
 (some (.ret [.d (.bool true)] [] []))) := by kernel_rfl
theorem aqe (x0 : Str) : bW SE (xH Γ) Λ2 J 139 0 [1, 1, 0, 0] (bA [(0, .d (.str x0))] [] [] [] []) =
 ad3 (xH Γ) Λ2 J x0 0 := by kernel_rfl
end
abbrev afJ : aP := xH gG
theorem aiG : afJ = aO gG := rfl
noncomputable abbrev aqP (a0 : Int) (a1 : Int) (a2 : Bool) (a3 : Str) (a4 : Nat) : Res := ajB afJ (bU SE gG (SE.hl 139) (SE.hr 139)) (J0 SE afJ) a0 a1 a2 a3 a4
noncomputable abbrev al1 (a0 : Str) (a1 : Nat) : Res := ad3 afJ (bU SE gG (SE.hl 139) (SE.hr 139)) (J0 SE afJ) a0 a1
noncomputable abbrev arf (a0 : Str) : Res := al8 afJ (bU SE gG (SE.hl 139) (SE.hr 139)) (J0 SE afJ) a0
theorem zO (k4 : Str → Nat → Option (Bool)) (hk4 : ∀ (s4000 : Str) (i4000 : Nat), Le (Option.map eI (k4 s4000 i4000)) (al1 s4000 i4000)) (x3 : Int) (x4 : Int) (x5 : Bool) (s4000 : Str) (i4000 : Nat) : Le (Option.map eI (sK k4 x3 x4 x5 s4000 i4000)) (aqP x3 x4 x5 s4000 i4000) := by
 refine Le.trans ?_ (le_of_eq ((bB aiG).trans (aqO _ _ _  x3 x4 x5 s4000 i4000)).symm)
 unfold sK
 refine lC ?_ ?_
 ·refine lC ?_ ?_
  ·exact aH rfl
  ·refine lC ?_ ?_
   ·refine lC ?_ ?_
    ·exact aH rfl
    ·refine lC ?_ ?_
     ·exact aH rfl
     ·exact hk4 s4000 i4000
   ·exact hk4 s4000 i4000
 ·exact hk4 s4000 i4000
theorem afm : ∀ (fu : Nat) (s4000 : Str) (i4000 : Nat), Le (Option.map eI (pX fu s4000 i4000)) (al1 s4000 i4000) := by
 intro fu
 induction fu with
 | zero => intros; exact le_none
 | succ fu ih =>
  intro s4000 i4000
  refine Le.trans ?_ (le_of_eq ((bB aiG).trans (aqy _ _ _  s4000 i4000)).symm)
  unfold pX
  refine lC ?_ ?_
  ·refine lC ?_ ?_
   ·exact zO _ (ih) (i4000 : Int) ((dec s4000 i4000).1 : Int) (decide (((dec s4000 i4000).1 : Int) ≤ 122)) s4000 (i4000 + (dec s4000 i4000).2)
   ·exact zO _ (ih) (i4000 : Int) ((dec s4000 i4000).1 : Int) false s4000 (i4000 + (dec s4000 i4000).2)
  ·exact aH rfl
theorem afB (x0 : Str) : Le (Option.map eI (xG x0)) (arf x0) := by
 refine Le.trans ?_ (le_of_eq ((bB aiG).trans (aqe _ _ _  x0)).symm)
 unfold xG
 exact afm fuel x0 0
theorem ac9 (p0 : Str) : Le (Option.map eI (yC p0)) (aY SE 139 [.d (.str p0)] [] []) := by
 refine aS aiG rfl ?_
 refine Le.trans ?_ (le_of_eq (atX _ _ _  p0).symm)
 unfold yC
 refine lC ?_ ?_
 ·exact aH rfl
 ·refine lC ?_ ?_
  ·exact aH rfl
  ·exact afB p0
def agN (C : aP) (Λ2 J : Lam) (a0 : Int) (a1 : Str) (a2 : Nat) : Res := lab SE C Λ2 J 161 0 [1, 1, 1, 0, 1, 0] (bA [(3, .d (.int .i64 a0)), (15, .it 4000)] [] [] [(4000, (a1, a2))] [])
def amG (C : aP) (Λ2 J : Lam) (a0 : Str) : Res := lab SE C Λ2 J 161 0 [1, 1, 0] (bA [(0, .d (.str a0))] [] [] [] [])
section
variable (Γ : Fun)  (Λ2 J : Lam)
def aek : aP := aO Γ
theorem avO (p0 : Str) : bC SE (aek Γ) Λ2 J 161 [.d (.str p0)] [] [] =
 cond (decide ((List.length p0 : Int) < 1)) (
 (some (.ret [.d (.bool false)] [] []))) (
 cond (decide ((List.length p0 : Int) > 64)) (
 (some (.ret [.d (.bool false)] [] []))) (
 amG (aek Γ) Λ2 J p0)) := by kernel_rfl
theorem aqo (x3 : Int) (s4000 : Str) (i4000 : Nat) : bW SE (aek Γ) Λ2 J 161 0 [1, 1, 1, 0, 1, 0] (bA [(3, .d (.int .i64 x3)), (15, .it 4000)] [] [] [(4000, (s4000, i4000))] []) =
 cond (decide (i4000 < List.length s4000)) (
 cond (((dec s4000 i4000).1 : Int) == 0) (
  (some (.ret [.d (.bool false)] [] []))) (
 cond (((dec s4000 i4000).1 : Int) == 47) (
  agN (aek Γ) Λ2 J (IntKind.wrap .i64 (x3 + 1)) s4000 (i4000 + (dec s4000 i4000).2)) (
 agN (aek Γ) Λ2 J x3 s4000 (i4000 + (dec s4000 i4000).2)))) (
 (some (.ret [.d (.bool (decide (x3 ≤ 8)))] [] []))) := by kernel_rfl
theorem apF (x0 : Str) : bW SE (aek Γ) Λ2 J 161 0 [1, 1, 0] (bA [(0, .d (.str x0))] [] [] [] []) =
 agN (aek Γ) Λ2 J 1 x0 0 := by kernel_rfl
end
abbrev ajR : aP := aek gG
theorem alB : ajR = aO gG := rfl
noncomputable abbrev ary (a0 : Int) (a1 : Str) (a2 : Nat) : Res := agN ajR (bU SE gG (SE.hl 161) (SE.hr 161)) (J0 SE ajR) a0 a1 a2
noncomputable abbrev apo (a0 : Str) : Res := amG ajR (bU SE gG (SE.hl 161) (SE.hr 161)) (J0 SE ajR) a0
theorem aeO : ∀ (fu : Nat) (x3 : Int) (s4000 : Str) (i4000 : Nat), Le (Option.map fH (o8 fu x3 s4000 i4000)) (ary x3 s4000 i4000) := by
 intro fu
 induction fu with
 | zero => intros; exact le_none
 | succ fu ih =>
  intro x3 s4000 i4000
  refine Le.trans ?_ (le_of_eq ((bB alB).trans (aqo _ _ _  x3 s4000 i4000)).symm)
  unfold o8
  refine lC ?_ ?_
  ·refine lC ?_ ?_
   ·exact aH rfl
   ·refine lC ?_ ?_
    ·exact ih (IntKind.wrap .i64 (x3 + 1)) s4000 (i4000 + (dec s4000 i4000).2)
    ·exact ih x3 s4000 (i4000 + (dec s4000 i4000).2)
  ·exact aH rfl
theorem aeS (x0 : Str) : Le (Option.map fH (vK x0)) (apo x0) := by
 refine Le.trans ?_ (le_of_eq ((bB alB).trans (apF _ _ _  x0)).symm)
 unfold vK
 exact aeO fuel 1 x0 0
theorem abQ (p0 : Str) : Le (Option.map fH (wI p0)) (aY SE 161 [.d (.str p0)] [] []) := by
 refine aS alB rfl ?_
 refine Le.trans ?_ (le_of_eq (avO _ _ _  p0).symm)
 unfold wI
 refine lC ?_ ?_
 ·exact aH rfl
 ·refine lC ?_ ?_
  ·exact aH rfl
  ·exact aeS p0
section
variable (Γ : Fun) (γ189 : Gm (Int)) (Λ2 J : Lam)
def anR : aP := aZ (aO Γ) 189 eD γ189
theorem avJ (p0 : Str) (p1 : Str) : bC SE (anR Γ γ189) Λ2 J 199 [.d (.str p0), .d (.str p1)] [] [] =
 γ189 [.d (.str p0), .d (.str p1)] [] [] fun r0 =>
 (some (.ret [.d (.int .i64 r0)] [] [])) := by kernel_rfl
end
abbrev aqH : aP := anR gG (cT 189 eD)
theorem asl : aqH = aO gG := by unfold aqH anR; rw [aK fun _ h => h]
theorem zC (p0 : Str) (p1 : Str) : Le (Option.map gH (sM p0 p1)) (aY SE 199 [.d (.str p0), .d (.str p1)] [] []) := by
 refine aS asl rfl ?_
 refine Le.trans ?_ (le_of_eq (avJ _ _ _ _  p0 p1).symm)
 unfold sM
 refine aM (good := good) eX tL (uH _ _) fun r0 _ => ?_
 exact aH rfl
def ai2 (C : aP) (Λ2 J : Lam) (a0 : Str) (a1 : Str) (a2 : Int) : Res := lab SE C Λ2 J 198 0 [1, 1, 1, 1, 0] (bA [(0, .d (.str a0)), (1, .d (.str a1)), (5, .d (.int .i64 a2))] [] [] [] [])
section
variable (Γ : Fun) (γ199 : Gm (Int)) (Λ2 J : Lam)
def ahA : aP := aZ (aO Γ) 199 gH γ199
theorem avR (p0 : Str) (p1 : Str) : bC SE (ahA Γ γ199) Λ2 J 198 [.d (.str p0), .d (.str p1)] [] [] =
 cond ((List.length p1 : Int) == 0) (
 none) (
 cond ((List.length p1 : Int) == 1) (
 cond (decide (0 ≤ 0) && decide (0 < (List.length p1 : Int))) (
  (some (.ret [.d (.int .i64 (Lib.countByte p0 (UInt8.ofNat (Int.toNat (UInt8.toNat (List.getD p1 (Int.toNat 0) 0) : Int))) : Int))] [] []))) none) (
 ai2 (ahA Γ γ199) Λ2 J p0 p1 0)) := by kernel_rfl
theorem aqN (x0 : Str) (x1 : Str) (x5 : Int) : bW SE (ahA Γ γ199) Λ2 J 198 0 [1, 1, 1, 1, 0] (bA [(0, .d (.str x0)), (1, .d (.str x1)), (5, .d (.int .i64 x5))] [] [] [] []) =
 γ199 [.d (.str x0), .d (.str x1)] [] [] fun r0 =>
 cond (r0 == (-1)) (
 (some (.ret [.d (.int .i64 x5)] [] []))) (
 cond (decide (0 ≤ (IntKind.wrap .i64 (r0 + (List.length x1 : Int)))) && decide ((IntKind.wrap .i64 (r0 + (List.length x1 : Int))) ≤ ((List.length x0) : Int))) (
 ai2 (ahA Γ γ199) Λ2 J (bO x0 (some (IntKind.wrap .i64 (r0 + (List.length x1 : Int)))) none) x1 (IntKind.wrap .i64 (x5 + 1))) none) := by kernel_rfl
end
abbrev alI : aP := ahA gG (cT 199 gH)
theorem aoq : alI = aO gG := by unfold alI ahA; rw [aK fun _ h => h]
noncomputable abbrev aq6 (a0 : Str) (a1 : Str) (a2 : Int) : Res := ai2 alI (bU SE gG (SE.hl 198) (SE.hr 198)) (J0 SE alI) a0 a1 a2
theorem adk : ∀ (fu : Nat) (x0 : Str) (x1 : Str) (x5 : Int), Le (Option.map iQ (pK fu x0 x1 x5)) (aq6 x0 x1 x5) := by
 intro fu
 induction fu with
 | zero => intros; exact le_none
 | succ fu ih =>
  intro x0 x1 x5
  refine Le.trans ?_ (le_of_eq ((bB aoq).trans (aqN _ _ _ _  x0 x1 x5)).symm)
  unfold pK
  refine aM (good := good) eX xQ (zC _ _) fun r0 _ => ?_
  refine lC ?_ ?_
  ·exact aH rfl
  ·refine lF ?_
   exact ih (bO x0 (some (IntKind.wrap .i64 (r0 + (List.length x1 : Int)))) none) x1 (IntKind.wrap .i64 (x5 + 1))
theorem afu (p0 : Str) (p1 : Str) : Le (Option.map iQ (xI p0 p1)) (aY SE 198 [.d (.str p0), .d (.str p1)] [] []) := by
 refine aS aoq rfl ?_
 refine Le.trans ?_ (le_of_eq (avR _ _ _ _  p0 p1).symm)
 unfold xI
 refine lC ?_ ?_
 ·exact le_none
 ·refine lC ?_ ?_
  ·refine lF ?_
   exact aH rfl
  ·exact adk fuel p0 p1 0
def ahm (C : aP) (Λ2 J : Lam) (a0 : Str) (a1 : Int) (a2 : (List (List D))) : Res := lab SE C Λ2 J 190 0 [1, 1, 1, 1, 1, 1, 1, 1, 1, 0] (bA [(0, .d (.str a0)), (9, .row 3009), (10, .d (.int .i64 a1))] [] [] [] [(3009, ⟨[.str], 9, 16, a2⟩)])
def ag1 (C : aP) (Λ2 J : Lam) (a0 : Str) (a1 : Str) (a2 : Int) (a3 : Int) (a4 : Int) (a5 : (List (List D))) : Res := lab SE C Λ2 J 190 0 [1, 1, 1, 1, 1, 1, 1, 1, 0, 0] (bA [(0, .d (.str a0)), (1, .d (.str a1)), (2, .d (.int .i64 a2)), (3, .d (.int .i64 a3)), (9, .row 3009), (10, .d (.int .i64 a4))] [] [] [] [(3009, ⟨[.str], 9, 16, a5⟩)])
def ajx (C : aP) (Λ2 J : Lam) (a0 : Str) (a1 : Str) (a2 : Int) (a3 : Int) : Res := lab SE C Λ2 J 190 0 [1, 1, 1, 1, 0] (bA [(0, .d (.str a0)), (1, .d (.str a1)), (2, .d (.int .i64 a2)), (3, .d (.int .i64 a3))] [] [] [] [])
section
variable (Γ : Fun) (γ198 : Gm (Int)) (γ199 : Gm (Int)) (Λ2 J : Lam)
def w8 : aP := aZ (aZ (aO Γ) 198 iQ γ198) 199 gH γ199
theorem auI (p0 : Str) (p1 : Str) (p2 : Int) (p3 : Int) : bC SE (w8 Γ γ198 γ199) Λ2 J 190 [.d (.str p0), .d (.str p1), .d (.int .i64 p2), .d (.int .i64 p3)] [] [] =
 cond (p3 == 0) (
 (some (.ret [.d (.sl [.str] (List.map bF []))] [] []))) (
 cond (p1 == ([] : Str)) (
 none) (
 cond (decide (p3 < 0)) (
 γ198 [.d (.str p0), .d (.str p1)] [] [] fun r0 =>
 ajx (w8 Γ γ198 γ199) Λ2 J p0 p1 p2 (IntKind.wrap .i64 (r0 + 1))) (
 ajx (w8 Γ γ198 γ199) Λ2 J p0 p1 p2 p3))) := by kernel_rfl
theorem aoU (x0 : Str) (x10 : Int) (w3009 : (List Str)) : bW SE (w8 Γ γ198 γ199) Λ2 J 190 0 [1, 1, 1, 1, 1, 1, 1, 1, 1, 0] (bA [(0, .d (.str x0)), (9, .row 3009), (10, .d (.int .i64 x10))] [] [] [] [(3009, ⟨[.str], 9, 16, (List.map bF w3009)⟩)]) =
 cond (decide (0 ≤ x10) && decide (x10 < (List.length (List.map bF w3009) : Int))) (
 cond (decide (0 ≤ (IntKind.wrap .i64 (x10 + 1))) && decide ((IntKind.wrap .i64 (x10 + 1)) ≤ ((List.length (g4 (List.map bF w3009) (Int.toNat x10) 0 [D.str x0])) : Int))) (
  (some (.ret [.d (.sl [.str] (List.take ((Int.toNat (IntKind.wrap .i64 (x10 + 1))) - 0) (List.drop 0 (g4 (List.map bF w3009) (Int.toNat x10) 0 [D.str x0]))))] [] []))) none) none := by kernel_rfl
theorem ao8 (x0 : Str) (x1 : Str) (x2 : Int) (x3 : Int) (x10 : Int) (w3009 : (List Str)) : bW SE (w8 Γ γ198 γ199) Λ2 J 190 0 [1, 1, 1, 1, 1, 1, 1, 1, 0, 0] (bA [(0, .d (.str x0)), (1, .d (.str x1)), (2, .d (.int .i64 x2)), (3, .d (.int .i64 x3)), (9, .row 3009), (10, .d (.int .i64 x10))] [] [] [] [(3009, ⟨[.str], 9, 16, (List.map bF w3009)⟩)]) =
 cond (decide (x10 < x3)) (
 γ199 [.d (.str x0), .d (.str x1)] [] [] fun r1 =>
 cond (decide (r1 < 0)) (
  ahm (w8 Γ γ198 γ199) Λ2 J x0 x10 (List.map bF w3009)) (
 cond (decide (0 ≤ (IntKind.wrap .i64 (r1 + x2))) && decide ((IntKind.wrap .i64 (r1 + x2)) ≤ ((List.length x0) : Int))) (
  cond (decide (0 ≤ x10) && decide (x10 < (List.length (List.map bF w3009) : Int))) (
  cond (decide (0 ≤ (IntKind.wrap .i64 (r1 + (List.length x1 : Int)))) && decide ((IntKind.wrap .i64 (r1 + (List.length x1 : Int))) ≤ ((List.length x0) : Int))) (
   ag1 (w8 Γ γ198 γ199) Λ2 J (bO x0 (some (IntKind.wrap .i64 (r1 + (List.length x1 : Int)))) none) x1 x2 x3 (IntKind.wrap .i64 (x10 + 1)) ((g4 (List.map bF w3009) (Int.toNat x10) 0 [D.str (bO x0 none (some (IntKind.wrap .i64 (r1 + x2))))]))) none) none) none)) (
 ahm (w8 Γ γ198 γ199) Λ2 J x0 x10 (List.map bF w3009)) := by kernel_rfl
theorem aqw (x0 : Str) (x1 : Str) (x2 : Int) (x3 : Int) : bW SE (w8 Γ γ198 γ199) Λ2 J 190 0 [1, 1, 1, 1, 0] (bA [(0, .d (.str x0)), (1, .d (.str x1)), (2, .d (.int .i64 x2)), (3, .d (.int .i64 x3))] [] [] [] []) =
 cond (decide (0 ≤ (if (IntKind.wrap .i64 ((List.length x0 : Int) + 1)) < x3 then (IntKind.wrap .i64 ((List.length x0 : Int) + 1)) else x3)) && decide ((if (IntKind.wrap .i64 ((List.length x0 : Int) + 1)) < x3 then (IntKind.wrap .i64 ((List.length x0 : Int) + 1)) else x3) ≤ (if (IntKind.wrap .i64 ((List.length x0 : Int) + 1)) < x3 then (IntKind.wrap .i64 ((List.length x0 : Int) + 1)) else x3)) && decide ((if (IntKind.wrap .i64 ((List.length x0 : Int) + 1)) < x3 then (IntKind.wrap .i64 ((List.length x0 : Int) + 1)) else x3) * 16 ≤ 281474976710656)) (
 ag1 (w8 Γ γ198 γ199) Λ2 J x0 x1 x2 ((IntKind.wrap .i64 ((if (IntKind.wrap .i64 ((List.length x0 : Int) + 1)) < x3 then (IntKind.wrap .i64 ((List.length x0 : Int) + 1)) else x3) - 1))) 0 ((List.replicate (Int.toNat (if (IntKind.wrap .i64 ((List.length x0 : Int) + 1)) < x3 then (IntKind.wrap .i64 ((List.length x0 : Int) + 1)) else x3)) [D.str ([] : Str)]))) none := by kernel_rfl
end
abbrev aed : aP := w8 gG (cT 198 iQ) (cT 199 gH)
theorem aiH : aed = aO gG := by unfold aed w8; rw [aK fun _ h => h, aK fun _ h => h]
noncomputable abbrev ao9 (a0 : Str) (a1 : Int) (a2 : (List (List D))) : Res := ahm aed (bU SE gG (SE.hl 190) (SE.hr 190)) (J0 SE aed) a0 a1 a2
noncomputable abbrev ape (a0 : Str) (a1 : Str) (a2 : Int) (a3 : Int) (a4 : Int) (a5 : (List (List D))) : Res := ag1 aed (bU SE gG (SE.hl 190) (SE.hr 190)) (J0 SE aed) a0 a1 a2 a3 a4 a5
noncomputable abbrev aq3 (a0 : Str) (a1 : Str) (a2 : Int) (a3 : Int) : Res := ajx aed (bU SE gG (SE.hl 190) (SE.hr 190)) (J0 SE aed) a0 a1 a2 a3
theorem rS (x0 : Str) (x10 : Int) (w3009 : (List Str)) : Le (Option.map cW (mK x0 x10 w3009)) (ao9 x0 x10 (List.map bF w3009)) := by
 refine Le.trans ?_ (le_of_eq ((bB aiH).trans (aoU _ _ _ _ _  x0 x10 w3009)).symm)
 unfold mK
 refine lG (by simp only [EN]) ?_
 refine lG (by simp only [EN]) ?_
 exact aH (by first | rfl | simp only [EN, cW] <;> rfl)
theorem rR : ∀ (fu : Nat) (x0 : Str) (x1 : Str) (x2 : Int) (x3 : Int) (x10 : Int) (w3009 : (List Str)), Le (Option.map cW (mL fu x0 x1 x2 x3 x10 w3009)) (ape x0 x1 x2 x3 x10 (List.map bF w3009)) := by
 intro fu
 induction fu with
 | zero => intros; exact le_none
 | succ fu ih =>
  intro x0 x1 x2 x3 x10 w3009
  refine Le.trans ?_ (le_of_eq ((bB aiH).trans (ao8 _ _ _ _ _  x0 x1 x2 x3 x10 w3009)).symm)
  unfold mL
  refine lC ?_ ?_
  ·refine aM (good := good) eX xQ (zC _ _) fun r1 _ => ?_
   refine lC ?_ ?_
   ·exact rS x0 x10 w3009
   ·refine lF ?_
    refine lG (by simp only [EN]) ?_
    refine lF ?_
    first | (simp only [EN]; exact ih (bO x0 (some (IntKind.wrap .i64 (r1 + (List.length x1 : Int)))) none) x1 x2 x3 (IntKind.wrap .i64 (x10 + 1)) ((List.set w3009 (Int.toNat x10) (bO x0 none (some (IntKind.wrap .i64 (r1 + x2))))))) | exact ih (bO x0 (some (IntKind.wrap .i64 (r1 + (List.length x1 : Int)))) none) x1 x2 x3 (IntKind.wrap .i64 (x10 + 1)) ((List.set w3009 (Int.toNat x10) (bO x0 none (some (IntKind.wrap .i64 (r1 + x2))))))
  ·exact rS x0 x10 w3009
theorem sD (x0 : Str) (x1 : Str) (x2 : Int) (x3 : Int) : Le (Option.map cW (nR x0 x1 x2 x3)) (aq3 x0 x1 x2 x3) := by
 refine Le.trans ?_ (le_of_eq ((bB aiH).trans (aqw _ _ _ _ _  x0 x1 x2 x3)).symm)
 unfold nR
 refine lF ?_
 first | (simp only [EN]; exact rR fuel x0 x1 x2 ((IntKind.wrap .i64 ((if (IntKind.wrap .i64 ((List.length x0 : Int) + 1)) < x3 then (IntKind.wrap .i64 ((List.length x0 : Int) + 1)) else x3) - 1))) 0 ((List.replicate (Int.toNat (if (IntKind.wrap .i64 ((List.length x0 : Int) + 1)) < x3 then (IntKind.wrap .i64 ((List.length x0 : Int) + 1)) else x3)) default))) | exact rR fuel x0 x1 x2 ((IntKind.wrap .i64 ((if (IntKind.wrap .i64 ((List.length x0 : Int) + 1)) < x3 then (IntKind.wrap .i64 ((List.length x0 : Int) + 1)) else x3) - 1))) 0 ((List.replicate (Int.toNat (if (IntKind.wrap .i64 ((List.length x0 : Int) + 1)) < x3 then (IntKind.wrap .i64 ((List.length x0 : Int) + 1)) else x3)) default))
theorem adm (p0 : Str) (p1 : Str) (p2 : Int) (p3 : Int) : Le (Option.map cW (sQ p0 p1 p2 p3)) (aY SE 190 [.d (.str p0), .d (.str p1), .d (.int .i64 p2), .d (.int .i64 p3)] [] []) := by
 refine aS aiH rfl ?_
 refine Le.trans ?_ (le_of_eq (auI _ _ _ _ _  p0 p1 p2 p3).symm)
 unfold sQ
 refine lC ?_ ?_
 ·exact aH rfl
 ·refine lC ?_ ?_
  ·exact le_none
  ·refine lC ?_ ?_
   ·refine aM (good := good) eX aeZ (afu _ _) fun r0 _ => ?_
    exact sD p0 p1 p2 (IntKind.wrap .i64 (r0 + 1))
   ·exact sD p0 p1 p2 p3
section
variable (Γ : Fun) (γ190 : Gm ((List Str))) (Λ2 J : Lam)
def anO : aP := aZ (aO Γ) 190 cW γ190
theorem auj (p0 : Str) (p1 : Str) : bC SE (anO Γ γ190) Λ2 J 181 [.d (.str p0), .d (.str p1)] [] [] =
 γ190 [.d (.str p0), .d (.str p1), .d (.int .i64 0), .d (.int .i64 (-1))] [] [] fun r0 =>
 (some (.ret [.d (.sl [.str] (List.map bF r0))] [] [])) := by kernel_rfl
end
abbrev apT : aP := anO gG (cT 190 cW)
theorem att : apT = aO gG := by unfold apT anO; rw [aK fun _ h => h]
theorem afk (p0 : Str) (p1 : Str) : Le (Option.map kD (xD p0 p1)) (aY SE 181 [.d (.str p0), .d (.str p1)] [] []) := by
 refine aS att rfl ?_
 refine Le.trans ?_ (le_of_eq (auj _ _ _ _  p0 p1).symm)
 unfold xD
 refine aM (good := good) eX acS (adm _ _ _ _) fun r0 _ => ?_
 exact aH rfl
section
variable (Γ : Fun) (γ181 : Gm ((List Str))) (Λ2 J : Lam)
def amN : aP := aZ (aO Γ) 181 kD γ181
theorem avc (p0 : Str) : bC SE (amN Γ γ181) Λ2 J 162 [.d (.str p0)] [] [] =
 γ181 [.d (.str p0), .d (.str ([47] : Str))] [] [] fun r0 =>
 (some (.ret [.d (.sl [.str] (List.map bF r0))] [] [])) := by kernel_rfl
end
abbrev aqk : aP := amN gG (cT 181 kD)
theorem atq : aqk = aO gG := by unfold aqk amN; rw [aK fun _ h => h]
theorem agr (p0 : Str) : Le (Option.map k7 (yX p0)) (aY SE 162 [.d (.str p0)] [] []) := by
 refine aS atq rfl ?_
 refine Le.trans ?_ (le_of_eq (avc _ _ _ _  p0).symm)
 unfold yX
 refine aM (good := good) eX aeV (afk _ _) fun r0 _ => ?_
 exact aH rfl
def abM (C : aP) (Λ2 J : Lam) (a0 : (List (List D))) (a1 : Bool) (a2 : Int) (a3 : Str) (a4 : (List (List D))) (a5 : Int) (a6 : Int) (a7 : Str) (a8 : Nat) : Res := lab SE C Λ2 J 126 0 [1, 0, 1, 1, 1, 1, 0, 1, 0, 0, 1, 1, 0, 0, 1, 1, 0] (bA [(3, .d (.sl [.str] a0)), (4, .d (.bool a1)), (5, .d (.int .i64 a2)), (6, .d (.str a3)), (15, .d (.sl [.str] a4)), (16, .d (.int .i64 a5)), (17, .d (.int .i64 a6)), (23, .it 4000)] [] [] [(4000, (a7, a8))] [])
def ajd (C : aP) (Λ2 J : Lam) (a0 : (List (List D))) (a1 : Bool) (a2 : (List (List D))) (a3 : Int) (a4 : Int) : Res := lab SE C Λ2 J 126 0 [1, 0, 1, 1, 1, 1, 0, 1, 0] (bA [(3, .d (.sl [.str] a0)), (4, .d (.bool a1)), (15, .d (.sl [.str] a2)), (16, .d (.int .i64 a3)), (17, .d (.int .i64 a4))] [] [] [] [])
section
variable (Γ : Fun) (γ161 : Gm (Bool)) (γ162 : Gm ((List Str))) (Λ2 J : Lam)
def xE : aP := aZ (aZ (aO Γ) 161 fH γ161) 162 k7 γ162
theorem auE (p0 : Str) : bC SE (xE Γ γ161 γ162) Λ2 J 126 [.d (.str p0)] [] [] =
 γ161 [.d (.str p0)] [] [] fun r0 =>
 cond (!r0) (
 (some (.ret [.d (.bool false)] [] []))) (
 γ162 [.d (.str p0)] [] [] fun r1 =>
 ajd (xE Γ γ161 γ162) Λ2 J (List.map bF r1) true (List.map bF r1) (List.length (List.map bF r1) : Int) 0) := by kernel_rfl
theorem arB (x3 : (List Str)) (x4 : Bool) (x5 : Int) (x6 : Str) (x15 : (List Str)) (x16 : Int) (x17 : Int) (s4000 : Str) (i4000 : Nat) : bW SE (xE Γ γ161 γ162) Λ2 J 126 0 [1, 0, 1, 1, 1, 1, 0, 1, 0, 0, 1, 1, 0, 0, 1, 1, 0] (bA [(3, .d (.sl [.str] (List.map bF x3))), (4, .d (.bool x4)), (5, .d (.int .i64 x5)), (6, .d (.str x6)), (15, .d (.sl [.str] (List.map bF x15))), (16, .d (.int .i64 x16)), (17, .d (.int .i64 x17)), (23, .it 4000)] [] [] [(4000, (s4000, i4000))] []) =
 cond (decide (i4000 < List.length s4000)) (
 cond (((dec s4000 i4000).1 : Int) == 43) (
  cond (!((List.length x6 : Int) == 1)) (
  (some (.ret [.d (.bool false)] [] []))) (
  cond (((dec s4000 i4000).1 : Int) == 35) (
  cond (!((List.length x6 : Int) == 1)) (
   (some (.ret [.d (.bool false)] [] []))) (
  cond (decide (x5 < (IntKind.wrap .i64 ((List.length (List.map bF x3) : Int) - 1)))) (
   (some (.ret [.d (.bool false)] [] []))) (
  abM (xE Γ γ161 γ162) Λ2 J (List.map bF x3) x4 x5 x6 (List.map bF x15) x16 x17 s4000 (i4000 + (dec s4000 i4000).2)))) (
  abM (xE Γ γ161 γ162) Λ2 J (List.map bF x3) x4 x5 x6 (List.map bF x15) x16 x17 s4000 (i4000 + (dec s4000 i4000).2)))) (
 cond (((dec s4000 i4000).1 : Int) == 35) (
  cond (!((List.length x6 : Int) == 1)) (
  (some (.ret [.d (.bool false)] [] []))) (
  cond (decide (x5 < (IntKind.wrap .i64 ((List.length (List.map bF x3) : Int) - 1)))) (
  (some (.ret [.d (.bool false)] [] []))) (
  abM (xE Γ γ161 γ162) Λ2 J (List.map bF x3) x4 x5 x6 (List.map bF x15) x16 x17 s4000 (i4000 + (dec s4000 i4000).2)))) (
 abM (xE Γ γ161 γ162) Λ2 J (List.map bF x3) x4 x5 x6 (List.map bF x15) x16 x17 s4000 (i4000 + (dec s4000 i4000).2)))) (
 ajd (xE Γ γ161 γ162) Λ2 J (List.map bF x3) x4 (List.map bF x15) x16 (IntKind.wrap .i64 (x17 + 1))) := by kernel_rfl
theorem aqu (x3 : (List Str)) (x4 : Bool) (x15 : (List Str)) (x16 : Int) (x17 : Int) : bW SE (xE Γ γ161 γ162) Λ2 J 126 0 [1, 0, 1, 1, 1, 1, 0, 1, 0] (bA [(3, .d (.sl [.str] (List.map bF x3))), (4, .d (.bool x4)), (15, .d (.sl [.str] (List.map bF x15))), (16, .d (.int .i64 x16)), (17, .d (.int .i64 x17))] [] [] [] []) =
 cond (decide (x17 < x16)) (
 cond (decide (0 ≤ x17) && decide (x17 < (List.length (List.map bF x15) : Int))) (
  abM (xE Γ γ161 γ162) Λ2 J (List.map bF x3) x4 x17 ((aV (cellAt (elemAt (List.map bF x15) (Int.toNat x17)) 0))) (List.map bF x15) x16 x17 ((aV (cellAt (elemAt (List.map bF x15) (Int.toNat x17)) 0))) 0) none) (
 (some (.ret [.d (.bool x4)] [] []))) := by kernel_rfl
end
abbrev ag0 : aP := xE gG (cT 161 fH) (cT 162 k7)
theorem akv : ag0 = aO gG := by unfold ag0 xE; rw [aK fun _ h => h, aK fun _ h => h]
noncomputable abbrev aqr (a0 : (List (List D))) (a1 : Bool) (a2 : Int) (a3 : Str) (a4 : (List (List D))) (a5 : Int) (a6 : Int) (a7 : Str) (a8 : Nat) : Res := abM ag0 (bU SE gG (SE.hl 126) (SE.hr 126)) (J0 SE ag0) a0 a1 a2 a3 a4 a5 a6 a7 a8
noncomputable abbrev ama (a0 : (List (List D))) (a1 : Bool) (a2 : (List (List D))) (a3 : Int) (a4 : Int) : Res := ajd ag0 (bU SE gG (SE.hl 126) (SE.hr 126)) (J0 SE ag0) a0 a1 a2 a3 a4
theorem wS : ∀ (fu : Nat) (k6 : (List Str) → Bool → (List Str) → Int → Int → Option (Bool)) (hk6 : ∀ (x3 : (List Str)) (x4 : Bool) (x15 : (List Str)) (x16 : Int) (x17 : Int), Le (Option.map dO (k6 x3 x4 x15 x16 x17)) (ama (List.map bF x3) x4 (List.map bF x15) x16 x17)) (x3 : (List Str)) (x4 : Bool) (x5 : Int) (x6 : Str) (x15 : (List Str)) (x16 : Int) (x17 : Int) (s4000 : Str) (i4000 : Nat), Le (Option.map dO (j7 fu k6 x3 x4 x5 x6 x15 x16 x17 s4000 i4000)) (aqr (List.map bF x3) x4 x5 x6 (List.map bF x15) x16 x17 s4000 i4000) := by
 intro fu
 induction fu with
 | zero => intros; exact le_none
 | succ fu ih =>
  intro k6 hk6 x3 x4 x5 x6 x15 x16 x17 s4000 i4000
  refine Le.trans ?_ (le_of_eq ((bB akv).trans (arB _ _ _ _ _  x3 x4 x5 x6 x15 x16 x17 s4000 i4000)).symm)
  unfold j7
  refine lC ?_ ?_
  ·refine lC ?_ ?_
   ·refine lC ?_ ?_
    ·exact aH rfl
    ·refine lC ?_ ?_
     ·refine lC ?_ ?_
      ·exact aH rfl
      ·refine lD (by simp only [EN]) ?_ ?_
       ·exact aH rfl
       ·exact ih _ hk6 x3 x4 x5 x6 x15 x16 x17 s4000 (i4000 + (dec s4000 i4000).2)
     ·exact ih _ hk6 x3 x4 x5 x6 x15 x16 x17 s4000 (i4000 + (dec s4000 i4000).2)
   ·refine lC ?_ ?_
    ·refine lC ?_ ?_
     ·exact aH rfl
     ·refine lD (by simp only [EN]) ?_ ?_
      ·exact aH rfl
      ·exact ih _ hk6 x3 x4 x5 x6 x15 x16 x17 s4000 (i4000 + (dec s4000 i4000).2)
    ·exact ih _ hk6 x3 x4 x5 x6 x15 x16 x17 s4000 (i4000 + (dec s4000 i4000).2)
  ·exact hk6 x3 x4 x15 x16 (IntKind.wrap .i64 (x17 + 1))
theorem wY : ∀ (fu : Nat) (x3 : (List Str)) (x4 : Bool) (x15 : (List Str)) (x16 : Int) (x17 : Int), Le (Option.map dO (qG fu x3 x4 x15 x16 x17)) (ama (List.map bF x3) x4 (List.map bF x15) x16 x17) := by
 intro fu
 induction fu with
 | zero => intros; exact le_none
 | succ fu ih =>
  intro x3 x4 x15 x16 x17
  refine Le.trans ?_ (le_of_eq ((bB akv).trans (aqu _ _ _ _ _  x3 x4 x15 x16 x17)).symm)
  unfold qG
  refine lC ?_ ?_
  ·refine lG (by simp only [EN]) ?_
   first | (simp only [EN]; exact wS fuel _ (ih) x3 x4 x17 (List.getD x15 (Int.toNat x17) default) x15 x16 x17 (List.getD x15 (Int.toNat x17) default) 0) | exact wS fuel _ (ih) x3 x4 x17 (List.getD x15 (Int.toNat x17) default) x15 x16 x17 (List.getD x15 (Int.toNat x17) default) 0
  ·exact aH rfl
theorem aas (p0 : Str) : Le (Option.map dO (uW p0)) (aY SE 126 [.d (.str p0)] [] []) := by
 refine aS akv rfl ?_
 refine Le.trans ?_ (le_of_eq (auE _ _ _ _ _  p0).symm)
 unfold uW
 refine aM (good := good) eX aax (abQ _) fun r0 _ => ?_
 refine lC ?_ ?_
 ·exact aH rfl
 ·refine aM (good := good) eX afL (agr _) fun r1 _ => ?_
  first | (simp only [EN]; exact wY fuel r1 true r1 (List.length r1 : Int) 0) | exact wY fuel r1 true r1 (List.length r1 : Int) 0
section
variable (Γ : Fun) (γ163 : Gm (Bool)) (Λ2 J : Lam)
def anD : aP := aZ (aO Γ) 163 cS γ163
theorem at1 (p0 : Str) (p1 : Str) : bC SE (anD Γ γ163) Λ2 J 127 [.d (.str p0), .d (.str p1)] [] [] =
 γ163 [.d (.str p0), .d (.str p1)] [] [] fun r0 =>
 (some (.ret [.d (.bool r0)] [] [])) := by kernel_rfl
end
abbrev aqM : aP := anD gG (cT 163 cS)
theorem ata : aqM = aO gG := by unfold aqM anD; rw [aK fun _ h => h]
theorem uF (p0 : Str) (p1 : Str) : Le (Option.map dZ (oS p0 p1)) (aY SE 127 [.d (.str p0), .d (.str p1)] [] []) := by
 refine aS ata rfl ?_
 refine Le.trans ?_ (le_of_eq (at1 _ _ _ _  p0 p1).symm)
 unfold oS
 refine aM (good := good) eX qF (qW _ _) fun r0 _ => ?_
 exact aH rfl
section
variable (Γ : Fun) (γ159 : Gm (Str × Bool)) (γ160 : Gm (Str × Str × Bool)) (γ139 : Gm (Bool)) (γ126 : Gm (Bool)) (γ127 : Gm (Bool)) (Λ2 J : Lam)
def an0 : aP := aZ (aZ (aZ (aZ (aZ (aO Γ) 159 g6 γ159) 160 lT γ160) 139 eI γ139) 126 dO γ126) 127 dZ γ127
theorem avE (p0 : Str) : bC SE (an0 Γ γ159 γ160 γ139 γ126 γ127) Λ2 J 124 [.d (.str p0)] [] [] =
 γ159 [.d (.str p0), .d (.str ([36, 115, 104, 97, 114, 101, 47] : Str))] [] [] fun r0 =>
 cond (!r0.2) (
 (some (.ret [.d (.str ([] : Str)), .d (.str ([] : Str)), .d (.bool false)] [] []))) (
 γ160 [.d (.str r0.1), .d (.str ([47] : Str))] [] [] fun r1 =>
 cond (!r1.2.2) (
 (some (.ret [.d (.str ([] : Str)), .d (.str ([] : Str)), .d (.bool false)] [] []))) (
 γ139 [.d (.str r1.1)] [] [] fun r2 =>
 cond (!r2) (
 (some (.ret [.d (.str ([] : Str)), .d (.str ([] : Str)), .d (.bool false)] [] []))) (
 γ126 [.d (.str r1.2.1)] [] [] fun r3 =>
 cond (!r3) (
 (some (.ret [.d (.str ([] : Str)), .d (.str ([] : Str)), .d (.bool false)] [] []))) (
 γ127 [.d (.str r1.2.1), .d (.str ([36, 115, 104, 97, 114, 101, 47] : Str))] [] [] fun r4 =>
 cond r4 (
 (some (.ret [.d (.str ([] : Str)), .d (.str ([] : Str)), .d (.bool false)] [] []))) (
 (some (.ret [.d (.str r1.1), .d (.str r1.2.1), .d (.bool true)] [] []))))))) := by kernel_rfl
end
abbrev ap1 : aP := an0 gG (cT 159 g6) (cT 160 lT) (cT 139 eI) (cT 126 dO) (cT 127 dZ)
theorem atM : ap1 = aO gG := by unfold ap1 an0; rw [aK fun _ h => h, aK fun _ h => h, aK fun _ h => h, aK fun _ h => h, aK fun _ h => h]
theorem agc (p0 : Str) : Le (Option.map kX (zU p0)) (aY SE 124 [.d (.str p0)] [] []) := by
 refine aS atM rfl ?_
 refine Le.trans ?_ (le_of_eq (avE _ _ _ _ _ _ _ _  p0).symm)
 unfold zU
 refine aM (good := good) eX ab1 (aci _ _) fun r0 _ => ?_
 refine lC ?_ ?_
 ·exact aH rfl
 ·refine aM (good := good) eX af7 (ahz _ _) fun r1 _ => ?_
  refine lC ?_ ?_
  ·exact aH rfl
  ·refine aM (good := good) eX abd (ac9 _) fun r2 _ => ?_
   refine lC ?_ ?_
   ·exact aH rfl
   ·refine aM (good := good) eX aae (aas _) fun r3 _ => ?_
    refine lC ?_ ?_
    ·exact aH rfl
    ·refine aM (good := good) eX s9 (uF _ _) fun r4 _ => ?_
     refine lC ?_ ?_
     ·exact aH rfl
     ·exact aH rfl
section
variable (Γ : Fun) (γ126 : Gm (Bool)) (γ127 : Gm (Bool)) (Λ2 J : Lam)
def ank : aP := aZ (aZ (aO Γ) 126 dO γ126) 127 dZ γ127
theorem avN (p0 : aF) : bC SE (ank Γ γ126 γ127) Λ2 J 125 [.ptr 2000000000 0] [⟨60, (aF.avs p0)⟩] [] =
 γ126 [.d (.str p0.Filter)] [] [] fun r0 =>
 cond r0 (
 γ127 [.d (.str p0.Filter), .d (.str ([36, 115, 104, 97, 114, 101, 47] : Str))] [] [] fun r1 =>
 (some (.ret [.d (.bool (!r1))] [⟨60, (aF.avs p0)⟩] []))) (
 (some (.ret [.d (.bool false)] [⟨60, (aF.avs p0)⟩] []))) := by kernel_rfl
end
abbrev aq4 : aP := ank gG (cT 126 dO) (cT 127 dZ)
theorem asC : aq4 = aO gG := by unfold aq4 ank; rw [aK fun _ h => h, aK fun _ h => h]
theorem abX (p0 : aF) : Le (Option.map gB (qY p0)) (aY SE 125 [.ptr 2000000000 0] [⟨60, (aF.avs p0)⟩] []) := by
 refine aS asC rfl ?_
 refine Le.trans ?_ (le_of_eq (avN _ _ _ _ _  p0).symm)
 unfold qY
 refine aM (good := good) eX aae (aas _) fun r0 _ => ?_
 refine lC ?_ ?_
 ·refine aM (good := good) eX s9 (uF _ _) fun r1 _ => ?_
  exact aH rfl
 ·exact aH rfl
section
variable (Γ : Fun) (γ124 : Gm (Str × Str × Bool)) (γ125 : Gm (Bool × aF)) (Λ2 J : Lam)
def C66 : aP := aZ (aZ (aO Γ) 124 kX γ124) 125 gB γ125
theorem T66 (p0 : aF) : bC SE (C66 Γ γ124 γ125) Λ2 J 66 [aF.av p0] [] [] =
 γ124 [.d (.str p0.Filter)] [] [] fun r0 =>
 cond (!r0.2.2) (
 γ125 [.ptr 2000000000 0] [⟨60, (aF.avs p0)⟩] [] fun r1 =>
 cond (!r1.1) (
  (some (.ret [.d (.int .i64 13)] [] []))) (
 cond (decide (r1.2.Level < 0)) (
  (some (.ret [.d (.int .i64 14)] [] []))) (
 cond (decide (r1.2.Level > 2)) (
  (some (.ret [.d (.int .i64 14)] [] []))) (
 cond r1.2.NoLocal (
  cond r0.2.2 (
  (some (.ret [.d (.int .i64 28)] [] []))) (
  (some (.ret [.d (.int .i64 0)] [] [])))) (
 (some (.ret [.d (.int .i64 0)] [] []))))))) (
 cond (decide (p0.Level < 0)) (
 (some (.ret [.d (.int .i64 14)] [] []))) (
 cond (decide (p0.Level > 2)) (
 (some (.ret [.d (.int .i64 14)] [] []))) (
 cond p0.NoLocal (
 cond r0.2.2 (
  (some (.ret [.d (.int .i64 28)] [] []))) (
 (some (.ret [.d (.int .i64 0)] [] [])))) (
 (some (.ret [.d (.int .i64 0)] [] [])))))) := by kernel_rfl
end
abbrev X66 : aP := C66 gG (cT 124 kX) (cT 125 gB)
theorem auV : X66 = aO gG := by unfold X66 C66; rw [aK fun _ h => h, aK fun _ h => h]
theorem adq (p0 : aF) : Le (Option.map iM (sU p0)) (aY SE 66 [aF.av p0] [] []) := by
 refine aS auV rfl ?_
 refine Le.trans ?_ (le_of_eq (T66 _ _ _ _ _  p0).symm)
 unfold sU
 refine aM (good := good) eX afC (agc _) fun r0 _ => ?_
 refine lC ?_ ?_
 ·refine aM (good := good) eX aa8 (abX _) fun r1 _ => ?_
  refine lC ?_ ?_
  ·exact aH rfl
  ·refine lC ?_ ?_
   ·exact aH rfl
   ·refine lC ?_ ?_
    ·exact aH rfl
    ·refine lC ?_ ?_
     ·refine lC ?_ ?_
      ·exact aH rfl
      ·exact aH rfl
     ·exact aH rfl
 ·refine lC ?_ ?_
  ·exact aH rfl
  ·refine lC ?_ ?_
   ·exact aH rfl
   ·refine lC ?_ ?_
    ·refine lC ?_ ?_
     ·exact aH rfl
     ·exact aH rfl
    ·exact aH rfl
section
variable (Γ : Fun)  (Λ2 J : Lam)
def aqU : aP := aO Γ
theorem avp (p0 : Str) (p1 : Str) : bC SE (aqU Γ) Λ2 J 164 [.d (.str p0), .d (.str p1)] [] [] =
 (some (.ret [.d (.int .i64 (Lib.compareBytes p0 p1))] [] [])) := by kernel_rfl
end
abbrev avT : aP := aqU gG
theorem as3 : avT = aO gG := rfl
theorem zG (p0 : Str) (p1 : Str) : Le (Option.map eS (oZ p0 p1)) (aY SE 164 [.d (.str p0), .d (.str p1)] [] []) := by
 refine aS as3 rfl ?_
 refine Le.trans ?_ (le_of_eq (avp _ _ _  p0 p1).symm)
 unfold oZ
 exact aH rfl
section
variable (Γ : Fun) (γ164 : Gm (Int)) (Λ2 J : Lam)
def anM : aP := aZ (aO Γ) 164 eS γ164
theorem auS (p0 : Str) (p1 : Str) : bC SE (anM Γ γ164) Λ2 J 130 [.d (.str p0), .d (.str p1)] [] [] =
 γ164 [.d (.str p0), .d (.str p1)] [] [] fun r0 =>
 (some (.ret [.d (.int .i64 r0)] [] [])) := by kernel_rfl
end
abbrev arC : aP := anM gG (cT 164 eS)
theorem ar5 : arC = aO gG := by unfold arC anM; rw [aK fun _ h => h]
theorem aem (p0 : Str) (p1 : Str) : Le (Option.map iY (uV p0 p1)) (aY SE 130 [.d (.str p0), .d (.str p1)] [] []) := by
 refine aS ar5 rfl ?_
 refine Le.trans ?_ (le_of_eq (auS _ _ _ _  p0 p1).symm)
 unfold uV
 refine aM (good := good) eX xT (zG _ _) fun r0 _ => ?_
 exact aH rfl
section
variable (Γ : Fun) (γ130 : Gm (Int)) (Λ2 J : Lam)
def aob : aP := aZ (aO Γ) 130 iY γ130
theorem avL (p0 : aF) (p1 : Str) : bC SE (aob Γ γ130) Λ2 J 129 [aF.av p0, .d (.str p1)] [] [] =
 γ130 [.d (.str p0.Filter), .d (.str p1)] [] [] fun r0 =>
 (some (.ret [.d (.int .i64 r0)] [] [])) := by kernel_rfl
end
abbrev apV : aP := aob gG (cT 130 iY)
theorem atO : apV = aO gG := by unfold apV aob; rw [aK fun _ h => h]
theorem oT (p0 : aF) (p1 : Str) : Le (Option.map jN (rL p0 p1)) (aY SE 129 [aF.av p0, .d (.str p1)] [] []) := by
 refine aS atO rfl ?_
 refine Le.trans ?_ (le_of_eq (avL _ _ _ _  p0 p1).symm)
 unfold rL
 refine aM (good := good) eX adf (aem _ _) fun r0 _ => ?_
 exact aH rfl
end Te
end PX
