import Derived.Test.YtojlmojebnlmdaaGreatDoorTre1
set_option linter.unusedVariables false
set_option linter.unusedSimpArgs false
set_option maxRecDepth 100000
noncomputable section
namespace PX
open Go
open Md
namespace Te
def agk (C : aO) (Λ2 J : Lam) (a0 : (List D)) : Res := lab SE C Λ2 J 41 0 [1, 1, 1, 0, 0] (aZ [(1, .ptr 1000000000 0)] [⟨38, (List.map AV.d a0)⟩] [] [] [])
def alv (C : aO) (Λ2 J : Lam) (a0 : (List D)) : Res := lab SE C Λ2 J 41 0 [1, 1, 0, 0] (aZ [(1, .ptr 1000000000 0)] [⟨38, (List.map AV.d a0)⟩] [] [] [])
section
variable (Γ : Fun) (γ48 : Gm (Bool)) (γ94 : Gm (Bool)) (Λ2 J : Lam)
def C41 : aO := bA (bA (aP Γ) 48 cI γ48) 94 jP γ94
theorem T41 (p0 : aD) : bD SE (C41 Γ γ48 γ94) Λ2 J 41 [aD.av p0] [] [] =
 γ48 [.d (.str p0.Client)] [] [] fun r0 =>
 cond (!r0) (
 (some (.ret [.d (.int .i64 11)] [] []))) (
 cond (!(p0.User == ([] : Str))) (
 γ48 [.d (.str p0.User)] [] [] fun r1 =>
 cond (!r1) (
  (some (.ret [.d (.int .i64 11)] [] []))) (
 alv (C41 Γ γ48 γ94) Λ2 J (aD.enc p0))) (
 alv (C41 Γ γ48 γ94) Λ2 J (aD.enc p0))) := by kernel_rfl
theorem atH (b0 : aD) : cB SE (C41 Γ γ48 γ94) Λ2 J 41 0 [1, 1, 1, 0, 0] (aZ [(1, .ptr 1000000000 0)] [⟨38, (List.map AV.d (aD.enc b0))⟩] [] [] []) =
 γ94 [.d (.int .i64 b0.Expiry), .d (.int .i64 1099511627776)] [] [] fun r2 =>
 cond (!r2) (
 (some (.ret [.d (.int .i64 1)] [] []))) (
 γ94 [.d (.int .i64 b0.Until), .d (.int .i64 1099511627776)] [] [] fun r3 =>
 cond (!r3) (
 (some (.ret [.d (.int .i64 1)] [] []))) (
 γ94 [.d (.int .i64 b0.Dropped), .d (.int .i64 1099511627776)] [] [] fun r4 =>
 cond (!r4) (
 (some (.ret [.d (.int .i64 1)] [] []))) (
 (some (.ret [.d (.int .i64 0)] [] []))))) := by kernel_rfl
theorem as9 (b0 : aD) : cB SE (C41 Γ γ48 γ94) Λ2 J 41 0 [1, 1, 0, 0] (aZ [(1, .ptr 1000000000 0)] [⟨38, (List.map AV.d (aD.enc b0))⟩] [] [] []) =
 cond (!b0.Online) (
 cond (b0.Conn != 0) (
  (some (.ret [.d (.int .i64 9)] [] []))) (
 cond b0.Online (
  cond (b0.Until != 0) (
  (some (.ret [.d (.int .i64 9)] [] []))) (
  agk (C41 Γ γ48 γ94) Λ2 J (aD.enc b0))) (
 agk (C41 Γ γ48 γ94) Λ2 J (aD.enc b0)))) (
 cond b0.Online (
 cond (b0.Until != 0) (
  (some (.ret [.d (.int .i64 9)] [] []))) (
 agk (C41 Γ γ48 γ94) Λ2 J (aD.enc b0))) (
 agk (C41 Γ γ48 γ94) Λ2 J (aD.enc b0))) := by kernel_rfl
end
abbrev X41 : aO := C41 gG (cT 48 cI) (cT 94 jP)
theorem aot : X41 = aP gG := by unfold X41 C41; rw [aK fun _ h => h, aK fun _ h => h]
noncomputable abbrev atU (a0 : (List D)) : Res := agk X41 (bV SE gG (SE.hl 41) (SE.hr 41)) (J0 SE X41) a0
noncomputable abbrev at7 (a0 : (List D)) : Res := alv X41 (bV SE gG (SE.hl 41) (SE.hr 41)) (J0 SE X41) a0
theorem lN (b0 : aD) : Le (Option.map eQ (gL b0)) (atU (aD.enc b0)) := by
 refine Le.trans ?_ (le_of_eq ((bC aot).trans (atH _ _ _ _ _  b0)).symm)
 unfold gL
 refine aM (good := good) eX rT (sX _ _) fun r2 _ => ?_
 refine lC ?_ ?_
 ·exact aH rfl
 ·refine aM (good := good) eX rT (sX _ _) fun r3 _ => ?_
  refine lC ?_ ?_
  ·exact aH rfl
  ·refine aM (good := good) eX rT (sX _ _) fun r4 _ => ?_
   refine lC ?_ ?_
   ·exact aH rfl
   ·exact aH rfl
theorem sZ (b0 : aD) : Le (Option.map eQ (kV b0)) (at7 (aD.enc b0)) := by
 refine Le.trans ?_ (le_of_eq ((bC aot).trans (as9 _ _ _ _ _  b0)).symm)
 unfold kV
 refine lC ?_ ?_
 ·refine lC ?_ ?_
  ·exact aH rfl
  ·refine lC ?_ ?_
   ·refine lC ?_ ?_
    ·exact aH rfl
    ·exact lN b0
   ·exact lN b0
 ·refine lC ?_ ?_
  ·refine lC ?_ ?_
   ·exact aH rfl
   ·exact lN b0
  ·exact lN b0
theorem adu (p0 : aD) : Le (Option.map eQ (nQ p0)) (aY SE 41 [aD.av p0] [] []) := by
 refine aR aot rfl ?_
 refine Le.trans ?_ (le_of_eq (T41 _ _ _ _ _  p0).symm)
 unfold nQ
 refine aM (good := good) eX m5 (nY _) fun r0 _ => ?_
 refine lC ?_ ?_
 ·exact aH rfl
 ·refine lC ?_ ?_
  ·refine aM (good := good) eX m5 (nY _) fun r1 _ => ?_
   refine lC ?_ ?_
   ·exact aH rfl
   ·exact sZ p0
  ·exact sZ p0
section
variable (Γ : Fun)  (Λ2 J : Lam)
def arK : aO := aP Γ
theorem auH (p0 : Str) (p1 : Str) : bD SE (arK Γ) Λ2 J 168 [.d (.str p0), .d (.str p1)] [] [] =
 cond (decide ((List.length p0 : Int) ≥ (List.length p1 : Int))) (
 cond (decide (0 ≤ (List.length p1 : Int)) && decide ((List.length p1 : Int) ≤ ((List.length p0) : Int))) (
  (some (.ret [.d (.bool ((bN p0 none (some (List.length p1 : Int))) == p1))] [] []))) none) (
 (some (.ret [.d (.bool false)] [] []))) := by kernel_rfl
end
abbrev avE : aO := arK gG
theorem asH : avE = aP gG := rfl
theorem pO (p0 : Str) (p1 : Str) : Le (Option.map dL (jZ p0 p1)) (aY SE 168 [.d (.str p0), .d (.str p1)] [] []) := by
 refine aR asH rfl ?_
 refine Le.trans ?_ (le_of_eq (auH _ _ _  p0 p1).symm)
 unfold jZ
 refine lC ?_ ?_
 ·refine lF ?_
  exact aH rfl
 ·exact aH rfl
def al1 (C : aO) (Λ2 J : Lam) (a0 : Str) (a1 : Int) (a2 : Int) : Res := lab SE C Λ2 J 99 0 [1, 0, 1, 0] (aZ [(0, .d (.str a0)), (1, .d (.int .u8 a1)), (5, .d (.int .i64 a2))] [] [] [] [])
section
variable (Γ : Fun)  (Λ2 J : Lam)
def C99 : aO := aP Γ
theorem T99 (p0 : Str) (p1 : Int) : bD SE (C99 Γ) Λ2 J 99 [.d (.str p0), .d (.int .u8 p1)] [] [] =
 al1 (C99 Γ) Λ2 J p0 p1 0 := by kernel_rfl
theorem att (x0 : Str) (x1 : Int) (x5 : Int) : cB SE (C99 Γ) Λ2 J 99 0 [1, 0, 1, 0] (aZ [(0, .d (.str x0)), (1, .d (.int .u8 x1)), (5, .d (.int .i64 x5))] [] [] [] []) =
 cond (decide (x5 < (List.length x0 : Int))) (
 cond (decide (0 ≤ x5) && decide (x5 < (List.length x0 : Int))) (
  cond ((UInt8.toNat (List.getD x0 (Int.toNat x5) 0) : Int) == x1) (
  (some (.ret [.d (.bool true)] [] []))) (
  al1 (C99 Γ) Λ2 J x0 x1 (IntKind.wrap .i64 (x5 + 1)))) none) (
 (some (.ret [.d (.bool false)] [] []))) := by kernel_rfl
end
abbrev X99 : aO := C99 gG
theorem arA : X99 = aP gG := rfl
noncomputable abbrev atf (a0 : Str) (a1 : Int) (a2 : Int) : Res := al1 X99 (bV SE gG (SE.hl 99) (SE.hr 99)) (J0 SE X99) a0 a1 a2
theorem abO : ∀ (fu : Nat) (x0 : Str) (x1 : Int) (x5 : Int), Le (Option.map cY (hU fu x0 x1 x5)) (atf x0 x1 x5) := by
 intro fu
 induction fu with
 | zero => intros; exact le_none
 | succ fu ih =>
  intro x0 x1 x5
  refine Le.trans ?_ (le_of_eq ((bC arA).trans (att _ _ _  x0 x1 x5)).symm)
  unfold hU
  refine lC ?_ ?_
  ·refine lF ?_
   refine lC ?_ ?_
   ·exact aH rfl
   ·exact ih x0 x1 (IntKind.wrap .i64 (x5 + 1))
  ·exact aH rfl
theorem iA (p0 : Str) (p1 : Int) : Le (Option.map cY (gR p0 p1)) (aY SE 99 [.d (.str p0), .d (.int .u8 p1)] [] []) := by
 refine aR arA rfl ?_
 refine Le.trans ?_ (le_of_eq (T99 _ _ _  p0 p1).symm)
 unfold gR
 exact abO fuel p0 p1 0
def agU (C : aO) (Λ2 J : Lam) (a0 : Str) (a1 : Int) (a2 : Int) (a3 : (List (List D))) : Res := lab SE C Λ2 J 150 0 [1, 1, 1, 0, 1, 0] (aZ [(0, .d (.str a0)), (3, .row 3003), (4, .d (.int .i64 a1)), (5, .d (.int .i64 a2))] [] [] [] [(3003, ⟨[.str], 9, 16, a3⟩)])
section
variable (Γ : Fun)  (Λ2 J : Lam)
def ah0 : aO := aP Γ
theorem auG (p0 : Str) : bD SE (ah0 Γ) Λ2 J 150 [.d (.str p0)] [] [] =
 agU (ah0 Γ) Λ2 J p0 0 0 (List.map bF []) := by kernel_rfl
theorem aqJ (x0 : Str) (x4 : Int) (x5 : Int) (w3003 : (List Str)) : cB SE (ah0 Γ) Λ2 J 150 0 [1, 1, 1, 0, 1, 0] (aZ [(0, .d (.str x0)), (3, .row 3003), (4, .d (.int .i64 x4)), (5, .d (.int .i64 x5))] [] [] [] [(3003, ⟨[.str], 9, 16, (List.map bF w3003)⟩)]) =
 cond (decide (x5 < (List.length x0 : Int))) (
 cond (decide (0 ≤ x5) && decide (x5 < (List.length x0 : Int))) (
  cond ((UInt8.toNat (List.getD x0 (Int.toNat x5) 0) : Int) == 47) (
  cond (decide (0 ≤ x5) && decide (x5 ≤ ((List.length x0) : Int))) (
   cond (decide (0 ≤ x4) && decide (x4 ≤ x5)) (
   cond (decide ((List.length (List.map bF w3003) + List.length (List.map bF [(bN x0 (some x4) (some x5))])) * 16 ≤ 140737488355328)) (
    agU (ah0 Γ) Λ2 J x0 (IntKind.wrap .i64 (x5 + 1)) (IntKind.wrap .i64 (x5 + 1)) (((List.map bF w3003) ++ (List.map bF [(bN x0 (some x4) (some x5))])))) none) none) none) (
  agU (ah0 Γ) Λ2 J x0 x4 (IntKind.wrap .i64 (x5 + 1)) (List.map bF w3003))) none) (
 cond (decide (0 ≤ x4) && decide (x4 ≤ ((List.length x0) : Int))) (
 cond (decide ((List.length (List.map bF w3003) + List.length (List.map bF [(bN x0 (some x4) none)])) * 16 ≤ 140737488355328)) (
  (some (.ret [.row 0] [] [⟨[.str], 9, 16, ((List.map bF w3003) ++ (List.map bF [(bN x0 (some x4) none)]))⟩]))) none) none) := by kernel_rfl
end
abbrev anA : aO := ah0 gG
theorem ao6 : anA = aP gG := rfl
noncomputable abbrev ap5 (a0 : Str) (a1 : Int) (a2 : Int) (a3 : (List (List D))) : Res := agU anA (bV SE gG (SE.hl 150) (SE.hr 150)) (J0 SE anA) a0 a1 a2 a3
theorem rR : ∀ (fu : Nat) (x0 : Str) (x4 : Int) (x5 : Int) (w3003 : (List Str)), Le (Option.map cO (eB fu x0 x4 x5 w3003)) (ap5 x0 x4 x5 (List.map bF w3003)) := by
 intro fu
 induction fu with
 | zero => intros; exact le_none
 | succ fu ih =>
  intro x0 x4 x5 w3003
  refine Le.trans ?_ (le_of_eq ((bC ao6).trans (aqJ _ _ _  x0 x4 x5 w3003)).symm)
  unfold eB
  refine lC ?_ ?_
  ·refine lF ?_
   refine lC ?_ ?_
   ·refine lF ?_
    refine lF ?_
    refine lG (by simp only [EN]) ?_
    first | (simp only [EN]; exact ih x0 (IntKind.wrap .i64 (x5 + 1)) (IntKind.wrap .i64 (x5 + 1)) ((w3003 ++ [(bN x0 (some x4) (some x5))]))) | exact ih x0 (IntKind.wrap .i64 (x5 + 1)) (IntKind.wrap .i64 (x5 + 1)) ((w3003 ++ [(bN x0 (some x4) (some x5))]))
   ·exact ih x0 x4 (IntKind.wrap .i64 (x5 + 1)) w3003
  ·refine lF ?_
   refine lG (by simp only [EN]) ?_
   exact aH (by first | rfl | simp only [EN, cO] <;> rfl)
theorem uD (p0 : Str) : Le (Option.map cO (lP p0)) (aY SE 150 [.d (.str p0)] [] []) := by
 refine aR ao6 rfl ?_
 refine Le.trans ?_ (le_of_eq (auG _ _ _  p0).symm)
 unfold lP
 first | (simp only [EN]; exact rR fuel p0 0 0 ([] : List Str)) | exact rR fuel p0 0 0 ([] : List Str)
section
variable (Γ : Fun) (γ99 : Gm (Bool)) (γ150 : Gm ((List Str))) (Λ2 J : Lam)
def C98 : aO := bA (bA (aP Γ) 99 cY γ99) 150 cO γ150
theorem T98 (p0 : Str) : bD SE (C98 Γ γ99 γ150) Λ2 J 98 [.d (.str p0)] [] [] =
 cond (decide ((List.length p0 : Int) ≥ 1)) (
 cond (decide ((List.length p0 : Int) ≤ 64)) (
  γ99 [.d (.str p0), .d (.int .u8 0)] [] [] fun r0 =>
  cond (!r0) (
  γ150 [.d (.str p0)] [] [] fun r1 =>
  (some (.ret [.d (.bool (decide ((List.length (List.map bF r1) : Int) ≤ 8)))] [] []))) (
  (some (.ret [.d (.bool false)] [] [])))) (
 (some (.ret [.d (.bool false)] [] [])))) (
 (some (.ret [.d (.bool false)] [] []))) := by kernel_rfl
end
abbrev X98 : aO := C98 gG (cT 99 cY) (cT 150 cO)
theorem awi : X98 = aP gG := by unfold X98 C98; rw [aK fun _ h => h, aK fun _ h => h]
theorem uV (p0 : Str) : Le (Option.map dB (kI p0)) (aY SE 98 [.d (.str p0)] [] []) := by
 refine aR awi rfl ?_
 refine Le.trans ?_ (le_of_eq (T98 _ _ _ _ _  p0).symm)
 unfold kI
 refine lC ?_ ?_
 ·refine lC ?_ ?_
  ·refine aM (good := good) eX kX (iA _ _) fun r0 _ => ?_
   refine lC ?_ ?_
   ·refine aM (good := good) eX tD (uD _) fun r1 _ => ?_
    exact aH (by first | rfl | simp only [EN, dB] <;> rfl)
   ·exact aH rfl
  ·exact aH rfl
 ·exact aH rfl
def aka (C : aO) (Λ2 J : Lam) (a0 : Int) (a1 : (List (List D))) : Res := lab SE C Λ2 J 167 0 [1, 1, 1, 0, 1, 0, 0, 1, 0, 0, 1, 0] (aZ [(3, .row 3003), (4, .d (.int .i64 a0))] [] [] [] [(3003, ⟨[.str], 9, 16, a1⟩)])
def agp (C : aO) (Λ2 J : Lam) (a0 : Int) (a1 : (List (List D))) : Res := lab SE C Λ2 J 167 0 [1, 1, 1, 0, 1, 0] (aZ [(3, .row 3003), (4, .d (.int .i64 a0))] [] [] [] [(3003, ⟨[.str], 9, 16, a1⟩)])
section
variable (Γ : Fun) (γ98 : Gm (Bool)) (γ150 : Gm ((List Str))) (γ99 : Gm (Bool)) (Λ2 J : Lam)
def aba : aO := bA (bA (bA (aP Γ) 98 dB γ98) 150 cO γ150) 99 cY γ99
theorem auT (p0 : Str) : bD SE (aba Γ γ98 γ150 γ99) Λ2 J 167 [.d (.str p0)] [] [] =
 γ98 [.d (.str p0)] [] [] fun r0 =>
 cond (!r0) (
 (some (.ret [.d (.bool false)] [] []))) (
 γ150 [.d (.str p0)] [] [] fun r1 =>
 agp (aba Γ γ98 γ150 γ99) Λ2 J 0 (List.map bF r1)) := by kernel_rfl
theorem apY (x4 : Int) (w3003 : (List Str)) : cB SE (aba Γ γ98 γ150 γ99) Λ2 J 167 0 [1, 1, 1, 0, 1, 0, 0, 1, 0, 0, 1, 0] (aZ [(3, .row 3003), (4, .d (.int .i64 x4))] [] [] [] [(3003, ⟨[.str], 9, 16, (List.map bF w3003)⟩)]) =
 cond (decide (0 ≤ x4) && decide (x4 < (List.length (List.map bF w3003) : Int))) (
 γ99 [.d (.str (aV (cellAt (elemAt (List.map bF w3003) (Int.toNat x4)) 0))), .d (.int .u8 35)] [] [] fun r3 =>
 cond r3 (
  cond (decide (0 ≤ x4) && decide (x4 < (List.length (List.map bF w3003) : Int))) (
  cond (!((aV (cellAt (elemAt (List.map bF w3003) (Int.toNat x4)) 0)) == ([35] : Str))) (
   (some (.ret [.d (.bool false)] [] []))) (
  cond (x4 != (IntKind.wrap .i64 ((List.length (List.map bF w3003) : Int) - 1))) (
   (some (.ret [.d (.bool false)] [] []))) (
  agp (aba Γ γ98 γ150 γ99) Λ2 J (IntKind.wrap .i64 (x4 + 1)) (List.map bF w3003)))) none) (
 agp (aba Γ γ98 γ150 γ99) Λ2 J (IntKind.wrap .i64 (x4 + 1)) (List.map bF w3003))) none := by kernel_rfl
theorem ar6 (x4 : Int) (w3003 : (List Str)) : cB SE (aba Γ γ98 γ150 γ99) Λ2 J 167 0 [1, 1, 1, 0, 1, 0] (aZ [(3, .row 3003), (4, .d (.int .i64 x4))] [] [] [] [(3003, ⟨[.str], 9, 16, (List.map bF w3003)⟩)]) =
 cond (decide (x4 < (List.length (List.map bF w3003) : Int))) (
 cond (decide (0 ≤ x4) && decide (x4 < (List.length (List.map bF w3003) : Int))) (
  γ99 [.d (.str (aV (cellAt (elemAt (List.map bF w3003) (Int.toNat x4)) 0))), .d (.int .u8 43)] [] [] fun r2 =>
  cond r2 (
  cond (decide (0 ≤ x4) && decide (x4 < (List.length (List.map bF w3003) : Int))) (
   cond (!((aV (cellAt (elemAt (List.map bF w3003) (Int.toNat x4)) 0)) == ([43] : Str))) (
   (some (.ret [.d (.bool false)] [] []))) (
   aka (aba Γ γ98 γ150 γ99) Λ2 J x4 (List.map bF w3003))) none) (
  aka (aba Γ γ98 γ150 γ99) Λ2 J x4 (List.map bF w3003))) none) (
 (some (.ret [.d (.bool true)] [] []))) := by kernel_rfl
end
abbrev ahn : aO := aba gG (cT 98 dB) (cT 150 cO) (cT 99 cY)
theorem alC : ahn = aP gG := by unfold ahn aba; rw [aK fun _ h => h, aK fun _ h => h, aK fun _ h => h]
noncomputable abbrev aqj (a0 : Int) (a1 : (List (List D))) : Res := aka ahn (bV SE gG (SE.hl 167) (SE.hr 167)) (J0 SE ahn) a0 a1
noncomputable abbrev amj (a0 : Int) (a1 : (List (List D))) : Res := agp ahn (bV SE gG (SE.hl 167) (SE.hr 167)) (J0 SE ahn) a0 a1
theorem rS (k5 : Int → (List Str) → Option (Bool)) (hk5 : ∀ (x4 : Int) (w3003 : (List Str)), Le (Option.map cF (k5 x4 w3003)) (amj x4 (List.map bF w3003))) (x4 : Int) (w3003 : (List Str)) : Le (Option.map cF (gV k5 x4 w3003)) (aqj x4 (List.map bF w3003)) := by
 refine Le.trans ?_ (le_of_eq ((bC alC).trans (apY _ _ _ _ _ _  x4 w3003)).symm)
 unfold gV
 refine lG (by simp only [EN]) ?_
 refine aM (good := good) eX kX (by first | (simp only [EN]; exact iA (List.getD w3003 (Int.toNat x4) default) 35) | exact iA (List.getD w3003 (Int.toNat x4) default) 35) fun r3 _ => ?_
 refine lC ?_ ?_
 ·refine lG (by simp only [EN]) ?_
  refine lD (by simp only [EN]) ?_ ?_
  ·exact aH rfl
  ·refine lD (by simp only [EN]) ?_ ?_
   ·exact aH rfl
   ·exact hk5 (IntKind.wrap .i64 (x4 + 1)) w3003
 ·exact hk5 (IntKind.wrap .i64 (x4 + 1)) w3003
theorem aas : ∀ (fu : Nat) (x4 : Int) (w3003 : (List Str)), Le (Option.map cF (eI fu x4 w3003)) (amj x4 (List.map bF w3003)) := by
 intro fu
 induction fu with
 | zero => intros; exact le_none
 | succ fu ih =>
  intro x4 w3003
  refine Le.trans ?_ (le_of_eq ((bC alC).trans (ar6 _ _ _ _ _ _  x4 w3003)).symm)
  unfold eI
  refine lD (by simp only [EN]) ?_ ?_
  ·refine lG (by simp only [EN]) ?_
   refine aM (good := good) eX kX (by first | (simp only [EN]; exact iA (List.getD w3003 (Int.toNat x4) default) 43) | exact iA (List.getD w3003 (Int.toNat x4) default) 43) fun r2 _ => ?_
   refine lC ?_ ?_
   ·refine lG (by simp only [EN]) ?_
    refine lD (by simp only [EN]) ?_ ?_
    ·exact aH rfl
    ·exact rS _ (ih) x4 w3003
   ·exact rS _ (ih) x4 w3003
  ·exact aH rfl
theorem uG (p0 : Str) : Le (Option.map cF (jS p0)) (aY SE 167 [.d (.str p0)] [] []) := by
 refine aR alC rfl ?_
 refine Le.trans ?_ (le_of_eq (auT _ _ _ _ _ _  p0).symm)
 unfold jS
 refine aM (good := good) eX uQ (uV _) fun r0 _ => ?_
 refine lC ?_ ?_
 ·exact aH rfl
 ·refine aM (good := good) eX tD (uD _) fun r1 _ => ?_
  exact aas fuel 0 r1
def amS (C : aO) (Λ2 J : Lam) (a0 : Str) (a1 : Int) : Res := lab SE C Λ2 J 166 0 [1, 1, 1, 1, 1, 1, 0] (aZ [(5, .d (.str a0)), (6, .d (.int .i64 a1))] [] [] [] [])
def ajC (C : aO) (Λ2 J : Lam) (a0 : Str) (a1 : Int) : Res := lab SE C Λ2 J 166 0 [1, 1, 1, 1, 1, 0, 0] (aZ [(5, .d (.str a0)), (6, .d (.int .i64 a1))] [] [] [] [])
def ajs (C : aO) (Λ2 J : Lam) (a0 : Str) (a1 : Int) : Res := lab SE C Λ2 J 166 0 [1, 1, 1, 1, 0, 0] (aZ [(5, .d (.str a0)), (6, .d (.int .i64 a1))] [] [] [] [])
section
variable (Γ : Fun) (γ168 : Gm (Bool)) (γ48 : Gm (Bool)) (γ167 : Gm (Bool)) (Λ2 J : Lam)
def aai : aO := bA (bA (bA (aP Γ) 168 dL γ168) 48 cI γ48) 167 cF γ167
theorem av6 (p0 : Str) : bD SE (aai Γ γ168 γ48 γ167) Λ2 J 166 [.d (.str p0)] [] [] =
 γ168 [.d (.str p0), .d (.str ([36, 115, 104, 97, 114, 101, 47] : Str))] [] [] fun r0 =>
 cond (!r0) (
 (some (.ret [.d (.str ([] : Str)), .d (.str ([] : Str)), .d (.bool false)] [] []))) (
 cond (decide (0 ≤ 7) && decide (7 ≤ ((List.length p0) : Int))) (
 ajs (aai Γ γ168 γ48 γ167) Λ2 J (bN p0 (some 7) none) 0) none) := by kernel_rfl
theorem arw (x5 : Str) (x6 : Int) : cB SE (aai Γ γ168 γ48 γ167) Λ2 J 166 0 [1, 1, 1, 1, 1, 1, 0] (aZ [(5, .d (.str x5)), (6, .d (.int .i64 x6))] [] [] [] []) =
 cond (decide (0 ≤ x6) && decide (x6 ≤ ((List.length x5) : Int))) (
 cond (decide (0 ≤ (IntKind.wrap .i64 (x6 + 1))) && decide ((IntKind.wrap .i64 (x6 + 1)) ≤ ((List.length x5) : Int))) (
  (some (.ret [.d (.str (bN x5 none (some x6))), .d (.str (bN x5 (some (IntKind.wrap .i64 (x6 + 1))) none)), .d (.bool true)] [] []))) none) none := by kernel_rfl
theorem aq3 (x5 : Str) (x6 : Int) : cB SE (aai Γ γ168 γ48 γ167) Λ2 J 166 0 [1, 1, 1, 1, 1, 0, 0] (aZ [(5, .d (.str x5)), (6, .d (.int .i64 x6))] [] [] [] []) =
 cond (x6 == (List.length x5 : Int)) (
 (some (.ret [.d (.str ([] : Str)), .d (.str ([] : Str)), .d (.bool false)] [] []))) (
 cond (decide (0 ≤ x6) && decide (x6 ≤ ((List.length x5) : Int))) (
 γ48 [.d (.str (bN x5 none (some x6)))] [] [] fun r1 =>
 cond (!r1) (
  (some (.ret [.d (.str ([] : Str)), .d (.str ([] : Str)), .d (.bool false)] [] []))) (
 cond (decide (0 ≤ (IntKind.wrap .i64 (x6 + 1))) && decide ((IntKind.wrap .i64 (x6 + 1)) ≤ ((List.length x5) : Int))) (
  γ167 [.d (.str (bN x5 (some (IntKind.wrap .i64 (x6 + 1))) none))] [] [] fun r2 =>
  cond (!r2) (
  (some (.ret [.d (.str ([] : Str)), .d (.str ([] : Str)), .d (.bool false)] [] []))) (
  cond (decide (0 ≤ (IntKind.wrap .i64 (x6 + 1))) && decide ((IntKind.wrap .i64 (x6 + 1)) ≤ ((List.length x5) : Int))) (
  γ168 [.d (.str (bN x5 (some (IntKind.wrap .i64 (x6 + 1))) none)), .d (.str ([36, 115, 104, 97, 114, 101, 47] : Str))] [] [] fun r3 =>
  cond r3 (
   (some (.ret [.d (.str ([] : Str)), .d (.str ([] : Str)), .d (.bool false)] [] []))) (
  amS (aai Γ γ168 γ48 γ167) Λ2 J x5 x6)) none)) none)) none) := by kernel_rfl
theorem arO (x5 : Str) (x6 : Int) : cB SE (aai Γ γ168 γ48 γ167) Λ2 J 166 0 [1, 1, 1, 1, 0, 0] (aZ [(5, .d (.str x5)), (6, .d (.int .i64 x6))] [] [] [] []) =
 cond (decide (x6 < (List.length x5 : Int))) (
 cond (decide (0 ≤ x6) && decide (x6 < (List.length x5 : Int))) (
  cond ((UInt8.toNat (List.getD x5 (Int.toNat x6) 0) : Int) != 47) (
  ajs (aai Γ γ168 γ48 γ167) Λ2 J x5 (IntKind.wrap .i64 (x6 + 1))) (
  ajC (aai Γ γ168 γ48 γ167) Λ2 J x5 x6)) none) (
 ajC (aai Γ γ168 γ48 γ167) Λ2 J x5 x6) := by kernel_rfl
end
abbrev aen : aO := aai gG (cT 168 dL) (cT 48 cI) (cT 167 cF)
theorem aiU : aen = aP gG := by unfold aen aai; rw [aK fun _ h => h, aK fun _ h => h, aK fun _ h => h]
noncomputable abbrev asl (a0 : Str) (a1 : Int) : Res := amS aen (bV SE gG (SE.hl 166) (SE.hr 166)) (J0 SE aen) a0 a1
noncomputable abbrev aqp (a0 : Str) (a1 : Int) : Res := ajC aen (bV SE gG (SE.hl 166) (SE.hr 166)) (J0 SE aen) a0 a1
noncomputable abbrev arq (a0 : Str) (a1 : Int) : Res := ajs aen (bV SE gG (SE.hl 166) (SE.hr 166)) (J0 SE aen) a0 a1
theorem aav (x5 : Str) (x6 : Int) : Le (Option.map cH (l7 x5 x6)) (asl x5 x6) := by
 refine Le.trans ?_ (le_of_eq ((bC aiU).trans (arw _ _ _ _ _ _  x5 x6)).symm)
 unfold l7
 refine lF ?_
 refine lF ?_
 exact aH rfl
theorem rL (x5 : Str) (x6 : Int) : Le (Option.map cH (g6 x5 x6)) (aqp x5 x6) := by
 refine Le.trans ?_ (le_of_eq ((bC aiU).trans (aq3 _ _ _ _ _ _  x5 x6)).symm)
 unfold g6
 refine lC ?_ ?_
 ·exact aH rfl
 ·refine lF ?_
  refine aM (good := good) eX m5 (nY _) fun r1 _ => ?_
  refine lC ?_ ?_
  ·exact aH rfl
  ·refine lF ?_
   refine aM (good := good) eX tI (uG _) fun r2 _ => ?_
   refine lC ?_ ?_
   ·exact aH rfl
   ·refine lF ?_
    refine aM (good := good) eX oU (pO _ _) fun r3 _ => ?_
    refine lC ?_ ?_
    ·exact aH rfl
    ·exact aav x5 x6
theorem aae : ∀ (fu : Nat) (x5 : Str) (x6 : Int), Le (Option.map cH (fF fu x5 x6)) (arq x5 x6) := by
 intro fu
 induction fu with
 | zero => intros; exact le_none
 | succ fu ih =>
  intro x5 x6
  refine Le.trans ?_ (le_of_eq ((bC aiU).trans (arO _ _ _ _ _ _  x5 x6)).symm)
  unfold fF
  refine lC ?_ ?_
  ·refine lF ?_
   refine lC ?_ ?_
   ·exact ih x5 (IntKind.wrap .i64 (x6 + 1))
   ·exact rL x5 x6
  ·exact rL x5 x6
theorem uH (p0 : Str) : Le (Option.map cH (jL p0)) (aY SE 166 [.d (.str p0)] [] []) := by
 refine aR aiU rfl ?_
 refine Le.trans ?_ (le_of_eq (av6 _ _ _ _ _ _  p0).symm)
 unfold jL
 refine aM (good := good) eX oU (pO _ _) fun r0 _ => ?_
 refine lC ?_ ?_
 ·exact aH rfl
 ·refine lF ?_
  exact aae fuel (bN p0 (some 7) none) 0
section
variable (Γ : Fun) (γ166 : Gm (Str × Str × Bool)) (γ167 : Gm (Bool)) (γ168 : Gm (Bool)) (Λ2 J : Lam)
def anl : aO := bA (bA (bA (aP Γ) 166 cH γ166) 167 cF γ167) 168 dL γ168
theorem auX (p0 : Str) : bD SE (anl Γ γ166 γ167 γ168) Λ2 J 133 [.d (.str p0)] [] [] =
 γ166 [.d (.str p0)] [] [] fun r0 =>
 cond r0.2.2 (
 (some (.ret [.d (.bool true)] [] []))) (
 γ167 [.d (.str p0)] [] [] fun r1 =>
 cond r1 (
 γ168 [.d (.str p0), .d (.str ([36, 115, 104, 97, 114, 101, 47] : Str))] [] [] fun r2 =>
 (some (.ret [.d (.bool (!r2))] [] []))) (
 (some (.ret [.d (.bool false)] [] [])))) := by kernel_rfl
end
abbrev aq9 : aO := anl gG (cT 166 cH) (cT 167 cF) (cT 168 dL)
theorem at4 : aq9 = aP gG := by unfold aq9 anl; rw [aK fun _ h => h, aK fun _ h => h, aK fun _ h => h]
theorem abU (p0 : Str) : Le (Option.map gD (lV p0)) (aY SE 133 [.d (.str p0)] [] []) := by
 refine aR at4 rfl ?_
 refine Le.trans ?_ (le_of_eq (auX _ _ _ _ _ _  p0).symm)
 unfold lV
 refine aM (good := good) eX tA (uH _) fun r0 _ => ?_
 refine lC ?_ ?_
 ·exact aH rfl
 ·refine aM (good := good) eX tI (uG _) fun r1 _ => ?_
  refine lC ?_ ?_
  ·refine aM (good := good) eX oU (pO _ _) fun r2 _ => ?_
   exact aH rfl
  ·exact aH rfl
section
variable (Γ : Fun)  (Λ2 J : Lam)
def aqY : aO := aP Γ
theorem auw (p0 : Int) : bD SE (aqY Γ) Λ2 J 134 [.d (.int .i64 p0)] [] [] =
 cond (p0 == 0) (
 (some (.ret [.d (.bool true)] [] []))) (
 cond (p0 == 1) (
 (some (.ret [.d (.bool true)] [] []))) (
 (some (.ret [.d (.bool (p0 == 2))] [] [])))) := by kernel_rfl
end
abbrev auP : aO := aqY gG
theorem atb : auP = aP gG := rfl
theorem acL (p0 : Int) : Le (Option.map g8 (mJ p0)) (aY SE 134 [.d (.int .i64 p0)] [] []) := by
 refine aR atb rfl ?_
 refine Le.trans ?_ (le_of_eq (auw _ _ _  p0).symm)
 unfold mJ
 refine lC ?_ ?_
 ·exact aH rfl
 ·refine lC ?_ ?_
  ·exact aH rfl
  ·exact aH rfl
section
variable (Γ : Fun) (γ166 : Gm (Str × Str × Bool)) (Λ2 J : Lam)
def anN : aO := bA (aP Γ) 166 cH γ166
theorem awd (p0 : Str) : bD SE (anN Γ γ166) Λ2 J 135 [.d (.str p0)] [] [] =
 γ166 [.d (.str p0)] [] [] fun r0 =>
 (some (.ret [.d (.bool r0.2.2)] [] [])) := by kernel_rfl
end
abbrev aqP : aO := anN gG (cT 166 cH)
theorem aud : aqP = aP gG := by unfold aqP anN; rw [aK fun _ h => h]
theorem abM (p0 : Str) : Le (Option.map gE (oJ p0)) (aY SE 135 [.d (.str p0)] [] []) := by
 refine aR aud rfl ?_
 refine Le.trans ?_ (le_of_eq (awd _ _ _ _  p0).symm)
 unfold oJ
 refine aM (good := good) eX tA (uH _) fun r0 _ => ?_
 exact aH rfl
section
variable (Γ : Fun) (γ133 : Gm (Bool)) (γ134 : Gm (Bool)) (γ135 : Gm (Bool)) (Λ2 J : Lam)
def C69 : aO := bA (bA (bA (aP Γ) 133 gD γ133) 134 g8 γ134) 135 gE γ135
theorem T69 (p0 : aF) : bD SE (C69 Γ γ133 γ134 γ135) Λ2 J 69 [aF.av p0] [] [] =
 γ133 [.d (.str p0.Filter)] [] [] fun r0 =>
 cond (!r0) (
 (some (.ret [.d (.int .i64 13)] [] []))) (
 γ134 [.d (.int .i64 p0.Level)] [] [] fun r1 =>
 cond (!r1) (
 (some (.ret [.d (.int .i64 14)] [] []))) (
 cond p0.NoLocal (
 γ135 [.d (.str p0.Filter)] [] [] fun r2 =>
 cond r2 (
  (some (.ret [.d (.int .i64 28)] [] []))) (
 (some (.ret [.d (.int .i64 0)] [] [])))) (
 (some (.ret [.d (.int .i64 0)] [] []))))) := by kernel_rfl
end
abbrev X69 : aO := C69 gG (cT 133 gD) (cT 134 g8) (cT 135 gE)
theorem auB : X69 = aP gG := by unfold X69 C69; rw [aK fun _ h => h, aK fun _ h => h, aK fun _ h => h]
theorem xT (p0 : aF) : Le (Option.map jB (oR p0)) (aY SE 69 [aF.av p0] [] []) := by
 refine aR auB rfl ?_
 refine Le.trans ?_ (le_of_eq (T69 _ _ _ _ _ _  p0).symm)
 unfold oR
 refine aM (good := good) eX abk (abU _) fun r0 _ => ?_
 refine lC ?_ ?_
 ·exact aH rfl
 ·refine aM (good := good) eX abx (acL _) fun r1 _ => ?_
  refine lC ?_ ?_
  ·exact aH rfl
  ·refine lC ?_ ?_
   ·refine aM (good := good) eX abt (abM _) fun r2 _ => ?_
    refine lC ?_ ?_
    ·exact aH rfl
    ·exact aH rfl
   ·exact aH rfl
def aiV (C : aO) (Λ2 J : Lam) (a0 : (List (List D))) (a1 : Int) : Res := lab SE C Λ2 J 42 0 [1, 1, 0, 1, 0] (aZ [(0, .d (.sl aF.ks a0)), (3, .d (.int .i64 a1))] [] [] [] [])
section
variable (Γ : Fun) (γ69 : Gm (Int)) (Λ2 J : Lam)
def C42 : aO := bA (aP Γ) 69 jB γ69
theorem T42 (p0 : (List aF)) : bD SE (C42 Γ γ69) Λ2 J 42 [.d (.sl aF.ks (List.map aF.enc p0))] [] [] =
 cond (decide ((List.length (List.map aF.enc p0) : Int) > 32)) (
 (some (.ret [.d (.int .i64 5)] [] []))) (
 aiV (C42 Γ γ69) Λ2 J (List.map aF.enc p0) 0) := by kernel_rfl
theorem at6 (x0 : (List aF)) (x3 : Int) : cB SE (C42 Γ γ69) Λ2 J 42 0 [1, 1, 0, 1, 0] (aZ [(0, .d (.sl aF.ks (List.map aF.enc x0))), (3, .d (.int .i64 x3))] [] [] [] []) =
 cond (decide (x3 < (List.length (List.map aF.enc x0) : Int))) (
 cond (decide (0 ≤ x3) && decide (x3 < (List.length (List.map aF.enc x0) : Int))) (
  γ69 [.agg [.d (.str (aV (cellAt (elemAt (List.map aF.enc x0) (Int.toNat x3)) 0))), .d (.int .i64 (aL (cellAt (elemAt (List.map aF.enc x0) (Int.toNat x3)) 1))), .d (.bool (bB (cellAt (elemAt (List.map aF.enc x0) (Int.toNat x3)) 2)))]] [] [] fun r0 =>
  cond (r0 != 0) (
  (some (.ret [.d (.int .i64 r0)] [] []))) (
  cond (decide (x3 > 0)) (
  cond (decide (0 ≤ x3) && decide (x3 < (List.length (List.map aF.enc x0) : Int))) (
   cond (decide (0 ≤ (IntKind.wrap .i64 (x3 - 1))) && decide ((IntKind.wrap .i64 (x3 - 1)) < (List.length (List.map aF.enc x0) : Int))) (
   cond (Op.bytesLess (aV (cellAt (elemAt (List.map aF.enc x0) (Int.toNat x3)) 0)) (aV (cellAt (elemAt (List.map aF.enc x0) (Int.toNat (IntKind.wrap .i64 (x3 - 1)))) 0)) || (aV (cellAt (elemAt (List.map aF.enc x0) (Int.toNat x3)) 0)) == (aV (cellAt (elemAt (List.map aF.enc x0) (Int.toNat (IntKind.wrap .i64 (x3 - 1)))) 0))) (
    (some (.ret [.d (.int .i64 22)] [] []))) (
   aiV (C42 Γ γ69) Λ2 J (List.map aF.enc x0) (IntKind.wrap .i64 (x3 + 1)))) none) none) (
  aiV (C42 Γ γ69) Λ2 J (List.map aF.enc x0) (IntKind.wrap .i64 (x3 + 1))))) none) (
 (some (.ret [.d (.int .i64 0)] [] []))) := by kernel_rfl
end
abbrev X42 : aO := C42 gG (cT 69 jB)
theorem arQ : X42 = aP gG := by unfold X42 C42; rw [aK fun _ h => h]
noncomputable abbrev asL (a0 : (List (List D))) (a1 : Int) : Res := aiV X42 (bV SE gG (SE.hl 42) (SE.hr 42)) (J0 SE X42) a0 a1
theorem abi : ∀ (fu : Nat) (x0 : (List aF)) (x3 : Int), Le (Option.map fV (fA fu x0 x3)) (asL (List.map aF.enc x0) x3) := by
 intro fu
 induction fu with
 | zero => intros; exact le_none
 | succ fu ih =>
  intro x0 x3
  refine Le.trans ?_ (le_of_eq ((bC arQ).trans (at6 _ _ _ _  x0 x3)).symm)
  unfold fA
  refine lD (by simp only [EN]) ?_ ?_
  ·refine lG (by simp only [EN]) ?_
   refine aM (good := good) eX adz (by first | (simp only [EN]; exact xT (List.getD x0 (Int.toNat x3) default)) | exact xT (List.getD x0 (Int.toNat x3) default)) fun r0 _ => ?_
   refine lC ?_ ?_
   ·exact aH rfl
   ·refine lC ?_ ?_
    ·refine lG (by simp only [EN]) ?_
     refine lG (by simp only [EN]) ?_
     refine lD (by simp only [EN]) ?_ ?_
     ·exact aH rfl
     ·exact ih x0 (IntKind.wrap .i64 (x3 + 1))
    ·exact ih x0 (IntKind.wrap .i64 (x3 + 1))
  ·exact aH rfl
theorem adw (p0 : (List aF)) : Le (Option.map fV (nK p0)) (aY SE 42 [.d (.sl aF.ks (List.map aF.enc p0))] [] []) := by
 refine aR arQ rfl ?_
 refine Le.trans ?_ (le_of_eq (T42 _ _ _ _  p0).symm)
 unfold nK
 refine lD (by simp only [EN]) ?_ ?_
 ·exact aH rfl
 ·exact abi fuel p0 0
section
variable (Γ : Fun) (γ98 : Gm (Bool)) (γ99 : Gm (Bool)) (Λ2 J : Lam)
def C47 : aO := bA (bA (aP Γ) 98 dB γ98) 99 cY γ99
theorem T47 (p0 : Str) : bD SE (C47 Γ γ98 γ99) Λ2 J 47 [.d (.str p0)] [] [] =
 γ98 [.d (.str p0)] [] [] fun r0 =>
 cond r0 (
 γ99 [.d (.str p0), .d (.int .u8 43)] [] [] fun r1 =>
 cond (!r1) (
  γ99 [.d (.str p0), .d (.int .u8 35)] [] [] fun r2 =>
  (some (.ret [.d (.bool (!r2))] [] []))) (
 (some (.ret [.d (.bool false)] [] [])))) (
 (some (.ret [.d (.bool false)] [] []))) := by kernel_rfl
end
abbrev X47 : aO := C47 gG (cT 98 dB) (cT 99 cY)
theorem avc : X47 = aP gG := by unfold X47 C47; rw [aK fun _ h => h, aK fun _ h => h]
theorem acB (p0 : Str) : Le (Option.map hH (mL p0)) (aY SE 47 [.d (.str p0)] [] []) := by
 refine aR avc rfl ?_
 refine Le.trans ?_ (le_of_eq (T47 _ _ _ _ _  p0).symm)
 unfold mL
 refine aM (good := good) eX uQ (uV _) fun r0 _ => ?_
 refine lC ?_ ?_
 ·refine aM (good := good) eX kX (iA _ _) fun r1 _ => ?_
  refine lC ?_ ?_
  ·refine aM (good := good) eX kX (iA _ _) fun r2 _ => ?_
   exact aH rfl
  ·exact aH rfl
 ·exact aH rfl
def vG (C : aO) (Λ2 J : Lam) (a0 : Str) (a1 : Int) : Res := lab SE C Λ2 J 102 0 [1, 1, 0, 1, 0] (aZ [(0, .d (.str a0)), (3, .d (.int .i64 a1))] [] [] [] [])
def amQ (C : aO) (Λ2 J : Lam) (a0 : Str) : Res := lab SE C Λ2 J 102 0 [1, 1, 0, 0] (aZ [(0, .d (.str a0))] [] [] [] [])
section
variable (Γ : Fun)  (Λ2 J : Lam)
def wW : aO := aP Γ
theorem ava (p0 : Str) : bD SE (wW Γ) Λ2 J 102 [.d (.str p0)] [] [] =
 cond (decide ((List.length p0 : Int) < 1)) (
 (some (.ret [.d (.bool false)] [] []))) (
 cond (decide ((List.length p0 : Int) > 16)) (
 (some (.ret [.d (.bool false)] [] []))) (
 amQ (wW Γ) Λ2 J p0)) := by kernel_rfl
theorem arv (x0 : Str) (x3 : Int) : cB SE (wW Γ) Λ2 J 102 0 [1, 1, 0, 1, 0] (aZ [(0, .d (.str x0)), (3, .d (.int .i64 x3))] [] [] [] []) =
 cond (decide (x3 < (List.length x0 : Int))) (
 cond (decide (0 ≤ x3) && decide (x3 < (List.length x0 : Int))) (
  cond (decide ((UInt8.toNat (List.getD x0 (Int.toNat x3) 0) : Int) ≥ 97)) (
  cond (!(decide ((UInt8.toNat (List.getD x0 (Int.toNat x3) 0) : Int) ≤ 122))) (
   cond (decide ((UInt8.toNat (List.getD x0 (Int.toNat x3) 0) : Int) ≥ 48)) (
   cond (!(decide ((UInt8.toNat (List.getD x0 (Int.toNat x3) 0) : Int) ≤ 57))) (
    cond ((UInt8.toNat (List.getD x0 (Int.toNat x3) 0) : Int) != 45) (
    (some (.ret [.d (.bool false)] [] []))) (
    vG (wW Γ) Λ2 J x0 (IntKind.wrap .i64 (x3 + 1)))) (
   vG (wW Γ) Λ2 J x0 (IntKind.wrap .i64 (x3 + 1)))) (
   cond ((UInt8.toNat (List.getD x0 (Int.toNat x3) 0) : Int) != 45) (
   (some (.ret [.d (.bool false)] [] []))) (
   vG (wW Γ) Λ2 J x0 (IntKind.wrap .i64 (x3 + 1))))) (
  vG (wW Γ) Λ2 J x0 (IntKind.wrap .i64 (x3 + 1)))) (
  cond (decide ((UInt8.toNat (List.getD x0 (Int.toNat x3) 0) : Int) ≥ 48)) (
  cond (!(decide ((UInt8.toNat (List.getD x0 (Int.toNat x3) 0) : Int) ≤ 57))) (
   cond ((UInt8.toNat (List.getD x0 (Int.toNat x3) 0) : Int) != 45) (
   (some (.ret [.d (.bool false)] [] []))) (
   vG (wW Γ) Λ2 J x0 (IntKind.wrap .i64 (x3 + 1)))) (
  vG (wW Γ) Λ2 J x0 (IntKind.wrap .i64 (x3 + 1)))) (
  cond ((UInt8.toNat (List.getD x0 (Int.toNat x3) 0) : Int) != 45) (
  (some (.ret [.d (.bool false)] [] []))) (
  vG (wW Γ) Λ2 J x0 (IntKind.wrap .i64 (x3 + 1)))))) none) (
 (some (.ret [.d (.bool true)] [] []))) := by kernel_rfl
theorem aqM (x0 : Str) : cB SE (wW Γ) Λ2 J 102 0 [1, 1, 0, 0] (aZ [(0, .d (.str x0))] [] [] [] []) =
 vG (wW Γ) Λ2 J x0 0 := by kernel_rfl
end
abbrev ajE : aO := wW gG
theorem alG : ajE = aP gG := rfl
noncomputable abbrev aqO (a0 : Str) (a1 : Int) : Res := vG ajE (bV SE gG (SE.hl 102) (SE.hr 102)) (J0 SE ajE) a0 a1
noncomputable abbrev aqi (a0 : Str) : Res := amQ ajE (bV SE gG (SE.hl 102) (SE.hr 102)) (J0 SE ajE) a0
theorem acn : ∀ (fu : Nat) (x0 : Str) (x3 : Int), Le (Option.map fC (cL fu x0 x3)) (aqO x0 x3) := by
 intro fu
 induction fu with
 | zero => intros; exact le_none
 | succ fu ih =>
  intro x0 x3
  refine Le.trans ?_ (le_of_eq ((bC alG).trans (arv _ _ _  x0 x3)).symm)
  unfold cL
  refine lC ?_ ?_
  ·refine lF ?_
   refine lC ?_ ?_
   ·refine lC ?_ ?_
    ·refine lC ?_ ?_
     ·refine lC ?_ ?_
      ·refine lC ?_ ?_
       ·exact aH rfl
       ·exact ih x0 (IntKind.wrap .i64 (x3 + 1))
      ·exact ih x0 (IntKind.wrap .i64 (x3 + 1))
     ·refine lC ?_ ?_
      ·exact aH rfl
      ·exact ih x0 (IntKind.wrap .i64 (x3 + 1))
    ·exact ih x0 (IntKind.wrap .i64 (x3 + 1))
   ·refine lC ?_ ?_
    ·refine lC ?_ ?_
     ·refine lC ?_ ?_
      ·exact aH rfl
      ·exact ih x0 (IntKind.wrap .i64 (x3 + 1))
     ·exact ih x0 (IntKind.wrap .i64 (x3 + 1))
    ·refine lC ?_ ?_
     ·exact aH rfl
     ·exact ih x0 (IntKind.wrap .i64 (x3 + 1))
  ·exact aH rfl
theorem ab1 (x0 : Str) : Le (Option.map fC (oH x0)) (aqi x0) := by
 refine Le.trans ?_ (le_of_eq ((bC alG).trans (aqM _ _ _  x0)).symm)
 unfold oH
 exact acn fuel x0 0
theorem yA (p0 : Str) : Le (Option.map fC (oC p0)) (aY SE 102 [.d (.str p0)] [] []) := by
 refine aR alG rfl ?_
 refine Le.trans ?_ (le_of_eq (ava _ _ _  p0).symm)
 unfold oC
 refine lC ?_ ?_
 ·exact aH rfl
 ·refine lC ?_ ?_
  ·exact aH rfl
  ·exact ab1 p0
def aiR (C : aO) (Λ2 J : Lam) (a0 : (List (List D))) (a1 : Int) : Res := lab SE C Λ2 J 49 0 [1, 1, 0, 1, 0] (aZ [(0, .d (.sl aC.ks a0)), (3, .d (.int .i64 a1))] [] [] [] [])
section
variable (Γ : Fun) (γ102 : Gm (Bool)) (Λ2 J : Lam)
def C49 : aO := bA (aP Γ) 102 fC γ102
theorem T49 (p0 : (List aC)) : bD SE (C49 Γ γ102) Λ2 J 49 [.d (.sl aC.ks (List.map aC.enc p0))] [] [] =
 cond (decide ((List.length (List.map aC.enc p0) : Int) > 8)) (
 (some (.ret [.d (.int .i64 5)] [] []))) (
 aiR (C49 Γ γ102) Λ2 J (List.map aC.enc p0) 0) := by kernel_rfl
theorem atw (x0 : (List aC)) (x3 : Int) : cB SE (C49 Γ γ102) Λ2 J 49 0 [1, 1, 0, 1, 0] (aZ [(0, .d (.sl aC.ks (List.map aC.enc x0))), (3, .d (.int .i64 x3))] [] [] [] []) =
 cond (decide (x3 < (List.length (List.map aC.enc x0) : Int))) (
 cond (decide (0 ≤ x3) && decide (x3 < (List.length (List.map aC.enc x0) : Int))) (
  γ102 [.d (.str (aV (cellAt (elemAt (List.map aC.enc x0) (Int.toNat x3)) 0)))] [] [] fun r0 =>
  cond (!r0) (
  (some (.ret [.d (.int .i64 16)] [] []))) (
  cond (decide (0 ≤ x3) && decide (x3 < (List.length (List.map aC.enc x0) : Int))) (
  cond (decide ((List.length (aV (cellAt (elemAt (List.map aC.enc x0) (Int.toNat x3)) 1)) : Int) > 160)) (
   (some (.ret [.d (.int .i64 5)] [] []))) (
  cond (decide (x3 > 0)) (
   cond (decide (0 ≤ x3) && decide (x3 < (List.length (List.map aC.enc x0) : Int))) (
   cond (decide (0 ≤ (IntKind.wrap .i64 (x3 - 1))) && decide ((IntKind.wrap .i64 (x3 - 1)) < (List.length (List.map aC.enc x0) : Int))) (
    cond (Op.bytesLess (aV (cellAt (elemAt (List.map aC.enc x0) (Int.toNat x3)) 0)) (aV (cellAt (elemAt (List.map aC.enc x0) (Int.toNat (IntKind.wrap .i64 (x3 - 1)))) 0)) || (aV (cellAt (elemAt (List.map aC.enc x0) (Int.toNat x3)) 0)) == (aV (cellAt (elemAt (List.map aC.enc x0) (Int.toNat (IntKind.wrap .i64 (x3 - 1)))) 0))) (
    (some (.ret [.d (.int .i64 16)] [] []))) (
    aiR (C49 Γ γ102) Λ2 J (List.map aC.enc x0) (IntKind.wrap .i64 (x3 + 1)))) none) none) (
  aiR (C49 Γ γ102) Λ2 J (List.map aC.enc x0) (IntKind.wrap .i64 (x3 + 1))))) none)) none) (
 (some (.ret [.d (.int .i64 0)] [] []))) := by kernel_rfl
end
abbrev X49 : aO := C49 gG (cT 102 fC)
theorem aqL : X49 = aP gG := by unfold X49 C49; rw [aK fun _ h => h]
noncomputable abbrev atF (a0 : (List (List D))) (a1 : Int) : Res := aiR X49 (bV SE gG (SE.hl 49) (SE.hr 49)) (J0 SE X49) a0 a1
theorem aaJ : ∀ (fu : Nat) (x0 : (List aC)) (x3 : Int), Le (Option.map fJ (eN fu x0 x3)) (atF (List.map aC.enc x0) x3) := by
 intro fu
 induction fu with
 | zero => intros; exact le_none
 | succ fu ih =>
  intro x0 x3
  refine Le.trans ?_ (le_of_eq ((bC aqL).trans (atw _ _ _ _  x0 x3)).symm)
  unfold eN
  refine lD (by simp only [EN]) ?_ ?_
  ·refine lG (by simp only [EN]) ?_
   refine aM (good := good) eX adE (by first | (simp only [EN]; exact yA ((List.getD x0 (Int.toNat x3) default).Key)) | exact yA ((List.getD x0 (Int.toNat x3) default).Key)) fun r0 _ => ?_
   refine lC ?_ ?_
   ·exact aH rfl
   ·refine lG (by simp only [EN]) ?_
    refine lD (by simp only [EN]) ?_ ?_
    ·exact aH rfl
    ·refine lC ?_ ?_
     ·refine lG (by simp only [EN]) ?_
      refine lG (by simp only [EN]) ?_
      refine lD (by simp only [EN]) ?_ ?_
      ·exact aH rfl
      ·exact ih x0 (IntKind.wrap .i64 (x3 + 1))
     ·exact ih x0 (IntKind.wrap .i64 (x3 + 1))
  ·exact aH rfl
theorem acE (p0 : (List aC)) : Le (Option.map fJ (mR p0)) (aY SE 49 [.d (.sl aC.ks (List.map aC.enc p0))] [] []) := by
 refine aR aqL rfl ?_
 refine Le.trans ?_ (le_of_eq (T49 _ _ _ _  p0).symm)
 unfold mR
 refine lD (by simp only [EN]) ?_ ?_
 ·exact aH rfl
 ·exact aaJ fuel p0 0
def ajx (C : aO) (Λ2 J : Lam) (a0 : (List D)) : Res := lab SE C Λ2 J 13 0 [1, 1, 1, 1, 1, 1, 0, 0] (aZ [(1, .ptr 1000000000 0)] [⟨34, (List.map AV.d a0)⟩] [] [] [])
def ao5 (C : aO) (Λ2 J : Lam) (a0 : (List D)) : Res := lab SE C Λ2 J 13 0 [1, 1, 1, 1, 1, 0, 0] (aZ [(1, .ptr 1000000000 0)] [⟨34, (List.map AV.d a0)⟩] [] [] [])
def aoS (C : aO) (Λ2 J : Lam) (a0 : (List D)) : Res := lab SE C Λ2 J 13 0 [1, 1, 1, 1, 0, 0] (aZ [(1, .ptr 1000000000 0)] [⟨34, (List.map AV.d a0)⟩] [] [] [])
section
variable (Γ : Fun) (γ47 : Gm (Bool)) (γ48 : Gm (Bool)) (γ49 : Gm (Int)) (Λ2 J : Lam)
def C13 : aO := bA (bA (bA (aP Γ) 47 hH γ47) 48 cI γ48) 49 fJ γ49
theorem T13 (p0 : aA) : bD SE (C13 Γ γ47 γ48 γ49) Λ2 J 13 [aA.av p0] [] [] =
 γ47 [.d (.str p0.Topic)] [] [] fun r0 =>
 cond (!r0) (
 (some (.ret [.d (.int .i64 12)] [] []))) (
 cond (decide ((List.length p0.Payload : Int) > 256)) (
 (some (.ret [.d (.int .i64 5)] [] []))) (
 cond (decide (p0.Level < 0)) (
 (some (.ret [.d (.int .i64 14)] [] []))) (
 cond (decide (p0.Level > 2)) (
 (some (.ret [.d (.int .i64 14)] [] []))) (
 aoS (C13 Γ γ47 γ48 γ49) Λ2 J (aA.enc p0))))) := by kernel_rfl
theorem apM (b0 : aA) : cB SE (C13 Γ γ47 γ48 γ49) Λ2 J 13 0 [1, 1, 1, 1, 1, 1, 0, 0] (aZ [(1, .ptr 1000000000 0)] [⟨34, (List.map AV.d (aA.enc b0))⟩] [] [] []) =
 cond (decide (b0.Seq < 0)) (
 (some (.ret [.d (.int .i64 1)] [] []))) (
 cond (decide (b0.Seq > 1099511627776)) (
 (some (.ret [.d (.int .i64 1)] [] []))) (
 γ49 [.d (.sl aC.ks (List.map aC.enc b0.Props))] [] [] fun r2 =>
 (some (.ret [.d (.int .i64 r2)] [] [])))) := by kernel_rfl
theorem aty (b0 : aA) : cB SE (C13 Γ γ47 γ48 γ49) Λ2 J 13 0 [1, 1, 1, 1, 1, 0, 0] (aZ [(1, .ptr 1000000000 0)] [⟨34, (List.map AV.d (aA.enc b0))⟩] [] [] []) =
 cond (!(b0.From == ([] : Str))) (
 γ48 [.d (.str b0.From)] [] [] fun r1 =>
 cond (!r1) (
  (some (.ret [.d (.int .i64 11)] [] []))) (
 ajx (C13 Γ γ47 γ48 γ49) Λ2 J (aA.enc b0))) (
 ajx (C13 Γ γ47 γ48 γ49) Λ2 J (aA.enc b0)) := by kernel_rfl
theorem ati (b0 : aA) : cB SE (C13 Γ γ47 γ48 γ49) Λ2 J 13 0 [1, 1, 1, 1, 0, 0] (aZ [(1, .ptr 1000000000 0)] [⟨34, (List.map AV.d (aA.enc b0))⟩] [] [] []) =
 cond (decide (b0.Priority < 0)) (
 (some (.ret [.d (.int .i64 1)] [] []))) (
 cond (decide (b0.Priority > 9)) (
 (some (.ret [.d (.int .i64 1)] [] []))) (
 cond (decide (b0.Expires < 0)) (
 (some (.ret [.d (.int .i64 1)] [] []))) (
 cond (decide (b0.Expires > 1099511627776)) (
 (some (.ret [.d (.int .i64 1)] [] []))) (
 ao5 (C13 Γ γ47 γ48 γ49) Λ2 J (aA.enc b0))))) := by kernel_rfl
end
abbrev X13 : aO := C13 gG (cT 47 hH) (cT 48 cI) (cT 49 fJ)
theorem alH : X13 = aP gG := by unfold X13 C13; rw [aK fun _ h => h, aK fun _ h => h, aK fun _ h => h]
noncomputable abbrev arX (a0 : (List D)) : Res := ajx X13 (bV SE gG (SE.hl 13) (SE.hr 13)) (J0 SE X13) a0
noncomputable abbrev aum (a0 : (List D)) : Res := ao5 X13 (bV SE gG (SE.hl 13) (SE.hr 13)) (J0 SE X13) a0
noncomputable abbrev asT (a0 : (List D)) : Res := aoS X13 (bV SE gG (SE.hl 13) (SE.hr 13)) (J0 SE X13) a0
theorem rW (b0 : aA) : Le (Option.map bZ (jY b0)) (arX (aA.enc b0)) := by
 refine Le.trans ?_ (le_of_eq ((bC alH).trans (apM _ _ _ _ _ _  b0)).symm)
 unfold jY
 refine lC ?_ ?_
 ·exact aH rfl
 ·refine lC ?_ ?_
  ·exact aH rfl
  ·refine aM (good := good) eX abC (acE _) fun r2 _ => ?_
   exact aH rfl
theorem aaE (b0 : aA) : Le (Option.map bZ (mY b0)) (aum (aA.enc b0)) := by
 refine Le.trans ?_ (le_of_eq ((bC alH).trans (aty _ _ _ _ _ _  b0)).symm)
 unfold mY
 refine lC ?_ ?_
 ·refine aM (good := good) eX m5 (nY _) fun r1 _ => ?_
  refine lC ?_ ?_
  ·exact aH rfl
  ·exact rW b0
 ·exact rW b0
theorem aaF (b0 : aA) : Le (Option.map bZ (m9 b0)) (asT (aA.enc b0)) := by
 refine Le.trans ?_ (le_of_eq ((bC alH).trans (ati _ _ _ _ _ _  b0)).symm)
 unfold m9
 refine lC ?_ ?_
 ·exact aH rfl
 ·refine lC ?_ ?_
  ·exact aH rfl
  ·refine lC ?_ ?_
   ·exact aH rfl
   ·refine lC ?_ ?_
    ·exact aH rfl
    ·exact aaE b0
theorem mW (p0 : aA) : Le (Option.map bZ (iN p0)) (aY SE 13 [aA.av p0] [] []) := by
 refine aR alH rfl ?_
 refine Le.trans ?_ (le_of_eq (T13 _ _ _ _ _ _  p0).symm)
 unfold iN
 refine aM (good := good) eX acm (acB _) fun r0 _ => ?_
 refine lC ?_ ?_
 ·exact aH rfl
 ·refine lC ?_ ?_
  ·exact aH rfl
  ·refine lC ?_ ?_
   ·exact aH rfl
   ·refine lC ?_ ?_
    ·exact aH rfl
    ·exact aaF p0
def alU (C : aO) (Λ2 J : Lam) (a0 : (List (List D))) (a1 : Int) : Res := lab SE C Λ2 J 43 0 [1, 1, 0, 1, 0] (aZ [(0, .d (.sl aA.ks a0)), (3, .d (.int .i64 a1))] [] [] [] [])
section
variable (Γ : Fun) (γ13 : Gm (Int)) (Λ2 J : Lam)
def C43 : aO := bA (aP Γ) 13 bZ γ13
theorem T43 (p0 : (List aA)) : bD SE (C43 Γ γ13) Λ2 J 43 [.d (.sl aA.ks (List.map aA.enc p0))] [] [] =
 cond (decide ((List.length (List.map aA.enc p0) : Int) > 256)) (
 (some (.ret [.d (.int .i64 5)] [] []))) (
 alU (C43 Γ γ13) Λ2 J (List.map aA.enc p0) 0) := by kernel_rfl
theorem aue (x0 : (List aA)) (x3 : Int) : cB SE (C43 Γ γ13) Λ2 J 43 0 [1, 1, 0, 1, 0] (aZ [(0, .d (.sl aA.ks (List.map aA.enc x0))), (3, .d (.int .i64 x3))] [] [] [] []) =
 cond (decide (x3 < (List.length (List.map aA.enc x0) : Int))) (
 cond (decide (0 ≤ x3) && decide (x3 < (List.length (List.map aA.enc x0) : Int))) (
  γ13 [.agg [.d (.str (aV (cellAt (elemAt (List.map aA.enc x0) (Int.toNat x3)) 0))), .d (.str (aV (cellAt (elemAt (List.map aA.enc x0) (Int.toNat x3)) 1))), .d (.int .i64 (aL (cellAt (elemAt (List.map aA.enc x0) (Int.toNat x3)) 2))), .d (.bool (bB (cellAt (elemAt (List.map aA.enc x0) (Int.toNat x3)) 3))), .d (.int .i64 (aL (cellAt (elemAt (List.map aA.enc x0) (Int.toNat x3)) 4))), .d (.int .i64 (aL (cellAt (elemAt (List.map aA.enc x0) (Int.toNat x3)) 5))), .d (.str (aV (cellAt (elemAt (List.map aA.enc x0) (Int.toNat x3)) 6))), .d (.int .i64 (aL (cellAt (elemAt (List.map aA.enc x0) (Int.toNat x3)) 7))), .d (.sl aC.ks (dSl (cellAt (elemAt (List.map aA.enc x0) (Int.toNat x3)) 8)))]] [] [] fun r0 =>
  cond (r0 != 0) (
  (some (.ret [.d (.int .i64 r0)] [] []))) (
  alU (C43 Γ γ13) Λ2 J (List.map aA.enc x0) (IntKind.wrap .i64 (x3 + 1)))) none) (
 (some (.ret [.d (.int .i64 0)] [] []))) := by kernel_rfl
end
abbrev X43 : aO := C43 gG (cT 13 bZ)
theorem art : X43 = aP gG := by unfold X43 C43; rw [aK fun _ h => h]
noncomputable abbrev atu (a0 : (List (List D))) (a1 : Int) : Res := alU X43 (bV SE gG (SE.hl 43) (SE.hr 43)) (J0 SE X43) a0 a1
theorem aaI : ∀ (fu : Nat) (x0 : (List aA)) (x3 : Int), Le (Option.map fG (fW fu x0 x3)) (atu (List.map aA.enc x0) x3) := by
 intro fu
 induction fu with
 | zero => intros; exact le_none
 | succ fu ih =>
  intro x0 x3
  refine Le.trans ?_ (le_of_eq ((bC art).trans (aue _ _ _ _  x0 x3)).symm)
  unfold fW
  refine lD (by simp only [EN]) ?_ ?_
  ·refine lG (by simp only [EN]) ?_
   refine aM (good := good) eX pE (by first | (simp only [EN]; exact mW (List.getD x0 (Int.toNat x3) default)) | exact mW (List.getD x0 (Int.toNat x3) default)) fun r0 _ => ?_
   refine lC ?_ ?_
   ·exact aH rfl
   ·exact ih x0 (IntKind.wrap .i64 (x3 + 1))
  ·exact aH rfl
theorem acI (p0 : (List aA)) : Le (Option.map fG (mH p0)) (aY SE 43 [.d (.sl aA.ks (List.map aA.enc p0))] [] []) := by
 refine aR art rfl ?_
 refine Le.trans ?_ (le_of_eq (T43 _ _ _ _  p0).symm)
 unfold mH
 refine lD (by simp only [EN]) ?_ ?_
 ·exact aH rfl
 ·exact aaI fuel p0 0
def aiW (C : aO) (Λ2 J : Lam) (a0 : Int) (a1 : (List D)) : Res := lab SE C Λ2 J 95 0 [1, 1, 0, 1, 0] (aZ [(1, .ptr 1000000000 0), (3, .d (.int .i64 a0))] [⟨27, (List.map AV.d a1)⟩] [] [] [])
section
variable (Γ : Fun)  (Λ2 J : Lam)
def C95 : aO := aP Γ
theorem T95 (p0 : aJ) : bD SE (C95 Γ) Λ2 J 95 [aJ.av p0] [] [] =
 cond (decide ((List.length (List.map (encI .i64) p0.Used) : Int) > 32)) (
 (some (.ret [.d (.int .i64 5)] [] []))) (
 aiW (C95 Γ) Λ2 J 0 (aJ.enc p0)) := by kernel_rfl
theorem ato (x3 : Int) (b0 : aJ) : cB SE (C95 Γ) Λ2 J 95 0 [1, 1, 0, 1, 0] (aZ [(1, .ptr 1000000000 0), (3, .d (.int .i64 x3))] [⟨27, (List.map AV.d (aJ.enc b0))⟩] [] [] []) =
 cond (decide (x3 < (List.length (List.map (encI .i64) b0.Used) : Int))) (
 cond (decide (0 ≤ x3) && decide (x3 < (List.length (List.map (encI .i64) b0.Used) : Int))) (
  cond (decide ((aL (cellAt (elemAt (List.map (encI .i64) b0.Used) (Int.toNat x3)) 0)) < 1)) (
  (some (.ret [.d (.int .i64 15)] [] []))) (
  cond (decide (0 ≤ x3) && decide (x3 < (List.length (List.map (encI .i64) b0.Used) : Int))) (
  cond (decide ((aL (cellAt (elemAt (List.map (encI .i64) b0.Used) (Int.toNat x3)) 0)) > 65535)) (
   (some (.ret [.d (.int .i64 15)] [] []))) (
  cond (decide (x3 > 0)) (
   cond (decide (0 ≤ x3) && decide (x3 < (List.length (List.map (encI .i64) b0.Used) : Int))) (
   cond (decide (0 ≤ (IntKind.wrap .i64 (x3 - 1))) && decide ((IntKind.wrap .i64 (x3 - 1)) < (List.length (List.map (encI .i64) b0.Used) : Int))) (
    cond (decide ((aL (cellAt (elemAt (List.map (encI .i64) b0.Used) (Int.toNat x3)) 0)) ≤ (aL (cellAt (elemAt (List.map (encI .i64) b0.Used) (Int.toNat (IntKind.wrap .i64 (x3 - 1)))) 0)))) (
    (some (.ret [.d (.int .i64 15)] [] []))) (
    aiW (C95 Γ) Λ2 J (IntKind.wrap .i64 (x3 + 1)) (aJ.enc b0))) none) none) (
  aiW (C95 Γ) Λ2 J (IntKind.wrap .i64 (x3 + 1)) (aJ.enc b0)))) none)) none) (
 cond (decide (b0.Last < 0)) (
 (some (.ret [.d (.int .i64 1)] [] []))) (
 cond (decide (b0.Last > 65535)) (
 (some (.ret [.d (.int .i64 1)] [] []))) (
 (some (.ret [.d (.int .i64 0)] [] []))))) := by kernel_rfl
end
abbrev X95 : aO := C95 gG
theorem ase : X95 = aP gG := rfl
noncomputable abbrev atE (a0 : Int) (a1 : (List D)) : Res := aiW X95 (bV SE gG (SE.hl 95) (SE.hr 95)) (J0 SE X95) a0 a1
theorem aaD : ∀ (fu : Nat) (x3 : Int) (b0 : aJ), Le (Option.map dC (cU fu x3 b0)) (atE x3 (aJ.enc b0)) := by
 intro fu
 induction fu with
 | zero => intros; exact le_none
 | succ fu ih =>
  intro x3 b0
  refine Le.trans ?_ (le_of_eq ((bC ase).trans (ato _ _ _  x3 b0)).symm)
  unfold cU
  refine lD (by simp only [EN]) ?_ ?_
  ·refine lG (by simp only [EN]) ?_
   refine lD (by simp only [EN]) ?_ ?_
   ·exact aH rfl
   ·refine lG (by simp only [EN]) ?_
    refine lD (by simp only [EN]) ?_ ?_
    ·exact aH rfl
    ·refine lC ?_ ?_
     ·refine lG (by simp only [EN]) ?_
      refine lG (by simp only [EN]) ?_
      refine lD (by simp only [EN]) ?_ ?_
      ·exact aH rfl
      ·exact ih (IntKind.wrap .i64 (x3 + 1)) b0
     ·exact ih (IntKind.wrap .i64 (x3 + 1)) b0
  ·refine lC ?_ ?_
   ·exact aH rfl
   ·refine lC ?_ ?_
    ·exact aH rfl
    ·exact aH rfl
theorem vJ (p0 : aJ) : Le (Option.map dC (gH p0)) (aY SE 95 [aJ.av p0] [] []) := by
 refine aR ase rfl ?_
 refine Le.trans ?_ (le_of_eq (T95 _ _ _  p0).symm)
 unfold gH
 refine lD (by simp only [EN]) ?_ ?_
 ·exact aH rfl
 ·exact aaD fuel 0 p0
def ake (C : aO) (Λ2 J : Lam) (a0 : Int) (a1 : Int) (a2 : (List D)) : Res := lab SE C Λ2 J 148 0 [1, 0, 1, 0] (aZ [(1, .d (.int .i64 a0)), (2, .ptr 1000000000 0), (5, .d (.int .i64 a1))] [⟨27, (List.map AV.d a2)⟩] [] [] [])
section
variable (Γ : Fun)  (Λ2 J : Lam)
def ajD : aO := aP Γ
theorem av8 (p0 : aJ) (p1 : Int) : bD SE (ajD Γ) Λ2 J 148 [aJ.av p0, .d (.int .i64 p1)] [] [] =
 ake (ajD Γ) Λ2 J p1 0 (aJ.enc p0) := by kernel_rfl
theorem arn (x1 : Int) (x5 : Int) (b0 : aJ) : cB SE (ajD Γ) Λ2 J 148 0 [1, 0, 1, 0] (aZ [(1, .d (.int .i64 x1)), (2, .ptr 1000000000 0), (5, .d (.int .i64 x5))] [⟨27, (List.map AV.d (aJ.enc b0))⟩] [] [] []) =
 cond (decide (x5 < (List.length (List.map (encI .i64) b0.Used) : Int))) (
 cond (decide (0 ≤ x5) && decide (x5 < (List.length (List.map (encI .i64) b0.Used) : Int))) (
  cond ((aL (cellAt (elemAt (List.map (encI .i64) b0.Used) (Int.toNat x5)) 0)) == x1) (
  (some (.ret [.d (.bool true)] [] []))) (
  ake (ajD Γ) Λ2 J x1 (IntKind.wrap .i64 (x5 + 1)) (aJ.enc b0))) none) (
 (some (.ret [.d (.bool false)] [] []))) := by kernel_rfl
end
abbrev aos : aO := ajD gG
theorem ao7 : aos = aP gG := rfl
noncomputable abbrev apZ (a0 : Int) (a1 : Int) (a2 : (List D)) : Res := ake aos (bV SE gG (SE.hl 148) (SE.hr 148)) (J0 SE aos) a0 a1 a2
theorem ach : ∀ (fu : Nat) (x1 : Int) (x5 : Int) (b0 : aJ), Le (Option.map gN (hQ fu x1 x5 b0)) (apZ x1 x5 (aJ.enc b0)) := by
 intro fu
 induction fu with
 | zero => intros; exact le_none
 | succ fu ih =>
  intro x1 x5 b0
  refine Le.trans ?_ (le_of_eq ((bC ao7).trans (arn _ _ _  x1 x5 b0)).symm)
  unfold hQ
  refine lD (by simp only [EN]) ?_ ?_
  ·refine lG (by simp only [EN]) ?_
   refine lD (by simp only [EN]) ?_ ?_
   ·exact aH rfl
   ·exact ih x1 (IntKind.wrap .i64 (x5 + 1)) b0
  ·exact aH rfl
theorem xB (p0 : aJ) (p1 : Int) : Le (Option.map gN (oD p0 p1)) (aY SE 148 [aJ.av p0, .d (.int .i64 p1)] [] []) := by
 refine aR ao7 rfl ?_
 refine Le.trans ?_ (le_of_eq (av8 _ _ _  p0 p1).symm)
 unfold oD
 exact ach fuel p1 0 p0
def ajk (C : aO) (Λ2 J : Lam) (a0 : (List (List D))) (a1 : Int) (a2 : Int) : Res := lab SE C Λ2 J 115 0 [1, 0, 1, 0] (aZ [(0, .d (.sl aB.ks a0)), (1, .d (.int .i64 a1)), (5, .d (.int .i64 a2))] [] [] [] [])
section
variable (Γ : Fun)  (Λ2 J : Lam)
def akq : aO := aP Γ
theorem avP (p0 : (List aB)) (p1 : Int) : bD SE (akq Γ) Λ2 J 115 [.d (.sl aB.ks (List.map aB.enc p0)), .d (.int .i64 p1)] [] [] =
 ajk (akq Γ) Λ2 J (List.map aB.enc p0) p1 0 := by kernel_rfl
theorem aqe (x0 : (List aB)) (x1 : Int) (x5 : Int) : cB SE (akq Γ) Λ2 J 115 0 [1, 0, 1, 0] (aZ [(0, .d (.sl aB.ks (List.map aB.enc x0))), (1, .d (.int .i64 x1)), (5, .d (.int .i64 x5))] [] [] [] []) =
 cond (decide (x5 < (List.length (List.map aB.enc x0) : Int))) (
 cond (decide (0 ≤ x5) && decide (x5 < (List.length (List.map aB.enc x0) : Int))) (
  cond ((aL (cellAt (elemAt (List.map aB.enc x0) (Int.toNat x5)) 0)) == x1) (
  (some (.ret [.d (.int .i64 x5)] [] []))) (
  ajk (akq Γ) Λ2 J (List.map aB.enc x0) x1 (IntKind.wrap .i64 (x5 + 1)))) none) (
 (some (.ret [.d (.int .i64 (-1))] [] []))) := by kernel_rfl
end
abbrev anQ : aO := akq gG
theorem aoO : anQ = aP gG := rfl
noncomputable abbrev asf (a0 : (List (List D))) (a1 : Int) (a2 : Int) : Res := ajk anQ (bV SE gG (SE.hl 115) (SE.hr 115)) (J0 SE anQ) a0 a1 a2
theorem acD : ∀ (fu : Nat) (x0 : (List aB)) (x1 : Int) (x5 : Int), Le (Option.map hR (iP fu x0 x1 x5)) (asf (List.map aB.enc x0) x1 x5) := by
 intro fu
 induction fu with
 | zero => intros; exact le_none
 | succ fu ih =>
  intro x0 x1 x5
  refine Le.trans ?_ (le_of_eq ((bC aoO).trans (aqe _ _ _  x0 x1 x5)).symm)
  unfold iP
  refine lD (by simp only [EN]) ?_ ?_
  ·refine lG (by simp only [EN]) ?_
   refine lD (by simp only [EN]) ?_ ?_
   ·exact aH rfl
   ·exact ih x0 x1 (IntKind.wrap .i64 (x5 + 1))
  ·exact aH rfl
theorem yO (p0 : (List aB)) (p1 : Int) : Le (Option.map hR (pJ p0 p1)) (aY SE 115 [.d (.sl aB.ks (List.map aB.enc p0)), .d (.int .i64 p1)] [] []) := by
 refine aR aoO rfl ?_
 refine Le.trans ?_ (le_of_eq (avP _ _ _  p0 p1).symm)
 unfold pJ
 exact acD fuel p0 p1 0
def aoP (C : aO) (Λ2 J : Lam) (a0 : (List D)) : Res := lab SE C Λ2 J 96 0 [1, 1, 1, 0] (aZ [(5, .ptr 1000000000 0)] [⟨122, (List.map AV.d a0)⟩] [] [] [])
section
variable (Γ : Fun) (γ148 : Gm (Bool)) (γ115 : Gm (Int)) (γ13 : Gm (Int)) (Λ2 J : Lam)
def C96 : aO := bA (bA (bA (aP Γ) 148 gN γ148) 115 hR γ115) 13 bZ γ13
theorem T96 (p0 : aG) (p1 : Int) : bD SE (C96 Γ γ148 γ115 γ13) Λ2 J 96 [aG.av p0, .d (.int .i64 p1)] [] [] =
 cond (decide (0 ≤ p1) && decide (p1 < (List.length (List.map aB.enc p0.Items) : Int))) (
 γ148 [aJ.av p0.Pool, .d (.int .i64 (aL (cellAt (elemAt (List.map aB.enc p0.Items) (Int.toNat p1)) 0)))] [] [] fun r0 =>
 cond (!r0) (
  (some (.ret [.d (.int .i64 15)] [] []))) (
 γ115 [.d (.sl aB.ks (List.map aB.enc p0.Items)), .d (.int .i64 (aL (cellAt (elemAt (List.map aB.enc p0.Items) (Int.toNat p1)) 0)))] [] [] fun r1 =>
 cond (decide (r1 < p1)) (
  (some (.ret [.d (.int .i64 15)] [] []))) (
 aoP (C96 Γ γ148 γ115 γ13) Λ2 J [D.int .i64 (aL (cellAt (elemAt (List.map aB.enc p0.Items) (Int.toNat p1)) 0)), D.int .i64 (aL (cellAt (elemAt (List.map aB.enc p0.Items) (Int.toNat p1)) 1)), D.str (aV (cellAt (elemAt (List.map aB.enc p0.Items) (Int.toNat p1)) 2)), D.str (aV (cellAt (elemAt (List.map aB.enc p0.Items) (Int.toNat p1)) 3)), D.int .i64 (aL (cellAt (elemAt (List.map aB.enc p0.Items) (Int.toNat p1)) 4)), D.bool (bB (cellAt (elemAt (List.map aB.enc p0.Items) (Int.toNat p1)) 5)), D.int .i64 (aL (cellAt (elemAt (List.map aB.enc p0.Items) (Int.toNat p1)) 6)), D.int .i64 (aL (cellAt (elemAt (List.map aB.enc p0.Items) (Int.toNat p1)) 7)), D.str (aV (cellAt (elemAt (List.map aB.enc p0.Items) (Int.toNat p1)) 8)), D.int .i64 (aL (cellAt (elemAt (List.map aB.enc p0.Items) (Int.toNat p1)) 9)), D.sl aC.ks (dSl (cellAt (elemAt (List.map aB.enc p0.Items) (Int.toNat p1)) 10))]))) none := by kernel_rfl
theorem atJ (b0 : aB) : cB SE (C96 Γ γ148 γ115 γ13) Λ2 J 96 0 [1, 1, 1, 0] (aZ [(5, .ptr 1000000000 0)] [⟨122, (List.map AV.d (aB.enc b0))⟩] [] [] []) =
 γ13 [aA.av b0.Message] [] [] fun r2 =>
 cond (r2 != 0) (
 (some (.ret [.d (.int .i64 r2)] [] []))) (
 cond (b0.Message.Level == 0) (
 (some (.ret [.d (.int .i64 14)] [] []))) (
 cond (b0.State != 1) (
 cond (b0.State != 2) (
  (some (.ret [.d (.int .i64 9)] [] []))) (
 cond (b0.Message.Level == 1) (
  (some (.ret [.d (.int .i64 9)] [] []))) (
 (some (.ret [.d (.int .i64 0)] [] []))))) (
 (some (.ret [.d (.int .i64 0)] [] []))))) := by kernel_rfl
end
abbrev X96 : aO := C96 gG (cT 148 gN) (cT 115 hR) (cT 13 bZ)
theorem aro : X96 = aP gG := by unfold X96 C96; rw [aK fun _ h => h, aK fun _ h => h, aK fun _ h => h]
noncomputable abbrev atd (a0 : (List D)) : Res := aoP X96 (bV SE gG (SE.hl 96) (SE.hr 96)) (J0 SE X96) a0
theorem tB (b0 : aB) : Le (Option.map fT (nU b0)) (atd (aB.enc b0)) := by
 refine Le.trans ?_ (le_of_eq ((bC aro).trans (atJ _ _ _ _ _ _  b0)).symm)
 unfold nU
 refine aM (good := good) eX pE (mW _) fun r2 _ => ?_
 refine lC ?_ ?_
 ·exact aH rfl
 ·refine lC ?_ ?_
  ·exact aH rfl
  ·refine lC ?_ ?_
   ·refine lC ?_ ?_
    ·exact aH rfl
    ·refine lC ?_ ?_
     ·exact aH rfl
     ·exact aH rfl
   ·exact aH rfl
theorem adF (p0 : aG) (p1 : Int) : Le (Option.map fT (nN p0 p1)) (aY SE 96 [aG.av p0, .d (.int .i64 p1)] [] []) := by
 refine aR aro rfl ?_
 refine Le.trans ?_ (le_of_eq (T96 _ _ _ _ _ _  p0 p1).symm)
 unfold nN
 refine lG (by simp only [EN]) ?_
 refine aM (good := good) eX adv (by first | (simp only [EN]; exact xB p0.Pool ((List.getD p0.Items (Int.toNat p1) default).ID)) | exact xB p0.Pool ((List.getD p0.Items (Int.toNat p1) default).ID)) fun r0 _ => ?_
 refine lC ?_ ?_
 ·exact aH rfl
 ·refine aM (good := good) eX aej (by first | (simp only [EN]; exact yO p0.Items ((List.getD p0.Items (Int.toNat p1) default).ID)) | exact yO p0.Items ((List.getD p0.Items (Int.toNat p1) default).ID)) fun r1 _ => ?_
  refine lC ?_ ?_
  ·exact aH rfl
  ·first | (simp only [EN]; exact tB (List.getD p0.Items (Int.toNat p1) default)) | exact tB (List.getD p0.Items (Int.toNat p1) default)
def alr (C : aO) (Λ2 J : Lam) (a0 : Int) (a1 : (List D)) : Res := lab SE C Λ2 J 44 0 [1, 1, 1, 1, 1, 0, 1, 0] (aZ [(1, .ptr 1000000000 0), (4, .d (.int .i64 a0))] [⟨29, (List.map AV.d a1)⟩] [] [] [])
def aoE (C : aO) (Λ2 J : Lam) (a0 : (List D)) : Res := lab SE C Λ2 J 44 0 [1, 1, 0] (aZ [(1, .ptr 1000000000 0)] [⟨29, (List.map AV.d a0)⟩] [] [] [])
section
variable (Γ : Fun) (γ95 : Gm (Int)) (γ96 : Gm (Int)) (Λ2 J : Lam)
def C44 : aO := bA (bA (aP Γ) 95 dC γ95) 96 fT γ96
theorem T44 (p0 : aG) : bD SE (C44 Γ γ95 γ96) Λ2 J 44 [aG.av p0] [] [] =
 cond (decide (p0.Limit < 0)) (
 (some (.ret [.d (.int .i64 1)] [] []))) (
 cond (decide (p0.Limit > 32)) (
 (some (.ret [.d (.int .i64 1)] [] []))) (
 aoE (C44 Γ γ95 γ96) Λ2 J (aG.enc p0))) := by kernel_rfl
theorem ast (x4 : Int) (b0 : aG) : cB SE (C44 Γ γ95 γ96) Λ2 J 44 0 [1, 1, 1, 1, 1, 0, 1, 0] (aZ [(1, .ptr 1000000000 0), (4, .d (.int .i64 x4))] [⟨29, (List.map AV.d (aG.enc b0))⟩] [] [] []) =
 cond (decide (x4 < (List.length (List.map aB.enc b0.Items) : Int))) (
 γ96 [aG.av b0, .d (.int .i64 x4)] [] [] fun r1 =>
 cond (r1 != 0) (
  (some (.ret [.d (.int .i64 r1)] [] []))) (
 alr (C44 Γ γ95 γ96) Λ2 J (IntKind.wrap .i64 (x4 + 1)) (aG.enc b0))) (
 cond (decide ((List.length (List.map aB.enc b0.Items) : Int) < (List.length (List.map (encI .i64) b0.Pool.Used) : Int))) (
 (some (.ret [.d (.int .i64 15)] [] []))) (
 (some (.ret [.d (.int .i64 0)] [] [])))) := by kernel_rfl
theorem as5 (b0 : aG) : cB SE (C44 Γ γ95 γ96) Λ2 J 44 0 [1, 1, 0] (aZ [(1, .ptr 1000000000 0)] [⟨29, (List.map AV.d (aG.enc b0))⟩] [] [] []) =
 γ95 [aJ.av b0.Pool] [] [] fun r0 =>
 cond (r0 != 0) (
 (some (.ret [.d (.int .i64 r0)] [] []))) (
 cond (decide ((List.length (List.map aB.enc b0.Items) : Int) > 32)) (
 (some (.ret [.d (.int .i64 5)] [] []))) (
 alr (C44 Γ γ95 γ96) Λ2 J 0 (aG.enc b0))) := by kernel_rfl
end
abbrev X44 : aO := C44 gG (cT 95 dC) (cT 96 fT)
theorem anV : X44 = aP gG := by unfold X44 C44; rw [aK fun _ h => h, aK fun _ h => h]
noncomputable abbrev aub (a0 : Int) (a1 : (List D)) : Res := alr X44 (bV SE gG (SE.hl 44) (SE.hr 44)) (J0 SE X44) a0 a1
noncomputable abbrev as0 (a0 : (List D)) : Res := aoE X44 (bV SE gG (SE.hl 44) (SE.hr 44)) (J0 SE X44) a0
theorem aaK : ∀ (fu : Nat) (x4 : Int) (b0 : aG), Le (Option.map eJ (fR fu x4 b0)) (aub x4 (aG.enc b0)) := by
 intro fu
 induction fu with
 | zero => intros; exact le_none
 | succ fu ih =>
  intro x4 b0
  refine Le.trans ?_ (le_of_eq ((bC anV).trans (ast _ _ _ _ _  x4 b0)).symm)
  unfold fR
  refine lD (by simp only [EN]) ?_ ?_
  ·refine aM (good := good) eX adg (adF _ _) fun r1 _ => ?_
   refine lC ?_ ?_
   ·exact aH rfl
   ·exact ih (IntKind.wrap .i64 (x4 + 1)) b0
  ·refine lD (by simp only [EN]) ?_ ?_
   ·exact aH rfl
   ·exact aH rfl
theorem aaH (b0 : aG) : Le (Option.map eJ (m6 b0)) (as0 (aG.enc b0)) := by
 refine Le.trans ?_ (le_of_eq ((bC anV).trans (as5 _ _ _ _ _  b0)).symm)
 unfold m6
 refine aM (good := good) eX uE (vJ _) fun r0 _ => ?_
 refine lC ?_ ?_
 ·exact aH rfl
 ·refine lD (by simp only [EN]) ?_ ?_
  ·exact aH rfl
  ·exact aaK fuel 0 b0
theorem acM (p0 : aG) : Le (Option.map eJ (mO p0)) (aY SE 44 [aG.av p0] [] []) := by
 refine aR anV rfl ?_
 refine Le.trans ?_ (le_of_eq (T44 _ _ _ _ _  p0).symm)
 unfold mO
 refine lC ?_ ?_
 ·exact aH rfl
 ·refine lC ?_ ?_
  ·exact aH rfl
  ·exact aaH p0
section
variable (Γ : Fun) (γ95 : Gm (Int)) (Λ2 J : Lam)
def C45 : aO := bA (aP Γ) 95 dC γ95
theorem T45 (p0 : aS) : bD SE (C45 Γ γ95) Λ2 J 45 [aS.av p0] [] [] =
 γ95 [aJ.av (aJ.mk p0.IDs 0)] [] [] fun r0 =>
 (some (.ret [.d (.int .i64 r0)] [] [])) := by kernel_rfl
end
abbrev X45 : aO := C45 gG (cT 95 dC)
theorem avL : X45 = aP gG := by unfold X45 C45; rw [aK fun _ h => h]
theorem acS (p0 : aS) : Le (Option.map g4 (mN p0)) (aY SE 45 [aS.av p0] [] []) := by
 refine aR avL rfl ?_
 refine Le.trans ?_ (le_of_eq (T45 _ _ _ _  p0).symm)
 unfold mN
 refine aM (good := good) eX uE (vJ _) fun r0 _ => ?_
 exact aH rfl
def ajd (C : aO) (Λ2 J : Lam) (a0 : (List (List D))) (a1 : (List (List D))) (a2 : Int) : Res := lab SE C Λ2 J 149 0 [1, 1, 0, 1, 0] (aZ [(0, .d (.sl aC.ks a0)), (1, .d (.sl aC.ks a1)), (5, .d (.int .i64 a2))] [] [] [] [])
section
variable (Γ : Fun)  (Λ2 J : Lam)
def akc : aO := aP Γ
theorem awf (p0 : (List aC)) (p1 : (List aC)) : bD SE (akc Γ) Λ2 J 149 [.d (.sl aC.ks (List.map aC.enc p0)), .d (.sl aC.ks (List.map aC.enc p1))] [] [] =
 cond ((List.length (List.map aC.enc p0) : Int) != (List.length (List.map aC.enc p1) : Int)) (
 (some (.ret [.d (.bool false)] [] []))) (
 ajd (akc Γ) Λ2 J (List.map aC.enc p0) (List.map aC.enc p1) 0) := by kernel_rfl
theorem aqm (x0 : (List aC)) (x1 : (List aC)) (x5 : Int) : cB SE (akc Γ) Λ2 J 149 0 [1, 1, 0, 1, 0] (aZ [(0, .d (.sl aC.ks (List.map aC.enc x0))), (1, .d (.sl aC.ks (List.map aC.enc x1))), (5, .d (.int .i64 x5))] [] [] [] []) =
 cond (decide (x5 < (List.length (List.map aC.enc x0) : Int))) (
 cond (decide (0 ≤ x5) && decide (x5 < (List.length (List.map aC.enc x0) : Int))) (
  cond (decide (0 ≤ x5) && decide (x5 < (List.length (List.map aC.enc x1) : Int))) (
  cond (!(((aV (cellAt (elemAt (List.map aC.enc x0) (Int.toNat x5)) 0)) == (aV (cellAt (elemAt (List.map aC.enc x1) (Int.toNat x5)) 0))) && (((aV (cellAt (elemAt (List.map aC.enc x0) (Int.toNat x5)) 1)) == (aV (cellAt (elemAt (List.map aC.enc x1) (Int.toNat x5)) 1))) && true))) (
   (some (.ret [.d (.bool false)] [] []))) (
  ajd (akc Γ) Λ2 J (List.map aC.enc x0) (List.map aC.enc x1) (IntKind.wrap .i64 (x5 + 1)))) none) none) (
 (some (.ret [.d (.bool true)] [] []))) := by kernel_rfl
end
abbrev anD : aO := akc gG
theorem aoV : anD = aP gG := rfl
noncomputable abbrev arG (a0 : (List (List D))) (a1 : (List (List D))) (a2 : Int) : Res := ajd anD (bV SE gG (SE.hl 149) (SE.hr 149)) (J0 SE anD) a0 a1 a2
theorem xX : ∀ (fu : Nat) (x0 : (List aC)) (x1 : (List aC)) (x5 : Int), Le (Option.map dI (dU fu x0 x1 x5)) (arG (List.map aC.enc x0) (List.map aC.enc x1) x5) := by
 intro fu
 induction fu with
 | zero => intros; exact le_none
 | succ fu ih =>
  intro x0 x1 x5
  refine Le.trans ?_ (le_of_eq ((bC aoV).trans (aqm _ _ _  x0 x1 x5)).symm)
  unfold dU
  refine lD (by simp only [EN]) ?_ ?_
  ·refine lG (by simp only [EN]) ?_
   refine lG (by simp only [EN]) ?_
   refine lD (by simp only [EN]) ?_ ?_
   ·exact aH rfl
   ·exact ih x0 x1 (IntKind.wrap .i64 (x5 + 1))
  ·exact aH rfl
theorem zR (p0 : (List aC)) (p1 : (List aC)) : Le (Option.map dI (jO p0 p1)) (aY SE 149 [.d (.sl aC.ks (List.map aC.enc p0)), .d (.sl aC.ks (List.map aC.enc p1))] [] []) := by
 refine aR aoV rfl ?_
 refine Le.trans ?_ (le_of_eq (awf _ _ _  p0 p1).symm)
 unfold jO
 refine lD (by simp only [EN]) ?_ ?_
 ·exact aH rfl
 ·exact xX fuel p0 p1 0
section
variable (Γ : Fun) (γ149 : Gm (Bool)) (Λ2 J : Lam)
def C97 : aO := bA (aP Γ) 149 dI γ149
theorem T97 (p0 : aA) (p1 : aA) : bD SE (C97 Γ γ149) Λ2 J 97 [aA.av p0, aA.av p1] [] [] =
 cond (p0.Topic == p1.Topic) (
 cond (p0.Payload == p1.Payload) (
  cond (p0.Level == p1.Level) (
  cond (p0.Retain == p1.Retain) (
   cond (p0.Priority == p1.Priority) (
   cond (p0.Expires == p1.Expires) (
    cond (p0.From == p1.From) (
    cond (p0.Seq == p1.Seq) (
     γ149 [.d (.sl aC.ks (List.map aC.enc p0.Props)), .d (.sl aC.ks (List.map aC.enc p1.Props))] [] [] fun r0 =>
     (some (.ret [.d (.bool r0)] [] []))) (
    (some (.ret [.d (.bool false)] [] [])))) (
    (some (.ret [.d (.bool false)] [] [])))) (
   (some (.ret [.d (.bool false)] [] [])))) (
   (some (.ret [.d (.bool false)] [] [])))) (
  (some (.ret [.d (.bool false)] [] [])))) (
  (some (.ret [.d (.bool false)] [] [])))) (
 (some (.ret [.d (.bool false)] [] [])))) (
 (some (.ret [.d (.bool false)] [] []))) := by kernel_rfl
end
abbrev X97 : aO := C97 gG (cT 149 dI)
theorem awg : X97 = aP gG := by unfold X97 C97; rw [aK fun _ h => h]
theorem v5 (p0 : aA) (p1 : aA) : Le (Option.map iF (nJ p0 p1)) (aY SE 97 [aA.av p0, aA.av p1] [] []) := by
 refine aR awg rfl ?_
 refine Le.trans ?_ (le_of_eq (T97 _ _ _ _  p0 p1).symm)
 unfold nJ
 refine lC ?_ ?_
 ·refine lC ?_ ?_
  ·refine lC ?_ ?_
   ·refine lC ?_ ?_
    ·refine lC ?_ ?_
     ·refine lC ?_ ?_
      ·refine lC ?_ ?_
       ·refine lC ?_ ?_
        ·refine aM (good := good) eX y0 (zR _ _) fun r0 _ => ?_
         exact aH rfl
        ·exact aH rfl
       ·exact aH rfl
      ·exact aH rfl
     ·exact aH rfl
    ·exact aH rfl
   ·exact aH rfl
  ·exact aH rfl
 ·exact aH rfl
section
variable (Γ : Fun) (γ97 : Gm (Bool)) (γ13 : Gm (Int)) (Λ2 J : Lam)
def C46 : aO := bA (bA (aP Γ) 97 iF γ97) 13 bZ γ13
theorem T46 (p0 : aN) : bD SE (C46 Γ γ97 γ13) Λ2 J 46 [aN.av p0] [] [] =
 cond (!p0.Set) (
 cond (p0.Delay != 0) (
  (some (.ret [.d (.int .i64 28)] [] []))) (
 γ97 [aA.av p0.Message, .agg [.d (.str ([] : Str)), .d (.str ([] : Str)), .d (.int .i64 0), .d (.bool false), .d (.int .i64 0), .d (.int .i64 0), .d (.str ([] : Str)), .d (.int .i64 0), .d (.sl aC.ks (List.map aC.enc []))]] [] [] fun r0 =>
 cond (!r0) (
  (some (.ret [.d (.int .i64 28)] [] []))) (
 (some (.ret [.d (.int .i64 0)] [] []))))) (
 cond (decide (p0.Delay < 0)) (
 (some (.ret [.d (.int .i64 1)] [] []))) (
 cond (decide (p0.Delay > 1099511627776)) (
 (some (.ret [.d (.int .i64 1)] [] []))) (
 γ13 [aA.av p0.Message] [] [] fun r1 =>
 (some (.ret [.d (.int .i64 r1)] [] []))))) := by kernel_rfl
end
abbrev X46 : aO := C46 gG (cT 97 iF) (cT 13 bZ)
theorem awp : X46 = aP gG := by unfold X46 C46; rw [aK fun _ h => h, aK fun _ h => h]
theorem ac3 (p0 : aN) : Le (Option.map gX (mM p0)) (aY SE 46 [aN.av p0] [] []) := by
 refine aR awp rfl ?_
 refine Le.trans ?_ (le_of_eq (T46 _ _ _ _ _  p0).symm)
 unfold mM
 refine lC ?_ ?_
 ·refine lC ?_ ?_
  ·exact aH rfl
  ·refine aM (good := good) eX ac5 (by first | (simp only [EN]; exact v5 p0.Message ((aA.mk ([] : Str) ([] : Str) 0 false 0 0 ([] : Str) 0 ([] : List aC)))) | exact v5 p0.Message ((aA.mk ([] : Str) ([] : Str) 0 false 0 0 ([] : Str) 0 ([] : List aC)))) fun r0 _ => ?_
   refine lC ?_ ?_
   ·exact aH rfl
   ·exact aH rfl
 ·refine lC ?_ ?_
  ·exact aH rfl
  ·refine lC ?_ ?_
   ·exact aH rfl
   ·refine aM (good := good) eX pE (mW _) fun r1 _ => ?_
    exact aH rfl
def alV (C : aO) (Λ2 J : Lam) (a0 : (List (List D))) (a1 : Int) : Res := lab SE C Λ2 J 40 0 [1, 0, 1, 0] (aZ [(0, .d (.sl [.int .i64] a0)), (3, .d (.int .i64 a1))] [] [] [] [])
section
variable (Γ : Fun)  (Λ2 J : Lam)
def C40 : aO := aP Γ
theorem T40 (p0 : (List Int)) : bD SE (C40 Γ) Λ2 J 40 [.d (.sl [.int .i64] (List.map (encI .i64) p0))] [] [] =
 alV (C40 Γ) Λ2 J (List.map (encI .i64) p0) 0 := by kernel_rfl
theorem asB (x0 : (List Int)) (x3 : Int) : cB SE (C40 Γ) Λ2 J 40 0 [1, 0, 1, 0] (aZ [(0, .d (.sl [.int .i64] (List.map (encI .i64) x0))), (3, .d (.int .i64 x3))] [] [] [] []) =
 cond (decide (x3 < (List.length (List.map (encI .i64) x0) : Int))) (
 cond (decide (0 ≤ x3) && decide (x3 < (List.length (List.map (encI .i64) x0) : Int))) (
  cond ((aL (cellAt (elemAt (List.map (encI .i64) x0) (Int.toNat x3)) 0)) != 0) (
  cond (decide (0 ≤ x3) && decide (x3 < (List.length (List.map (encI .i64) x0) : Int))) (
   (some (.ret [.d (.int .i64 (aL (cellAt (elemAt (List.map (encI .i64) x0) (Int.toNat x3)) 0)))] [] []))) none) (
  alV (C40 Γ) Λ2 J (List.map (encI .i64) x0) (IntKind.wrap .i64 (x3 + 1)))) none) (
 (some (.ret [.d (.int .i64 0)] [] []))) := by kernel_rfl
end
abbrev X40 : aO := C40 gG
theorem ar8 : X40 = aP gG := rfl
noncomputable abbrev as8 (a0 : (List (List D))) (a1 : Int) : Res := alV X40 (bV SE gG (SE.hl 40) (SE.hr 40)) (J0 SE X40) a0 a1
theorem aaG : ∀ (fu : Nat) (x0 : (List Int)) (x3 : Int), Le (Option.map eK (fS fu x0 x3)) (as8 (List.map (encI .i64) x0) x3) := by
 intro fu
 induction fu with
 | zero => intros; exact le_none
 | succ fu ih =>
  intro x0 x3
  refine Le.trans ?_ (le_of_eq ((bC ar8).trans (asB _ _ _  x0 x3)).symm)
  unfold fS
  refine lD (by simp only [EN]) ?_ ?_
  ·refine lG (by simp only [EN]) ?_
   refine lD (by simp only [EN]) ?_ ?_
   ·refine lG (by simp only [EN]) ?_
    exact aH (by first | rfl | simp only [EN, eK] <;> rfl)
   ·exact ih x0 (IntKind.wrap .i64 (x3 + 1))
  ·exact aH rfl
theorem acC (p0 : (List Int)) : Le (Option.map eK (mI p0)) (aY SE 40 [.d (.sl [.int .i64] (List.map (encI .i64) p0))] [] []) := by
 refine aR ar8 rfl ?_
 refine Le.trans ?_ (le_of_eq (T40 _ _ _  p0).symm)
 unfold mI
 exact aaG fuel p0 0
section
variable (Γ : Fun) (γ41 : Gm (Int)) (γ42 : Gm (Int)) (γ43 : Gm (Int)) (γ44 : Gm (Int)) (γ45 : Gm (Int)) (γ46 : Gm (Int)) (γ40 : Gm (Int)) (Λ2 J : Lam)
def C12 : aO := bA (bA (bA (bA (bA (bA (bA (aP Γ) 41 eQ γ41) 42 fV γ42) 43 fG γ43) 44 eJ γ44) 45 g4 γ45) 46 gX γ46) 40 eK γ40
theorem T12 (p0 : aD) : bD SE (C12 Γ γ41 γ42 γ43 γ44 γ45 γ46 γ40) Λ2 J 12 [aD.av p0] [] [] =
 γ41 [aD.av p0] [] [] fun r0 =>
 γ42 [.d (.sl aF.ks (List.map aF.enc p0.Subs))] [] [] fun r1 =>
 γ43 [.d (.sl aA.ks (List.map aA.enc p0.Queue))] [] [] fun r2 =>
 γ44 [aG.av p0.Out] [] [] fun r3 =>
 γ45 [aS.av p0.In] [] [] fun r4 =>
 γ46 [aN.av p0.Will] [] [] fun r5 =>
 γ40 [.d (.sl [.int .i64] (List.map (encI .i64) [r0, r1, r2, r3, r4, r5]))] [] [] fun r6 =>
 (some (.ret [.d (.int .i64 r6)] [] [])) := by kernel_rfl
end
abbrev X12 : aO := C12 gG (cT 41 eQ) (cT 42 fV) (cT 43 fG) (cT 44 eJ) (cT 45 g4) (cT 46 gX) (cT 40 eK)
theorem avw : X12 = aP gG := by unfold X12 C12; rw [aK fun _ h => h, aK fun _ h => h, aK fun _ h => h, aK fun _ h => h, aK fun _ h => h, aK fun _ h => h, aK fun _ h => h]
theorem ada (p0 : aD) : Le (Option.map hI (mT p0)) (aY SE 12 [aD.av p0] [] []) := by
 refine aR avw rfl ?_
 refine Le.trans ?_ (le_of_eq (T12 _ _ _ _ _ _ _ _ _ _  p0).symm)
 unfold mT
 refine aM (good := good) eX acx (adu _) fun r0 _ => ?_
 refine aM (good := good) eX ac8 (adw _) fun r1 _ => ?_
 refine aM (good := good) eX acf (acI _) fun r2 _ => ?_
 refine aM (good := good) eX acq (acM _) fun r3 _ => ?_
 refine aM (good := good) eX ab3 (acS _) fun r4 _ => ?_
 refine aM (good := good) eX acs (ac3 _) fun r5 _ => ?_
 refine aM (good := good) eX abS (acC _) fun r6 _ => ?_
 exact aH rfl
section
variable (Γ : Fun) (γ14 : Gm (Bool)) (γ33 : Gm (Int)) (γ12 : Gm (Int)) (Λ2 J : Lam)
def C8 : aO := bA (bA (bA (aP Γ) 14 fH γ14) 33 kK γ33) 12 hI γ12
theorem T8 (p0 : aD) : bD SE (C8 Γ γ14 γ33 γ12) Λ2 J 8 [aD.av p0] [] [] =
 γ14 [] [] [] fun r0 =>
 cond r0 (
 γ33 [aD.av p0] [] [] fun r1 =>
 γ12 [aD.av p0] [] [] fun r2 =>
 (some (.ret [.d (.bool (r1 == r2))] [] []))) (
 (some (.ret [.d (.bool false)] [] []))) := by kernel_rfl
end
abbrev X8 : aO := C8 gG (cT 14 fH) (cT 33 kK) (cT 12 hI)
theorem Cr8 : X8 = aP gG := by unfold X8 C8; rw [aK fun _ h => h, aK fun _ h => h, aK fun _ h => h]
theorem wY (p0 : aD) : Le (Option.map o0 (j2 p0)) (aY SE 8 [aD.av p0] [] []) := by
 refine aR Cr8 rfl ?_
 refine Le.trans ?_ (le_of_eq (T8 _ _ _ _ _ _  p0).symm)
 unfold j2
 refine aM (good := good) eX abT (acW) fun r0 _ => ?_
 refine lC ?_ ?_
 ·refine aM (good := good) eX ae5 (afz _) fun r1 _ => ?_
  refine aM (good := good) eX abQ (ada _) fun r2 _ => ?_
  exact aH rfl
 ·exact aH rfl
end Te
end PX
