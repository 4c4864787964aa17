import Derived.Test.YtojlmojebnlmdaaGreatDoorTre2
set_option linter.unusedVariables false
set_option linter.unusedSimpArgs false
set_option maxRecDepth 100000
noncomputable section
namespace PX
open Go
open Md
namespace Te
def aoZ (C : aP) (Λ2 J : Lam) (a0 : List (List D)) (a1 a2 : Int) : Res := lab SE C Λ2 J 84 0 [1, 1, 1, 1, 0, 1, 0] (aW [(46, .d (.sl aA.ks a0)), (47, .d (.int .i64 a1)), (48, .d (.int .i64 a2))] [] [] [] [])
def am8 (C : aP) (Λ2 J : Lam) (a0 : List (List D)) (a1 a2 : Int) (a3 : List D) : Res := lab SE C Λ2 J 84 0 [1, 1, 0, 1, 0] (aW [(1, .ptr 1000000000 0), (14, .d (.sl aF.ks a0)), (15, .d (.int .i64 a1)), (16, .d (.int .i64 a2))] [⟨38, (List.map AV.d a3)⟩] [] [] [])
section
variable (Γ : Fun) (γ66 γ141 : Gm (Int)) (Λ2 J : Lam)
def C84 : aP := aY (aY (aQ Γ) 66 aH γ66) 141 aH γ141
theorem T84 (p0 : aB) : bF SE (C84 Γ γ66 γ141) Λ2 J 84 [aB.av p0] [] [] =
 cond (decide ((lM aF.enc p0.Subs : Int) > 32)) (
 (rI 5)) (
 am8 (C84 Γ γ66 γ141) Λ2 J (List.map aF.enc p0.Subs) (lM aF.enc p0.Subs : Int) 0 (aB.enc p0)) := by kernel_rfl
theorem awM (x46 : List aA) (x47 x48 : Int) : bT SE (C84 Γ γ66 γ141) Λ2 J 84 0 [1, 1, 1, 1, 0, 1, 0] (aW [(46, .d (.sl aA.ks (List.map aA.enc x46))), (47, .d (.int .i64 x47)), (48, .d (.int .i64 x48))] [] [] [] []) =
 cond (decide (x48 < x47)) (
 cond (iB x48 (lM aA.enc x46 : Int)) (
  γ141 [.agg [.d (.str (bD (cE aA.enc x46 x48 0))), .d (.str (bD (cE aA.enc x46 x48 1))), .d (.int .i64 (aR (cE aA.enc x46 x48 2))), .d (.bool (bN (cE aA.enc x46 x48 3))), .d (.int .i64 (aR (cE aA.enc x46 x48 4))), .d (.int .i64 (aR (cE aA.enc x46 x48 5))), .d (.str (bD (cE aA.enc x46 x48 6))), .d (.int .i64 (aR (cE aA.enc x46 x48 7))), .d (.sl aG.ks (dSl (cE aA.enc x46 x48 8)))]] [] [] fun r1 =>
  cond (r1 != 0) (
  (rI r1)) (
  aoZ (C84 Γ γ66 γ141) Λ2 J (List.map aA.enc x46) x47 (w6 (x48 + 1)))) none) (
 (rI 0)) := by kernel_rfl
theorem aB8 (x14 : List aF) (x15 x16 : Int) (b0 : aB) : bT SE (C84 Γ γ66 γ141) Λ2 J 84 0 [1, 1, 0, 1, 0] (aW [(1, .ptr 1000000000 0), (14, .d (.sl aF.ks (List.map aF.enc x14))), (15, .d (.int .i64 x15)), (16, .d (.int .i64 x16))] [⟨38, (List.map AV.d (aB.enc b0))⟩] [] [] []) =
 cond (decide (x16 < x15)) (
 cond (iB x16 (lM aF.enc x14 : Int)) (
  γ66 [.agg [.d (.str (bD (cE aF.enc x14 x16 0))), .d (.int .i64 (aR (cE aF.enc x14 x16 1))), .d (.bool (bN (cE aF.enc x14 x16 2)))]] [] [] fun r0 =>
  cond (r0 != 0) (
  (rI r0)) (
  cond (decide (x16 > 0)) (
  cond (iB (w6 (x16 - 1)) (lM aF.enc b0.Subs : Int)) (
   cond (Op.bytesLess (bD (cE aF.enc x14 x16 0)) (bD (cE aF.enc b0.Subs (w6 (x16 - 1)) 0)) || (bD (cE aF.enc x14 x16 0)) == (bD (cE aF.enc b0.Subs (w6 (x16 - 1)) 0))) (
   (rI 22)) (
   am8 (C84 Γ γ66 γ141) Λ2 J (List.map aF.enc x14) x15 (w6 (x16 + 1)) (aB.enc b0))) none) (
  am8 (C84 Γ γ66 γ141) Λ2 J (List.map aF.enc x14) x15 (w6 (x16 + 1)) (aB.enc b0)))) none) (
 cond (decide ((lM aA.enc b0.Queue : Int) > 256)) (
 (rI 5)) (
 aoZ (C84 Γ γ66 γ141) Λ2 J (List.map aA.enc b0.Queue) (lM aA.enc b0.Queue : Int) 0)) := by kernel_rfl
end
abbrev X84 : aP := C84 gG (cT 66 aH) (cT 141 aH)
theorem aue : X84 = aQ gG := by unfold X84 C84; repeat rw [bC fun _ h => h]
abbrev aAo := aoZ X84 (bP SE gG (SE.hl 84) (SE.hr 84)) (J0 SE X84)
abbrev aA5 := am8 X84 (bP SE gG (SE.hl 84) (SE.hr 84)) (J0 SE X84)
theorem acj : ∀ (fu : Nat) (x46 : List aA) (x47 x48 : Int), Le (Option.map aH (eS fu x46 x47 x48)) (aAo (List.map aA.enc x46) x47 x48) := by
 intro fu
 induction fu with
 | zero => intros; exact le_none
 | succ fu ih =>
  intro x46 x47 x48
  refine Le.trans ?_ (le_of_eq ((aZ aue).trans (awM ..)).symm)
  unfold eS
  refine lC ?_ ?_
  ·refine lG (by simp only [EN]) ?_
   refine lQ eX aS (by (try simp only [EN]); exact uS (List.getD x46 (Int.toNat x48) default)) fun r1 _ => ?_
   refine lC ?_ ?_
   ·exact aJ rfl
   ·exact ih x46 x47 (w6 (x48 + 1))
  ·exact aJ rfl
theorem acV : ∀ (fu : Nat) (x14 : List aF) (x15 x16 : Int) (b0 : aB), Le (Option.map aH (fN fu x14 x15 x16 b0)) (aA5 (List.map aF.enc x14) x15 x16 (aB.enc b0)) := by
 intro fu
 induction fu with
 | zero => intros; exact le_none
 | succ fu ih =>
  intro x14 x15 x16 b0
  refine Le.trans ?_ (le_of_eq ((aZ aue).trans (aB8 ..)).symm)
  unfold fN
  refine lC ?_ ?_
  ·refine lG (by simp only [EN]) ?_
   refine lQ eX aS (by (try simp only [EN]); exact aaP (List.getD x14 (Int.toNat x16) default)) fun r0 _ => ?_
   refine lC ?_ ?_
   ·exact aJ rfl
   ·refine lC ?_ ?_
    ·refine lG (by simp only [EN]) ?_
     refine lD (by simp only [EN]) ?_ ?_
     ·exact aJ rfl
     ·exact ih x14 x15 (w6 (x16 + 1)) b0
    ·exact ih x14 x15 (w6 (x16 + 1)) b0
  ·refine lD (by simp only [EN]) ?_ ?_
   ·exact aJ rfl
   ·(try simp only [EN]); exact acj fuel b0.Queue (List.length b0.Queue : Int) 0
theorem afE (p0 : aB) : Le (Option.map aH (oH p0)) (bA SE 84 [aB.av p0] [] []) := by
 refine aV aue rfl ?_
 refine Le.trans ?_ (le_of_eq (T84 ..).symm)
 unfold oH
 refine lD (by simp only [EN]) ?_ ?_
 ·exact aJ rfl
 ·(try simp only [EN]); exact acV fuel p0.Subs (List.length p0.Subs : Int) 0 p0
def apa (C : aP) (Λ2 J : Lam) (a0 : Int) (a1 : List (List D)) (a2 a3 : Int) (a4 : List D) : Res := lab SE C Λ2 J 142 0 [1, 1, 1, 0, 1, 0] (aW [(1, .ptr 1000000000 0), (3, .d (.int .i64 a0)), (11, .d (.sl [.int .i64] a1)), (12, .d (.int .i64 a2)), (13, .d (.int .i64 a3))] [⟨27, (List.map AV.d a4)⟩] [] [] [])
section
variable (Γ : Fun)  (Λ2 J : Lam)
def aos : aP := aQ Γ
theorem aDZ (p0 : aO) : bF SE (aos Γ) Λ2 J 142 [aO.av p0] [] [] =
 cond (decide ((lM eI p0.Used : Int) > 32)) (
 (rI 5)) (
 apa (aos Γ) Λ2 J 0 (List.map eI p0.Used) (lM eI p0.Used : Int) 0 (aO.enc p0)) := by kernel_rfl
theorem az1 (x3 : Int) (x11 : List Int) (x12 x13 : Int) (b0 : aO) : bT SE (aos Γ) Λ2 J 142 0 [1, 1, 1, 0, 1, 0] (aW [(1, .ptr 1000000000 0), (3, .d (.int .i64 x3)), (11, .d (.sl [.int .i64] (List.map eI x11))), (12, .d (.int .i64 x12)), (13, .d (.int .i64 x13))] [⟨27, (List.map AV.d (aO.enc b0))⟩] [] [] []) =
 cond (decide (x13 < x12)) (
 cond (iB x13 (lM eI x11 : Int)) (
  cond (decide ((aR (cE eI x11 x13 0)) ≤ x3)) (
  (rI 15)) (
  cond (decide ((aR (cE eI x11 x13 0)) > 65535)) (
  (rI 15)) (
  apa (aos Γ) Λ2 J ((aR (cE eI x11 x13 0))) (List.map eI x11) x12 (w6 (x13 + 1)) (aO.enc b0)))) none) (
 cond (decide (b0.Last < 0)) (
 (rI 1)) (
 cond (decide (b0.Last > 65535)) (
 (rI 1)) (
 (rI 0)))) := by kernel_rfl
end
abbrev atn : aP := aos gG
theorem avB : atn = aQ gG := rfl
abbrev azG := apa atn (bP SE gG (SE.hl 142) (SE.hr 142)) (J0 SE atn)
theorem aiS : ∀ (fu : Nat) (x3 : Int) (x11 : List Int) (x12 x13 : Int) (b0 : aO), Le (Option.map aH (nO fu x3 x11 x12 x13 b0)) (azG x3 (List.map eI x11) x12 x13 (aO.enc b0)) := by
 intro fu
 induction fu with
 | zero => intros; exact le_none
 | succ fu ih =>
  intro x3 x11 x12 x13 b0
  refine Le.trans ?_ (le_of_eq ((aZ avB).trans (az1 ..)).symm)
  unfold nO
  refine lC ?_ ?_
  ·refine lG (by simp only [EN]) ?_
   refine lD (by simp only [EN]) ?_ ?_
   ·exact aJ rfl
   ·refine lD (by simp only [EN]) ?_ ?_
    ·exact aJ rfl
    ·(try simp only [EN]); exact ih (List.getD x11 (Int.toNat x13) default) x11 x12 (w6 (x13 + 1)) b0
  ·refine lC ?_ ?_
   ·exact aJ rfl
   ·refine lC ?_ ?_
    ·exact aJ rfl
    ·exact aJ rfl
theorem alD (p0 : aO) : Le (Option.map aH (xU p0)) (bA SE 142 [aO.av p0] [] []) := by
 refine aV avB rfl ?_
 refine Le.trans ?_ (le_of_eq (aDZ ..).symm)
 unfold xU
 refine lD (by simp only [EN]) ?_ ?_
 ·exact aJ rfl
 ·(try simp only [EN]); exact aiS fuel 0 p0.Used (List.length p0.Used : Int) 0 p0
section
variable (Γ : Fun) (γ175 : Gm (Int × Bool)) (Λ2 J : Lam)
def aub : aP := aY (aQ Γ) 175 aX γ175
theorem aE4 (p0 : aO) (p1 : Int) : bF SE (aub Γ γ175) Λ2 J 172 [aO.av p0, .d (.int .i64 p1)] [] [] =
 γ175 [.d (.sl [.int .i64] (List.map eI p0.Used)), .d (.int .i64 p1)] [] [] fun r0 =>
 (rB r0.2) := by kernel_rfl
end
abbrev ayP : aP := aub gG (cT 175 aX)
theorem aBN : ayP = aQ gG := by unfold ayP aub; rw [bC fun _ h => h]
theorem anA (p0 : aO) (p1 : Int) : Le (Option.map aE (abM p0 p1)) (bA SE 172 [aO.av p0, .d (.int .i64 p1)] [] []) := by
 refine aV aBN rfl ?_
 refine Le.trans ?_ (le_of_eq (aE4 ..).symm)
 unfold abM
 refine lQ eX cG (kJ _ _) fun r0 _ => ?_
 exact aJ rfl
def asO (C : aP) (Λ2 J : Lam) (a0 : List D) : Res := lab SE C Λ2 J 143 0 [1, 1, 1, 0, 0] (aW [(5, .ptr 1000000000 0)] [⟨122, (List.map AV.d a0)⟩] [] [] [])
section
variable (Γ : Fun) (γ172 : Gm (Bool)) (γ109 γ141 : Gm (Int)) (Λ2 J : Lam)
def anS : aP := aY (aY (aY (aQ Γ) 172 aE γ172) 109 aH γ109) 141 aH γ141
theorem aD6 (p0 : aI) (p1 : Int) : bF SE (anS Γ γ172 γ109 γ141) Λ2 J 143 [aI.av p0, .d (.int .i64 p1)] [] [] =
 cond (iB p1 (lM aD.enc p0.Items : Int)) (
 γ172 [aO.av p0.Pool, .d (.int .i64 (aR (cE aD.enc p0.Items p1 0)))] [] [] fun r0 =>
 cond (!r0) (
  (rI 15)) (
 cond (decide (0 ≤ p1) && decide (p1 ≤ ((lM aD.enc p0.Items) : Int))) (
  γ109 [.d (.sl aD.ks (bR (List.map aD.enc p0.Items) none (some p1))), .d (.int .i64 (aR (cE aD.enc p0.Items p1 0)))] [] [] fun r1 =>
  cond (decide (r1 ≥ 0)) (
  (rI 15)) (
  asO (anS Γ γ172 γ109 γ141) Λ2 J [D.int .i64 (aR (cE aD.enc p0.Items p1 0)), D.int .i64 (aR (cE aD.enc p0.Items p1 1)), D.str (bD (cE aD.enc p0.Items p1 2)), D.str (bD (cE aD.enc p0.Items p1 3)), D.int .i64 (aR (cE aD.enc p0.Items p1 4)), D.bool (bN (cE aD.enc p0.Items p1 5)), D.int .i64 (aR (cE aD.enc p0.Items p1 6)), D.int .i64 (aR (cE aD.enc p0.Items p1 7)), D.str (bD (cE aD.enc p0.Items p1 8)), D.int .i64 (aR (cE aD.enc p0.Items p1 9)), D.sl aG.ks (dSl (cE aD.enc p0.Items p1 10))])) none)) none := by kernel_rfl
theorem awG (b0 : aD) : bT SE (anS Γ γ172 γ109 γ141) Λ2 J 143 0 [1, 1, 1, 0, 0] (aW [(5, .ptr 1000000000 0)] [⟨122, (List.map AV.d (aD.enc b0))⟩] [] [] []) =
 γ141 [aA.av b0.Message] [] [] fun r2 =>
 cond (r2 != 0) (
 (rI r2)) (
 cond (b0.Message.Level == 0) (
 (rI 14)) (
 cond (b0.State != 1) (
 cond (b0.State != 2) (
  (rI 9)) (
 cond (b0.Message.Level == 1) (
  (rI 9)) (
 (rI 0)))) (
 (rI 0)))) := by kernel_rfl
end
abbrev arz : aP := anS gG (cT 172 aE) (cT 109 aH) (cT 141 aH)
theorem avG : arz = aQ gG := by unfold arz anS; repeat rw [bC fun _ h => h]
abbrev azq := asO arz (bP SE gG (SE.hl 143) (SE.hr 143)) (J0 SE arz)
theorem adn (b0 : aD) : Le (Option.map aH (oU b0)) (azq (aD.enc b0)) := by
 refine Le.trans ?_ (le_of_eq ((aZ avG).trans (awG ..)).symm)
 unfold oU
 refine lQ eX aS (uS _) fun r2 _ => ?_
 refine lC ?_ ?_
 ·exact aJ rfl
 ·refine lC ?_ ?_
  ·exact aJ rfl
  ·refine lC ?_ ?_
   ·refine lC ?_ ?_
    ·exact aJ rfl
    ·refine lC ?_ ?_
     ·exact aJ rfl
     ·exact aJ rfl
   ·exact aJ rfl
theorem afm (p0 : aI) (p1 : Int) : Le (Option.map aH (oE p0 p1)) (bA SE 143 [aI.av p0, .d (.int .i64 p1)] [] []) := by
 refine aV avG rfl ?_
 refine Le.trans ?_ (le_of_eq (aD6 ..).symm)
 unfold oE
 refine lG (by simp only [EN]) ?_
 refine lQ eX aK (by (try simp only [EN]); exact anA p0.Pool ((List.getD p0.Items (Int.toNat p1) default).ID)) fun r0 _ => ?_
 refine lC ?_ ?_
 ·exact aJ rfl
 ·refine lG (by simp only [EN]) ?_
  refine lQ eX aS (by (try simp only [EN]); exact ads (bR p0.Items none (some p1)) ((List.getD p0.Items (Int.toNat p1) default).ID)) fun r1 _ => ?_
  refine lC ?_ ?_
  ·exact aJ rfl
  ·(try simp only [EN]); exact adn (List.getD p0.Items (Int.toNat p1) default)
def arq (C : aP) (Λ2 J : Lam) (a0 a1 : Int) (a2 : List D) : Res := lab SE C Λ2 J 85 0 [1, 1, 1, 1, 0, 1, 0] (aW [(1, .ptr 1000000000 0), (26, .d (.int .i64 a0)), (27, .d (.int .i64 a1))] [⟨29, (List.map AV.d a2)⟩] [] [] [])
def ava (C : aP) (Λ2 J : Lam) (a0 : List D) : Res := lab SE C Λ2 J 85 0 [1, 1, 0, 0] (aW [(1, .ptr 1000000000 0)] [⟨29, (List.map AV.d a0)⟩] [] [] [])
section
variable (Γ : Fun) (γ142 γ143 : Gm (Int)) (Λ2 J : Lam)
def C85 : aP := aY (aY (aQ Γ) 142 aH γ142) 143 aH γ143
theorem T85 (p0 : aI) : bF SE (C85 Γ γ142 γ143) Λ2 J 85 [aI.av p0] [] [] =
 cond (decide (p0.Limit < 0)) (
 (rI 1)) (
 cond (decide (p0.Limit > 32)) (
 (rI 1)) (
 ava (C85 Γ γ142 γ143) Λ2 J (aI.enc p0))) := by kernel_rfl
theorem aC1 (x26 x27 : Int) (b0 : aI) : bT SE (C85 Γ γ142 γ143) Λ2 J 85 0 [1, 1, 1, 1, 0, 1, 0] (aW [(1, .ptr 1000000000 0), (26, .d (.int .i64 x26)), (27, .d (.int .i64 x27))] [⟨29, (List.map AV.d (aI.enc b0))⟩] [] [] []) =
 cond (decide (x27 < x26)) (
 γ143 [aI.av b0, .d (.int .i64 x27)] [] [] fun r1 =>
 cond (r1 != 0) (
  (rI r1)) (
 arq (C85 Γ γ142 γ143) Λ2 J x26 (w6 (x27 + 1)) (aI.enc b0))) (
 cond (decide ((lM aD.enc b0.Items : Int) < (lM eI b0.Pool.Used : Int))) (
 (rI 15)) (
 (rI 0))) := by kernel_rfl
theorem aB7 (b0 : aI) : bT SE (C85 Γ γ142 γ143) Λ2 J 85 0 [1, 1, 0, 0] (aW [(1, .ptr 1000000000 0)] [⟨29, (List.map AV.d (aI.enc b0))⟩] [] [] []) =
 γ142 [aO.av b0.Pool] [] [] fun r0 =>
 cond (r0 != 0) (
 (rI r0)) (
 cond (decide ((lM aD.enc b0.Items : Int) > 32)) (
 (rI 5)) (
 arq (C85 Γ γ142 γ143) Λ2 J (lM aD.enc b0.Items : Int) 0 (aI.enc b0))) := by kernel_rfl
end
abbrev X85 : aP := C85 gG (cT 142 aH) (cT 143 aH)
theorem atT : X85 = aQ gG := by unfold X85 C85; repeat rw [bC fun _ h => h]
abbrev aBd := arq X85 (bP SE gG (SE.hl 85) (SE.hr 85)) (J0 SE X85)
abbrev aAZ := ava X85 (bP SE gG (SE.hl 85) (SE.hr 85)) (J0 SE X85)
theorem agy : ∀ (fu : Nat) (x26 x27 : Int) (b0 : aI), Le (Option.map aH (j2 fu x26 x27 b0)) (aBd x26 x27 (aI.enc b0)) := by
 intro fu
 induction fu with
 | zero => intros; exact le_none
 | succ fu ih =>
  intro x26 x27 b0
  refine Le.trans ?_ (le_of_eq ((aZ atT).trans (aC1 ..)).symm)
  unfold j2
  refine lC ?_ ?_
  ·refine lQ eX aS (afm _ _) fun r1 _ => ?_
   refine lC ?_ ?_
   ·exact aJ rfl
   ·exact ih x26 (w6 (x27 + 1)) b0
  ·refine lD (by simp only [EN]) ?_ ?_
   ·exact aJ rfl
   ·exact aJ rfl
theorem agm (b0 : aI) : Le (Option.map aH (tD b0)) (aAZ (aI.enc b0)) := by
 refine Le.trans ?_ (le_of_eq ((aZ atT).trans (aB7 ..)).symm)
 unfold tD
 refine lQ eX aS (alD _) fun r0 _ => ?_
 refine lC ?_ ?_
 ·exact aJ rfl
 ·refine lD (by simp only [EN]) ?_ ?_
  ·exact aJ rfl
  ·(try simp only [EN]); exact agy fuel (List.length b0.Items : Int) 0 b0
theorem aiU (p0 : aI) : Le (Option.map aH (tV p0)) (bA SE 85 [aI.av p0] [] []) := by
 refine aV atT rfl ?_
 refine Le.trans ?_ (le_of_eq (T85 ..).symm)
 unfold tV
 refine lC ?_ ?_
 ·exact aJ rfl
 ·refine lC ?_ ?_
  ·exact aJ rfl
  ·exact agm p0
def arp (C : aP) (Λ2 J : Lam) (a0 : Int) (a1 : List (List D)) (a2 a3 : Int) : Res := lab SE C Λ2 J 86 0 [1, 1, 1, 0, 1, 0] (aW [(3, .d (.int .i64 a0)), (11, .d (.sl [.int .i64] a1)), (12, .d (.int .i64 a2)), (13, .d (.int .i64 a3))] [] [] [] [])
section
variable (Γ : Fun)  (Λ2 J : Lam)
def C86 : aP := aQ Γ
theorem T86 (p0 : bE) : bF SE (C86 Γ) Λ2 J 86 [bE.av p0] [] [] =
 cond (decide ((lM eI p0.IDs : Int) > 32)) (
 (rI 5)) (
 arp (C86 Γ) Λ2 J 0 (List.map eI p0.IDs) (lM eI p0.IDs : Int) 0) := by kernel_rfl
theorem aDw (x3 : Int) (x11 : List Int) (x12 x13 : Int) : bT SE (C86 Γ) Λ2 J 86 0 [1, 1, 1, 0, 1, 0] (aW [(3, .d (.int .i64 x3)), (11, .d (.sl [.int .i64] (List.map eI x11))), (12, .d (.int .i64 x12)), (13, .d (.int .i64 x13))] [] [] [] []) =
 cond (decide (x13 < x12)) (
 cond (iB x13 (lM eI x11 : Int)) (
  cond (decide ((aR (cE eI x11 x13 0)) ≤ x3)) (
  (rI 15)) (
  cond (decide ((aR (cE eI x11 x13 0)) > 65535)) (
  (rI 15)) (
  arp (C86 Γ) Λ2 J ((aR (cE eI x11 x13 0))) (List.map eI x11) x12 (w6 (x13 + 1))))) none) (
 (rI 0)) := by kernel_rfl
end
abbrev X86 : aP := C86 gG
theorem awU : X86 = aQ gG := rfl
abbrev aAH := arp X86 (bP SE gG (SE.hl 86) (SE.hr 86)) (J0 SE X86)
theorem ag0 : ∀ (fu : Nat) (x3 : Int) (x11 : List Int) (x12 x13 : Int), Le (Option.map aH (kS fu x3 x11 x12 x13)) (aAH x3 (List.map eI x11) x12 x13) := by
 intro fu
 induction fu with
 | zero => intros; exact le_none
 | succ fu ih =>
  intro x3 x11 x12 x13
  refine Le.trans ?_ (le_of_eq ((aZ awU).trans (aDw ..)).symm)
  unfold kS
  refine lC ?_ ?_
  ·refine lG (by simp only [EN]) ?_
   refine lD (by simp only [EN]) ?_ ?_
   ·exact aJ rfl
   ·refine lD (by simp only [EN]) ?_ ?_
    ·exact aJ rfl
    ·(try simp only [EN]); exact ih (List.getD x11 (Int.toNat x13) default) x11 x12 (w6 (x13 + 1))
  ·exact aJ rfl
theorem ajD (p0 : bE) : Le (Option.map aH (sB p0)) (bA SE 86 [bE.av p0] [] []) := by
 refine aV awU rfl ?_
 refine Le.trans ?_ (le_of_eq (T86 ..).symm)
 unfold sB
 refine lD (by simp only [EN]) ?_ ?_
 ·exact aJ rfl
 ·(try simp only [EN]); exact ag0 fuel 0 p0.IDs (List.length p0.IDs : Int) 0
def aoS (C : aP) (Λ2 J : Lam) (a0 : List (List D)) (a1 a2 : Int) (a3 : List D) : Res := lab SE C Λ2 J 144 0 [1, 1, 0, 1, 0] (aW [(3, .ptr 1000000000 0), (71, .d (.sl aG.ks a0)), (72, .d (.int .i64 a1)), (73, .d (.int .i64 a2))] [⟨34, (List.map AV.d a3)⟩] [] [] [])
def asS (C : aP) (Λ2 J : Lam) (a0 a1 : List D) : Res := lab SE C Λ2 J 144 0 [1, 1, 0, 0] (aW [(2, .ptr 1000000000 0), (3, .ptr 1000000001 0)] [⟨34, (List.map AV.d a0)⟩, ⟨34, (List.map AV.d a1)⟩] [] [] [])
section
variable (Γ : Fun)  (Λ2 J : Lam)
def ajx : aP := aQ Γ
theorem aEq (p0 p1 : aA) : bF SE (ajx Γ) Λ2 J 144 [aA.av p0, aA.av p1] [] [] =
 cond (!(p0.Topic == p1.Topic)) (
 (rB false)) (
 cond (!(p0.Payload == p1.Payload)) (
 (rB false)) (
 cond (p0.Level != p1.Level) (
 (rB false)) (
 cond (p0.Retain != p1.Retain) (
 (rB false)) (
 cond (p0.Priority != p1.Priority) (
 (rB false)) (
 cond (p0.Expires != p1.Expires) (
 (rB false)) (
 cond (!(p0.From == p1.From)) (
 (rB false)) (
 cond (p0.Seq != p1.Seq) (
 (rB false)) (
 cond ((lM aG.enc p0.Props : Int) != (lM aG.enc p1.Props : Int)) (
 (rB false)) (
 asS (ajx Γ) Λ2 J (aA.enc p0) (aA.enc p1)))))))))) := by kernel_rfl
theorem az5 (x71 : List aG) (x72 x73 : Int) (b0 : aA) : bT SE (ajx Γ) Λ2 J 144 0 [1, 1, 0, 1, 0] (aW [(3, .ptr 1000000000 0), (71, .d (.sl aG.ks (List.map aG.enc x71))), (72, .d (.int .i64 x72)), (73, .d (.int .i64 x73))] [⟨34, (List.map AV.d (aA.enc b0))⟩] [] [] []) =
 cond (decide (x73 < x72)) (
 cond (iB x73 (lM aG.enc x71 : Int)) (
  cond (iB x73 (lM aG.enc b0.Props : Int)) (
  cond (!(((bD (cE aG.enc x71 x73 0)) == (bD (cE aG.enc b0.Props x73 0))) && (((bD (cE aG.enc x71 x73 1)) == (bD (cE aG.enc b0.Props x73 1))) && true))) (
   (rB false)) (
  aoS (ajx Γ) Λ2 J (List.map aG.enc x71) x72 (w6 (x73 + 1)) (aA.enc b0))) none) none) (
 (rB true)) := by kernel_rfl
theorem ayb (b0 b1 : aA) : bT SE (ajx Γ) Λ2 J 144 0 [1, 1, 0, 0] (aW [(2, .ptr 1000000000 0), (3, .ptr 1000000001 0)] [⟨34, (List.map AV.d (aA.enc b0))⟩, ⟨34, (List.map AV.d (aA.enc b1))⟩] [] [] []) =
 aoS (ajx Γ) Λ2 J (List.map aG.enc b0.Props) (lM aG.enc b0.Props : Int) 0 (aA.enc b1) := by kernel_rfl
end
abbrev anR : aP := ajx gG
theorem aql : anR = aQ gG := rfl
abbrev aw1 := aoS anR (bP SE gG (SE.hl 144) (SE.hr 144)) (J0 SE anR)
abbrev axQ := asS anR (bP SE gG (SE.hl 144) (SE.hr 144)) (J0 SE anR)
theorem ahO : ∀ (fu : Nat) (x71 : List aG) (x72 x73 : Int) (b0 : aA), Le (Option.map aE (l7 fu x71 x72 x73 b0)) (aw1 (List.map aG.enc x71) x72 x73 (aA.enc b0)) := by
 intro fu
 induction fu with
 | zero => intros; exact le_none
 | succ fu ih =>
  intro x71 x72 x73 b0
  refine Le.trans ?_ (le_of_eq ((aZ aql).trans (az5 ..)).symm)
  unfold l7
  refine lC ?_ ?_
  ·refine lG (by simp only [EN]) ?_
   refine lG (by simp only [EN]) ?_
   refine lD (by simp only [EN]) ?_ ?_
   ·exact aJ rfl
   ·exact ih x71 x72 (w6 (x73 + 1)) b0
  ·exact aJ rfl
theorem ah0 (b0 b1 : aA) : Le (Option.map aE (vR b0 b1)) (axQ (aA.enc b0) (aA.enc b1)) := by
 refine Le.trans ?_ (le_of_eq ((aZ aql).trans (ayb ..)).symm)
 unfold vR
 (try simp only [EN]); exact ahO fuel b0.Props (List.length b0.Props : Int) 0 b1
theorem akx (p0 p1 : aA) : Le (Option.map aE (wP p0 p1)) (bA SE 144 [aA.av p0, aA.av p1] [] []) := by
 refine aV aql rfl ?_
 refine Le.trans ?_ (le_of_eq (aEq ..).symm)
 unfold wP
 refine lC ?_ ?_
 ·exact aJ rfl
 ·refine lC ?_ ?_
  ·exact aJ rfl
  ·refine lC ?_ ?_
   ·exact aJ rfl
   ·refine lC ?_ ?_
    ·exact aJ rfl
    ·refine lC ?_ ?_
     ·exact aJ rfl
     ·refine lC ?_ ?_
      ·exact aJ rfl
      ·refine lC ?_ ?_
       ·exact aJ rfl
       ·refine lC ?_ ?_
        ·exact aJ rfl
        ·refine lD (by simp only [EN]) ?_ ?_
         ·exact aJ rfl
         ·exact ah0 p0 p1
section
variable (Γ : Fun) (γ144 : Gm (Bool)) (γ141 : Gm (Int)) (Λ2 J : Lam)
def C87 : aP := aY (aY (aQ Γ) 144 aE γ144) 141 aH γ141
theorem T87 (p0 : aU) : bF SE (C87 Γ γ144 γ141) Λ2 J 87 [aU.av p0] [] [] =
 cond (!p0.Set) (
 cond (p0.Delay != 0) (
  (rI 28)) (
 γ144 [aA.av p0.Message, .agg [.d (.str []), .d (.str []), .d (.int .i64 0), .d (.bool false), .d (.int .i64 0), .d (.int .i64 0), .d (.str []), .d (.int .i64 0), .d (.sl aG.ks (List.map aG.enc []))]] [] [] fun r0 =>
 cond (!r0) (
  (rI 28)) (
 (rI 0)))) (
 cond (decide (p0.Delay < 0)) (
 (rI 1)) (
 cond (decide (p0.Delay > 1099511627776)) (
 (rI 1)) (
 γ141 [aA.av p0.Message] [] [] fun r1 =>
 (rI r1)))) := by kernel_rfl
end
abbrev X87 : aP := C87 gG (cT 144 aE) (cT 141 aH)
theorem aD5 : X87 = aQ gG := by unfold X87 C87; repeat rw [bC fun _ h => h]
theorem amX (p0 : aU) : Le (Option.map aH (zS p0)) (bA SE 87 [aU.av p0] [] []) := by
 refine aV aD5 rfl ?_
 refine Le.trans ?_ (le_of_eq (T87 ..).symm)
 unfold zS
 refine lC ?_ ?_
 ·refine lC ?_ ?_
  ·exact aJ rfl
  ·refine lQ eX aK (by (try simp only [EN]); exact akx p0.Message ((aA.mk [] [] 0 false 0 0 [] 0 []))) fun r0 _ => ?_
   refine lC ?_ ?_
   ·exact aJ rfl
   ·exact aJ rfl
 ·refine lC ?_ ?_
  ·exact aJ rfl
  ·refine lC ?_ ?_
   ·exact aJ rfl
   ·refine lQ eX aS (uS _) fun r1 _ => ?_
    exact aJ rfl
section
variable (Γ : Fun) (γ83 γ84 γ85 γ86 γ87 : Gm (Int)) (Λ2 J : Lam)
def C33 : aP := aY (aY (aY (aY (aY (aQ Γ) 83 aH γ83) 84 aH γ84) 85 aH γ85) 86 aH γ86) 87 aH γ87
theorem T33 (p0 : aB) : bF SE (C33 Γ γ83 γ84 γ85 γ86 γ87) Λ2 J 33 [aB.av p0] [] [] =
 γ83 [aB.av p0] [] [] fun r0 =>
 cond (r0 != 0) (
 (rI r0)) (
 γ84 [aB.av p0] [] [] fun r1 =>
 cond (r1 != 0) (
 (rI r1)) (
 γ85 [aI.av p0.Out] [] [] fun r2 =>
 cond (r2 != 0) (
 (rI r2)) (
 γ86 [bE.av p0.In] [] [] fun r3 =>
 cond (r3 != 0) (
 (rI r3)) (
 γ87 [aU.av p0.Will] [] [] fun r4 =>
 (rI r4))))) := by kernel_rfl
end
abbrev X33 : aP := C33 gG (cT 83 aH) (cT 84 aH) (cT 85 aH) (cT 86 aH) (cT 87 aH)
theorem aF7 : X33 = aQ gG := by unfold X33 C33; repeat rw [bC fun _ h => h]
theorem nX (p0 : aB) : Le (Option.map aH (hY p0)) (bA SE 33 [aB.av p0] [] []) := by
 refine aV aF7 rfl ?_
 refine Le.trans ?_ (le_of_eq (T33 ..).symm)
 unfold hY
 refine lQ eX aS (afO _) fun r0 _ => ?_
 refine lC ?_ ?_
 ·exact aJ rfl
 ·refine lQ eX aS (afE _) fun r1 _ => ?_
  refine lC ?_ ?_
  ·exact aJ rfl
  ·refine lQ eX aS (aiU _) fun r2 _ => ?_
   refine lC ?_ ?_
   ·exact aJ rfl
   ·refine lQ eX aS (ajD _) fun r3 _ => ?_
    refine lC ?_ ?_
    ·exact aJ rfl
    ·refine lQ eX aS (amX _) fun r4 _ => ?_
     exact aJ rfl
section
variable (Γ : Fun) (γ18 γ14 : Gm (Bool)) (γ34 γ35 : Gm (aB × (List aC))) (γ17 γ21 : Gm (Bool)) (γ33 : Gm (Int)) (Λ2 J : Lam)
def C9 : aP := aY (aY (aY (aY (aY (aY (aY (aQ Γ) 18 aE γ18) 14 aE γ14) 34 bK γ34) 35 bK γ35) 17 aE γ17) 21 aE γ21) 33 aH γ33
theorem T9 (p0 : aB) (p1 : Int) : bF SE (C9 Γ γ18 γ14 γ34 γ35 γ17 γ21 γ33) Λ2 J 9 [aB.av p0, .d (.int .i64 p1)] [] [] =
 γ18 [aB.av p0, .d (.int .i64 p1)] [] [] fun r0 =>
 cond (!r0) (
 γ14 [] [] [] fun r1 =>
 (rB r1)) (
 γ34 [aB.av p0, .d (.int .i64 p1)] [] [] fun r2 =>
 γ35 [aB.av p0, .d (.int .i64 p1)] [] [] fun r3 =>
 γ14 [] [] [] fun r4 =>
 cond r4 (
 γ17 [aB.av r2.1, aB.av r3.1] [] [] fun r5 =>
 cond r5 (
  γ21 [.d (.sl aC.ks (List.map aC.enc r2.2)), .d (.sl aC.ks (List.map aC.enc r3.2))] [] [] fun r6 =>
  cond r6 (
  γ33 [aB.av r2.1] [] [] fun r7 =>
  (rB (r7 == 0))) (
  (rB false))) (
 (rB false))) (
 (rB false))) := by kernel_rfl
end
abbrev X9 : aP := C9 gG (cT 18 aE) (cT 14 aE) (cT 34 bK) (cT 35 bK) (cT 17 aE) (cT 21 aE) (cT 33 aH)
theorem Cr9 : X9 = aQ gG := by unfold X9 C9; repeat rw [bC fun _ h => h]
theorem abK (p0 : aB) (p1 : Int) : Le (Option.map aE (mJ p0 p1)) (bA SE 9 [aB.av p0, .d (.int .i64 p1)] [] []) := by
 refine aV Cr9 rfl ?_
 refine Le.trans ?_ (le_of_eq (T9 ..).symm)
 unfold mJ
 refine lQ eX aK (qD _ _) fun r0 _ => ?_
 refine lC ?_ ?_
 ·refine lQ eX aK (bZ) fun r1 _ => ?_
  exact aJ rfl
 ·refine lQ eX eA (aaz _ _) fun r2 _ => ?_
  refine lQ eX eA (vL _ _) fun r3 _ => ?_
  refine lQ eX aK (bZ) fun r4 _ => ?_
  refine lC ?_ ?_
  ·refine lQ eX aK (gJ _ _) fun r5 _ => ?_
   refine lC ?_ ?_
   ·refine lQ eX aK (tA _ _) fun r6 _ => ?_
    refine lC ?_ ?_
    ·refine lQ eX aS (nX _) fun r7 _ => ?_
     exact aJ rfl
    ·exact aJ rfl
   ·exact aJ rfl
  ·exact aJ rfl
end Te
end PX
