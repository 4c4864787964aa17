import Derived.Test.YtojlmojebnlmdaaGreatDoorTre2
set_option linter.unusedVariables false
set_option linter.unusedSimpArgs false
set_option maxRecDepth 100000
noncomputable section
namespace PX
open Go
open Md
namespace Te
def aoH (C : aP) (Λ2 J : Lam) (a0 a1 : List (List D)) (a2 : Int) : Res := lab SE C Λ2 J 121 0 [1, 1, 0, 1, 0] (aW [(0, .d (.sl [.str] a0)), (1, .d (.sl [.str] a1)), (5, .d (.int .i64 a2))] [] [] [] [])
section
variable (Γ : Fun)  (Λ2 J : Lam)
def ans : aP := aQ Γ
theorem aDJ (p0 p1 : List Str) : bF SE (ans Γ) Λ2 J 121 [.d (.sl [.str] (List.map bL p0)), .d (.sl [.str] (List.map bL p1))] [] [] =
 cond ((lM bL p0 : Int) != (lM bL p1 : Int)) (
 (rB false)) (
 aoH (ans Γ) Λ2 J (List.map bL p0) (List.map bL p1) 0) := by kernel_rfl
theorem aAm (x0 x1 : List Str) (x5 : Int) : bT SE (ans Γ) Λ2 J 121 0 [1, 1, 0, 1, 0] (aW [(0, .d (.sl [.str] (List.map bL x0))), (1, .d (.sl [.str] (List.map bL x1))), (5, .d (.int .i64 x5))] [] [] [] []) =
 cond (decide (x5 < (lM bL x0 : Int))) (
 cond (iB x5 (lM bL x0 : Int)) (
  cond (iB x5 (lM bL x1 : Int)) (
  cond (!((bD (cE bL x0 x5 0)) == (bD (cE bL x1 x5 0)))) (
   (rB false)) (
  aoH (ans Γ) Λ2 J (List.map bL x0) (List.map bL x1) (w6 (x5 + 1)))) none) none) (
 (rB true)) := by kernel_rfl
end
abbrev atC : aP := ans gG
theorem au9 : atC = aQ gG := rfl
abbrev awO := aoH atC (bP SE gG (SE.hl 121) (SE.hr 121)) (J0 SE atC)
theorem aef : ∀ (fu : Nat) (x0 x1 : List Str) (x5 : Int), Le (Option.map aE (iW fu x0 x1 x5)) (awO (List.map bL x0) (List.map bL x1) x5) := by
 intro fu
 induction fu with
 | zero => intros; exact le_none
 | succ fu ih =>
  intro x0 x1 x5
  refine Le.trans ?_ (le_of_eq ((aZ au9).trans (aAm ..)).symm)
  unfold iW
  refine lD (by simp only [EN]) ?_ ?_
  ·refine lG (by simp only [EN]) ?_
   refine lG (by simp only [EN]) ?_
   refine lD (by simp only [EN]) ?_ ?_
   ·exact aJ rfl
   ·exact ih x0 x1 (w6 (x5 + 1))
  ·exact aJ rfl
theorem agU (p0 p1 : List Str) : Le (Option.map aE (qZ p0 p1)) (bA SE 121 [.d (.sl [.str] (List.map bL p0)), .d (.sl [.str] (List.map bL p1))] [] []) := by
 refine aV au9 rfl ?_
 refine Le.trans ?_ (le_of_eq (aDJ ..).symm)
 unfold qZ
 refine lD (by simp only [EN]) ?_ ?_
 ·exact aJ rfl
 ·exact aef fuel p0 p1 0
def ao4 (C : aP) (Λ2 J : Lam) (a0 a1 : List (List D)) (a2 : Int) : Res := lab SE C Λ2 J 122 0 [1, 1, 0, 1, 0] (aW [(0, .d (.sl [.int .i64] a0)), (1, .d (.sl [.int .i64] a1)), (5, .d (.int .i64 a2))] [] [] [] [])
section
variable (Γ : Fun)  (Λ2 J : Lam)
def aoK : aP := aQ Γ
theorem aEj (p0 p1 : List Int) : bF SE (aoK Γ) Λ2 J 122 [.d (.sl [.int .i64] (List.map eI p0)), .d (.sl [.int .i64] (List.map eI p1))] [] [] =
 cond ((lM eI p0 : Int) != (lM eI p1 : Int)) (
 (rB false)) (
 ao4 (aoK Γ) Λ2 J (List.map eI p0) (List.map eI p1) 0) := by kernel_rfl
theorem ay0 (x0 x1 : List Int) (x5 : Int) : bT SE (aoK Γ) Λ2 J 122 0 [1, 1, 0, 1, 0] (aW [(0, .d (.sl [.int .i64] (List.map eI x0))), (1, .d (.sl [.int .i64] (List.map eI x1))), (5, .d (.int .i64 x5))] [] [] [] []) =
 cond (decide (x5 < (lM eI x0 : Int))) (
 cond (iB x5 (lM eI x0 : Int)) (
  cond (iB x5 (lM eI x1 : Int)) (
  cond ((aR (cE eI x0 x5 0)) != (aR (cE eI x1 x5 0))) (
   (rB false)) (
  ao4 (aoK Γ) Λ2 J (List.map eI x0) (List.map eI x1) (w6 (x5 + 1)))) none) none) (
 (rB true)) := by kernel_rfl
end
abbrev ats : aP := aoK gG
theorem avm : ats = aQ gG := rfl
abbrev azm := ao4 ats (bP SE gG (SE.hl 122) (SE.hr 122)) (J0 SE ats)
theorem aaD : ∀ (fu : Nat) (x0 x1 : List Int) (x5 : Int), Le (Option.map aE (eH fu x0 x1 x5)) (azm (List.map eI x0) (List.map eI x1) x5) := by
 intro fu
 induction fu with
 | zero => intros; exact le_none
 | succ fu ih =>
  intro x0 x1 x5
  refine Le.trans ?_ (le_of_eq ((aZ avm).trans (ay0 ..)).symm)
  unfold eH
  refine lD (by simp only [EN]) ?_ ?_
  ·refine lG (by simp only [EN]) ?_
   refine lG (by simp only [EN]) ?_
   refine lD (by simp only [EN]) ?_ ?_
   ·exact aJ rfl
   ·exact ih x0 x1 (w6 (x5 + 1))
  ·exact aJ rfl
theorem abY (p0 p1 : List Int) : Le (Option.map aE (jX p0 p1)) (bA SE 122 [.d (.sl [.int .i64] (List.map eI p0)), .d (.sl [.int .i64] (List.map eI p1))] [] []) := by
 refine aV avm rfl ?_
 refine Le.trans ?_ (le_of_eq (aEj ..).symm)
 unfold jX
 refine lD (by simp only [EN]) ?_ ?_
 ·exact aJ rfl
 ·exact aaD fuel p0 p1 0
def au7 (C : aP) (Λ2 J : Lam) (a0 a1 : List D) : Res := lab SE C Λ2 J 63 0 [1, 1, 1, 0] (aW [(2, .ptr 1000000000 0), (3, .ptr 1000000001 0)] [⟨49, (List.map AV.d a0)⟩, ⟨49, (List.map AV.d a1)⟩] [] [] [])
def au5 (C : aP) (Λ2 J : Lam) (a0 a1 : List D) : Res := lab SE C Λ2 J 63 0 [1, 1, 0, 0] (aW [(2, .ptr 1000000000 0), (3, .ptr 1000000001 0)] [⟨49, (List.map AV.d a0)⟩, ⟨49, (List.map AV.d a1)⟩] [] [] [])
section
variable (Γ : Fun) (γ97 γ119 γ120 γ121 γ122 : Gm (Bool)) (Λ2 J : Lam)
def C63 : aP := aY (aY (aY (aY (aY (aQ Γ) 97 aE γ97) 119 aE γ119) 120 aE γ120) 121 aE γ121) 122 aE γ122
theorem T63 (p0 p1 : aC) : bF SE (C63 Γ γ97 γ119 γ120 γ121 γ122) Λ2 J 63 [aC.av p0, aC.av p1] [] [] =
 cond (p0.Kind != p1.Kind) (
 (rB false)) (
 cond (p0.ID != p1.ID) (
 (rB false)) (
 cond (p0.Dup != p1.Dup) (
 (rB false)) (
 γ97 [aA.av p0.Message, aA.av p1.Message] [] [] fun r0 =>
 cond (!r0) (
 (rB false)) (
 cond (!(p0.Client == p1.Client)) (
 (rB false)) (
 cond (!(p0.User == p1.User)) (
 (rB false)) (
 au5 (C63 Γ γ97 γ119 γ120 γ121 γ122) Λ2 J (aC.enc p0) (aC.enc p1))))))) := by kernel_rfl
theorem aCd (b0 b1 : aC) : bT SE (C63 Γ γ97 γ119 γ120 γ121 γ122) Λ2 J 63 0 [1, 1, 1, 0] (aW [(2, .ptr 1000000000 0), (3, .ptr 1000000001 0)] [⟨49, (List.map AV.d (aC.enc b0))⟩, ⟨49, (List.map AV.d (aC.enc b1))⟩] [] [] []) =
 cond (b0.Present == b1.Present) (
 cond (b0.Code == b1.Code) (
  γ120 [.d (.sl aF.ks (List.map aF.enc b0.Subs)), .d (.sl aF.ks (List.map aF.enc b1.Subs))] [] [] fun r2 =>
  cond r2 (
  γ121 [.d (.sl [.str] (List.map bL b0.Filters)), .d (.sl [.str] (List.map bL b1.Filters))] [] [] fun r3 =>
  cond r3 (
   γ122 [.d (.sl [.int .i64] (List.map eI b0.Codes)), .d (.sl [.int .i64] (List.map eI b1.Codes))] [] [] fun r4 =>
   (rB r4)) (
  (rB false))) (
  (rB false))) (
 (rB false))) (
 (rB false)) := by kernel_rfl
theorem aC3 (b0 b1 : aC) : bT SE (C63 Γ γ97 γ119 γ120 γ121 γ122) Λ2 J 63 0 [1, 1, 0, 0] (aW [(2, .ptr 1000000000 0), (3, .ptr 1000000001 0)] [⟨49, (List.map AV.d (aC.enc b0))⟩, ⟨49, (List.map AV.d (aC.enc b1))⟩] [] [] []) =
 cond (b0.Clean != b1.Clean) (
 (rB false)) (
 cond (b0.Keep != b1.Keep) (
 (rB false)) (
 cond (b0.Expiry != b1.Expiry) (
 (rB false)) (
 cond (b0.Window != b1.Window) (
 (rB false)) (
 γ119 [aU.av b0.Will, aU.av b1.Will] [] [] fun r1 =>
 cond (!r1) (
 (rB false)) (
 au7 (C63 Γ γ97 γ119 γ120 γ121 γ122) Λ2 J (aC.enc b0) (aC.enc b1)))))) := by kernel_rfl
end
abbrev X63 : aP := C63 gG (cT 97 aE) (cT 119 aE) (cT 120 aE) (cT 121 aE) (cT 122 aE)
theorem at7 : X63 = aQ gG := by unfold X63 C63; repeat rw [bC fun _ h => h]
abbrev aDu := au7 X63 (bP SE gG (SE.hl 63) (SE.hr 63)) (J0 SE X63)
abbrev aCN := au5 X63 (bP SE gG (SE.hl 63) (SE.hr 63)) (J0 SE X63)
theorem aex (b0 b1 : aC) : Le (Option.map aE (nN b0 b1)) (aDu (aC.enc b0) (aC.enc b1)) := by
 refine Le.trans ?_ (le_of_eq ((aZ at7).trans (aCd ..)).symm)
 unfold nN
 refine lC ?_ ?_
 ·refine lC ?_ ?_
  ·refine lQ eX aK (adt _ _) fun r2 _ => ?_
   refine lC ?_ ?_
   ·refine lQ eX aK (agU _ _) fun r3 _ => ?_
    refine lC ?_ ?_
    ·refine lQ eX aK (abY _ _) fun r4 _ => ?_
     exact aJ rfl
    ·exact aJ rfl
   ·exact aJ rfl
  ·exact aJ rfl
 ·exact aJ rfl
theorem aed (b0 b1 : aC) : Le (Option.map aE (nF b0 b1)) (aCN (aC.enc b0) (aC.enc b1)) := by
 refine Le.trans ?_ (le_of_eq ((aZ at7).trans (aC3 ..)).symm)
 unfold nF
 refine lC ?_ ?_
 ·exact aJ rfl
 ·refine lC ?_ ?_
  ·exact aJ rfl
  ·refine lC ?_ ?_
   ·exact aJ rfl
   ·refine lC ?_ ?_
    ·exact aJ rfl
    ·refine lQ eX aK (adC _ _) fun r1 _ => ?_
     refine lC ?_ ?_
     ·exact aJ rfl
     ·exact aex b0 b1
theorem aaJ (p0 p1 : aC) : Le (Option.map aE (jP p0 p1)) (bA SE 63 [aC.av p0, aC.av p1] [] []) := by
 refine aV at7 rfl ?_
 refine Le.trans ?_ (le_of_eq (T63 ..).symm)
 unfold jP
 refine lC ?_ ?_
 ·exact aJ rfl
 ·refine lC ?_ ?_
  ·exact aJ rfl
  ·refine lC ?_ ?_
   ·exact aJ rfl
   ·refine lQ eX aK (iL _ _) fun r0 _ => ?_
    refine lC ?_ ?_
    ·exact aJ rfl
    ·refine lC ?_ ?_
     ·exact aJ rfl
     ·refine lC ?_ ?_
      ·exact aJ rfl
      ·exact aed p0 p1
def aq5 (C : aP) (Λ2 J : Lam) (a0 a1 : List (List D)) (a2 : Int) : Res := lab SE C Λ2 J 21 0 [1, 1, 0, 1, 0] (aW [(0, .d (.sl aC.ks a0)), (1, .d (.sl aC.ks a1)), (5, .d (.int .i64 a2))] [] [] [] [])
section
variable (Γ : Fun) (γ63 : Gm (Bool)) (Λ2 J : Lam)
def C21 : aP := aY (aQ Γ) 63 aE γ63
theorem T21 (p0 p1 : List aC) : bF SE (C21 Γ γ63) Λ2 J 21 [.d (.sl aC.ks (List.map aC.enc p0)), .d (.sl aC.ks (List.map aC.enc p1))] [] [] =
 cond ((lM aC.enc p0 : Int) != (lM aC.enc p1 : Int)) (
 (rB false)) (
 aq5 (C21 Γ γ63) Λ2 J (List.map aC.enc p0) (List.map aC.enc p1) 0) := by kernel_rfl
theorem aAR (x0 x1 : List aC) (x5 : Int) : bT SE (C21 Γ γ63) Λ2 J 21 0 [1, 1, 0, 1, 0] (aW [(0, .d (.sl aC.ks (List.map aC.enc x0))), (1, .d (.sl aC.ks (List.map aC.enc x1))), (5, .d (.int .i64 x5))] [] [] [] []) =
 cond (decide (x5 < (lM aC.enc x0 : Int))) (
 cond (iB x5 (lM aC.enc x0 : Int)) (
  cond (iB x5 (lM aC.enc x1 : Int)) (
  γ63 [.agg [.d (.int .i64 (aR (cE aC.enc x0 x5 0))), .d (.int .i64 (aR (cE aC.enc x0 x5 1))), .d (.bool (bN (cE aC.enc x0 x5 2))), .d (.str (bD (cE aC.enc x0 x5 3))), .d (.str (bD (cE aC.enc x0 x5 4))), .d (.int .i64 (aR (cE aC.enc x0 x5 5))), .d (.bool (bN (cE aC.enc x0 x5 6))), .d (.int .i64 (aR (cE aC.enc x0 x5 7))), .d (.int .i64 (aR (cE aC.enc x0 x5 8))), .d (.str (bD (cE aC.enc x0 x5 9))), .d (.int .i64 (aR (cE aC.enc x0 x5 10))), .d (.sl aG.ks (dSl (cE aC.enc x0 x5 11))), .d (.str (bD (cE aC.enc x0 x5 12))), .d (.str (bD (cE aC.enc x0 x5 13))), .d (.bool (bN (cE aC.enc x0 x5 14))), .d (.int .i64 (aR (cE aC.enc x0 x5 15))), .d (.int .i64 (aR (cE aC.enc x0 x5 16))), .d (.int .i64 (aR (cE aC.enc x0 x5 17))), .d (.bool (bN (cE aC.enc x0 x5 18))), .d (.int .i64 (aR (cE aC.enc x0 x5 19))), .d (.str (bD (cE aC.enc x0 x5 20))), .d (.str (bD (cE aC.enc x0 x5 21))), .d (.int .i64 (aR (cE aC.enc x0 x5 22))), .d (.bool (bN (cE aC.enc x0 x5 23))), .d (.int .i64 (aR (cE aC.enc x0 x5 24))), .d (.int .i64 (aR (cE aC.enc x0 x5 25))), .d (.str (bD (cE aC.enc x0 x5 26))), .d (.int .i64 (aR (cE aC.enc x0 x5 27))), .d (.sl aG.ks (dSl (cE aC.enc x0 x5 28))), .d (.bool (bN (cE aC.enc x0 x5 29))), .d (.int .i64 (aR (cE aC.enc x0 x5 30))), .d (.sl aF.ks (dSl (cE aC.enc x0 x5 31))), .d (.sl [.str] (dSl (cE aC.enc x0 x5 32))), .d (.sl [.int .i64] (dSl (cE aC.enc x0 x5 33)))], .agg [.d (.int .i64 (aR (cE aC.enc x1 x5 0))), .d (.int .i64 (aR (cE aC.enc x1 x5 1))), .d (.bool (bN (cE aC.enc x1 x5 2))), .d (.str (bD (cE aC.enc x1 x5 3))), .d (.str (bD (cE aC.enc x1 x5 4))), .d (.int .i64 (aR (cE aC.enc x1 x5 5))), .d (.bool (bN (cE aC.enc x1 x5 6))), .d (.int .i64 (aR (cE aC.enc x1 x5 7))), .d (.int .i64 (aR (cE aC.enc x1 x5 8))), .d (.str (bD (cE aC.enc x1 x5 9))), .d (.int .i64 (aR (cE aC.enc x1 x5 10))), .d (.sl aG.ks (dSl (cE aC.enc x1 x5 11))), .d (.str (bD (cE aC.enc x1 x5 12))), .d (.str (bD (cE aC.enc x1 x5 13))), .d (.bool (bN (cE aC.enc x1 x5 14))), .d (.int .i64 (aR (cE aC.enc x1 x5 15))), .d (.int .i64 (aR (cE aC.enc x1 x5 16))), .d (.int .i64 (aR (cE aC.enc x1 x5 17))), .d (.bool (bN (cE aC.enc x1 x5 18))), .d (.int .i64 (aR (cE aC.enc x1 x5 19))), .d (.str (bD (cE aC.enc x1 x5 20))), .d (.str (bD (cE aC.enc x1 x5 21))), .d (.int .i64 (aR (cE aC.enc x1 x5 22))), .d (.bool (bN (cE aC.enc x1 x5 23))), .d (.int .i64 (aR (cE aC.enc x1 x5 24))), .d (.int .i64 (aR (cE aC.enc x1 x5 25))), .d (.str (bD (cE aC.enc x1 x5 26))), .d (.int .i64 (aR (cE aC.enc x1 x5 27))), .d (.sl aG.ks (dSl (cE aC.enc x1 x5 28))), .d (.bool (bN (cE aC.enc x1 x5 29))), .d (.int .i64 (aR (cE aC.enc x1 x5 30))), .d (.sl aF.ks (dSl (cE aC.enc x1 x5 31))), .d (.sl [.str] (dSl (cE aC.enc x1 x5 32))), .d (.sl [.int .i64] (dSl (cE aC.enc x1 x5 33)))]] [] [] fun r0 =>
  cond (!r0) (
   (rB false)) (
  aq5 (C21 Γ γ63) Λ2 J (List.map aC.enc x0) (List.map aC.enc x1) (w6 (x5 + 1)))) none) none) (
 (rB true)) := by kernel_rfl
end
abbrev X21 : aP := C21 gG (cT 63 aE)
theorem aya : X21 = aQ gG := by unfold X21 C21; rw [bC fun _ h => h]
abbrev aCn := aq5 X21 (bP SE gG (SE.hl 21) (SE.hr 21)) (J0 SE X21)
theorem acq : ∀ (fu : Nat) (x0 x1 : List aC) (x5 : Int), Le (Option.map aE (gC fu x0 x1 x5)) (aCn (List.map aC.enc x0) (List.map aC.enc x1) x5) := by
 intro fu
 induction fu with
 | zero => intros; exact le_none
 | succ fu ih =>
  intro x0 x1 x5
  refine Le.trans ?_ (le_of_eq ((aZ aya).trans (aAR ..)).symm)
  unfold gC
  refine lD (by simp only [EN]) ?_ ?_
  ·refine lG (by simp only [EN]) ?_
   refine lG (by simp only [EN]) ?_
   refine lQ eX aK (by (try simp only [EN]); exact aaJ (List.getD x0 (Int.toNat x5) default) (List.getD x1 (Int.toNat x5) default)) fun r0 _ => ?_
   refine lC ?_ ?_
   ·exact aJ rfl
   ·exact ih x0 x1 (w6 (x5 + 1))
  ·exact aJ rfl
theorem tA (p0 p1 : List aC) : Le (Option.map aE (iR p0 p1)) (bA SE 21 [.d (.sl aC.ks (List.map aC.enc p0)), .d (.sl aC.ks (List.map aC.enc p1))] [] []) := by
 refine aV aya rfl ?_
 refine Le.trans ?_ (le_of_eq (T21 ..).symm)
 unfold iR
 refine lD (by simp only [EN]) ?_ ?_
 ·exact aJ rfl
 ·exact acq fuel p0 p1 0
section
variable (Γ : Fun) (γ18 γ14 : Gm (Bool)) (γ19 γ20 : Gm (aB × (List aC) × Int)) (γ17 γ21 : Gm (Bool)) (Λ2 J : Lam)
def C4 : aP := aY (aY (aY (aY (aY (aY (aQ Γ) 18 aE γ18) 14 aE γ14) 19 cX γ19) 20 cX γ20) 17 aE γ17) 21 aE γ21
theorem T4 (p0 : aB) (p1 : aC) (p2 : Int) : bF SE (C4 Γ γ18 γ14 γ19 γ20 γ17 γ21) Λ2 J 4 [aB.av p0, aC.av p1, .d (.int .i64 p2)] [] [] =
 γ18 [aB.av p0, .d (.int .i64 p2)] [] [] fun r0 =>
 cond (!r0) (
 γ14 [] [] [] fun r1 =>
 (rB r1)) (
 γ19 [aB.av p0, aC.av p1, .d (.int .i64 p2)] [] [] fun r2 =>
 γ20 [aB.av p0, aC.av p1, .d (.int .i64 p2)] [] [] fun r3 =>
 γ14 [] [] [] fun r4 =>
 cond r4 (
 cond (r2.2.2 == r3.2.2) (
  γ17 [aB.av r2.1, aB.av r3.1] [] [] fun r5 =>
  cond r5 (
  γ21 [.d (.sl aC.ks (List.map aC.enc r2.2.1)), .d (.sl aC.ks (List.map aC.enc r3.2.1))] [] [] fun r6 =>
  (rB r6)) (
  (rB false))) (
 (rB false))) (
 (rB false))) := by kernel_rfl
end
abbrev X4 : aP := C4 gG (cT 18 aE) (cT 14 aE) (cT 19 cX) (cT 20 cX) (cT 17 aE) (cT 21 aE)
theorem Cr4 : X4 = aQ gG := by unfold X4 C4; repeat rw [bC fun _ h => h]
theorem aaI (p0 : aB) (p1 : aC) (p2 : Int) : Le (Option.map aE (kN p0 p1 p2)) (bA SE 4 [aB.av p0, aC.av p1, .d (.int .i64 p2)] [] []) := by
 refine aV Cr4 rfl ?_
 refine Le.trans ?_ (le_of_eq (T4 ..).symm)
 unfold kN
 refine lQ eX aK (qD _ _) fun r0 _ => ?_
 refine lC ?_ ?_
 ·refine lQ eX aK (bZ) fun r1 _ => ?_
  exact aJ rfl
 ·refine lQ eX sL (xO _ _ _) fun r2 _ => ?_
  refine lQ eX sL (afp _ _ _) fun r3 _ => ?_
  refine lQ eX aK (bZ) fun r4 _ => ?_
  refine lC ?_ ?_
  ·refine lC ?_ ?_
   ·refine lQ eX aK (gJ _ _) fun r5 _ => ?_
    refine lC ?_ ?_
    ·refine lQ eX aK (tA _ _) fun r6 _ => ?_
     exact aJ rfl
    ·exact aJ rfl
   ·exact aJ rfl
  ·exact aJ rfl
end Te
end PX
