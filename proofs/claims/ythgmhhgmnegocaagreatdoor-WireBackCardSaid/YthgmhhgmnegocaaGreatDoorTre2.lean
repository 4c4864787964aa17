import Derived.Test.YthgmhhgmnegocaaGreatDoorTre1
set_option linter.unusedVariables false
set_option linter.unusedSimpArgs false
set_option maxRecDepth 100000
noncomputable section
namespace PX
open Go
open Md
namespace Te
section
variable (Γ : Fun) (γ121 : Gm (Str × Int × Int)) (γ39 : Gp aN (Unit)) (Λ2 J : Lam)
def avm : aR := nS (bE (aS Γ) 121 gA γ121) 39 gB γ39
theorem aEt (p0 : aI) (p1 : Int) : bK SE (avm Γ γ121 γ39) Λ2 J 101 [.ptr 2000000000 0, dIq p1] [⟨66, (aI.avs p0)⟩] [] =
 γ121 [.d (.sl [.int .u8] (List.map (aO .u8) p0.b)), dIq p0.at_, dIq p1] [] [] fun r0 =>
 γ39 [dBq (r0.2.2 != 0), dIq r0.2.2] [] [] (fun e2 =>
 (some (.pan (.ifc 63 (aN.av e2))))) fun r1 =>
 (some (.ret [dSq r0.1] [⟨66, (aI.avs (aI.mk p0.b r0.2.1))⟩] [])) := by kernel_rfl
end
abbrev axD : aR := avm gG (cT 121 gA) (cP 39 gB)
theorem aAS : axD = aS gG := by unfold axD avm; rw [bH fun _ h => h, eP fun _ h => h]
theorem eZ (p0 : aI) (p1 : Int) : Le (Option.map eC (dE p0 p1)) (bF SE 101 [.ptr 2000000000 0, dIq p1] [⟨66, (aI.avs p0)⟩] []) := by
 refine aZ aAS rfl ?_
 refine Le.trans ?_ (le_of_eq (aEt ..).symm)
 unfold dE
 refine lQ eX ack (aoF _ _ _) fun r0 _ => ?_
 refine bY (good := good) eX iR (jL _ _) (fun e2 _ => ?_) (fun r1 _ => ?_)
 ·exact aG rfl
 ·exact aG rfl
section
variable (Γ : Fun) (γ38 : Gp aN (Int × aI)) (γ39 : Gp aN (Unit)) (Λ2 J : Lam)
def C75 : aR := nS (nS (aS Γ) 38 cH γ38) 39 gB γ39
theorem T75 (p0 : aI) (p1 : Int) : bK SE (C75 Γ γ38 γ39) Λ2 J 75 [.ptr 2000000000 0, dIq p1] [⟨66, (aI.avs p0)⟩] [] =
 γ38 [.ptr 2000000000 0] [⟨66, (aI.avs p0)⟩] [] (fun e1 =>
 (some (.pan (.ifc 63 (aN.av e1))))) fun r0 =>
 cond (decide (r0.1 < 0)) (
 γ39 [dBq true, dIq 2] [] [] (fun e3 =>
  (some (.pan (.ifc 63 (aN.av e3))))) fun r2 =>
 (some (pT (r0.1, r0.2)))) (
 γ39 [dBq (decide (r0.1 ≥ p1)), dIq 2] [] [] (fun e5 =>
 (some (.pan (.ifc 63 (aN.av e5))))) fun r4 =>
 (some (pT (r0.1, r0.2)))) := by kernel_rfl
end
abbrev X75 : aR := C75 gG (cP 38 cH) (cP 39 gB)
theorem aDY : X75 = aS gG := by unfold X75 C75; rw [eP fun _ h => h, eP fun _ h => h]
theorem kF (p0 : aI) (p1 : Int) : Le (Option.map dA (eJ p0 p1)) (bF SE 75 [.ptr 2000000000 0, dIq p1] [⟨66, (aI.avs p0)⟩] []) := by
 refine aZ aDY rfl ?_
 refine Le.trans ?_ (le_of_eq (T75 ..).symm)
 unfold eJ
 refine bY (good := good) eX bR (bW _) (fun e1 _ => ?_) (fun r0 _ => ?_)
 ·exact aG rfl
 ·refine lC ?_ ?_
  ·refine bY (good := good) eX iR (jL _ _) (fun e3 _ => ?_) (fun r2 _ => ?_)
   ·exact aG rfl
   ·exact aG rfl
  ·refine bY (good := good) eX iR (jL _ _) (fun e5 _ => ?_) (fun r4 _ => ?_)
   ·exact aG rfl
   ·exact aG rfl
section
variable (Γ : Fun)  (Λ2 J : Lam)
def axH : aR := aS Γ
theorem aC4 (p0 p1 : Int) : bK SE (axH Γ) Λ2 J 102 [dIq p0, dIq p1] [] [] =
 cond (decide (p1 ≥ 0)) (
 cond (decide (p1 < 32)) (
  cond (decide (0 ≤ p1)) (
  (rB ((eF .and .i64 (shr .i64 p0 p1) 1) == 1))) none) (
 (rB false))) (
 (rB false)) := by kernel_rfl
end
abbrev aDi : aR := axH gG
theorem aA4 : aDi = aS gG := rfl
theorem aiq (p0 p1 : Int) : Le (Option.map brokerref05_SameProps_out (aam p0 p1)) (bF SE 102 [dIq p0, dIq p1] [] []) := by
 refine aZ aA4 rfl ?_
 refine Le.trans ?_ (le_of_eq (aC4 ..).symm)
 unfold aam
 refine lC ?_ ?_
 ·refine lC ?_ ?_
  ·refine lF ?_
   exact aG rfl
  ·exact aG rfl
 ·exact aG rfl
section
variable (Γ : Fun) (γ38 : Gp aN (Int × aI)) (γ39 : Gp aN (Unit)) (Λ2 J : Lam)
def auu : aR := nS (nS (aS Γ) 38 cH γ38) 39 gB γ39
theorem aCM (p0 : aI) (p1 : Int) : bK SE (auu Γ γ38 γ39) Λ2 J 103 [.ptr 2000000000 0, dIq p1] [⟨66, (aI.avs p0)⟩] [] =
 γ38 [.ptr 2000000000 0] [⟨66, (aI.avs p0)⟩] [] (fun e1 =>
 (some (.pan (.ifc 63 (aN.av e1))))) fun r0 =>
 γ39 [dBq (decide (r0.1 < 0)), dIq 2] [] [] (fun e3 =>
 (some (.pan (.ifc 63 (aN.av e3))))) fun r2 =>
 γ39 [dBq (decide (r0.1 > p1)), dIq 5] [] [] (fun e5 =>
 (some (.pan (.ifc 63 (aN.av e5))))) fun r4 =>
 (some (pP (r0.1, r0.2))) := by kernel_rfl
end
abbrev azo : aR := auu gG (cP 38 cH) (cP 39 gB)
theorem aA6 : azo = aS gG := by unfold azo auu; rw [eP fun _ h => h, eP fun _ h => h]
theorem xS (p0 : aI) (p1 : Int) : Le (Option.map fC (iY p0 p1)) (bF SE 103 [.ptr 2000000000 0, dIq p1] [⟨66, (aI.avs p0)⟩] []) := by
 refine aZ aA6 rfl ?_
 refine Le.trans ?_ (le_of_eq (aCM ..).symm)
 unfold iY
 refine bY (good := good) eX bR (bW _) (fun e1 _ => ?_) (fun r0 _ => ?_)
 ·exact aG rfl
 ·refine bY (good := good) eX iR (jL _ _) (fun e3 _ => ?_) (fun r2 _ => ?_)
  ·exact aG rfl
  ·refine bY (good := good) eX iR (jL _ _) (fun e5 _ => ?_) (fun r4 _ => ?_)
   ·exact aG rfl
   ·exact aG rfl
def aoU (C : aR) (Λ2 J : Lam) (a0 a1 : Int) (a2 : List D) (a3 a4 : Str) (a5 : Int) (a6 : Bool) (a7 a8 : Int) (a9 : Str) (a10 : Int) (a11 : List D) (a12 : List (List D)) : Res := lab SE C Λ2 J 76 1 [1, 1, 1, 1, 1, 1, 1, 1, 1, 1, 0, 1, 0] (bA [(0, .ptr 2000000000 0), (2, .ptr 1000000000 0), (3, .ptr 1000000001 0), (32, dIq a0), (33, dIq a1)] [⟨24, (List.map AV.d a2)⟩, ⟨24, [dSq a3, dSq a4, dIq a5, dBq a6, dIq a7, dIq a8, dSq a9, dIq a10, .row 50108]⟩] [⟨66, (List.map AV.d a11)⟩] [] [(50108, ⟨aC.ks, 89, 32, a12⟩)])
section
variable (Γ : Fun) (γ101 : Gp aN (Str × aI)) (γ38 γ75 γ103 : Gp aN (Int × aI)) (Λ2 J : Lam)
def C76 : aR := nS (nS (nS (nS (aS Γ) 101 eC γ101) 38 cH γ38) 75 dA γ75) 103 fC γ103
theorem T76 (p0 : aI) : bK SE (C76 Γ γ101 γ38 γ75 γ103) Λ2 J 76 [.ptr 2000000000 0] [⟨66, (aI.avs p0)⟩] [] =
 γ101 [.ptr 2000000000 0, dIq 64] [⟨66, (aI.avs p0)⟩] [] (fun e1 =>
 (some (.pan (.ifc 63 (aN.av e1))))) fun r0 =>
 γ101 [.ptr 2000000000 0, dIq 256] [⟨66, (aI.avs r0.2)⟩] [] (fun e3 =>
 (some (.pan (.ifc 63 (aN.av e3))))) fun r2 =>
 γ38 [.ptr 2000000000 0] [⟨66, (aI.avs r2.2)⟩] [] (fun e5 =>
 (some (.pan (.ifc 63 (aN.av e5))))) fun r4 =>
 γ75 [.ptr 2000000000 0, dIq 2] [⟨66, (aI.avs r4.2)⟩] [] (fun e7 =>
 (some (.pan (.ifc 63 (aN.av e7))))) fun r6 =>
 γ38 [.ptr 2000000000 0] [⟨66, (aI.avs r6.2)⟩] [] (fun e9 =>
 (some (.pan (.ifc 63 (aN.av e9))))) fun r8 =>
 γ38 [.ptr 2000000000 0] [⟨66, (aI.avs r8.2)⟩] [] (fun e11 =>
 (some (.pan (.ifc 63 (aN.av e11))))) fun r10 =>
 γ101 [.ptr 2000000000 0, dIq 16] [⟨66, (aI.avs r10.2)⟩] [] (fun e13 =>
 (some (.pan (.ifc 63 (aN.av e13))))) fun r12 =>
 γ38 [.ptr 2000000000 0] [⟨66, (aI.avs r12.2)⟩] [] (fun e15 =>
 (some (.pan (.ifc 63 (aN.av e15))))) fun r14 =>
 γ103 [.ptr 2000000000 0, dIq 8] [⟨66, (aI.avs r14.2)⟩] [] (fun e17 =>
 (some (.pan (.ifc 63 (aN.av e17))))) fun r16 =>
 aoU (C76 Γ γ101 γ38 γ75 γ103) Λ2 J r16.1 0 [D.str [], D.str [], D.int .i64 0, D.bool false, D.int .i64 0, D.int .i64 0, D.str [], D.int .i64 0, D.sl aC.ks (List.map aC.enc [])] r0.1 r2.1 r4.1 (r6.1 == 1) r8.1 r10.1 r12.1 r14.1 (aI.enc r16.2) (List.map aC.enc []) := by kernel_rfl
theorem axq (x32 x33 : Int) (b0 : aF) (b1_0 b1_1 : Str) (b1_2 : Int) (b1_3 : Bool) (b1_4 b1_5 : Int) (b1_6 : Str) (b1_7 : Int) (q0 : aI) (w50108 : List aC) : cJ SE (C76 Γ γ101 γ38 γ75 γ103) Λ2 J 76 1 [1, 1, 1, 1, 1, 1, 1, 1, 1, 1, 0, 1, 0] (bA [(0, .ptr 2000000000 0), (2, .ptr 1000000000 0), (3, .ptr 1000000001 0), (32, dIq x32), (33, dIq x33)] [⟨24, (List.map AV.d (aF.enc b0))⟩, ⟨24, [dSq b1_0, dSq b1_1, dIq b1_2, dBq b1_3, dIq b1_4, dIq b1_5, dSq b1_6, dIq b1_7, .row 50108]⟩] [⟨66, (List.map AV.d (aI.enc q0))⟩] [] [(50108, ⟨aC.ks, 89, 32, (List.map aC.enc w50108)⟩)]) =
 cond (decide (x33 < x32)) (
 γ101 [.ptr 2000000000 0, dIq 16] [⟨66, (aI.avs q0)⟩] [] (fun e19 =>
  (some (.pan (.ifc 63 (aN.av e19))))) fun r18 =>
 γ101 [.ptr 2000000000 0, dIq 160] [⟨66, (aI.avs r18.2)⟩] [] (fun e21 =>
  (some (.pan (.ifc 63 (aN.av e21))))) fun r20 =>
 cond (decide ((lM aC.enc w50108 + lM aC.enc [(aC.mk r18.1 r20.1)]) * 32 ≤ 140737488355328)) (
  aoU (C76 Γ γ101 γ38 γ75 γ103) Λ2 J x32 (w6 (x33 + 1)) (aF.enc b0) b1_0 b1_1 b1_2 b1_3 b1_4 b1_5 b1_6 b1_7 (aI.enc r20.2) (((List.map aC.enc w50108) ++ (List.map aC.enc [(aC.mk r18.1 r20.1)])))) none) (
 (some (oG ((aF.mk b1_0 b1_1 b1_2 b1_3 b1_4 b1_5 b1_6 b1_7 w50108), q0)))) := by kernel_rfl
end
abbrev X76 : aR := C76 gG (cP 101 eC) (cP 38 cH) (cP 75 dA) (cP 103 fC)
theorem ax0 : X76 = aS gG := by unfold X76 C76; rw [eP fun _ h => h, eP fun _ h => h, eP fun _ h => h, eP fun _ h => h]
abbrev ayi := aoU X76 (cB SE gG (SE.hl 76) (SE.hr 76)) (J0 SE X76)
theorem aa2 : ∀ (fu : Nat) (x32 x33 : Int) (b0 : aF) (b1_0 b1_1 : Str) (b1_2 : Int) (b1_3 : Bool) (b1_4 b1_5 : Int) (b1_6 : Str) (b1_7 : Int) (q0 : aI) (w50108 : List aC), Le (Option.map dX (gN fu x32 x33 b0 b1_0 b1_1 b1_2 b1_3 b1_4 b1_5 b1_6 b1_7 q0 w50108)) (ayi x32 x33 (aF.enc b0) b1_0 b1_1 b1_2 b1_3 b1_4 b1_5 b1_6 b1_7 (aI.enc q0) (List.map aC.enc w50108)) := by
 intro fu
 induction fu with
 | zero => intros; exact le_none
 | succ fu ih =>
  intro x32 x33 b0 b1_0 b1_1 b1_2 b1_3 b1_4 b1_5 b1_6 b1_7 q0 w50108
  refine Le.trans ?_ (le_of_eq ((bD ax0).trans (axq ..)).symm)
  unfold gN
  refine lC ?_ ?_
  ·refine bY (good := good) eX eS (eZ _ _) (fun e19 _ => ?_) (fun r18 _ => ?_)
   ·exact aG rfl
   ·refine bY (good := good) eX eS (eZ _ _) (fun e21 _ => ?_) (fun r20 _ => ?_)
    ·exact aG rfl
    ·refine lGe ?_
     (try simp only [EN]); exact ih x32 (w6 (x33 + 1)) b0 b1_0 b1_1 b1_2 b1_3 b1_4 b1_5 b1_6 b1_7 r20.2 (w50108 ++ [(aC.mk r18.1 r20.1)])
  ·exact aG rfl
theorem vL (p0 : aI) : Le (Option.map dX (jE p0)) (bF SE 76 [.ptr 2000000000 0] [⟨66, (aI.avs p0)⟩] []) := by
 refine aZ ax0 rfl ?_
 refine Le.trans ?_ (le_of_eq (T76 ..).symm)
 unfold jE
 refine bY (good := good) eX eS (eZ _ _) (fun e1 _ => ?_) (fun r0 _ => ?_)
 ·exact aG rfl
 ·refine bY (good := good) eX eS (eZ _ _) (fun e3 _ => ?_) (fun r2 _ => ?_)
  ·exact aG rfl
  ·refine bY (good := good) eX bR (bW _) (fun e5 _ => ?_) (fun r4 _ => ?_)
   ·exact aG rfl
   ·refine bY (good := good) eX j4 (kF _ _) (fun e7 _ => ?_) (fun r6 _ => ?_)
    ·exact aG rfl
    ·refine bY (good := good) eX bR (bW _) (fun e9 _ => ?_) (fun r8 _ => ?_)
     ·exact aG rfl
     ·refine bY (good := good) eX bR (bW _) (fun e11 _ => ?_) (fun r10 _ => ?_)
      ·exact aG rfl
      ·refine bY (good := good) eX eS (eZ _ _) (fun e13 _ => ?_) (fun r12 _ => ?_)
       ·exact aG rfl
       ·refine bY (good := good) eX bR (bW _) (fun e15 _ => ?_) (fun r14 _ => ?_)
        ·exact aG rfl
        ·refine bY (good := good) eX wS (xS _ _) (fun e17 _ => ?_) (fun r16 _ => ?_)
         ·exact aG rfl
         ·(try simp only [EN]); exact aa2 fuel r16.1 0 (zMq) r0.1 r2.1 r4.1 (r6.1 == 1) r8.1 r10.1 r12.1 r14.1 r16.2 []
section
variable (Γ : Fun) (γ101 : Gp aN (Str × aI)) (γ75 : Gp aN (Int × aI)) (γ102 : Gm (Bool)) (γ38 : Gp aN (Int × aI)) (γ76 : Gp aN (aF × aI)) (Λ2 J : Lam)
def C74 : aR := nS (nS (bE (nS (nS (aS Γ) 101 eC γ101) 75 dA γ75) 102 brokerref05_SameProps_out γ102) 38 cH γ38) 76 dX γ76
theorem T74 (p0 : aI) : bK SE (C74 Γ γ101 γ75 γ102 γ38 γ76) Λ2 J 74 [.ptr 2000000000 0] [⟨66, (aI.avs p0)⟩] [] =
 γ101 [.ptr 2000000000 0, dIq 16] [⟨66, (aI.avs p0)⟩] [] (fun e1 =>
 (some (.pan (.ifc 63 (aN.av e1))))) fun r0 =>
 γ101 [.ptr 2000000000 0, dIq 16] [⟨66, (aI.avs r0.2)⟩] [] (fun e3 =>
 (some (.pan (.ifc 63 (aN.av e3))))) fun r2 =>
 γ75 [.ptr 2000000000 0, dIq 4] [⟨66, (aI.avs r2.2)⟩] [] (fun e5 =>
 (some (.pan (.ifc 63 (aN.av e5))))) fun r4 =>
 γ102 [dIq r4.1, dIq 0] [] [] fun r6 =>
 γ102 [dIq r4.1, dIq 1] [] [] fun r7 =>
 γ38 [.ptr 2000000000 0] [⟨66, (aI.avs r4.2)⟩] [] (fun e9 =>
 (some (.pan (.ifc 63 (aN.av e9))))) fun r8 =>
 γ38 [.ptr 2000000000 0] [⟨66, (aI.avs r8.2)⟩] [] (fun e11 =>
 (some (.pan (.ifc 63 (aN.av e11))))) fun r10 =>
 γ38 [.ptr 2000000000 0] [⟨66, (aI.avs r10.2)⟩] [] (fun e13 =>
 (some (.pan (.ifc 63 (aN.av e13))))) fun r12 =>
 cond r7 (
 γ38 [.ptr 2000000000 0] [⟨66, (aI.avs r12.2)⟩] [] (fun e15 =>
  (some (.pan (.ifc 63 (aN.av e15))))) fun r14 =>
 γ76 [.ptr 2000000000 0] [⟨66, (aI.avs r14.2)⟩] [] (fun e17 =>
  (some (.pan (.ifc 63 (aN.av e17))))) fun r16 =>
 (some (oF (((aA.mk 1 0 false zMq r0.1 r2.1 r6 r8.1 r10.1 r12.1 (aV.mk r7 r14.1 r16.1) false 0 [] [] []), r16.2))))) (
 (some (oF (((aA.mk 1 0 false zMq r0.1 r2.1 r6 r8.1 r10.1 r12.1 (aV.mk r7 0 zMq) false 0 [] [] []), r12.2))))) := by kernel_rfl
end
abbrev X74 : aR := C74 gG (cP 101 eC) (cP 75 dA) (cT 102 brokerref05_SameProps_out) (cP 38 cH) (cP 76 dX)
theorem aC5 : X74 = aS gG := by unfold X74 C74; rw [eP fun _ h => h, eP fun _ h => h, bH fun _ h => h, eP fun _ h => h, eP fun _ h => h]
theorem acw (p0 : aI) : Le (Option.map gU (kT p0)) (bF SE 74 [.ptr 2000000000 0] [⟨66, (aI.avs p0)⟩] []) := by
 refine aZ aC5 rfl ?_
 refine Le.trans ?_ (le_of_eq (T74 ..).symm)
 unfold kT
 refine bY (good := good) eX eS (eZ _ _) (fun e1 _ => ?_) (fun r0 _ => ?_)
 ·exact aG rfl
 ·refine bY (good := good) eX eS (eZ _ _) (fun e3 _ => ?_) (fun r2 _ => ?_)
  ·exact aG rfl
  ·refine bY (good := good) eX j4 (kF _ _) (fun e5 _ => ?_) (fun r4 _ => ?_)
   ·exact aG rfl
   ·refine lQ eX brokerref05_SameProps_inj (aiq _ _) fun r6 _ => ?_
    refine lQ eX brokerref05_SameProps_inj (aiq _ _) fun r7 _ => ?_
    refine bY (good := good) eX bR (bW _) (fun e9 _ => ?_) (fun r8 _ => ?_)
    ·exact aG rfl
    ·refine bY (good := good) eX bR (bW _) (fun e11 _ => ?_) (fun r10 _ => ?_)
     ·exact aG rfl
     ·refine bY (good := good) eX bR (bW _) (fun e13 _ => ?_) (fun r12 _ => ?_)
      ·exact aG rfl
      ·refine lC ?_ ?_
       ·refine bY (good := good) eX bR (bW _) (fun e15 _ => ?_) (fun r14 _ => ?_)
        ·exact aG rfl
        ·refine bY (good := good) eX uN (vL _) (fun e17 _ => ?_) (fun r16 _ => ?_)
         ·exact aG rfl
         ·exact aG rfl
       ·exact aG rfl
def alp (C : aR) (Λ2 J : Lam) (a0 a1 : Int) (a2 : List D) (a3 a4 : Int) (a5 : Bool) (a6 a7 : Str) (a8 : Int) (a9 : Bool) (a10 a11 : Int) (a12 : Str) (a13 : Int) (a14 : List (List D)) (a15 a16 : Str) (a17 : Bool) (a18 a19 a20 : Int) (a21 : Bool) (a22 : Int) (a23 a24 : Str) (a25 : Int) (a26 : Bool) (a27 a28 : Int) (a29 : Str) (a30 : Int) (a31 : List (List D)) (a32 : Bool) (a33 : Int) (a34 : List D) (a35 a36 a37 : List (List D)) : Res := lab SE C Λ2 J 77 1 [1, 1, 0, 1, 0] (bA [(0, .ptr 2000000000 0), (4, .ptr 1000000000 0), (5, .ptr 1000000001 0), (9, dIq a0), (10, dIq a1)] [⟨31, (List.map AV.d a2)⟩, ⟨31, [dIq a3, dIq a4, dBq a5, dSq a6, dSq a7, dIq a8, dBq a9, dIq a10, dIq a11, dSq a12, dIq a13, .d (.sl aC.ks a14), dSq a15, dSq a16, dBq a17, dIq a18, dIq a19, dIq a20, dBq a21, dIq a22, dSq a23, dSq a24, dIq a25, dBq a26, dIq a27, dIq a28, dSq a29, dIq a30, .d (.sl aC.ks a31), dBq a32, dIq a33, .row 50131, .row 50132, .row 50133]⟩] [⟨66, (List.map AV.d a34)⟩] [] [(50131, ⟨aH.ks, 53, 32, a35⟩), (50132, ⟨[.str], 9, 16, a36⟩), (50133, ⟨[.int .i64], 3, 8, a37⟩)])
section
variable (Γ : Fun) (γ103 : Gp aN (Int × aI)) (γ101 : Gp aN (Str × aI)) (γ38 γ75 : Gp aN (Int × aI)) (Λ2 J : Lam)
def C77 : aR := nS (nS (nS (nS (aS Γ) 103 fC γ103) 101 eC γ101) 38 cH γ38) 75 dA γ75
theorem T77 (p0 : aI) (p1 : aA) : bK SE (C77 Γ γ103 γ101 γ38 γ75) Λ2 J 77 [.ptr 2000000000 0, .agg [dIq p1.Kind, dIq p1.ID, dBq p1.Dup, dSq p1.Message.Topic, dSq p1.Message.Payload, dIq p1.Message.Level, dBq p1.Message.Retain, dIq p1.Message.Priority, dIq p1.Message.Expires, dSq p1.Message.From, dIq p1.Message.Seq, .d (.sl aC.ks (List.map aC.enc p1.Message.Props)), dSq p1.Client, dSq p1.User, dBq p1.Clean, dIq p1.Keep, dIq p1.Expiry, dIq p1.Window, dBq p1.Will.Set, dIq p1.Will.Delay, dSq p1.Will.Message.Topic, dSq p1.Will.Message.Payload, dIq p1.Will.Message.Level, dBq p1.Will.Message.Retain, dIq p1.Will.Message.Priority, dIq p1.Will.Message.Expires, dSq p1.Will.Message.From, dIq p1.Will.Message.Seq, .d (.sl aC.ks (List.map aC.enc p1.Will.Message.Props)), dBq p1.Present, dIq p1.Code, .row 2000000000, .row 2000000001, .row 2000000002]] [⟨66, (aI.avs p0)⟩] [⟨aH.ks, 53, 32, (List.map aH.enc p1.Subs)⟩, ⟨[.str], 9, 16, (List.map aY p1.Filters)⟩, ⟨[.int .i64], 3, 8, (List.map eI p1.Codes)⟩] =
 γ103 [.ptr 2000000000 0, dIq 32] [⟨66, (aI.avs p0)⟩] [] (fun e1 =>
 (some (.pan (.ifc 63 (aN.av e1))))) fun r0 =>
 alp (C77 Γ γ103 γ101 γ38 γ75) Λ2 J r0.1 0 [D.int .i64 0, D.int .i64 0, D.bool false, D.str [], D.str [], D.int .i64 0, D.bool false, D.int .i64 0, D.int .i64 0, D.str [], D.int .i64 0, D.sl aC.ks (List.map aC.enc []), D.str [], D.str [], D.bool false, D.int .i64 0, D.int .i64 0, D.int .i64 0, D.bool false, D.int .i64 0, D.str [], D.str [], D.int .i64 0, D.bool false, D.int .i64 0, D.int .i64 0, D.str [], D.int .i64 0, D.sl aC.ks (List.map aC.enc []), D.bool false, D.int .i64 0, D.sl aH.ks (List.map aH.enc []), D.sl [.str] (List.map aY []), D.sl [.int .i64] (List.map eI [])] p1.Kind p1.ID p1.Dup p1.Message.Topic p1.Message.Payload p1.Message.Level p1.Message.Retain p1.Message.Priority p1.Message.Expires p1.Message.From p1.Message.Seq (List.map aC.enc p1.Message.Props) p1.Client p1.User p1.Clean p1.Keep p1.Expiry p1.Window p1.Will.Set p1.Will.Delay p1.Will.Message.Topic p1.Will.Message.Payload p1.Will.Message.Level p1.Will.Message.Retain p1.Will.Message.Priority p1.Will.Message.Expires p1.Will.Message.From p1.Will.Message.Seq (List.map aC.enc p1.Will.Message.Props) p1.Present p1.Code (aI.enc r0.2) (List.map aH.enc p1.Subs) (List.map aY p1.Filters) (List.map eI p1.Codes) := by kernel_rfl
theorem az1 (x9 x10 : Int) (b0 : aA) (b1_0 b1_1 : Int) (b1_2 : Bool) (b1_3 b1_4 : Str) (b1_5 : Int) (b1_6 : Bool) (b1_7 b1_8 : Int) (b1_9 : Str) (b1_10 : Int) (b1_11 : List aC) (b1_12 b1_13 : Str) (b1_14 : Bool) (b1_15 b1_16 b1_17 : Int) (b1_18 : Bool) (b1_19 : Int) (b1_20 b1_21 : Str) (b1_22 : Int) (b1_23 : Bool) (b1_24 b1_25 : Int) (b1_26 : Str) (b1_27 : Int) (b1_28 : List aC) (b1_29 : Bool) (b1_30 : Int) (q0 : aI) (w50131 : List aH) (w50132 : List Str) (w50133 : List Int) : cJ SE (C77 Γ γ103 γ101 γ38 γ75) Λ2 J 77 1 [1, 1, 0, 1, 0] (bA [(0, .ptr 2000000000 0), (4, .ptr 1000000000 0), (5, .ptr 1000000001 0), (9, dIq x9), (10, dIq x10)] [⟨31, (List.map AV.d (aA.enc b0))⟩, ⟨31, [dIq b1_0, dIq b1_1, dBq b1_2, dSq b1_3, dSq b1_4, dIq b1_5, dBq b1_6, dIq b1_7, dIq b1_8, dSq b1_9, dIq b1_10, .d (.sl aC.ks (List.map aC.enc b1_11)), dSq b1_12, dSq b1_13, dBq b1_14, dIq b1_15, dIq b1_16, dIq b1_17, dBq b1_18, dIq b1_19, dSq b1_20, dSq b1_21, dIq b1_22, dBq b1_23, dIq b1_24, dIq b1_25, dSq b1_26, dIq b1_27, .d (.sl aC.ks (List.map aC.enc b1_28)), dBq b1_29, dIq b1_30, .row 50131, .row 50132, .row 50133]⟩] [⟨66, (List.map AV.d (aI.enc q0))⟩] [] [(50131, ⟨aH.ks, 53, 32, (List.map aH.enc w50131)⟩), (50132, ⟨[.str], 9, 16, (List.map aY w50132)⟩), (50133, ⟨[.int .i64], 3, 8, (List.map eI w50133)⟩)]) =
 cond (decide (x10 < x9)) (
 cond (b1_0 == 8) (
  γ101 [.ptr 2000000000 0, dIq 88] [⟨66, (aI.avs q0)⟩] [] (fun e3 =>
  (some (.pan (.ifc 63 (aN.av e3))))) fun r2 =>
  γ38 [.ptr 2000000000 0] [⟨66, (aI.avs r2.2)⟩] [] (fun e5 =>
  (some (.pan (.ifc 63 (aN.av e5))))) fun r4 =>
  γ75 [.ptr 2000000000 0, dIq 2] [⟨66, (aI.avs r4.2)⟩] [] (fun e7 =>
  (some (.pan (.ifc 63 (aN.av e7))))) fun r6 =>
  cond (decide ((lM aH.enc w50131 + lM aH.enc [(aH.mk r2.1 r4.1 (r6.1 == 1))]) * 32 ≤ 140737488355328)) (
  alp (C77 Γ γ103 γ101 γ38 γ75) Λ2 J x9 (w6 (x10 + 1)) (aA.enc b0) b1_0 b1_1 b1_2 b1_3 b1_4 b1_5 b1_6 b1_7 b1_8 b1_9 b1_10 (List.map aC.enc b1_11) b1_12 b1_13 b1_14 b1_15 b1_16 b1_17 b1_18 b1_19 b1_20 b1_21 b1_22 b1_23 b1_24 b1_25 b1_26 b1_27 (List.map aC.enc b1_28) b1_29 b1_30 (aI.enc r6.2) (((List.map aH.enc w50131) ++ (List.map aH.enc [(aH.mk r2.1 r4.1 (r6.1 == 1))]))) (List.map aY w50132) (List.map eI w50133)) none) (
 cond (b1_0 == 10) (
  γ101 [.ptr 2000000000 0, dIq 88] [⟨66, (aI.avs q0)⟩] [] (fun e9 =>
  (some (.pan (.ifc 63 (aN.av e9))))) fun r8 =>
  cond (decide ((lM aY w50132 + lM aY [r8.1]) * 16 ≤ 140737488355328)) (
  alp (C77 Γ γ103 γ101 γ38 γ75) Λ2 J x9 (w6 (x10 + 1)) (aA.enc b0) b1_0 b1_1 b1_2 b1_3 b1_4 b1_5 b1_6 b1_7 b1_8 b1_9 b1_10 (List.map aC.enc b1_11) b1_12 b1_13 b1_14 b1_15 b1_16 b1_17 b1_18 b1_19 b1_20 b1_21 b1_22 b1_23 b1_24 b1_25 b1_26 b1_27 (List.map aC.enc b1_28) b1_29 b1_30 (aI.enc r8.2) (List.map aH.enc w50131) (((List.map aY w50132) ++ (List.map aY [r8.1]))) (List.map eI w50133)) none) (
 γ38 [.ptr 2000000000 0] [⟨66, (aI.avs q0)⟩] [] (fun e11 =>
  (some (.pan (.ifc 63 (aN.av e11))))) fun r10 =>
 cond (decide ((lM eI w50133 + lM eI [r10.1]) * 8 ≤ 140737488355328)) (
  alp (C77 Γ γ103 γ101 γ38 γ75) Λ2 J x9 (w6 (x10 + 1)) (aA.enc b0) b1_0 b1_1 b1_2 b1_3 b1_4 b1_5 b1_6 b1_7 b1_8 b1_9 b1_10 (List.map aC.enc b1_11) b1_12 b1_13 b1_14 b1_15 b1_16 b1_17 b1_18 b1_19 b1_20 b1_21 b1_22 b1_23 b1_24 b1_25 b1_26 b1_27 (List.map aC.enc b1_28) b1_29 b1_30 (aI.enc r10.2) (List.map aH.enc w50131) (List.map aY w50132) (((List.map eI w50133) ++ (List.map eI [r10.1])))) none))) (
 (some (pU (((aA.mk b1_0 b1_1 b1_2 (aF.mk b1_3 b1_4 b1_5 b1_6 b1_7 b1_8 b1_9 b1_10 b1_11) b1_12 b1_13 b1_14 b1_15 b1_16 b1_17 (aV.mk b1_18 b1_19 (aF.mk b1_20 b1_21 b1_22 b1_23 b1_24 b1_25 b1_26 b1_27 b1_28)) b1_29 b1_30 w50131 w50132 w50133), q0))))) := by kernel_rfl
end
abbrev X77 : aR := C77 gG (cP 103 fC) (cP 101 eC) (cP 38 cH) (cP 75 dA)
theorem azx : X77 = aS gG := by unfold X77 C77; rw [eP fun _ h => h, eP fun _ h => h, eP fun _ h => h, eP fun _ h => h]
abbrev aBs := alp X77 (cB SE gG (SE.hl 77) (SE.hr 77)) (J0 SE X77)
theorem abY : ∀ (fu : Nat) (x9 x10 : Int) (b0 : aA) (b1_0 b1_1 : Int) (b1_2 : Bool) (b1_3 b1_4 : Str) (b1_5 : Int) (b1_6 : Bool) (b1_7 b1_8 : Int) (b1_9 : Str) (b1_10 : Int) (b1_11 : List aC) (b1_12 b1_13 : Str) (b1_14 : Bool) (b1_15 b1_16 b1_17 : Int) (b1_18 : Bool) (b1_19 : Int) (b1_20 b1_21 : Str) (b1_22 : Int) (b1_23 : Bool) (b1_24 b1_25 : Int) (b1_26 : Str) (b1_27 : Int) (b1_28 : List aC) (b1_29 : Bool) (b1_30 : Int) (q0 : aI) (w50131 : List aH) (w50132 : List Str) (w50133 : List Int), Le (Option.map fT (cO fu x9 x10 b0 b1_0 b1_1 b1_2 b1_3 b1_4 b1_5 b1_6 b1_7 b1_8 b1_9 b1_10 b1_11 b1_12 b1_13 b1_14 b1_15 b1_16 b1_17 b1_18 b1_19 b1_20 b1_21 b1_22 b1_23 b1_24 b1_25 b1_26 b1_27 b1_28 b1_29 b1_30 q0 w50131 w50132 w50133)) (aBs x9 x10 (aA.enc b0) b1_0 b1_1 b1_2 b1_3 b1_4 b1_5 b1_6 b1_7 b1_8 b1_9 b1_10 (List.map aC.enc b1_11) b1_12 b1_13 b1_14 b1_15 b1_16 b1_17 b1_18 b1_19 b1_20 b1_21 b1_22 b1_23 b1_24 b1_25 b1_26 b1_27 (List.map aC.enc b1_28) b1_29 b1_30 (aI.enc q0) (List.map aH.enc w50131) (List.map aY w50132) (List.map eI w50133)) := by
 intro fu
 induction fu with
 | zero => intros; exact le_none
 | succ fu ih =>
  intro x9 x10 b0 b1_0 b1_1 b1_2 b1_3 b1_4 b1_5 b1_6 b1_7 b1_8 b1_9 b1_10 b1_11 b1_12 b1_13 b1_14 b1_15 b1_16 b1_17 b1_18 b1_19 b1_20 b1_21 b1_22 b1_23 b1_24 b1_25 b1_26 b1_27 b1_28 b1_29 b1_30 q0 w50131 w50132 w50133
  refine Le.trans ?_ (le_of_eq ((bD azx).trans (az1 ..)).symm)
  unfold cO
  refine lC ?_ ?_
  ·refine lC ?_ ?_
   ·refine bY (good := good) eX eS (eZ _ _) (fun e3 _ => ?_) (fun r2 _ => ?_)
    ·exact aG rfl
    ·refine bY (good := good) eX bR (bW _) (fun e5 _ => ?_) (fun r4 _ => ?_)
     ·exact aG rfl
     ·refine bY (good := good) eX j4 (kF _ _) (fun e7 _ => ?_) (fun r6 _ => ?_)
      ·exact aG rfl
      ·refine lGe ?_
       (try simp only [EN]); exact ih x9 (w6 (x10 + 1)) b0 b1_0 b1_1 b1_2 b1_3 b1_4 b1_5 b1_6 b1_7 b1_8 b1_9 b1_10 b1_11 b1_12 b1_13 b1_14 b1_15 b1_16 b1_17 b1_18 b1_19 b1_20 b1_21 b1_22 b1_23 b1_24 b1_25 b1_26 b1_27 b1_28 b1_29 b1_30 r6.2 (w50131 ++ [(aH.mk r2.1 r4.1 (r6.1 == 1))]) w50132 w50133
   ·refine lC ?_ ?_
    ·refine bY (good := good) eX eS (eZ _ _) (fun e9 _ => ?_) (fun r8 _ => ?_)
     ·exact aG rfl
     ·refine lGe ?_
      (try simp only [EN]); exact ih x9 (w6 (x10 + 1)) b0 b1_0 b1_1 b1_2 b1_3 b1_4 b1_5 b1_6 b1_7 b1_8 b1_9 b1_10 b1_11 b1_12 b1_13 b1_14 b1_15 b1_16 b1_17 b1_18 b1_19 b1_20 b1_21 b1_22 b1_23 b1_24 b1_25 b1_26 b1_27 b1_28 b1_29 b1_30 r8.2 w50131 (w50132 ++ [r8.1]) w50133
    ·refine bY (good := good) eX bR (bW _) (fun e11 _ => ?_) (fun r10 _ => ?_)
     ·exact aG rfl
     ·refine lGe ?_
      (try simp only [EN]); exact ih x9 (w6 (x10 + 1)) b0 b1_0 b1_1 b1_2 b1_3 b1_4 b1_5 b1_6 b1_7 b1_8 b1_9 b1_10 b1_11 b1_12 b1_13 b1_14 b1_15 b1_16 b1_17 b1_18 b1_19 b1_20 b1_21 b1_22 b1_23 b1_24 b1_25 b1_26 b1_27 b1_28 b1_29 b1_30 r10.2 w50131 w50132 (w50133 ++ [r10.1])
  ·exact aG rfl
theorem mW (p0 : aI) (p1 : aA) : Le (Option.map fT (dV p0 p1)) (bF SE 77 [.ptr 2000000000 0, .agg [dIq p1.Kind, dIq p1.ID, dBq p1.Dup, dSq p1.Message.Topic, dSq p1.Message.Payload, dIq p1.Message.Level, dBq p1.Message.Retain, dIq p1.Message.Priority, dIq p1.Message.Expires, dSq p1.Message.From, dIq p1.Message.Seq, .d (.sl aC.ks (List.map aC.enc p1.Message.Props)), dSq p1.Client, dSq p1.User, dBq p1.Clean, dIq p1.Keep, dIq p1.Expiry, dIq p1.Window, dBq p1.Will.Set, dIq p1.Will.Delay, dSq p1.Will.Message.Topic, dSq p1.Will.Message.Payload, dIq p1.Will.Message.Level, dBq p1.Will.Message.Retain, dIq p1.Will.Message.Priority, dIq p1.Will.Message.Expires, dSq p1.Will.Message.From, dIq p1.Will.Message.Seq, .d (.sl aC.ks (List.map aC.enc p1.Will.Message.Props)), dBq p1.Present, dIq p1.Code, .row 2000000000, .row 2000000001, .row 2000000002]] [⟨66, (aI.avs p0)⟩] [⟨aH.ks, 53, 32, (List.map aH.enc p1.Subs)⟩, ⟨[.str], 9, 16, (List.map aY p1.Filters)⟩, ⟨[.int .i64], 3, 8, (List.map eI p1.Codes)⟩]) := by
 refine aZ azx rfl ?_
 refine Le.trans ?_ (le_of_eq (T77 ..).symm)
 unfold dV
 refine bY (good := good) eX wS (xS _ _) (fun e1 _ => ?_) (fun r0 _ => ?_)
 ·exact aG rfl
 ·(try simp only [EN]); exact abY fuel r0.1 0 (zPq) p1.Kind p1.ID p1.Dup p1.Message.Topic p1.Message.Payload p1.Message.Level p1.Message.Retain p1.Message.Priority p1.Message.Expires p1.Message.From p1.Message.Seq p1.Message.Props p1.Client p1.User p1.Clean p1.Keep p1.Expiry p1.Window p1.Will.Set p1.Will.Delay p1.Will.Message.Topic p1.Will.Message.Payload p1.Will.Message.Level p1.Will.Message.Retain p1.Will.Message.Priority p1.Will.Message.Expires p1.Will.Message.From p1.Will.Message.Seq p1.Will.Message.Props p1.Present p1.Code r0.2 p1.Subs p1.Filters p1.Codes
section
variable (Γ : Fun) (γ74 : Gp aN (aA × aI)) (γ75 γ38 : Gp aN (Int × aI)) (γ76 : Gp aN (aF × aI)) (γ77 : Gp aN (aA × aI)) (Λ2 J : Lam)
def C40 : aR := nS (nS (nS (nS (nS (aS Γ) 74 gU γ74) 75 dA γ75) 38 cH γ38) 76 dX γ76) 77 fT γ77
theorem T40 (p0 : aI) (p1 : Int) : bK SE (C40 Γ γ74 γ75 γ38 γ76 γ77) Λ2 J 40 [.ptr 2000000000 0, dIq p1] [⟨66, (aI.avs p0)⟩] [] =
 cond (p1 == 1) (
 γ74 [.ptr 2000000000 0] [⟨66, (aI.avs p0)⟩] [] (fun e1 =>
  (some (.pan (.ifc 63 (aN.av e1))))) fun r0 =>
 (some (oT (r0.1, r0.2)))) (
 cond (p1 == 2) (
 γ75 [.ptr 2000000000 0, dIq 2] [⟨66, (aI.avs p0)⟩] [] (fun e3 =>
  (some (.pan (.ifc 63 (aN.av e3))))) fun r2 =>
 γ38 [.ptr 2000000000 0] [⟨66, (aI.avs r2.2)⟩] [] (fun e5 =>
  (some (.pan (.ifc 63 (aN.av e5))))) fun r4 =>
 (some (oT (((aA.mk p1 0 false zMq [] [] false 0 0 0 zWq (r2.1 == 1) r4.1 [] [] []), r4.2))))) (
 cond (p1 == 3) (
 γ38 [.ptr 2000000000 0] [⟨66, (aI.avs p0)⟩] [] (fun e7 =>
  (some (.pan (.ifc 63 (aN.av e7))))) fun r6 =>
 γ75 [.ptr 2000000000 0, dIq 2] [⟨66, (aI.avs r6.2)⟩] [] (fun e9 =>
  (some (.pan (.ifc 63 (aN.av e9))))) fun r8 =>
 γ76 [.ptr 2000000000 0] [⟨66, (aI.avs r8.2)⟩] [] (fun e11 =>
  (some (.pan (.ifc 63 (aN.av e11))))) fun r10 =>
 (some (oT (((aA.mk p1 r6.1 (r8.1 == 1) r10.1 [] [] false 0 0 0 zWq false 0 [] [] []), r10.2))))) (
 cond (p1 == 4) (
 γ38 [.ptr 2000000000 0] [⟨66, (aI.avs p0)⟩] [] (fun e13 =>
  (some (.pan (.ifc 63 (aN.av e13))))) fun r12 =>
 (some (oT (((aA.mk p1 r12.1 false zMq [] [] false 0 0 0 zWq false 0 [] [] []), r12.2))))) (
 cond (p1 == 5) (
 γ38 [.ptr 2000000000 0] [⟨66, (aI.avs p0)⟩] [] (fun e15 =>
  (some (.pan (.ifc 63 (aN.av e15))))) fun r14 =>
 (some (oT (((aA.mk p1 r14.1 false zMq [] [] false 0 0 0 zWq false 0 [] [] []), r14.2))))) (
 cond (p1 == 6) (
 γ38 [.ptr 2000000000 0] [⟨66, (aI.avs p0)⟩] [] (fun e17 =>
  (some (.pan (.ifc 63 (aN.av e17))))) fun r16 =>
 (some (oT (((aA.mk p1 r16.1 false zMq [] [] false 0 0 0 zWq false 0 [] [] []), r16.2))))) (
 cond (p1 == 7) (
 γ38 [.ptr 2000000000 0] [⟨66, (aI.avs p0)⟩] [] (fun e19 =>
  (some (.pan (.ifc 63 (aN.av e19))))) fun r18 =>
 (some (oT (((aA.mk p1 r18.1 false zMq [] [] false 0 0 0 zWq false 0 [] [] []), r18.2))))) (
 cond (p1 == 8) (
 γ38 [.ptr 2000000000 0] [⟨66, (aI.avs p0)⟩] [] (fun e21 =>
  (some (.pan (.ifc 63 (aN.av e21))))) fun r20 =>
 γ77 [.ptr 2000000000 0, .agg [dIq p1, dIq r20.1, dBq false, dSq [], dSq [], dIq 0, dBq false, dIq 0, dIq 0, dSq [], dIq 0, .d (.sl aC.ks (List.map aC.enc [])), dSq [], dSq [], dBq false, dIq 0, dIq 0, dIq 0, dBq false, dIq 0, dSq [], dSq [], dIq 0, dBq false, dIq 0, dIq 0, dSq [], dIq 0, .d (.sl aC.ks (List.map aC.enc [])), dBq false, dIq 0, .row 2000000000, .row 2000000001, .row 2000000002]] [⟨66, (aI.avs r20.2)⟩] [⟨aH.ks, 53, 32, (List.map aH.enc [])⟩, ⟨[.str], 9, 16, (List.map aY [])⟩, ⟨[.int .i64], 3, 8, (List.map eI [])⟩] (fun e23 =>
  (some (.pan (.ifc 63 (aN.av e23))))) fun r22 =>
 (some (oT (r22.1, r22.2)))) (
 cond (p1 == 9) (
 γ38 [.ptr 2000000000 0] [⟨66, (aI.avs p0)⟩] [] (fun e25 =>
  (some (.pan (.ifc 63 (aN.av e25))))) fun r24 =>
 γ77 [.ptr 2000000000 0, .agg [dIq p1, dIq r24.1, dBq false, dSq [], dSq [], dIq 0, dBq false, dIq 0, dIq 0, dSq [], dIq 0, .d (.sl aC.ks (List.map aC.enc [])), dSq [], dSq [], dBq false, dIq 0, dIq 0, dIq 0, dBq false, dIq 0, dSq [], dSq [], dIq 0, dBq false, dIq 0, dIq 0, dSq [], dIq 0, .d (.sl aC.ks (List.map aC.enc [])), dBq false, dIq 0, .row 2000000000, .row 2000000001, .row 2000000002]] [⟨66, (aI.avs r24.2)⟩] [⟨aH.ks, 53, 32, (List.map aH.enc [])⟩, ⟨[.str], 9, 16, (List.map aY [])⟩, ⟨[.int .i64], 3, 8, (List.map eI [])⟩] (fun e27 =>
  (some (.pan (.ifc 63 (aN.av e27))))) fun r26 =>
 (some (oT (r26.1, r26.2)))) (
 cond (p1 == 10) (
 γ38 [.ptr 2000000000 0] [⟨66, (aI.avs p0)⟩] [] (fun e29 =>
  (some (.pan (.ifc 63 (aN.av e29))))) fun r28 =>
 γ77 [.ptr 2000000000 0, .agg [dIq p1, dIq r28.1, dBq false, dSq [], dSq [], dIq 0, dBq false, dIq 0, dIq 0, dSq [], dIq 0, .d (.sl aC.ks (List.map aC.enc [])), dSq [], dSq [], dBq false, dIq 0, dIq 0, dIq 0, dBq false, dIq 0, dSq [], dSq [], dIq 0, dBq false, dIq 0, dIq 0, dSq [], dIq 0, .d (.sl aC.ks (List.map aC.enc [])), dBq false, dIq 0, .row 2000000000, .row 2000000001, .row 2000000002]] [⟨66, (aI.avs r28.2)⟩] [⟨aH.ks, 53, 32, (List.map aH.enc [])⟩, ⟨[.str], 9, 16, (List.map aY [])⟩, ⟨[.int .i64], 3, 8, (List.map eI [])⟩] (fun e31 =>
  (some (.pan (.ifc 63 (aN.av e31))))) fun r30 =>
 (some (oT (r30.1, r30.2)))) (
 cond (p1 == 11) (
 γ38 [.ptr 2000000000 0] [⟨66, (aI.avs p0)⟩] [] (fun e33 =>
  (some (.pan (.ifc 63 (aN.av e33))))) fun r32 =>
 γ77 [.ptr 2000000000 0, .agg [dIq p1, dIq r32.1, dBq false, dSq [], dSq [], dIq 0, dBq false, dIq 0, dIq 0, dSq [], dIq 0, .d (.sl aC.ks (List.map aC.enc [])), dSq [], dSq [], dBq false, dIq 0, dIq 0, dIq 0, dBq false, dIq 0, dSq [], dSq [], dIq 0, dBq false, dIq 0, dIq 0, dSq [], dIq 0, .d (.sl aC.ks (List.map aC.enc [])), dBq false, dIq 0, .row 2000000000, .row 2000000001, .row 2000000002]] [⟨66, (aI.avs r32.2)⟩] [⟨aH.ks, 53, 32, (List.map aH.enc [])⟩, ⟨[.str], 9, 16, (List.map aY [])⟩, ⟨[.int .i64], 3, 8, (List.map eI [])⟩] (fun e35 =>
  (some (.pan (.ifc 63 (aN.av e35))))) fun r34 =>
 (some (oT (r34.1, r34.2)))) (
 cond (p1 == 14) (
 γ38 [.ptr 2000000000 0] [⟨66, (aI.avs p0)⟩] [] (fun e37 =>
  (some (.pan (.ifc 63 (aN.av e37))))) fun r36 =>
 (some (oT (((aA.mk p1 0 false zMq [] [] false 0 0 0 zWq false r36.1 [] [] []), r36.2))))) (
 (some (oT (((aA.mk p1 0 false zMq [] [] false 0 0 0 zWq false 0 [] [] []), p0)))))))))))))))) := by kernel_rfl
end
abbrev X40 : aR := C40 gG (cP 74 gU) (cP 75 dA) (cP 38 cH) (cP 76 dX) (cP 77 fT)
theorem aDF : X40 = aS gG := by unfold X40 C40; rw [eP fun _ h => h, eP fun _ h => h, eP fun _ h => h, eP fun _ h => h, eP fun _ h => h]
theorem wP (p0 : aI) (p1 : Int) : Le (Option.map hQ (fX p0 p1)) (bF SE 40 [.ptr 2000000000 0, dIq p1] [⟨66, (aI.avs p0)⟩] []) := by
 refine aZ aDF rfl ?_
 refine Le.trans ?_ (le_of_eq (T40 ..).symm)
 unfold fX
 refine lC ?_ ?_
 ·refine bY (good := good) eX abS (acw _) (fun e1 _ => ?_) (fun r0 _ => ?_)
  ·exact aG rfl
  ·exact aG rfl
 ·refine lC ?_ ?_
  ·refine bY (good := good) eX j4 (kF _ _) (fun e3 _ => ?_) (fun r2 _ => ?_)
   ·exact aG rfl
   ·refine bY (good := good) eX bR (bW _) (fun e5 _ => ?_) (fun r4 _ => ?_)
    ·exact aG rfl
    ·exact aG rfl
  ·refine lC ?_ ?_
   ·refine bY (good := good) eX bR (bW _) (fun e7 _ => ?_) (fun r6 _ => ?_)
    ·exact aG rfl
    ·refine bY (good := good) eX j4 (kF _ _) (fun e9 _ => ?_) (fun r8 _ => ?_)
     ·exact aG rfl
     ·refine bY (good := good) eX uN (vL _) (fun e11 _ => ?_) (fun r10 _ => ?_)
      ·exact aG rfl
      ·exact aG rfl
   ·refine lC ?_ ?_
    ·refine bY (good := good) eX bR (bW _) (fun e13 _ => ?_) (fun r12 _ => ?_)
     ·exact aG rfl
     ·exact aG rfl
    ·refine lC ?_ ?_
     ·refine bY (good := good) eX bR (bW _) (fun e15 _ => ?_) (fun r14 _ => ?_)
      ·exact aG rfl
      ·exact aG rfl
     ·refine lC ?_ ?_
      ·refine bY (good := good) eX bR (bW _) (fun e17 _ => ?_) (fun r16 _ => ?_)
       ·exact aG rfl
       ·exact aG rfl
      ·refine lC ?_ ?_
       ·refine bY (good := good) eX bR (bW _) (fun e19 _ => ?_) (fun r18 _ => ?_)
        ·exact aG rfl
        ·exact aG rfl
       ·refine lC ?_ ?_
        ·refine bY (good := good) eX bR (bW _) (fun e21 _ => ?_) (fun r20 _ => ?_)
         ·exact aG rfl
         ·refine bY (good := good) eX mM (by (try simp only [EN]); exact mW r20.2 ((aA.mk p1 r20.1 false zMq [] [] false 0 0 0 zWq false 0 [] [] []))) (fun e23 _ => ?_) (fun r22 _ => ?_)
          ·exact aG rfl
          ·exact aG rfl
        ·refine lC ?_ ?_
         ·refine bY (good := good) eX bR (bW _) (fun e25 _ => ?_) (fun r24 _ => ?_)
          ·exact aG rfl
          ·refine bY (good := good) eX mM (by (try simp only [EN]); exact mW r24.2 ((aA.mk p1 r24.1 false zMq [] [] false 0 0 0 zWq false 0 [] [] []))) (fun e27 _ => ?_) (fun r26 _ => ?_)
           ·exact aG rfl
           ·exact aG rfl
         ·refine lC ?_ ?_
          ·refine bY (good := good) eX bR (bW _) (fun e29 _ => ?_) (fun r28 _ => ?_)
           ·exact aG rfl
           ·refine bY (good := good) eX mM (by (try simp only [EN]); exact mW r28.2 ((aA.mk p1 r28.1 false zMq [] [] false 0 0 0 zWq false 0 [] [] []))) (fun e31 _ => ?_) (fun r30 _ => ?_)
            ·exact aG rfl
            ·exact aG rfl
          ·refine lC ?_ ?_
           ·refine bY (good := good) eX bR (bW _) (fun e33 _ => ?_) (fun r32 _ => ?_)
            ·exact aG rfl
            ·refine bY (good := good) eX mM (by (try simp only [EN]); exact mW r32.2 ((aA.mk p1 r32.1 false zMq [] [] false 0 0 0 zWq false 0 [] [] []))) (fun e35 _ => ?_) (fun r34 _ => ?_)
             ·exact aG rfl
             ·exact aG rfl
           ·refine lC ?_ ?_
            ·refine bY (good := good) eX bR (bW _) (fun e37 _ => ?_) (fun r36 _ => ?_)
             ·exact aG rfl
             ·exact aG rfl
            ·exact aG rfl
section
variable (Γ : Fun) (γ38 : Gp aN (Int × aI)) (γ39 : Gp aN (Unit)) (γ40 : Gp aN (aA × aI)) (γ25 : Gm (Int)) (Λ2 J : Lam)
def C14 : aR := bE (nS (nS (nS (aS Γ) 38 cH γ38) 39 gB γ39) 40 hQ γ40) 25 brokerref05_Props_out γ25
theorem T14 (p0 : List Int) : ah7 SE (C14 Γ γ38 γ39 γ40 γ25) 14 apd [.d (.sl [.int .u8] (List.map (aO .u8) p0))] [] [] =
 cond (decide ((lM (aO .u8) p0 : Int) > 4096)) (
 (some (fB ((zPq, 5))))) (
 γ38 [.ptr 2000000000 0] [⟨66, (aI.avs (aI.mk p0 0))⟩] [] (fun e1 =>
 (some (fB ((zPq, e1.code))))) fun r0 =>
 cond (decide (r0.1 < 1)) (
 γ39 [dBq true, dIq 10] [] [] (fun e3 =>
  (some (fB ((zPq, e3.code))))) fun r2 =>
 γ40 [.ptr 2000000000 0, dIq r0.1] [⟨66, (aI.avs r0.2)⟩] [] (fun e5 =>
  (some (fB ((zPq, e5.code))))) fun r4 =>
 γ39 [dBq (decide (r4.2.at_ < (lM (aO .u8) p0 : Int))), dIq 2] [] [] (fun e7 =>
  (some (fB ((zPq, e7.code))))) fun r6 =>
 γ25 [aA.av r4.1] [] [] fun r8 =>
 γ39 [dBq (r8 != 0), dIq r8] [] [] (fun e10 =>
  (some (fB ((zPq, e10.code))))) fun r9 =>
 (some (fB (r4.1, 0)))) (
 γ39 [dBq (decide (r0.1 > 14)), dIq 10] [] [] (fun e12 =>
 (some (fB ((zPq, e12.code))))) fun r11 =>
 γ40 [.ptr 2000000000 0, dIq r0.1] [⟨66, (aI.avs r0.2)⟩] [] (fun e14 =>
 (some (fB ((zPq, e14.code))))) fun r13 =>
 γ39 [dBq (decide (r13.2.at_ < (lM (aO .u8) p0 : Int))), dIq 2] [] [] (fun e16 =>
 (some (fB ((zPq, e16.code))))) fun r15 =>
 γ25 [aA.av r13.1] [] [] fun r17 =>
 γ39 [dBq (r17 != 0), dIq r17] [] [] (fun e19 =>
 (some (fB ((zPq, e19.code))))) fun r18 =>
 (some (fB (r13.1, 0))))) := by kernel_rfl
end
abbrev X14 : aR := C14 gG (cP 38 cH) (cP 39 gB) (cP 40 hQ) (cT 25 brokerref05_Props_out)
theorem aDa : X14 = aS gG := by unfold X14 C14; rw [eP fun _ h => h, eP fun _ h => h, eP fun _ h => h, bH fun _ h => h]
theorem uJ (p0 : List Int) : Le (Option.map fB (kL p0)) (bF SE 14 [.d (.sl [.int .u8] (List.map (aO .u8) p0))] [] []) := by
 refine asO aDa rfl ?_
 refine Le.trans ?_ (le_of_eq (T14 ..).symm)
 unfold kL
 refine lDe ?_ ?_
 ·exact aG rfl
 ·refine bY (good := good) eX bR (bW _) (fun e1 _ => ?_) (fun r0 _ => ?_)
  ·exact aG rfl
  ·refine lC ?_ ?_
   ·refine bY (good := good) eX iR (jL _ _) (fun e3 _ => ?_) (fun r2 _ => ?_)
    ·exact aG rfl
    ·refine bY (good := good) eX vP (wP _ _) (fun e5 _ => ?_) (fun r4 _ => ?_)
     ·exact aG rfl
     ·refine bY (good := good) eX iR (by (try simp only [EN]); exact jL (decide (r4.2.at_ < (List.length p0 : Int))) 2) (fun e7 _ => ?_) (fun r6 _ => ?_)
      ·exact aG rfl
      ·refine lQ eX brokerref05_Props_inj (aaV _) fun r8 _ => ?_
       refine bY (good := good) eX iR (jL _ _) (fun e10 _ => ?_) (fun r9 _ => ?_)
       ·exact aG rfl
       ·exact aG rfl
   ·refine bY (good := good) eX iR (jL _ _) (fun e12 _ => ?_) (fun r11 _ => ?_)
    ·exact aG rfl
    ·refine bY (good := good) eX vP (wP _ _) (fun e14 _ => ?_) (fun r13 _ => ?_)
     ·exact aG rfl
     ·refine bY (good := good) eX iR (by (try simp only [EN]); exact jL (decide (r13.2.at_ < (List.length p0 : Int))) 2) (fun e16 _ => ?_) (fun r15 _ => ?_)
      ·exact aG rfl
      ·refine lQ eX brokerref05_Props_inj (aaV _) fun r17 _ => ?_
       refine bY (good := good) eX iR (jL _ _) (fun e19 _ => ?_) (fun r18 _ => ?_)
       ·exact aG rfl
       ·exact aG rfl
def arA (C : aR) (Λ2 J : Lam) (a0 : List (List D)) (a1 a2 : Int) (a3 : List (List D)) : Res := lab SE C Λ2 J 17 0 [1, 1, 0, 1, 0] (bA [(4, .row 3004), (9, .d (.sl aA.ks a0)), (10, dIq a1), (11, dIq a2)] [] [] [] [(3004, ⟨[.int .u8], 5, 1, a3⟩)])
section
variable (Γ : Fun) (γ11 : Gm ((List Int) × Int)) (γ26 : Gm ((List Int))) (Λ2 J : Lam)
def C17 : aR := bE (bE (aS Γ) 11 bV γ11) 26 aP γ26
theorem T17 (p0 : List aA) : bK SE (C17 Γ γ11 γ26) Λ2 J 17 [.d (.sl aA.ks (List.map aA.enc p0))] [] [] =
 arA (C17 Γ γ11 γ26) Λ2 J (List.map aA.enc p0) (lM aA.enc p0 : Int) 0 (List.map (aO .u8) []) := by kernel_rfl
theorem aA7 (x9 : List aA) (x10 x11 : Int) (w3004 : List Int) : cJ SE (C17 Γ γ11 γ26) Λ2 J 17 0 [1, 1, 0, 1, 0] (bA [(4, .row 3004), (9, .d (.sl aA.ks (List.map aA.enc x9))), (10, dIq x10), (11, dIq x11)] [] [] [] [(3004, ⟨[.int .u8], 5, 1, (List.map (aO .u8) w3004)⟩)]) =
 cond (decide (x11 < x10)) (
 cond (iB x11 (lM aA.enc x9 : Int)) (
  γ11 [.agg [dIq (aX (cE aA.enc x9 x11 0)), dIq (aX (cE aA.enc x9 x11 1)), dBq (bT (cE aA.enc x9 x11 2)), dSq (bJ (cE aA.enc x9 x11 3)), dSq (bJ (cE aA.enc x9 x11 4)), dIq (aX (cE aA.enc x9 x11 5)), dBq (bT (cE aA.enc x9 x11 6)), dIq (aX (cE aA.enc x9 x11 7)), dIq (aX (cE aA.enc x9 x11 8)), dSq (bJ (cE aA.enc x9 x11 9)), dIq (aX (cE aA.enc x9 x11 10)), .d (.sl aC.ks (dSl (cE aA.enc x9 x11 11))), dSq (bJ (cE aA.enc x9 x11 12)), dSq (bJ (cE aA.enc x9 x11 13)), dBq (bT (cE aA.enc x9 x11 14)), dIq (aX (cE aA.enc x9 x11 15)), dIq (aX (cE aA.enc x9 x11 16)), dIq (aX (cE aA.enc x9 x11 17)), dBq (bT (cE aA.enc x9 x11 18)), dIq (aX (cE aA.enc x9 x11 19)), dSq (bJ (cE aA.enc x9 x11 20)), dSq (bJ (cE aA.enc x9 x11 21)), dIq (aX (cE aA.enc x9 x11 22)), dBq (bT (cE aA.enc x9 x11 23)), dIq (aX (cE aA.enc x9 x11 24)), dIq (aX (cE aA.enc x9 x11 25)), dSq (bJ (cE aA.enc x9 x11 26)), dIq (aX (cE aA.enc x9 x11 27)), .d (.sl aC.ks (dSl (cE aA.enc x9 x11 28))), dBq (bT (cE aA.enc x9 x11 29)), dIq (aX (cE aA.enc x9 x11 30)), .d (.sl aH.ks (dSl (cE aA.enc x9 x11 31))), .d (.sl [.str] (dSl (cE aA.enc x9 x11 32))), .d (.sl [.int .i64] (dSl (cE aA.enc x9 x11 33)))]] [] [] fun r0 =>
  cond (r0.2 != 0) (
  (some (bV ([], r0.2)))) (
  γ26 [.d (.sl [.int .u8] (List.map (aO .u8) w3004)), dIq (lM (aO .u8) r0.1 : Int)] [] [] fun r1 =>
  cond (decide ((lM (aO .u8) r1 + lM (aO .u8) r0.1) * 1 ≤ 140737488355328)) (
  arA (C17 Γ γ11 γ26) Λ2 J (List.map aA.enc x9) x10 (w6 (x11 + 1)) (((List.map (aO .u8) r1) ++ (List.map (aO .u8) r0.1)))) none)) none) (
 (some (bV (w3004, 0)))) := by kernel_rfl
end
abbrev X17 : aR := C17 gG (cT 11 bV) (cT 26 aP)
theorem axv : X17 = aS gG := by unfold X17 C17; repeat rw [bH fun _ h => h]
abbrev azW := arA X17 (cB SE gG (SE.hl 17) (SE.hr 17)) (J0 SE X17)
theorem ahe : ∀ (fu : Nat) (x9 : List aA) (x10 x11 : Int) (w3004 : List Int), Le (Option.map bV (kW fu x9 x10 x11 w3004)) (azW (List.map aA.enc x9) x10 x11 (List.map (aO .u8) w3004)) := by
 intro fu
 induction fu with
 | zero => intros; exact le_none
 | succ fu ih =>
  intro x9 x10 x11 w3004
  refine Le.trans ?_ (le_of_eq ((bD axv).trans (aA7 ..)).symm)
  unfold kW
  refine lC ?_ ?_
  ·refine lGe ?_
   refine lQ eX iC (by (try simp only [EN]); exact tW (List.getD x9 (Int.toNat x11) default)) fun r0 _ => ?_
   refine lC ?_ ?_
   ·exact aG rfl
   ·refine lQ eX aW (by (try simp only [EN]); exact cI w3004 (List.length r0.1 : Int)) fun r1 _ => ?_
    refine lGe ?_
    (try simp only [EN]); exact ih x9 x10 (w6 (x11 + 1)) (r1 ++ r0.1)
  ·exact aG rfl
theorem yU (p0 : List aA) : Le (Option.map bV (n6 p0)) (bF SE 17 [.d (.sl aA.ks (List.map aA.enc p0))] [] []) := by
 refine aZ axv rfl ?_
 refine Le.trans ?_ (le_of_eq (T17 ..).symm)
 unfold n6
 (try simp only [EN]); exact ahe fuel p0 (List.length p0 : Int) 0 []
def asa (C : aR) (Λ2 J : Lam) (a0 : List (List D)) (a1 : Int) (a2 : List (List D)) : Res := lab SE C Λ2 J 19 0 [1, 1, 1, 0, 0] (bA [(0, .d (.sl [.int .u8] a0)), (4, .row 3004), (5, dIq a1)] [] [] [] [(3004, ⟨aA.ks, 31, 416, a2⟩)])
section
variable (Γ : Fun) (γ49 : Gm (Int × Int × Int)) (γ14 : Gm (aA × Int)) (Λ2 J : Lam)
def C19 : aR := bE (bE (aS Γ) 49 cS γ49) 14 fB γ14
theorem T19 (p0 : List Int) : bK SE (C19 Γ γ49 γ14) Λ2 J 19 [.d (.sl [.int .u8] (List.map (aO .u8) p0))] [] [] =
 asa (C19 Γ γ49 γ14) Λ2 J (List.map (aO .u8) p0) 0 (List.map aA.enc []) := by kernel_rfl
theorem aCa (x0 : List Int) (x5 : Int) (w3004 : List aA) : cJ SE (C19 Γ γ49 γ14) Λ2 J 19 0 [1, 1, 1, 0, 0] (bA [(0, .d (.sl [.int .u8] (List.map (aO .u8) x0))), (4, .row 3004), (5, dIq x5)] [] [] [] [(3004, ⟨aA.ks, 31, 416, (List.map aA.enc w3004)⟩)]) =
 cond (decide (x5 < (lM (aO .u8) x0 : Int))) (
 γ49 [.d (.sl [.int .u8] (List.map (aO .u8) x0)), dIq x5] [] [] fun r0 =>
 cond (r0.2.2 != 0) (
  (some (dM ([], r0.2.2)))) (
 cond (decide (r0.1 < 0)) (
  (some (dM ([], 2)))) (
 cond (decide (r0.1 > 4096)) (
  (some (dM ([], 5)))) (
 cond (decide (r0.1 > (w6 ((lM (aO .u8) x0 : Int) - r0.2.1)))) (
  (some (dM ([], 3)))) (
 cond (decide (0 ≤ (w6 (r0.2.1 + r0.1))) && decide ((w6 (r0.2.1 + r0.1)) ≤ ((lM (aO .u8) x0) : Int))) (
  cond (decide (0 ≤ (w6 (r0.2.1 + r0.1))) && decide ((w6 (r0.2.1 + r0.1)) ≤ (w6 (r0.2.1 + r0.1)))) (
  cond (decide (0 ≤ r0.2.1) && decide (r0.2.1 ≤ (w6 (r0.2.1 + r0.1)))) (
   γ14 [.d (.sl [.int .u8] (dI (List.map (aO .u8) x0) (some r0.2.1) (some (w6 (r0.2.1 + r0.1)))))] [] [] fun r1 =>
   cond (r1.2 != 0) (
   (some (dM ([], r1.2)))) (
   cond (decide ((lM aA.enc w3004 + lM aA.enc [r1.1]) * 416 ≤ 140737488355328)) (
   asa (C19 Γ γ49 γ14) Λ2 J (List.map (aO .u8) x0) (w6 (r0.2.1 + r0.1)) (((List.map aA.enc w3004) ++ (List.map aA.enc [r1.1])))) none)) none) none) none))))) (
 (some (dM (w3004, 0)))) := by kernel_rfl
end
abbrev X19 : aR := C19 gG (cT 49 cS) (cT 14 fB)
theorem ayr : X19 = aS gG := by unfold X19 C19; repeat rw [bH fun _ h => h]
abbrev aAn := asa X19 (cB SE gG (SE.hl 19) (SE.hr 19)) (J0 SE X19)
theorem agQ : ∀ (fu : Nat) (x0 : List Int) (x5 : Int) (w3004 : List aA), Le (Option.map dM (jQ fu x0 x5 w3004)) (aAn (List.map (aO .u8) x0) x5 (List.map aA.enc w3004)) := by
 intro fu
 induction fu with
 | zero => intros; exact le_none
 | succ fu ih =>
  intro x0 x5 w3004
  refine Le.trans ?_ (le_of_eq ((bD ayr).trans (aCa ..)).symm)
  unfold jQ
  refine lDe ?_ ?_
  ·refine lQ eX rL (afP _ _) fun r0 _ => ?_
   refine lC ?_ ?_
   ·exact aG rfl
   ·refine lC ?_ ?_
    ·exact aG rfl
    ·refine lC ?_ ?_
     ·exact aG rfl
     ·refine lDe ?_ ?_
      ·exact aG rfl
      ·refine lGe ?_
       refine lF ?_
       refine lF ?_
       refine lQ eX sU (by (try simp only [EN]); exact uJ ((dI x0 (some r0.2.1) (some (w6 (r0.2.1 + r0.1)))))) fun r1 _ => ?_
       refine lC ?_ ?_
       ·exact aG rfl
       ·refine lGe ?_
        (try simp only [EN]); exact ih x0 (w6 (r0.2.1 + r0.1)) (w3004 ++ [r1.1])
  ·exact aG rfl
theorem yW (p0 : List Int) : Le (Option.map dM (rA p0)) (bF SE 19 [.d (.sl [.int .u8] (List.map (aO .u8) p0))] [] []) := by
 refine aZ ayr rfl ?_
 refine Le.trans ?_ (le_of_eq (T19 ..).symm)
 unfold rA
 (try simp only [EN]); exact agQ fuel p0 0 []
section
variable (Γ : Fun) (γ11 : Gm ((List Int) × Int)) (γ14 : Gm (aA × Int)) (γ17 : Gm ((List Int) × Int)) (γ19 : Gm ((List aA) × Int)) (γ16 : Gm (Bool)) (Λ2 J : Lam)
def C10 : aR := bE (bE (bE (bE (bE (aS Γ) 11 bV γ11) 14 fB γ14) 17 bV γ17) 19 dM γ19) 16 brokerref05_SameProps_out γ16
theorem T10 : bK SE (C10 Γ γ11 γ14 γ17 γ19 γ16) Λ2 J 10 [] [] [] =
 γ11 [.agg [dIq 4, dIq 1, dBq false, dSq [], dSq [], dIq 0, dBq false, dIq 0, dIq 0, dSq [], dIq 0, .d (.sl aC.ks (List.map aC.enc [])), dSq [], dSq [], dBq false, dIq 0, dIq 0, dIq 0, dBq false, dIq 0, dSq [], dSq [], dIq 0, dBq false, dIq 0, dIq 0, dSq [], dIq 0, .d (.sl aC.ks (List.map aC.enc [])), dBq false, dIq 0, .d (.sl aH.ks (List.map aH.enc [])), .d (.sl [.str] (List.map aY [])), .d (.sl [.int .i64] (List.map eI []))]] [] [] fun r0 =>
 cond (!(List.isEmpty (List.map (aO .u8) [16, 2, 2, 6, 97, 47, 35, 4, 0]))) (
 γ14 [.d (.sl [.int .u8] (List.map (aO .u8) [16, 2, 2, 6, 97, 47, 35, 4, 0]))] [] [] fun r1 =>
 γ17 [.d (.sl aA.ks [[D.int .i64 12, D.int .i64 0, D.bool false, D.str [], D.str [], D.int .i64 0, D.bool false, D.int .i64 0, D.int .i64 0, D.str [], D.int .i64 0, D.sl aC.ks (List.map aC.enc []), D.str [], D.str [], D.bool false, D.int .i64 0, D.int .i64 0, D.int .i64 0, D.bool false, D.int .i64 0, D.str [], D.str [], D.int .i64 0, D.bool false, D.int .i64 0, D.int .i64 0, D.str [], D.int .i64 0, D.sl aC.ks (List.map aC.enc []), D.bool false, D.int .i64 0, D.sl aH.ks (List.map aH.enc []), D.sl [.str] (List.map aY []), D.sl [.int .i64] (List.map eI [])], [D.int .i64 12, D.int .i64 0, D.bool false, D.str [], D.str [], D.int .i64 0, D.bool false, D.int .i64 0, D.int .i64 0, D.str [], D.int .i64 0, D.sl aC.ks (List.map aC.enc []), D.str [], D.str [], D.bool false, D.int .i64 0, D.int .i64 0, D.int .i64 0, D.bool false, D.int .i64 0, D.str [], D.str [], D.int .i64 0, D.bool false, D.int .i64 0, D.int .i64 0, D.str [], D.int .i64 0, D.sl aC.ks (List.map aC.enc []), D.bool false, D.int .i64 0, D.sl aH.ks (List.map aH.enc []), D.sl [.str] (List.map aY []), D.sl [.int .i64] (List.map eI [])]])] [] [] fun r2 =>
 cond (!(List.isEmpty (List.map (aO .u8) [2, 24, 2, 24]))) (
  γ19 [.d (.sl [.int .u8] (List.map (aO .u8) [2, 24, 2, 24]))] [] [] fun r3 =>
  cond ((uG (List.map (aO .u8) r0.1)) == ([8, 2] : Str)) (
  cond (r0.2 == 0) (
   cond (r1.2 == 0) (
   γ16 [aA.av r1.1, .agg [dIq 8, dIq 1, dBq false, dSq [], dSq [], dIq 0, dBq false, dIq 0, dIq 0, dSq [], dIq 0, .d (.sl aC.ks (List.map aC.enc [])), dSq [], dSq [], dBq false, dIq 0, dIq 0, dIq 0, dBq false, dIq 0, dSq [], dSq [], dIq 0, dBq false, dIq 0, dIq 0, dSq [], dIq 0, .d (.sl aC.ks (List.map aC.enc [])), dBq false, dIq 0, .d (.sl aH.ks (List.map aH.enc [(aH.mk ([97, 47, 35] : Str) 2 false)])), .d (.sl [.str] (List.map aY [])), .d (.sl [.int .i64] (List.map eI []))]] [] [] fun r4 =>
   cond r4 (
    cond ((uG (List.map (aO .u8) r2.1)) == ([2, 24, 2, 24] : Str)) (
    cond (r2.2 == 0) (
     cond ((lM aA.enc r3.1 : Int) == 2) (
     (rB (r3.2 == 0))) (
     (rB false))) (
    (rB false))) (
    (rB false))) (
   (rB false))) (
   (rB false))) (
  (rB false))) (
  (rB false))) none) none := by kernel_rfl
end
abbrev X10 : aR := C10 gG (cT 11 bV) (cT 14 fB) (cT 17 bV) (cT 19 dM) (cT 16 brokerref05_SameProps_out)
theorem aDq : X10 = aS gG := by unfold X10 C10; repeat rw [bH fun _ h => h]
theorem dG : Le (Option.map brokerref05_SameProps_out (dD)) (bF SE 10 [] [] []) := by
 refine aZ aDq rfl ?_
 refine Le.trans ?_ (le_of_eq (T10 _ _ _ _ _ _ _ _ ).symm)
 unfold dD
 refine lQ eX iC (by (try simp only [EN]); exact tW ((aA.mk 4 1 false zMq [] [] false 0 0 0 zWq false 0 [] [] []))) fun r0 _ => ?_
 refine lG (by simp only [EN] <;> rfl) ?_
 refine lQ eX sU (uJ _) fun r1 _ => ?_
 refine lQ eX iC (by (try simp only [EN]); exact yU [(aA.mk 12 0 false zMq [] [] false 0 0 0 zWq false 0 [] [] []), (aA.mk 12 0 false zMq [] [] false 0 0 0 zWq false 0 [] [] [])]) fun r2 _ => ?_
 refine lG (by simp only [EN] <;> rfl) ?_
 refine lQ eX sJ (yW _) fun r3 _ => ?_
 refine lDe ?_ ?_
 ·refine lC ?_ ?_
  ·refine lC ?_ ?_
   ·refine lQ eX brokerref05_SameProps_inj (by (try simp only [EN]); exact lE r1.1 ((aA.mk 8 1 false zMq [] [] false 0 0 0 zWq false 0 [(aH.mk ([97, 47, 35] : Str) 2 false)] [] []))) fun r4 _ => ?_
    refine lC ?_ ?_
    ·refine lDe ?_ ?_
     ·refine lC ?_ ?_
      ·refine lDe ?_ ?_
       ·exact aG rfl
       ·exact aG rfl
      ·exact aG rfl
     ·exact aG rfl
    ·exact aG rfl
   ·exact aG rfl
  ·exact aG rfl
 ·exact aG rfl
def arW (C : aR) (Λ2 J : Lam) (a0 a1 : List (List D)) (a2 : Int) : Res := lab SE C Λ2 J 21 0 [1, 1, 0, 1, 0] (bA [(0, .d (.sl aA.ks a0)), (1, .d (.sl aA.ks a1)), (5, dIq a2)] [] [] [] [])
section
variable (Γ : Fun) (γ16 : Gm (Bool)) (Λ2 J : Lam)
def C21 : aR := bE (aS Γ) 16 brokerref05_SameProps_out γ16
theorem T21 (p0 p1 : List aA) : bK SE (C21 Γ γ16) Λ2 J 21 [.d (.sl aA.ks (List.map aA.enc p0)), .d (.sl aA.ks (List.map aA.enc p1))] [] [] =
 cond ((lM aA.enc p0 : Int) != (lM aA.enc p1 : Int)) (
 (rB false)) (
 arW (C21 Γ γ16) Λ2 J (List.map aA.enc p0) (List.map aA.enc p1) 0) := by kernel_rfl
theorem aBk (x0 x1 : List aA) (x5 : Int) : cJ SE (C21 Γ γ16) Λ2 J 21 0 [1, 1, 0, 1, 0] (bA [(0, .d (.sl aA.ks (List.map aA.enc x0))), (1, .d (.sl aA.ks (List.map aA.enc x1))), (5, dIq x5)] [] [] [] []) =
 cond (decide (x5 < (lM aA.enc x0 : Int))) (
 cond (iB x5 (lM aA.enc x0 : Int)) (
  cond (iB x5 (lM aA.enc x1 : Int)) (
  γ16 [.agg [dIq (aX (cE aA.enc x0 x5 0)), dIq (aX (cE aA.enc x0 x5 1)), dBq (bT (cE aA.enc x0 x5 2)), dSq (bJ (cE aA.enc x0 x5 3)), dSq (bJ (cE aA.enc x0 x5 4)), dIq (aX (cE aA.enc x0 x5 5)), dBq (bT (cE aA.enc x0 x5 6)), dIq (aX (cE aA.enc x0 x5 7)), dIq (aX (cE aA.enc x0 x5 8)), dSq (bJ (cE aA.enc x0 x5 9)), dIq (aX (cE aA.enc x0 x5 10)), .d (.sl aC.ks (dSl (cE aA.enc x0 x5 11))), dSq (bJ (cE aA.enc x0 x5 12)), dSq (bJ (cE aA.enc x0 x5 13)), dBq (bT (cE aA.enc x0 x5 14)), dIq (aX (cE aA.enc x0 x5 15)), dIq (aX (cE aA.enc x0 x5 16)), dIq (aX (cE aA.enc x0 x5 17)), dBq (bT (cE aA.enc x0 x5 18)), dIq (aX (cE aA.enc x0 x5 19)), dSq (bJ (cE aA.enc x0 x5 20)), dSq (bJ (cE aA.enc x0 x5 21)), dIq (aX (cE aA.enc x0 x5 22)), dBq (bT (cE aA.enc x0 x5 23)), dIq (aX (cE aA.enc x0 x5 24)), dIq (aX (cE aA.enc x0 x5 25)), dSq (bJ (cE aA.enc x0 x5 26)), dIq (aX (cE aA.enc x0 x5 27)), .d (.sl aC.ks (dSl (cE aA.enc x0 x5 28))), dBq (bT (cE aA.enc x0 x5 29)), dIq (aX (cE aA.enc x0 x5 30)), .d (.sl aH.ks (dSl (cE aA.enc x0 x5 31))), .d (.sl [.str] (dSl (cE aA.enc x0 x5 32))), .d (.sl [.int .i64] (dSl (cE aA.enc x0 x5 33)))], .agg [dIq (aX (cE aA.enc x1 x5 0)), dIq (aX (cE aA.enc x1 x5 1)), dBq (bT (cE aA.enc x1 x5 2)), dSq (bJ (cE aA.enc x1 x5 3)), dSq (bJ (cE aA.enc x1 x5 4)), dIq (aX (cE aA.enc x1 x5 5)), dBq (bT (cE aA.enc x1 x5 6)), dIq (aX (cE aA.enc x1 x5 7)), dIq (aX (cE aA.enc x1 x5 8)), dSq (bJ (cE aA.enc x1 x5 9)), dIq (aX (cE aA.enc x1 x5 10)), .d (.sl aC.ks (dSl (cE aA.enc x1 x5 11))), dSq (bJ (cE aA.enc x1 x5 12)), dSq (bJ (cE aA.enc x1 x5 13)), dBq (bT (cE aA.enc x1 x5 14)), dIq (aX (cE aA.enc x1 x5 15)), dIq (aX (cE aA.enc x1 x5 16)), dIq (aX (cE aA.enc x1 x5 17)), dBq (bT (cE aA.enc x1 x5 18)), dIq (aX (cE aA.enc x1 x5 19)), dSq (bJ (cE aA.enc x1 x5 20)), dSq (bJ (cE aA.enc x1 x5 21)), dIq (aX (cE aA.enc x1 x5 22)), dBq (bT (cE aA.enc x1 x5 23)), dIq (aX (cE aA.enc x1 x5 24)), dIq (aX (cE aA.enc x1 x5 25)), dSq (bJ (cE aA.enc x1 x5 26)), dIq (aX (cE aA.enc x1 x5 27)), .d (.sl aC.ks (dSl (cE aA.enc x1 x5 28))), dBq (bT (cE aA.enc x1 x5 29)), dIq (aX (cE aA.enc x1 x5 30)), .d (.sl aH.ks (dSl (cE aA.enc x1 x5 31))), .d (.sl [.str] (dSl (cE aA.enc x1 x5 32))), .d (.sl [.int .i64] (dSl (cE aA.enc x1 x5 33)))]] [] [] fun r0 =>
  cond (!r0) (
   (rB false)) (
  arW (C21 Γ γ16) Λ2 J (List.map aA.enc x0) (List.map aA.enc x1) (w6 (x5 + 1)))) none) none) (
 (rB true)) := by kernel_rfl
end
abbrev X21 : aR := C21 gG (cT 16 brokerref05_SameProps_out)
theorem ayl : X21 = aS gG := by unfold X21 C21; rw [bH fun _ h => h]
abbrev aBN := arW X21 (cB SE gG (SE.hl 21) (SE.hr 21)) (J0 SE X21)
theorem ac1 : ∀ (fu : Nat) (x0 x1 : List aA) (x5 : Int), Le (Option.map brokerref05_SameProps_out (iJ fu x0 x1 x5)) (aBN (List.map aA.enc x0) (List.map aA.enc x1) x5) := by
 intro fu
 induction fu with
 | zero => intros; exact le_none
 | succ fu ih =>
  intro x0 x1 x5
  refine Le.trans ?_ (le_of_eq ((bD ayl).trans (aBk ..)).symm)
  unfold iJ
  refine lDe ?_ ?_
  ·refine lGe ?_
   refine lGe ?_
   refine lQ eX brokerref05_SameProps_inj (by (try simp only [EN]); exact lE (List.getD x0 (Int.toNat x5) default) (List.getD x1 (Int.toNat x5) default)) fun r0 _ => ?_
   refine lC ?_ ?_
   ·exact aG rfl
   ·exact ih x0 x1 (w6 (x5 + 1))
  ·exact aG rfl
theorem yX (p0 p1 : List aA) : Le (Option.map brokerref05_SameProps_out (lA p0 p1)) (bF SE 21 [.d (.sl aA.ks (List.map aA.enc p0)), .d (.sl aA.ks (List.map aA.enc p1))] [] []) := by
 refine aZ ayl rfl ?_
 refine Le.trans ?_ (le_of_eq (T21 ..).symm)
 unfold lA
 refine lDe ?_ ?_
 ·exact aG rfl
 ·exact ac1 fuel p0 p1 0
def auO (C : aR) (Λ2 J : Lam) (a0 : List (List D)) (a1 : Int) : Res := lab SE C Λ2 J 7 0 [1, 1, 0, 1, 0] (bA [(0, .d (.sl aA.ks a0)), (3, dIq a1)] [] [] [] [])
section
variable (Γ : Fun) (γ22 γ10 : Gm (Bool)) (γ11 : Gm ((List Int) × Int)) (γ14 : Gm (aA × Int)) (γ16 : Gm (Bool)) (γ17 : Gm ((List Int) × Int)) (γ19 : Gm ((List aA) × Int)) (γ21 : Gm (Bool)) (Λ2 J : Lam)
def C7 : aR := bE (bE (bE (bE (bE (bE (bE (bE (aS Γ) 22 brokerref05_SameProps_out γ22) 10 brokerref05_SameProps_out γ10) 11 bV γ11) 14 fB γ14) 16 brokerref05_SameProps_out γ16) 17 bV γ17) 19 dM γ19) 21 brokerref05_SameProps_out γ21
theorem T7 (p0 : List aA) : bK SE (C7 Γ γ22 γ10 γ11 γ14 γ16 γ17 γ19 γ21) Λ2 J 7 [.d (.sl aA.ks (List.map aA.enc p0))] [] [] =
 γ22 [.d (.sl aA.ks (List.map aA.enc p0))] [] [] fun r0 =>
 cond (!r0) (
 γ10 [] [] [] fun r1 =>
 (rB r1)) (
 auO (C7 Γ γ22 γ10 γ11 γ14 γ16 γ17 γ19 γ21) Λ2 J (List.map aA.enc p0) 0) := by kernel_rfl
theorem aD3 (x0 : List aA) (x3 : Int) : cJ SE (C7 Γ γ22 γ10 γ11 γ14 γ16 γ17 γ19 γ21) Λ2 J 7 0 [1, 1, 0, 1, 0] (bA [(0, .d (.sl aA.ks (List.map aA.enc x0))), (3, dIq x3)] [] [] [] []) =
 cond (decide (x3 < (lM aA.enc x0 : Int))) (
 cond (iB x3 (lM aA.enc x0 : Int)) (
  γ11 [.agg [dIq (aX (cE aA.enc x0 x3 0)), dIq (aX (cE aA.enc x0 x3 1)), dBq (bT (cE aA.enc x0 x3 2)), dSq (bJ (cE aA.enc x0 x3 3)), dSq (bJ (cE aA.enc x0 x3 4)), dIq (aX (cE aA.enc x0 x3 5)), dBq (bT (cE aA.enc x0 x3 6)), dIq (aX (cE aA.enc x0 x3 7)), dIq (aX (cE aA.enc x0 x3 8)), dSq (bJ (cE aA.enc x0 x3 9)), dIq (aX (cE aA.enc x0 x3 10)), .d (.sl aC.ks (dSl (cE aA.enc x0 x3 11))), dSq (bJ (cE aA.enc x0 x3 12)), dSq (bJ (cE aA.enc x0 x3 13)), dBq (bT (cE aA.enc x0 x3 14)), dIq (aX (cE aA.enc x0 x3 15)), dIq (aX (cE aA.enc x0 x3 16)), dIq (aX (cE aA.enc x0 x3 17)), dBq (bT (cE aA.enc x0 x3 18)), dIq (aX (cE aA.enc x0 x3 19)), dSq (bJ (cE aA.enc x0 x3 20)), dSq (bJ (cE aA.enc x0 x3 21)), dIq (aX (cE aA.enc x0 x3 22)), dBq (bT (cE aA.enc x0 x3 23)), dIq (aX (cE aA.enc x0 x3 24)), dIq (aX (cE aA.enc x0 x3 25)), dSq (bJ (cE aA.enc x0 x3 26)), dIq (aX (cE aA.enc x0 x3 27)), .d (.sl aC.ks (dSl (cE aA.enc x0 x3 28))), dBq (bT (cE aA.enc x0 x3 29)), dIq (aX (cE aA.enc x0 x3 30)), .d (.sl aH.ks (dSl (cE aA.enc x0 x3 31))), .d (.sl [.str] (dSl (cE aA.enc x0 x3 32))), .d (.sl [.int .i64] (dSl (cE aA.enc x0 x3 33)))]] [] [] fun r2 =>
  γ14 [.d (.sl [.int .u8] (List.map (aO .u8) r2.1))] [] [] fun r3 =>
  cond (r2.2 != 0) (
  (rB false)) (
  cond (r3.2 != 0) (
  (rB false)) (
  cond (iB x3 (lM aA.enc x0 : Int)) (
  γ16 [aA.av r3.1, .agg [dIq (aX (cE aA.enc x0 x3 0)), dIq (aX (cE aA.enc x0 x3 1)), dBq (bT (cE aA.enc x0 x3 2)), dSq (bJ (cE aA.enc x0 x3 3)), dSq (bJ (cE aA.enc x0 x3 4)), dIq (aX (cE aA.enc x0 x3 5)), dBq (bT (cE aA.enc x0 x3 6)), dIq (aX (cE aA.enc x0 x3 7)), dIq (aX (cE aA.enc x0 x3 8)), dSq (bJ (cE aA.enc x0 x3 9)), dIq (aX (cE aA.enc x0 x3 10)), .d (.sl aC.ks (dSl (cE aA.enc x0 x3 11))), dSq (bJ (cE aA.enc x0 x3 12)), dSq (bJ (cE aA.enc x0 x3 13)), dBq (bT (cE aA.enc x0 x3 14)), dIq (aX (cE aA.enc x0 x3 15)), dIq (aX (cE aA.enc x0 x3 16)), dIq (aX (cE aA.enc x0 x3 17)), dBq (bT (cE aA.enc x0 x3 18)), dIq (aX (cE aA.enc x0 x3 19)), dSq (bJ (cE aA.enc x0 x3 20)), dSq (bJ (cE aA.enc x0 x3 21)), dIq (aX (cE aA.enc x0 x3 22)), dBq (bT (cE aA.enc x0 x3 23)), dIq (aX (cE aA.enc x0 x3 24)), dIq (aX (cE aA.enc x0 x3 25)), dSq (bJ (cE aA.enc x0 x3 26)), dIq (aX (cE aA.enc x0 x3 27)), .d (.sl aC.ks (dSl (cE aA.enc x0 x3 28))), dBq (bT (cE aA.enc x0 x3 29)), dIq (aX (cE aA.enc x0 x3 30)), .d (.sl aH.ks (dSl (cE aA.enc x0 x3 31))), .d (.sl [.str] (dSl (cE aA.enc x0 x3 32))), .d (.sl [.int .i64] (dSl (cE aA.enc x0 x3 33)))]] [] [] fun r4 =>
  cond (!r4) (
   (rB false)) (
  auO (C7 Γ γ22 γ10 γ11 γ14 γ16 γ17 γ19 γ21) Λ2 J (List.map aA.enc x0) (w6 (x3 + 1)))) none))) none) (
 γ17 [.d (.sl aA.ks (List.map aA.enc x0))] [] [] fun r5 =>
 γ19 [.d (.sl [.int .u8] (List.map (aO .u8) r5.1))] [] [] fun r6 =>
 cond (r5.2 == 0) (
 cond (r6.2 == 0) (
  γ21 [.d (.sl aA.ks (List.map aA.enc r6.1)), .d (.sl aA.ks (List.map aA.enc x0))] [] [] fun r7 =>
  cond r7 (
  γ10 [] [] [] fun r8 =>
  (rB r8)) (
  (rB false))) (
 (rB false))) (
 (rB false))) := by kernel_rfl
end
abbrev X7 : aR := C7 gG (cT 22 brokerref05_SameProps_out) (cT 10 brokerref05_SameProps_out) (cT 11 bV) (cT 14 fB) (cT 16 brokerref05_SameProps_out) (cT 17 bV) (cT 19 dM) (cT 21 brokerref05_SameProps_out)
theorem Cr7 : X7 = aS gG := by unfold X7 C7; repeat rw [bH fun _ h => h]
abbrev aCA := auO X7 (cB SE gG (SE.hl 7) (SE.hr 7)) (J0 SE X7)
theorem acg : ∀ (fu : Nat) (x0 : List aA) (x3 : Int), Le (Option.map brokerref05_SameProps_out (hO fu x0 x3)) (aCA (List.map aA.enc x0) x3) := by
 intro fu
 induction fu with
 | zero => intros; exact le_none
 | succ fu ih =>
  intro x0 x3
  refine Le.trans ?_ (le_of_eq ((bD Cr7).trans (aD3 ..)).symm)
  unfold hO
  refine lDe ?_ ?_
  ·refine lGe ?_
   refine lQ eX iC (by (try simp only [EN]); exact tW (List.getD x0 (Int.toNat x3) default)) fun r2 _ => ?_
   refine lQ eX sU (uJ _) fun r3 _ => ?_
   refine lC ?_ ?_
   ·exact aG rfl
   ·refine lC ?_ ?_
    ·exact aG rfl
    ·refine lGe ?_
     refine lQ eX brokerref05_SameProps_inj (by (try simp only [EN]); exact lE r3.1 (List.getD x0 (Int.toNat x3) default)) fun r4 _ => ?_
     refine lC ?_ ?_
     ·exact aG rfl
     ·exact ih x0 (w6 (x3 + 1))
  ·refine lQ eX iC (yU _) fun r5 _ => ?_
   refine lQ eX sJ (yW _) fun r6 _ => ?_
   refine lC ?_ ?_
   ·refine lC ?_ ?_
    ·refine lQ eX brokerref05_SameProps_inj (yX _ _) fun r7 _ => ?_
     refine lC ?_ ?_
     ·refine lQ eX brokerref05_SameProps_inj (dG) fun r8 _ => ?_
      exact aG rfl
     ·exact aG rfl
    ·exact aG rfl
   ·exact aG rfl
theorem aeo (p0 : List aA) : Le (Option.map brokerref05_SameProps_out (qM p0)) (bF SE 7 [.d (.sl aA.ks (List.map aA.enc p0))] [] []) := by
 refine aZ Cr7 rfl ?_
 refine Le.trans ?_ (le_of_eq (T7 ..).symm)
 unfold qM
 refine lQ eX brokerref05_SameProps_inj (ag3 _) fun r0 _ => ?_
 refine lC ?_ ?_
 ·refine lQ eX brokerref05_SameProps_inj (dG) fun r1 _ => ?_
  exact aG rfl
 ·exact acg fuel p0 0
end Te
end PX
