import Derived.Test.YthgmhhgmnegocaaGreatDoorTre2
set_option linter.unusedVariables false
set_option linter.unusedSimpArgs false
set_option maxRecDepth 100000
noncomputable section
namespace PX
open Go
open Md
namespace Te
def aoq (C : aR) (Λ2 J : Lam) (a0 : Int) (a1 : List D) : Res := lab SE C Λ2 J 57 0 [1, 1, 1, 0, 1, 0] (bA [(1, .ptr 1000000000 0), (6, dIq a0)] [⟨31, (List.map AV.d a1)⟩] [] [] [])
def arX (C : aR) (Λ2 J : Lam) (a0 : Int) (a1 : List D) : Res := lab SE C Λ2 J 57 0 [1, 1, 0, 1, 0] (bA [(1, .ptr 1000000000 0), (5, dIq a0)] [⟨31, (List.map AV.d a1)⟩] [] [] [])
def ar9 (C : aR) (Λ2 J : Lam) (a0 : Int) (a1 : List D) : Res := lab SE C Λ2 J 57 0 [1, 0, 1, 0] (bA [(1, .ptr 1000000000 0), (3, dIq a0)] [⟨31, (List.map AV.d a1)⟩] [] [] [])
section
variable (Γ : Fun) (γ89 : Gm (Int)) (γ90 γ54 : Gm (Bool)) (Λ2 J : Lam)
def C57 : aR := bE (bE (bE (aS Γ) 89 aJ γ89) 90 packet_is_out γ90) 54 packet_is_out γ54
theorem T57 (p0 : aA) : bK SE (C57 Γ γ89 γ90 γ54) Λ2 J 57 [aA.av p0] [] [] =
 ar9 (C57 Γ γ89 γ90 γ54) Λ2 J 0 (aA.enc p0) := by kernel_rfl
theorem ayo (x6 : Int) (b0 : aA) : cJ SE (C57 Γ γ89 γ90 γ54) Λ2 J 57 0 [1, 1, 1, 0, 1, 0] (bA [(1, .ptr 1000000000 0), (6, dIq x6)] [⟨31, (List.map AV.d (aA.enc b0))⟩] [] [] []) =
 cond (decide (x6 < (lM eI b0.Codes : Int))) (
 cond (iB x6 (lM eI b0.Codes : Int)) (
  γ54 [dIq (aX (cE eI b0.Codes x6 0))] [] [] fun r2 =>
  cond (!r2) (
  (rI 1)) (
  aoq (C57 Γ γ89 γ90 γ54) Λ2 J (w6 (x6 + 1)) (aA.enc b0))) none) (
 (rI 0)) := by kernel_rfl
theorem aBz (x5 : Int) (b0 : aA) : cJ SE (C57 Γ γ89 γ90 γ54) Λ2 J 57 0 [1, 1, 0, 1, 0] (bA [(1, .ptr 1000000000 0), (5, dIq x5)] [⟨31, (List.map AV.d (aA.enc b0))⟩] [] [] []) =
 cond (decide (x5 < (lM aY b0.Filters : Int))) (
 cond (iB x5 (lM aY b0.Filters : Int)) (
  γ90 [dSq (bJ (cE aY b0.Filters x5 0))] [] [] fun r1 =>
  cond (!r1) (
  (rI 13)) (
  arX (C57 Γ γ89 γ90 γ54) Λ2 J (w6 (x5 + 1)) (aA.enc b0))) none) (
 aoq (C57 Γ γ89 γ90 γ54) Λ2 J 0 (aA.enc b0)) := by kernel_rfl
theorem aBG (x3 : Int) (b0 : aA) : cJ SE (C57 Γ γ89 γ90 γ54) Λ2 J 57 0 [1, 0, 1, 0] (bA [(1, .ptr 1000000000 0), (3, dIq x3)] [⟨31, (List.map AV.d (aA.enc b0))⟩] [] [] []) =
 cond (decide (x3 < (lM aH.enc b0.Subs : Int))) (
 cond (iB x3 (lM aH.enc b0.Subs : Int)) (
  γ89 [.agg [dSq (bJ (cE aH.enc b0.Subs x3 0)), dIq (aX (cE aH.enc b0.Subs x3 1)), dBq (bT (cE aH.enc b0.Subs x3 2))]] [] [] fun r0 =>
  cond (r0 != 0) (
  (rI r0)) (
  ar9 (C57 Γ γ89 γ90 γ54) Λ2 J (w6 (x3 + 1)) (aA.enc b0))) none) (
 arX (C57 Γ γ89 γ90 γ54) Λ2 J 0 (aA.enc b0)) := by kernel_rfl
end
abbrev X57 : aR := C57 gG (cT 89 aJ) (cT 90 packet_is_out) (cT 54 packet_is_out)
theorem arP : X57 = aS gG := by unfold X57 C57; repeat rw [bH fun _ h => h]
abbrev ayL := aoq X57 (cB SE gG (SE.hl 57) (SE.hr 57)) (J0 SE X57)
abbrev aAV := arX X57 (cB SE gG (SE.hl 57) (SE.hr 57)) (J0 SE X57)
abbrev aAw := ar9 X57 (cB SE gG (SE.hl 57) (SE.hr 57)) (J0 SE X57)
theorem abT : ∀ (fu : Nat) (x6 : Int) (b0 : aA), Le (Option.map aJ (fI fu x6 b0)) (ayL x6 (aA.enc b0)) := by
 intro fu
 induction fu with
 | zero => intros; exact le_none
 | succ fu ih =>
  intro x6 b0
  refine Le.trans ?_ (le_of_eq ((bD arP).trans (ayo ..)).symm)
  unfold fI
  refine lD (by simp only [EN]) ?_ ?_
  ·refine lG (by simp only [EN]) ?_
   refine lQ eX packet_is_inj (by (try simp only [EN]); exact wI (List.getD b0.Codes (Int.toNat x6) default)) fun r2 _ => ?_
   refine lC ?_ ?_
   ·exact aG rfl
   ·exact ih (w6 (x6 + 1)) b0
  ·exact aG rfl
theorem acr : ∀ (fu : Nat) (x5 : Int) (b0 : aA), Le (Option.map aJ (fR fu x5 b0)) (aAV x5 (aA.enc b0)) := by
 intro fu
 induction fu with
 | zero => intros; exact le_none
 | succ fu ih =>
  intro x5 b0
  refine Le.trans ?_ (le_of_eq ((bD arP).trans (aBz ..)).symm)
  unfold fR
  refine lD (by simp only [EN]) ?_ ?_
  ·refine lG (by simp only [EN]) ?_
   refine lQ eX packet_is_inj (by (try simp only [EN]); exact aaq (List.getD b0.Filters (Int.toNat x5) default)) fun r1 _ => ?_
   refine lC ?_ ?_
   ·exact aG rfl
   ·exact ih (w6 (x5 + 1)) b0
  ·exact abT fuel 0 b0
theorem acm : ∀ (fu : Nat) (x3 : Int) (b0 : aA), Le (Option.map aJ (gY fu x3 b0)) (aAw x3 (aA.enc b0)) := by
 intro fu
 induction fu with
 | zero => intros; exact le_none
 | succ fu ih =>
  intro x3 b0
  refine Le.trans ?_ (le_of_eq ((bD arP).trans (aBG ..)).symm)
  unfold gY
  refine lD (by simp only [EN]) ?_ ?_
  ·refine lG (by simp only [EN]) ?_
   refine lQ eX bB (by (try simp only [EN]); exact aiX (List.getD b0.Subs (Int.toNat x3) default)) fun r0 _ => ?_
   refine lC ?_ ?_
   ·exact aG rfl
   ·exact ih (w6 (x3 + 1)) b0
  ·exact acr fuel 0 b0
theorem aex (p0 : aA) : Le (Option.map aJ (nD p0)) (bF SE 57 [aA.av p0] [] []) := by
 refine aZ arP rfl ?_
 refine Le.trans ?_ (le_of_eq (T57 ..).symm)
 unfold nD
 exact acm fuel 0 p0
def asP (C : aR) (Λ2 J : Lam) (a0 : List D) : Res := lab SE C Λ2 J 23 0 [1, 1, 1, 1, 1, 1, 1, 1, 1, 0] (bA [(1, .ptr 1000000000 0)] [⟨31, (List.map AV.d a0)⟩] [] [] [])
def as0 (C : aR) (Λ2 J : Lam) (a0 : List D) : Res := lab SE C Λ2 J 23 0 [1, 1, 1, 1, 1, 1, 1, 0] (bA [(1, .ptr 1000000000 0)] [⟨31, (List.map AV.d a0)⟩] [] [] [])
def atf (C : aR) (Λ2 J : Lam) (a0 : List D) : Res := lab SE C Λ2 J 23 0 [1, 1, 1, 1, 1, 1, 0, 0] (bA [(1, .ptr 1000000000 0)] [⟨31, (List.map AV.d a0)⟩] [] [] [])
def av1 (C : aR) (Λ2 J : Lam) (a0 : List D) : Res := lab SE C Λ2 J 23 0 [1, 1, 0, 0] (bA [(1, .ptr 1000000000 0)] [⟨31, (List.map AV.d a0)⟩] [] [] [])
section
variable (Γ : Fun) (γ51 : Gm (aA)) (γ16 : Gm (Bool)) (γ52 γ53 : Gm (Int)) (γ54 : Gm (Bool)) (γ55 γ56 γ57 : Gm (Int)) (Λ2 J : Lam)
def C23 : aR := bE (bE (bE (bE (bE (bE (bE (bE (aS Γ) 51 dY γ51) 16 packet_is_out γ16) 52 aJ γ52) 53 aJ γ53) 54 packet_is_out γ54) 55 aJ γ55) 56 aJ γ56) 57 aJ γ57
theorem T23 (p0 : aA) : bK SE (C23 Γ γ51 γ16 γ52 γ53 γ54 γ55 γ56 γ57) Λ2 J 23 [aA.av p0] [] [] =
 cond (decide (p0.Kind < 1)) (
 (rI 10)) (
 cond (decide (p0.Kind > 14)) (
 (rI 10)) (
 av1 (C23 Γ γ51 γ16 γ52 γ53 γ54 γ55 γ56 γ57) Λ2 J (aA.enc p0))) := by kernel_rfl
theorem axN (b0 : aA) : cJ SE (C23 Γ γ51 γ16 γ52 γ53 γ54 γ55 γ56 γ57) Λ2 J 23 0 [1, 1, 1, 1, 1, 1, 1, 1, 1, 0] (bA [(1, .ptr 1000000000 0)] [⟨31, (List.map AV.d (aA.enc b0))⟩] [] [] []) =
 γ56 [dIq (w6 ((w6 ((lM aH.enc b0.Subs : Int) + (lM aY b0.Filters : Int))) + (lM eI b0.Codes : Int)))] [] [] fun r7 =>
 cond (r7 != 0) (
 (rI r7)) (
 γ57 [aA.av b0] [] [] fun r8 =>
 (rI r8)) := by kernel_rfl
theorem axR (b0 : aA) : cJ SE (C23 Γ γ51 γ16 γ52 γ53 γ54 γ55 γ56 γ57) Λ2 J 23 0 [1, 1, 1, 1, 1, 1, 1, 0] (bA [(1, .ptr 1000000000 0)] [⟨31, (List.map AV.d (aA.enc b0))⟩] [] [] []) =
 γ55 [dIq b0.ID] [] [] fun r6 =>
 cond (r6 != 0) (
 (rI r6)) (
 cond (decide (b0.Kind ≤ 7)) (
 (rI r6)) (
 asP (C23 Γ γ51 γ16 γ52 γ53 γ54 γ55 γ56 γ57) Λ2 J (aA.enc b0))) := by kernel_rfl
theorem ax7 (b0 : aA) : cJ SE (C23 Γ γ51 γ16 γ52 γ53 γ54 γ55 γ56 γ57) Λ2 J 23 0 [1, 1, 1, 1, 1, 1, 0, 0] (bA [(1, .ptr 1000000000 0)] [⟨31, (List.map AV.d (aA.enc b0))⟩] [] [] []) =
 cond (b0.Kind == 12) (
 (rI 0)) (
 cond (b0.Kind == 13) (
 (rI 0)) (
 as0 (C23 Γ γ51 γ16 γ52 γ53 γ54 γ55 γ56 γ57) Λ2 J (aA.enc b0))) := by kernel_rfl
theorem aAp (b0 : aA) : cJ SE (C23 Γ γ51 γ16 γ52 γ53 γ54 γ55 γ56 γ57) Λ2 J 23 0 [1, 1, 0, 0] (bA [(1, .ptr 1000000000 0)] [⟨31, (List.map AV.d (aA.enc b0))⟩] [] [] []) =
 γ51 [aA.av b0] [] [] fun r0 =>
 γ16 [aA.av b0, aA.av r0] [] [] fun r1 =>
 cond (!r1) (
 (rI 28)) (
 cond (b0.Kind == 1) (
 γ52 [aA.av b0] [] [] fun r2 =>
 (rI r2)) (
 cond (b0.Kind == 3) (
 γ53 [aA.av b0] [] [] fun r3 =>
 (rI r3)) (
 cond (b0.Kind == 2) (
 γ54 [dIq b0.Code] [] [] fun r4 =>
 cond (!r4) (
  (rI 1)) (
 cond b0.Present (
  cond (b0.Code != 0) (
  (rI 28)) (
  (rI 0))) (
 (rI 0)))) (
 cond (b0.Kind == 14) (
 γ54 [dIq b0.Code] [] [] fun r5 =>
 cond (!r5) (
  (rI 1)) (
 cond b0.Present (
  cond (b0.Code != 0) (
  (rI 28)) (
  (rI 0))) (
 (rI 0)))) (
 atf (C23 Γ γ51 γ16 γ52 γ53 γ54 γ55 γ56 γ57) Λ2 J (aA.enc b0)))))) := by kernel_rfl
end
abbrev X23 : aR := C23 gG (cT 51 dY) (cT 16 packet_is_out) (cT 52 aJ) (cT 53 aJ) (cT 54 packet_is_out) (cT 55 aJ) (cT 56 aJ) (cT 57 aJ)
theorem aoT : X23 = aS gG := by unfold X23 C23; repeat rw [bH fun _ h => h]
abbrev axd := asP X23 (cB SE gG (SE.hl 23) (SE.hr 23)) (J0 SE X23)
abbrev aya := as0 X23 (cB SE gG (SE.hl 23) (SE.hr 23)) (J0 SE X23)
abbrev axz := atf X23 (cB SE gG (SE.hl 23) (SE.hr 23)) (J0 SE X23)
abbrev aAZ := av1 X23 (cB SE gG (SE.hl 23) (SE.hr 23)) (J0 SE X23)
theorem ad1 (b0 : aA) : Le (Option.map aJ (pA b0)) (axd (aA.enc b0)) := by
 refine Le.trans ?_ (le_of_eq ((bD aoT).trans (axN ..)).symm)
 unfold pA
 refine lQ eX bB (by (try simp only [EN]); exact ahc ((w6 ((w6 ((List.length b0.Subs : Int) + (List.length b0.Filters : Int))) + (List.length b0.Codes : Int))))) fun r7 _ => ?_
 refine lC ?_ ?_
 ·exact aG rfl
 ·refine lQ eX bB (aex _) fun r8 _ => ?_
  exact aG rfl
theorem ady (b0 : aA) : Le (Option.map aJ (pL b0)) (aya (aA.enc b0)) := by
 refine Le.trans ?_ (le_of_eq ((bD aoT).trans (axR ..)).symm)
 unfold pL
 refine lQ eX bB (aaU _) fun r6 _ => ?_
 refine lC ?_ ?_
 ·exact aG rfl
 ·refine lC ?_ ?_
  ·exact aG rfl
  ·exact ad1 b0
theorem adG (b0 : aA) : Le (Option.map aJ (o9 b0)) (axz (aA.enc b0)) := by
 refine Le.trans ?_ (le_of_eq ((bD aoT).trans (ax7 ..)).symm)
 unfold o9
 refine lC ?_ ?_
 ·exact aG rfl
 ·refine lC ?_ ?_
  ·exact aG rfl
  ·exact ady b0
theorem aeu (b0 : aA) : Le (Option.map aJ (qB b0)) (aAZ (aA.enc b0)) := by
 refine Le.trans ?_ (le_of_eq ((bD aoT).trans (aAp ..)).symm)
 unfold qB
 refine lQ eX aeM (ahE _) fun r0 _ => ?_
 refine lQ eX packet_is_inj (lE _ _) fun r1 _ => ?_
 refine lC ?_ ?_
 ·exact aG rfl
 ·refine lC ?_ ?_
  ·refine lQ eX bB (afI _) fun r2 _ => ?_
   exact aG rfl
  ·refine lC ?_ ?_
   ·refine lQ eX bB (afL _) fun r3 _ => ?_
    exact aG rfl
   ·refine lC ?_ ?_
    ·refine lQ eX packet_is_inj (wI _) fun r4 _ => ?_
     refine lC ?_ ?_
     ·exact aG rfl
     ·refine lC ?_ ?_
      ·refine lC ?_ ?_
       ·exact aG rfl
       ·exact aG rfl
      ·exact aG rfl
    ·refine lC ?_ ?_
     ·refine lQ eX packet_is_inj (wI _) fun r5 _ => ?_
      refine lC ?_ ?_
      ·exact aG rfl
      ·refine lC ?_ ?_
       ·refine lC ?_ ?_
        ·exact aG rfl
        ·exact aG rfl
       ·exact aG rfl
     ·exact adG b0
theorem qO (p0 : aA) : Le (Option.map aJ (jT p0)) (bF SE 23 [aA.av p0] [] []) := by
 refine aZ aoT rfl ?_
 refine Le.trans ?_ (le_of_eq (T23 ..).symm)
 unfold jT
 refine lC ?_ ?_
 ·exact aG rfl
 ·refine lC ?_ ?_
  ·exact aG rfl
  ·exact aeu p0
def apk (C : aR) (Λ2 J : Lam) (a0 a1 a2 : List D) : Res := lab SE C Λ2 J 15 0 [1, 1, 1, 1, 1, 1, 1, 1, 1, 0, 0] (bA [(2, .ptr 1000000000 0), (4, .ptr 1000000001 0), (6, .ptr 1000000002 0)] [⟨31, (List.map AV.d a0)⟩, ⟨72, (List.map AV.d a1)⟩, ⟨31, (List.map AV.d a2)⟩] [] [] [])
def alq (C : aR) (Λ2 J : Lam) (a0 a1 a2 : List D) : Res := lab SE C Λ2 J 15 0 [1, 1, 1, 1, 1, 1, 1, 1, 0, 0] (bA [(2, .ptr 1000000000 0), (4, .ptr 1000000001 0), (6, .ptr 1000000002 0)] [⟨31, (List.map AV.d a0)⟩, ⟨72, (List.map AV.d a1)⟩, ⟨31, (List.map AV.d a2)⟩] [] [] [])
def alA (C : aR) (Λ2 J : Lam) (a0 : List (List D)) (a1 : Int) (a2 a3 : List D) : Res := lab SE C Λ2 J 15 0 [1, 1, 1, 1, 1, 0, 0] (bA [(0, .d (.sl [.int .u8] a0)), (2, .ptr 1000000000 0), (4, .ptr 1000000001 0), (5, dIq a1)] [⟨31, (List.map AV.d a2)⟩, ⟨72, (List.map AV.d a3)⟩] [] [] [])
section
variable (Γ : Fun) (γ41 : Gm (Int × aE)) (γ42 : Gm (aA × aE)) (γ23 : Gm (Int)) (Λ2 J : Lam)
def C15 : aR := bE (bE (bE (aS Γ) 41 bC γ41) 42 dC γ42) 23 aJ γ23
theorem T15 (p0 : List Int) : bK SE (C15 Γ γ41 γ42 γ23) Λ2 J 15 [.d (.sl [.int .u8] (List.map (aO .u8) p0))] [] [] =
 cond (decide ((lM (aO .u8) p0 : Int) > 4096)) (
 (some (eB ((zPq, 5))))) (
 γ41 [.ptr 2000000000 0] [⟨72, (aE.avs (aE.mk p0 0 0))⟩] [] fun r0 =>
 cond (r0.2.E == 0) (
 cond (decide (r0.1 < 1)) (
  alA (C15 Γ γ41 γ42 γ23) Λ2 J (List.map (aO .u8) p0) r0.1 [D.int .i64 0, D.int .i64 0, D.bool false, D.str [], D.str [], D.int .i64 0, D.bool false, D.int .i64 0, D.int .i64 0, D.str [], D.int .i64 0, D.sl aC.ks (List.map aC.enc []), D.str [], D.str [], D.bool false, D.int .i64 0, D.int .i64 0, D.int .i64 0, D.bool false, D.int .i64 0, D.str [], D.str [], D.int .i64 0, D.bool false, D.int .i64 0, D.int .i64 0, D.str [], D.int .i64 0, D.sl aC.ks (List.map aC.enc []), D.bool false, D.int .i64 0, D.sl aH.ks (List.map aH.enc []), D.sl [.str] (List.map aY []), D.sl [.int .i64] (List.map eI [])] (aE.enc (aE.mk r0.2.B r0.2.At 10))) (
 cond (decide (r0.1 > 14)) (
  alA (C15 Γ γ41 γ42 γ23) Λ2 J (List.map (aO .u8) p0) r0.1 [D.int .i64 0, D.int .i64 0, D.bool false, D.str [], D.str [], D.int .i64 0, D.bool false, D.int .i64 0, D.int .i64 0, D.str [], D.int .i64 0, D.sl aC.ks (List.map aC.enc []), D.str [], D.str [], D.bool false, D.int .i64 0, D.int .i64 0, D.int .i64 0, D.bool false, D.int .i64 0, D.str [], D.str [], D.int .i64 0, D.bool false, D.int .i64 0, D.int .i64 0, D.str [], D.int .i64 0, D.sl aC.ks (List.map aC.enc []), D.bool false, D.int .i64 0, D.sl aH.ks (List.map aH.enc []), D.sl [.str] (List.map aY []), D.sl [.int .i64] (List.map eI [])] (aE.enc (aE.mk r0.2.B r0.2.At 10))) (
 alA (C15 Γ γ41 γ42 γ23) Λ2 J (List.map (aO .u8) p0) r0.1 [D.int .i64 0, D.int .i64 0, D.bool false, D.str [], D.str [], D.int .i64 0, D.bool false, D.int .i64 0, D.int .i64 0, D.str [], D.int .i64 0, D.sl aC.ks (List.map aC.enc []), D.str [], D.str [], D.bool false, D.int .i64 0, D.int .i64 0, D.int .i64 0, D.bool false, D.int .i64 0, D.str [], D.str [], D.int .i64 0, D.bool false, D.int .i64 0, D.int .i64 0, D.str [], D.int .i64 0, D.sl aC.ks (List.map aC.enc []), D.bool false, D.int .i64 0, D.sl aH.ks (List.map aH.enc []), D.sl [.str] (List.map aY []), D.sl [.int .i64] (List.map eI [])] (aE.enc r0.2)))) (
 alA (C15 Γ γ41 γ42 γ23) Λ2 J (List.map (aO .u8) p0) r0.1 [D.int .i64 0, D.int .i64 0, D.bool false, D.str [], D.str [], D.int .i64 0, D.bool false, D.int .i64 0, D.int .i64 0, D.str [], D.int .i64 0, D.sl aC.ks (List.map aC.enc []), D.str [], D.str [], D.bool false, D.int .i64 0, D.int .i64 0, D.int .i64 0, D.bool false, D.int .i64 0, D.str [], D.str [], D.int .i64 0, D.bool false, D.int .i64 0, D.int .i64 0, D.str [], D.int .i64 0, D.sl aC.ks (List.map aC.enc []), D.bool false, D.int .i64 0, D.sl aH.ks (List.map aH.enc []), D.sl [.str] (List.map aY []), D.sl [.int .i64] (List.map eI [])] (aE.enc r0.2))) := by kernel_rfl
theorem ayf (b0 : aA) (b1 : aE) (b2 : aA) : cJ SE (C15 Γ γ41 γ42 γ23) Λ2 J 15 0 [1, 1, 1, 1, 1, 1, 1, 1, 1, 0, 0] (bA [(2, .ptr 1000000000 0), (4, .ptr 1000000001 0), (6, .ptr 1000000002 0)] [⟨31, (List.map AV.d (aA.enc b0))⟩, ⟨72, (List.map AV.d (aE.enc b1))⟩, ⟨31, (List.map AV.d (aA.enc b2))⟩] [] [] []) =
 cond (b1.E != 0) (
 (some (eB ((zPq, b1.E))))) (
 (some (.ret [aA.av b2, dIq 0] [] []))) := by kernel_rfl
theorem ayI (b0 : aA) (b1 : aE) (b2 : aA) : cJ SE (C15 Γ γ41 γ42 γ23) Λ2 J 15 0 [1, 1, 1, 1, 1, 1, 1, 1, 0, 0] (bA [(2, .ptr 1000000000 0), (4, .ptr 1000000001 0), (6, .ptr 1000000002 0)] [⟨31, (List.map AV.d (aA.enc b0))⟩, ⟨72, (List.map AV.d (aE.enc b1))⟩, ⟨31, (List.map AV.d (aA.enc b2))⟩] [] [] []) =
 cond (b1.E == 0) (
 γ23 [aA.av b2] [] [] fun r2 =>
 apk (C15 Γ γ41 γ42 γ23) Λ2 J (aA.enc b0) (aE.enc (aE.mk b1.B b1.At r2)) (aA.enc b2)) (
 apk (C15 Γ γ41 γ42 γ23) Λ2 J (aA.enc b0) (aE.enc b1) (aA.enc b2)) := by kernel_rfl
theorem aCc (x0 : List Int) (x5 : Int) (b0 : aA) (b1 : aE) : cJ SE (C15 Γ γ41 γ42 γ23) Λ2 J 15 0 [1, 1, 1, 1, 1, 0, 0] (bA [(0, .d (.sl [.int .u8] (List.map (aO .u8) x0))), (2, .ptr 1000000000 0), (4, .ptr 1000000001 0), (5, dIq x5)] [⟨31, (List.map AV.d (aA.enc b0))⟩, ⟨72, (List.map AV.d (aE.enc b1))⟩] [] [] []) =
 cond (b1.E != 0) (
 (some (eB ((zPq, b1.E))))) (
 γ42 [.ptr 2000000000 0, dIq x5] [⟨72, (aE.avs b1)⟩] [] fun r1 =>
 cond (r1.2.E == 0) (
 cond (decide (r1.2.At < (lM (aO .u8) x0 : Int))) (
  alq (C15 Γ γ41 γ42 γ23) Λ2 J (aA.enc b0) (aE.enc (aE.mk r1.2.B r1.2.At 2)) (aA.enc r1.1)) (
 alq (C15 Γ γ41 γ42 γ23) Λ2 J (aA.enc b0) (aE.enc r1.2) (aA.enc r1.1))) (
 alq (C15 Γ γ41 γ42 γ23) Λ2 J (aA.enc b0) (aE.enc r1.2) (aA.enc r1.1))) := by kernel_rfl
end
abbrev X15 : aR := C15 gG (cT 41 bC) (cT 42 dC) (cT 23 aJ)
theorem ase : X15 = aS gG := by unfold X15 C15; repeat rw [bH fun _ h => h]
abbrev awR := apk X15 (cB SE gG (SE.hl 15) (SE.hr 15)) (J0 SE X15)
abbrev ayh := alq X15 (cB SE gG (SE.hl 15) (SE.hr 15)) (J0 SE X15)
abbrev azQ := alA X15 (cB SE gG (SE.hl 15) (SE.hr 15)) (J0 SE X15)
theorem wQ (b0 : aA) (b1 : aE) (b2 : aA) : Le (Option.map eB (jO b0 b1 b2)) (awR (aA.enc b0) (aE.enc b1) (aA.enc b2)) := by
 refine Le.trans ?_ (le_of_eq ((bD ase).trans (ayf ..)).symm)
 unfold jO
 refine lC ?_ ?_
 ·exact aG rfl
 ·exact aG rfl
theorem qS (b0 : aA) (b1 : aE) (b2 : aA) : Le (Option.map eB (dL b0 b1 b2)) (ayh (aA.enc b0) (aE.enc b1) (aA.enc b2)) := by
 refine Le.trans ?_ (le_of_eq ((bD ase).trans (ayI ..)).symm)
 unfold dL
 refine lC ?_ ?_
 ·refine lQ eX bB (qO _) fun r2 _ => ?_
  exact wQ b0 (aE.mk b1.B b1.At r2) b2
 ·exact wQ b0 b1 b2
theorem mV (x0 : List Int) (x5 : Int) (b0 : aA) (b1 : aE) : Le (Option.map eB (dP x0 x5 b0 b1)) (azQ (List.map (aO .u8) x0) x5 (aA.enc b0) (aE.enc b1)) := by
 refine Le.trans ?_ (le_of_eq ((bD ase).trans (aCc ..)).symm)
 unfold dP
 refine lC ?_ ?_
 ·exact aG rfl
 ·refine lQ eX uQ (ahA _ _) fun r1 _ => ?_
  refine lC ?_ ?_
  ·refine lD (by simp only [EN]) ?_ ?_
   ·exact qS b0 (aE.mk r1.2.B r1.2.At 2) r1.1
   ·exact qS b0 r1.2 r1.1
  ·exact qS b0 r1.2 r1.1
theorem aag (p0 : List Int) : Le (Option.map eB (hZ p0)) (bF SE 15 [.d (.sl [.int .u8] (List.map (aO .u8) p0))] [] []) := by
 refine aZ ase rfl ?_
 refine Le.trans ?_ (le_of_eq (T15 ..).symm)
 unfold hZ
 refine lD (by simp only [EN]) ?_ ?_
 ·exact aG rfl
 ·refine lQ eX bL (cF _) fun r0 _ => ?_
  refine lC ?_ ?_
  ·refine lC ?_ ?_
   ·(try simp only [EN]); exact mV p0 r0.1 (zPq) (aE.mk r0.2.B r0.2.At 10)
   ·refine lC ?_ ?_
    ·(try simp only [EN]); exact mV p0 r0.1 (zPq) (aE.mk r0.2.B r0.2.At 10)
    ·(try simp only [EN]); exact mV p0 r0.1 (zPq) r0.2
  ·(try simp only [EN]); exact mV p0 r0.1 (zPq) r0.2
def ar2 (C : aR) (Λ2 J : Lam) (a0 : List (List D)) (a1 : Int) (a2 : List (List D)) : Res := lab SE C Λ2 J 20 0 [1, 1, 1, 0, 0] (bA [(0, .d (.sl [.int .u8] a0)), (4, .row 3004), (5, dIq a1)] [] [] [] [(3004, ⟨aA.ks, 31, 416, a2⟩)])
section
variable (Γ : Fun) (γ50 : Gm (Str × Int × Int)) (γ15 : Gm (aA × Int)) (Λ2 J : Lam)
def C20 : aR := bE (bE (aS Γ) 50 gA γ50) 15 eB γ15
theorem T20 (p0 : List Int) : bK SE (C20 Γ γ50 γ15) Λ2 J 20 [.d (.sl [.int .u8] (List.map (aO .u8) p0))] [] [] =
 ar2 (C20 Γ γ50 γ15) Λ2 J (List.map (aO .u8) p0) 0 (List.map aA.enc []) := by kernel_rfl
theorem aAz (x0 : List Int) (x5 : Int) (w3004 : List aA) : cJ SE (C20 Γ γ50 γ15) Λ2 J 20 0 [1, 1, 1, 0, 0] (bA [(0, .d (.sl [.int .u8] (List.map (aO .u8) x0))), (4, .row 3004), (5, dIq x5)] [] [] [] [(3004, ⟨aA.ks, 31, 416, (List.map aA.enc w3004)⟩)]) =
 cond (decide (x5 < (lM (aO .u8) x0 : Int))) (
 γ50 [.d (.sl [.int .u8] (List.map (aO .u8) x0)), dIq x5, dIq 4096] [] [] fun r0 =>
 cond (r0.2.2 != 0) (
  (some (dM ([], r0.2.2)))) (
 γ15 [.d (.sl [.int .u8] (fP r0.1))] [] [] fun r1 =>
 cond (r1.2 != 0) (
  (some (dM ([], r1.2)))) (
 cond (decide ((lM aA.enc w3004 + lM aA.enc [r1.1]) * 416 ≤ 140737488355328)) (
  ar2 (C20 Γ γ50 γ15) Λ2 J (List.map (aO .u8) x0) r0.2.1 (((List.map aA.enc w3004) ++ (List.map aA.enc [r1.1])))) none))) (
 (some (dM (w3004, 0)))) := by kernel_rfl
end
abbrev X20 : aR := C20 gG (cT 50 gA) (cT 15 eB)
theorem ayW : X20 = aS gG := by unfold X20 C20; repeat rw [bH fun _ h => h]
abbrev aBn := ar2 X20 (cB SE gG (SE.hl 20) (SE.hr 20)) (J0 SE X20)
theorem ab6 : ∀ (fu : Nat) (x0 : List Int) (x5 : Int) (w3004 : List aA), Le (Option.map dM (fG fu x0 x5 w3004)) (aBn (List.map (aO .u8) x0) x5 (List.map aA.enc w3004)) := by
 intro fu
 induction fu with
 | zero => intros; exact le_none
 | succ fu ih =>
  intro x0 x5 w3004
  refine Le.trans ?_ (le_of_eq ((bD ayW).trans (aAz ..)).symm)
  unfold fG
  refine lD (by simp only [EN]) ?_ ?_
  ·refine lQ eX ack (aa8 _ _ _) fun r0 _ => ?_
   refine lC ?_ ?_
   ·exact aG rfl
   ·refine lQ eX zE (by (try simp only [EN]); exact aag (ofStr r0.1)) fun r1 _ => ?_
    refine lC ?_ ?_
    ·exact aG rfl
    ·refine lG (by simp only [EN]) ?_
     (try simp only [EN]); exact ih x0 r0.2.1 (w3004 ++ [r1.1])
  ·exact aG rfl
theorem adD (p0 : List Int) : Le (Option.map dM (pK p0)) (bF SE 20 [.d (.sl [.int .u8] (List.map (aO .u8) p0))] [] []) := by
 refine aZ ayW rfl ?_
 refine Le.trans ?_ (le_of_eq (T20 ..).symm)
 unfold pK
 (try simp only [EN]); exact ab6 fuel p0 0 []
def arW (C : aR) (Λ2 J : Lam) (a0 a1 : List (List D)) (a2 : Int) : Res := lab SE C Λ2 J 21 0 [1, 1, 0, 1, 0] (bA [(0, .d (.sl aA.ks a0)), (1, .d (.sl aA.ks a1)), (5, dIq a2)] [] [] [] [])
section
variable (Γ : Fun) (γ16 : Gm (Bool)) (Λ2 J : Lam)
def C21 : aR := bE (aS Γ) 16 packet_is_out γ16
theorem T21 (p0 p1 : List aA) : bK SE (C21 Γ γ16) Λ2 J 21 [.d (.sl aA.ks (List.map aA.enc p0)), .d (.sl aA.ks (List.map aA.enc p1))] [] [] =
 cond ((lM aA.enc p0 : Int) != (lM aA.enc p1 : Int)) (
 (rB false)) (
 arW (C21 Γ γ16) Λ2 J (List.map aA.enc p0) (List.map aA.enc p1) 0) := by kernel_rfl
theorem aBk (x0 x1 : List aA) (x5 : Int) : cJ SE (C21 Γ γ16) Λ2 J 21 0 [1, 1, 0, 1, 0] (bA [(0, .d (.sl aA.ks (List.map aA.enc x0))), (1, .d (.sl aA.ks (List.map aA.enc x1))), (5, dIq x5)] [] [] [] []) =
 cond (decide (x5 < (lM aA.enc x0 : Int))) (
 cond (iB x5 (lM aA.enc x0 : Int)) (
  cond (iB x5 (lM aA.enc x1 : Int)) (
  γ16 [.agg [dIq (aX (cE aA.enc x0 x5 0)), dIq (aX (cE aA.enc x0 x5 1)), dBq (bT (cE aA.enc x0 x5 2)), dSq (bJ (cE aA.enc x0 x5 3)), dSq (bJ (cE aA.enc x0 x5 4)), dIq (aX (cE aA.enc x0 x5 5)), dBq (bT (cE aA.enc x0 x5 6)), dIq (aX (cE aA.enc x0 x5 7)), dIq (aX (cE aA.enc x0 x5 8)), dSq (bJ (cE aA.enc x0 x5 9)), dIq (aX (cE aA.enc x0 x5 10)), .d (.sl aC.ks (dSl (cE aA.enc x0 x5 11))), dSq (bJ (cE aA.enc x0 x5 12)), dSq (bJ (cE aA.enc x0 x5 13)), dBq (bT (cE aA.enc x0 x5 14)), dIq (aX (cE aA.enc x0 x5 15)), dIq (aX (cE aA.enc x0 x5 16)), dIq (aX (cE aA.enc x0 x5 17)), dBq (bT (cE aA.enc x0 x5 18)), dIq (aX (cE aA.enc x0 x5 19)), dSq (bJ (cE aA.enc x0 x5 20)), dSq (bJ (cE aA.enc x0 x5 21)), dIq (aX (cE aA.enc x0 x5 22)), dBq (bT (cE aA.enc x0 x5 23)), dIq (aX (cE aA.enc x0 x5 24)), dIq (aX (cE aA.enc x0 x5 25)), dSq (bJ (cE aA.enc x0 x5 26)), dIq (aX (cE aA.enc x0 x5 27)), .d (.sl aC.ks (dSl (cE aA.enc x0 x5 28))), dBq (bT (cE aA.enc x0 x5 29)), dIq (aX (cE aA.enc x0 x5 30)), .d (.sl aH.ks (dSl (cE aA.enc x0 x5 31))), .d (.sl [.str] (dSl (cE aA.enc x0 x5 32))), .d (.sl [.int .i64] (dSl (cE aA.enc x0 x5 33)))], .agg [dIq (aX (cE aA.enc x1 x5 0)), dIq (aX (cE aA.enc x1 x5 1)), dBq (bT (cE aA.enc x1 x5 2)), dSq (bJ (cE aA.enc x1 x5 3)), dSq (bJ (cE aA.enc x1 x5 4)), dIq (aX (cE aA.enc x1 x5 5)), dBq (bT (cE aA.enc x1 x5 6)), dIq (aX (cE aA.enc x1 x5 7)), dIq (aX (cE aA.enc x1 x5 8)), dSq (bJ (cE aA.enc x1 x5 9)), dIq (aX (cE aA.enc x1 x5 10)), .d (.sl aC.ks (dSl (cE aA.enc x1 x5 11))), dSq (bJ (cE aA.enc x1 x5 12)), dSq (bJ (cE aA.enc x1 x5 13)), dBq (bT (cE aA.enc x1 x5 14)), dIq (aX (cE aA.enc x1 x5 15)), dIq (aX (cE aA.enc x1 x5 16)), dIq (aX (cE aA.enc x1 x5 17)), dBq (bT (cE aA.enc x1 x5 18)), dIq (aX (cE aA.enc x1 x5 19)), dSq (bJ (cE aA.enc x1 x5 20)), dSq (bJ (cE aA.enc x1 x5 21)), dIq (aX (cE aA.enc x1 x5 22)), dBq (bT (cE aA.enc x1 x5 23)), dIq (aX (cE aA.enc x1 x5 24)), dIq (aX (cE aA.enc x1 x5 25)), dSq (bJ (cE aA.enc x1 x5 26)), dIq (aX (cE aA.enc x1 x5 27)), .d (.sl aC.ks (dSl (cE aA.enc x1 x5 28))), dBq (bT (cE aA.enc x1 x5 29)), dIq (aX (cE aA.enc x1 x5 30)), .d (.sl aH.ks (dSl (cE aA.enc x1 x5 31))), .d (.sl [.str] (dSl (cE aA.enc x1 x5 32))), .d (.sl [.int .i64] (dSl (cE aA.enc x1 x5 33)))]] [] [] fun r0 =>
  cond (!r0) (
   (rB false)) (
  arW (C21 Γ γ16) Λ2 J (List.map aA.enc x0) (List.map aA.enc x1) (w6 (x5 + 1)))) none) none) (
 (rB true)) := by kernel_rfl
end
abbrev X21 : aR := C21 gG (cT 16 packet_is_out)
theorem ayl : X21 = aS gG := by unfold X21 C21; rw [bH fun _ h => h]
abbrev aBN := arW X21 (cB SE gG (SE.hl 21) (SE.hr 21)) (J0 SE X21)
theorem ac1 : ∀ (fu : Nat) (x0 x1 : List aA) (x5 : Int), Le (Option.map packet_is_out (iJ fu x0 x1 x5)) (aBN (List.map aA.enc x0) (List.map aA.enc x1) x5) := by
 intro fu
 induction fu with
 | zero => intros; exact le_none
 | succ fu ih =>
  intro x0 x1 x5
  refine Le.trans ?_ (le_of_eq ((bD ayl).trans (aBk ..)).symm)
  unfold iJ
  refine lD (by simp only [EN]) ?_ ?_
  ·refine lG (by simp only [EN]) ?_
   refine lG (by simp only [EN]) ?_
   refine lQ eX packet_is_inj (by (try simp only [EN]); exact lE (List.getD x0 (Int.toNat x5) default) (List.getD x1 (Int.toNat x5) default)) fun r0 _ => ?_
   refine lC ?_ ?_
   ·exact aG rfl
   ·exact ih x0 x1 (w6 (x5 + 1))
  ·exact aG rfl
theorem yX (p0 p1 : List aA) : Le (Option.map packet_is_out (lA p0 p1)) (bF SE 21 [.d (.sl aA.ks (List.map aA.enc p0)), .d (.sl aA.ks (List.map aA.enc p1))] [] []) := by
 refine aZ ayl rfl ?_
 refine Le.trans ?_ (le_of_eq (T21 ..).symm)
 unfold lA
 refine lD (by simp only [EN]) ?_ ?_
 ·exact aG rfl
 ·exact ac1 fuel p0 p1 0
section
variable (Γ : Fun) (γ10 : Gm (Bool)) (γ19 γ20 : Gm ((List aA) × Int)) (γ21 : Gm (Bool)) (Λ2 J : Lam)
def C6 : aR := bE (bE (bE (bE (aS Γ) 10 packet_is_out γ10) 19 dM γ19) 20 dM γ20) 21 packet_is_out γ21
theorem T6 (p0 : List Int) : bK SE (C6 Γ γ10 γ19 γ20 γ21) Λ2 J 6 [.d (.sl [.int .u8] (List.map (aO .u8) p0))] [] [] =
 cond (decide ((lM (aO .u8) p0 : Int) > 5000)) (
 γ10 [] [] [] fun r0 =>
 (rB r0)) (
 γ19 [.d (.sl [.int .u8] (List.map (aO .u8) p0))] [] [] fun r1 =>
 γ20 [.d (.sl [.int .u8] (List.map (aO .u8) p0))] [] [] fun r2 =>
 γ21 [.d (.sl aA.ks (List.map aA.enc r1.1)), .d (.sl aA.ks (List.map aA.enc r2.1))] [] [] fun r3 =>
 cond r3 (
 cond (r1.2 == r2.2) (
  γ10 [] [] [] fun r4 =>
  (rB r4)) (
 (rB false))) (
 (rB false))) := by kernel_rfl
end
abbrev X6 : aR := C6 gG (cT 10 packet_is_out) (cT 19 dM) (cT 20 dM) (cT 21 packet_is_out)
theorem Cr6 : X6 = aS gG := by unfold X6 C6; repeat rw [bH fun _ h => h]
theorem adI (p0 : List Int) : Le (Option.map packet_is_out (o6 p0)) (bF SE 6 [.d (.sl [.int .u8] (List.map (aO .u8) p0))] [] []) := by
 refine aZ Cr6 rfl ?_
 refine Le.trans ?_ (le_of_eq (T6 ..).symm)
 unfold o6
 refine lD (by simp only [EN]) ?_ ?_
 ·refine lQ eX packet_is_inj (dG) fun r0 _ => ?_
  exact aG rfl
 ·refine lQ eX sJ (yW _) fun r1 _ => ?_
  refine lQ eX sJ (adD _) fun r2 _ => ?_
  refine lQ eX packet_is_inj (yX _ _) fun r3 _ => ?_
  refine lC ?_ ?_
  ·refine lC ?_ ?_
   ·refine lQ eX packet_is_inj (dG) fun r4 _ => ?_
    exact aG rfl
   ·exact aG rfl
  ·exact aG rfl
end Te
end PX
