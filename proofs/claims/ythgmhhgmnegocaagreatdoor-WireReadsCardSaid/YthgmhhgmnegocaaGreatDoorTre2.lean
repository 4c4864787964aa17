import Derived.Test.YthgmhhgmnegocaaGreatDoorTre1
set_option linter.unusedVariables false
set_option linter.unusedSimpArgs false
set_option maxRecDepth 100000
noncomputable section
namespace PX
open Go
open Md
namespace Te
def alK (C : aR) (Λ2 J : Lam) (a0 : Int) (a1 : List D) : Res := lab SE C Λ2 J 80 1 [1, 1, 1, 0, 0] (bA [(0, .ptr 2000000000 0), (5, dIq a0)] [] [⟨72, (List.map AV.d a1)⟩] [] [])
section
variable (Γ : Fun) (γ41 : Gm (Int × aE)) (Λ2 J : Lam)
def C80 : aR := bE (aS Γ) 41 bC γ41
theorem T80 (p0 : aE) (p1 : Int) : bK SE (C80 Γ γ41) Λ2 J 80 [.ptr 2000000000 0, dIq p1] [⟨72, (aE.avs p0)⟩] [] =
 γ41 [.ptr 2000000000 0] [⟨72, (aE.avs p0)⟩] [] fun r0 =>
 cond (r0.2.E == 0) (
 cond (decide (r0.1 < 0)) (
  alK (C80 Γ γ41) Λ2 J r0.1 (aE.enc (aE.mk r0.2.B r0.2.At 2))) (
 cond (decide (r0.1 ≥ p1)) (
  alK (C80 Γ γ41) Λ2 J r0.1 (aE.enc (aE.mk r0.2.B r0.2.At 2))) (
 alK (C80 Γ γ41) Λ2 J r0.1 (aE.enc r0.2)))) (
 alK (C80 Γ γ41) Λ2 J r0.1 (aE.enc r0.2)) := by kernel_rfl
theorem aBc (x5 : Int) (q0 : aE) : cJ SE (C80 Γ γ41) Λ2 J 80 1 [1, 1, 1, 0, 0] (bA [(0, .ptr 2000000000 0), (5, dIq x5)] [] [⟨72, (List.map AV.d (aE.enc q0))⟩] [] []) =
 cond (q0.E != 0) (
 (some (bC (0, q0)))) (
 (some (bC (x5, q0)))) := by kernel_rfl
end
abbrev X80 : aR := C80 gG (cT 41 bC)
theorem ayJ : X80 = aS gG := by unfold X80 C80; rw [bH fun _ h => h]
abbrev aBA := alK X80 (cB SE gG (SE.hl 80) (SE.hr 80)) (J0 SE X80)
theorem jA (x5 : Int) (q0 : aE) : Le (Option.map bC (cU x5 q0)) (aBA x5 (aE.enc q0)) := by
 refine Le.trans ?_ (le_of_eq ((bD ayJ).trans (aBc ..)).symm)
 unfold cU
 refine lC ?_ ?_
 ·exact aG rfl
 ·exact aG rfl
theorem iF (p0 : aE) (p1 : Int) : Le (Option.map bC (dB p0 p1)) (bF SE 80 [.ptr 2000000000 0, dIq p1] [⟨72, (aE.avs p0)⟩] []) := by
 refine aZ ayJ rfl ?_
 refine Le.trans ?_ (le_of_eq (T80 ..).symm)
 unfold dB
 refine lQ eX bL (cF _) fun r0 _ => ?_
 refine lC ?_ ?_
 ·refine lC ?_ ?_
  ·exact jA r0.1 (aE.mk r0.2.B r0.2.At 2)
  ·refine lC ?_ ?_
   ·exact jA r0.1 (aE.mk r0.2.B r0.2.At 2)
   ·exact jA r0.1 r0.2
 ·exact jA r0.1 r0.2
section
variable (Γ : Fun)  (Λ2 J : Lam)
def ayO : aR := aS Γ
theorem aC3 (p0 p1 : Int) : bK SE (ayO Γ) Λ2 J 106 [dIq p0, dIq p1] [] [] =
 cond (decide (p1 ≥ 0)) (
 cond (decide (p1 < 32)) (
  cond (decide (0 ≤ (IntKind.wrap .u64 p1))) (
  (rB ((eF .and .i64 (shr .i64 p0 (IntKind.wrap .u64 p1)) 1) == 1))) none) (
 (rB false))) (
 (rB false)) := by kernel_rfl
end
abbrev aDn : aR := ayO gG
theorem aBB : aDn = aS gG := rfl
theorem aa6 (p0 p1 : Int) : Le (Option.map packet_is_out (kE p0 p1)) (bF SE 106 [dIq p0, dIq p1] [] []) := by
 refine aZ aBB rfl ?_
 refine Le.trans ?_ (le_of_eq (aC3 ..).symm)
 unfold kE
 refine lC ?_ ?_
 ·refine lC ?_ ?_
  ·refine lF ?_
   exact aG rfl
  ·exact aG rfl
 ·exact aG rfl
section
variable (Γ : Fun) (γ85 : Gm (Int × Int × Int)) (Λ2 J : Lam)
def aut : aR := bE (aS Γ) 85 cS γ85
theorem aDS (p0 : aE) (p1 : Int) : bK SE (aut Γ γ85) Λ2 J 107 [.ptr 2000000000 0, dIq p1] [⟨72, (aE.avs p0)⟩] [] =
 cond (p0.E != 0) (
 (some (bC (0, p0)))) (
 γ85 [.d (.sl [.int .u8] (List.map (aO .u8) p0.B)), dIq p0.At, dIq p1] [] [] fun r0 =>
 cond (r0.2.2 != 0) (
 (some (bC (0, (aE.mk p0.B p0.At r0.2.2))))) (
 (some (bC (r0.1, (aE.mk p0.B r0.2.1 p0.E)))))) := by kernel_rfl
end
abbrev ayG : aR := aut gG (cT 85 cS)
theorem aBe : ayG = aS gG := by unfold ayG aut; rw [bH fun _ h => h]
theorem sR (p0 : aE) (p1 : Int) : Le (Option.map bC (dW p0 p1)) (bF SE 107 [.ptr 2000000000 0, dIq p1] [⟨72, (aE.avs p0)⟩] []) := by
 refine aZ aBe rfl ?_
 refine Le.trans ?_ (le_of_eq (aDS ..).symm)
 unfold dW
 refine lC ?_ ?_
 ·exact aG rfl
 ·refine lQ eX rL (aaO _ _ _) fun r0 _ => ?_
  refine lC ?_ ?_
  ·exact aG rfl
  ·exact aG rfl
def atx (C : aR) (Λ2 J : Lam) (a0 a1 a2 : Int) (a3 : Bool) (a4 : List D) (a5 a6 : Str) (a7 : Int) (a8 : Bool) (a9 a10 : Int) (a11 : Str) (a12 : Int) (a13 : List D) (a14 : List (List D)) : Res := lab SE C Λ2 J 81 1 [1, 1, 1, 1, 1, 1, 1, 1, 1, 1, 1, 0, 1, 0, 0, 1, 0, 0, 0] (bA [(0, .ptr 2000000000 0), (2, .ptr 1000000000 0), (3, .ptr 1000000001 0), (4, dIq a0), (5, dIq a1), (39, .ptr 2000000000 0), (40, .ptr 2000000000 0), (41, .ptr 2000000000 2), (42, dIq a2), (43, dBq a3)] [⟨24, (List.map AV.d a4)⟩, ⟨24, [dSq a5, dSq a6, dIq a7, dBq a8, dIq a9, dIq a10, dSq a11, dIq a12, .row 50108]⟩] [⟨72, (List.map AV.d a13)⟩] [] [(50108, ⟨aC.ks, 89, 32, a14⟩)])
def anY (C : aR) (Λ2 J : Lam) (a0 a1 : Int) (a2 : List D) (a3 a4 : Str) (a5 : Int) (a6 : Bool) (a7 a8 : Int) (a9 : Str) (a10 : Int) (a11 : List D) (a12 : List (List D)) : Res := lab SE C Λ2 J 81 1 [1, 1, 1, 1, 1, 1, 1, 1, 1, 1, 1, 0, 1, 0] (bA [(0, .ptr 2000000000 0), (2, .ptr 1000000000 0), (3, .ptr 1000000001 0), (4, dIq a0), (5, dIq a1)] [⟨24, (List.map AV.d a2)⟩, ⟨24, [dSq a3, dSq a4, dIq a5, dBq a6, dIq a7, dIq a8, dSq a9, dIq a10, .row 50108]⟩] [⟨72, (List.map AV.d a11)⟩] [] [(50108, ⟨aC.ks, 89, 32, a12⟩)])
section
variable (Γ : Fun) (γ105 : Gm (Str × aE)) (γ41 γ80 γ107 : Gm (Int × aE)) (Λ2 J : Lam)
def C81 : aR := bE (bE (bE (bE (aS Γ) 105 cX γ105) 41 bC γ41) 80 bC γ80) 107 bC γ107
theorem T81 (p0 : aE) : bK SE (C81 Γ γ105 γ41 γ80 γ107) Λ2 J 81 [.ptr 2000000000 0] [⟨72, (aE.avs p0)⟩] [] =
 γ105 [.ptr 2000000000 0, dIq 64] [⟨72, (aE.avs p0)⟩] [] fun r0 =>
 γ105 [.ptr 2000000000 0, dIq 256] [⟨72, (aE.avs r0.2)⟩] [] fun r1 =>
 γ41 [.ptr 2000000000 0] [⟨72, (aE.avs r1.2)⟩] [] fun r2 =>
 γ80 [.ptr 2000000000 0, dIq 2] [⟨72, (aE.avs r2.2)⟩] [] fun r3 =>
 γ41 [.ptr 2000000000 0] [⟨72, (aE.avs r3.2)⟩] [] fun r4 =>
 γ41 [.ptr 2000000000 0] [⟨72, (aE.avs r4.2)⟩] [] fun r5 =>
 γ105 [.ptr 2000000000 0, dIq 16] [⟨72, (aE.avs r5.2)⟩] [] fun r6 =>
 γ41 [.ptr 2000000000 0] [⟨72, (aE.avs r6.2)⟩] [] fun r7 =>
 γ107 [.ptr 2000000000 0, dIq 8] [⟨72, (aE.avs r7.2)⟩] [] fun r8 =>
 anY (C81 Γ γ105 γ41 γ80 γ107) Λ2 J r8.1 0 [D.str [], D.str [], D.int .i64 0, D.bool false, D.int .i64 0, D.int .i64 0, D.str [], D.int .i64 0, D.sl aC.ks (List.map aC.enc [])] r0.1 r1.1 r2.1 (r3.1 == 1) r4.1 r5.1 r6.1 r7.1 (aE.enc r8.2) (List.map aC.enc []) := by kernel_rfl
theorem aze (x4 x5 x42 : Int) (x43 : Bool) (b0 : aF) (b1_0 b1_1 : Str) (b1_2 : Int) (b1_3 : Bool) (b1_4 b1_5 : Int) (b1_6 : Str) (b1_7 : Int) (q0 : aE) (w50108 : List aC) : cJ SE (C81 Γ γ105 γ41 γ80 γ107) Λ2 J 81 1 [1, 1, 1, 1, 1, 1, 1, 1, 1, 1, 1, 0, 1, 0, 0, 1, 0, 0, 0] (bA [(0, .ptr 2000000000 0), (2, .ptr 1000000000 0), (3, .ptr 1000000001 0), (4, dIq x4), (5, dIq x5), (39, .ptr 2000000000 0), (40, .ptr 2000000000 0), (41, .ptr 2000000000 2), (42, dIq x42), (43, dBq x43)] [⟨24, (List.map AV.d (aF.enc b0))⟩, ⟨24, [dSq b1_0, dSq b1_1, dIq b1_2, dBq b1_3, dIq b1_4, dIq b1_5, dSq b1_6, dIq b1_7, .row 50108]⟩] [⟨72, (List.map AV.d (aE.enc q0))⟩] [] [(50108, ⟨aC.ks, 89, 32, (List.map aC.enc w50108)⟩)]) =
 γ105 [.ptr 2000000000 0, dIq 16] [⟨72, (aE.avs q0)⟩] [] fun r9 =>
 γ105 [.ptr 2000000000 0, dIq 160] [⟨72, (aE.avs r9.2)⟩] [] fun r10 =>
 cond (decide ((lM aC.enc w50108 + lM aC.enc [(aC.mk r9.1 r10.1)]) * 32 ≤ 140737488355328)) (
 anY (C81 Γ γ105 γ41 γ80 γ107) Λ2 J x4 (w6 (x5 + 1)) (aF.enc b0) b1_0 b1_1 b1_2 b1_3 b1_4 b1_5 b1_6 b1_7 (aE.enc r10.2) (((List.map aC.enc w50108) ++ (List.map aC.enc [(aC.mk r9.1 r10.1)])))) none := by kernel_rfl
theorem ays (x4 x5 : Int) (b0 : aF) (b1_0 b1_1 : Str) (b1_2 : Int) (b1_3 : Bool) (b1_4 b1_5 : Int) (b1_6 : Str) (b1_7 : Int) (q0 : aE) (w50108 : List aC) : cJ SE (C81 Γ γ105 γ41 γ80 γ107) Λ2 J 81 1 [1, 1, 1, 1, 1, 1, 1, 1, 1, 1, 1, 0, 1, 0] (bA [(0, .ptr 2000000000 0), (2, .ptr 1000000000 0), (3, .ptr 1000000001 0), (4, dIq x4), (5, dIq x5)] [⟨24, (List.map AV.d (aF.enc b0))⟩, ⟨24, [dSq b1_0, dSq b1_1, dIq b1_2, dBq b1_3, dIq b1_4, dIq b1_5, dSq b1_6, dIq b1_7, .row 50108]⟩] [⟨72, (List.map AV.d (aE.enc q0))⟩] [] [(50108, ⟨aC.ks, 89, 32, (List.map aC.enc w50108)⟩)]) =
 cond (decide (x5 < x4)) (
 cond (q0.E == 0) (
  atx (C81 Γ γ105 γ41 γ80 γ107) Λ2 J x4 x5 q0.E (q0.E == 0) (aF.enc b0) b1_0 b1_1 b1_2 b1_3 b1_4 b1_5 b1_6 b1_7 (aE.enc q0) (List.map aC.enc w50108)) (
 (some (cM ((aF.mk b1_0 b1_1 b1_2 b1_3 b1_4 b1_5 b1_6 b1_7 w50108), q0))))) (
 (some (cM ((aF.mk b1_0 b1_1 b1_2 b1_3 b1_4 b1_5 b1_6 b1_7 w50108), q0)))) := by kernel_rfl
end
abbrev X81 : aR := C81 gG (cT 105 cX) (cT 41 bC) (cT 80 bC) (cT 107 bC)
theorem atU : X81 = aS gG := by unfold X81 C81; repeat rw [bH fun _ h => h]
abbrev axS := atx X81 (cB SE gG (SE.hl 81) (SE.hr 81)) (J0 SE X81)
abbrev asw := anY X81 (cB SE gG (SE.hl 81) (SE.hr 81)) (J0 SE X81)
theorem xR (k12 : Int → Int → aF → Str → Str → Int → Bool → Int → Int → Str → Int → aE → (List aC) → Option (aF × aE)) (hk12 : ∀ (x4 x5 : Int) (b0 : aF) (b1_0 b1_1 : Str) (b1_2 : Int) (b1_3 : Bool) (b1_4 b1_5 : Int) (b1_6 : Str) (b1_7 : Int) (q0 : aE) (w50108 : List aC), Le (Option.map cM (k12 x4 x5 b0 b1_0 b1_1 b1_2 b1_3 b1_4 b1_5 b1_6 b1_7 q0 w50108)) (asw x4 x5 (aF.enc b0) b1_0 b1_1 b1_2 b1_3 b1_4 b1_5 b1_6 b1_7 (aE.enc q0) (List.map aC.enc w50108))) (x4 x5 x42 : Int) (x43 : Bool) (b0 : aF) (b1_0 b1_1 : Str) (b1_2 : Int) (b1_3 : Bool) (b1_4 b1_5 : Int) (b1_6 : Str) (b1_7 : Int) (q0 : aE) (w50108 : List aC) : Le (Option.map cM (iZ k12 x4 x5 x42 x43 b0 b1_0 b1_1 b1_2 b1_3 b1_4 b1_5 b1_6 b1_7 q0 w50108)) (axS x4 x5 x42 x43 (aF.enc b0) b1_0 b1_1 b1_2 b1_3 b1_4 b1_5 b1_6 b1_7 (aE.enc q0) (List.map aC.enc w50108)) := by
 refine Le.trans ?_ (le_of_eq ((bD atU).trans (aze ..)).symm)
 unfold iZ
 refine lQ eX dN (dQ _ _) fun r9 _ => ?_
 refine lQ eX dN (dQ _ _) fun r10 _ => ?_
 refine lG (by simp only [EN]) ?_
 (try simp only [EN]); exact hk12 x4 (w6 (x5 + 1)) b0 b1_0 b1_1 b1_2 b1_3 b1_4 b1_5 b1_6 b1_7 r10.2 (w50108 ++ [(aC.mk r9.1 r10.1)])
theorem xF : ∀ (fu : Nat) (x4 x5 : Int) (b0 : aF) (b1_0 b1_1 : Str) (b1_2 : Int) (b1_3 : Bool) (b1_4 b1_5 : Int) (b1_6 : Str) (b1_7 : Int) (q0 : aE) (w50108 : List aC), Le (Option.map cM (eY fu x4 x5 b0 b1_0 b1_1 b1_2 b1_3 b1_4 b1_5 b1_6 b1_7 q0 w50108)) (asw x4 x5 (aF.enc b0) b1_0 b1_1 b1_2 b1_3 b1_4 b1_5 b1_6 b1_7 (aE.enc q0) (List.map aC.enc w50108)) := by
 intro fu
 induction fu with
 | zero => intros; exact le_none
 | succ fu ih =>
  intro x4 x5 b0 b1_0 b1_1 b1_2 b1_3 b1_4 b1_5 b1_6 b1_7 q0 w50108
  refine Le.trans ?_ (le_of_eq ((bD atU).trans (ays ..)).symm)
  unfold eY
  refine lC ?_ ?_
  ·refine lC ?_ ?_
   ·exact xR _ (ih) x4 x5 q0.E (q0.E == 0) b0 b1_0 b1_1 b1_2 b1_3 b1_4 b1_5 b1_6 b1_7 q0 w50108
   ·exact aG rfl
  ·exact aG rfl
theorem rM (p0 : aE) : Le (Option.map cM (eW p0)) (bF SE 81 [.ptr 2000000000 0] [⟨72, (aE.avs p0)⟩] []) := by
 refine aZ atU rfl ?_
 refine Le.trans ?_ (le_of_eq (T81 ..).symm)
 unfold eW
 refine lQ eX dN (dQ _ _) fun r0 _ => ?_
 refine lQ eX dN (dQ _ _) fun r1 _ => ?_
 refine lQ eX bL (cF _) fun r2 _ => ?_
 refine lQ eX bL (iF _ _) fun r3 _ => ?_
 refine lQ eX bL (cF _) fun r4 _ => ?_
 refine lQ eX bL (cF _) fun r5 _ => ?_
 refine lQ eX dN (dQ _ _) fun r6 _ => ?_
 refine lQ eX bL (cF _) fun r7 _ => ?_
 refine lQ eX bL (sR _ _) fun r8 _ => ?_
 (try simp only [EN]); exact xF fuel r8.1 0 (zMq) r0.1 r1.1 r2.1 (r3.1 == 1) r4.1 r5.1 r6.1 r7.1 r8.2 []
section
variable (Γ : Fun) (γ105 : Gm (Str × aE)) (γ80 : Gm (Int × aE)) (γ106 : Gm (Bool)) (γ41 : Gm (Int × aE)) (γ81 : Gm (aF × aE)) (Λ2 J : Lam)
def C79 : aR := bE (bE (bE (bE (bE (aS Γ) 105 cX γ105) 80 bC γ80) 106 packet_is_out γ106) 41 bC γ41) 81 cM γ81
theorem T79 (p0 : aE) (p1 : aA) : bK SE (C79 Γ γ105 γ80 γ106 γ41 γ81) Λ2 J 79 [.ptr 2000000000 0, aA.av p1] [⟨72, (aE.avs p0)⟩] [] =
 γ105 [.ptr 2000000000 0, dIq 16] [⟨72, (aE.avs p0)⟩] [] fun r0 =>
 γ105 [.ptr 2000000000 0, dIq 16] [⟨72, (aE.avs r0.2)⟩] [] fun r1 =>
 γ80 [.ptr 2000000000 0, dIq 4] [⟨72, (aE.avs r1.2)⟩] [] fun r2 =>
 γ106 [dIq r2.1, dIq 0] [] [] fun r3 =>
 γ106 [dIq r2.1, dIq 1] [] [] fun r4 =>
 γ41 [.ptr 2000000000 0] [⟨72, (aE.avs r2.2)⟩] [] fun r5 =>
 γ41 [.ptr 2000000000 0] [⟨72, (aE.avs r5.2)⟩] [] fun r6 =>
 γ41 [.ptr 2000000000 0] [⟨72, (aE.avs r6.2)⟩] [] fun r7 =>
 cond r4 (
 cond (r7.2.E == 0) (
  γ41 [.ptr 2000000000 0] [⟨72, (aE.avs r7.2)⟩] [] fun r8 =>
  γ81 [.ptr 2000000000 0] [⟨72, (aE.avs r8.2)⟩] [] fun r9 =>
  (some (dC ((aA.mk p1.Kind p1.ID p1.Dup p1.Message r0.1 r1.1 r3 r5.1 r6.1 r7.1 (aV.mk r4 r8.1 r9.1) p1.Present p1.Code p1.Subs p1.Filters p1.Codes), r9.2)))) (
 (some (dC ((aA.mk p1.Kind p1.ID p1.Dup p1.Message r0.1 r1.1 r3 r5.1 r6.1 r7.1 (aV.mk r4 p1.Will.Delay p1.Will.Message) p1.Present p1.Code p1.Subs p1.Filters p1.Codes), r7.2))))) (
 (some (dC ((aA.mk p1.Kind p1.ID p1.Dup p1.Message r0.1 r1.1 r3 r5.1 r6.1 r7.1 (aV.mk r4 p1.Will.Delay p1.Will.Message) p1.Present p1.Code p1.Subs p1.Filters p1.Codes), r7.2)))) := by kernel_rfl
end
abbrev X79 : aR := C79 gG (cT 105 cX) (cT 80 bC) (cT 106 packet_is_out) (cT 41 bC) (cT 81 cM)
theorem aD1 : X79 = aS gG := by unfold X79 C79; repeat rw [bH fun _ h => h]
theorem acd (p0 : aE) (p1 : aA) : Le (Option.map dC (kQ p0 p1)) (bF SE 79 [.ptr 2000000000 0, aA.av p1] [⟨72, (aE.avs p0)⟩] []) := by
 refine aZ aD1 rfl ?_
 refine Le.trans ?_ (le_of_eq (T79 ..).symm)
 unfold kQ
 refine lQ eX dN (dQ _ _) fun r0 _ => ?_
 refine lQ eX dN (dQ _ _) fun r1 _ => ?_
 refine lQ eX bL (iF _ _) fun r2 _ => ?_
 refine lQ eX packet_is_inj (aa6 _ _) fun r3 _ => ?_
 refine lQ eX packet_is_inj (aa6 _ _) fun r4 _ => ?_
 refine lQ eX bL (cF _) fun r5 _ => ?_
 refine lQ eX bL (cF _) fun r6 _ => ?_
 refine lQ eX bL (cF _) fun r7 _ => ?_
 refine lC ?_ ?_
 ·refine lC ?_ ?_
  ·refine lQ eX bL (cF _) fun r8 _ => ?_
   refine lQ eX qZ (rM _) fun r9 _ => ?_
   exact aG rfl
  ·exact aG rfl
 ·exact aG rfl
def avx (C : aR) (Λ2 J : Lam) (a0 a1 a2 : Int) (a3 : Bool) (a4 a5 : List D) (a6 a7 : Int) (a8 : Bool) (a9 a10 : Str) (a11 : Int) (a12 : Bool) (a13 a14 : Int) (a15 : Str) (a16 : Int) (a17 : List (List D)) (a18 a19 : Str) (a20 : Bool) (a21 a22 a23 : Int) (a24 : Bool) (a25 : Int) (a26 a27 : Str) (a28 : Int) (a29 : Bool) (a30 a31 : Int) (a32 : Str) (a33 : Int) (a34 : List (List D)) (a35 : Bool) (a36 : Int) (a37 : List D) (a38 a39 a40 : List (List D)) : Res := lab SE C Λ2 J 82 1 [1, 1, 1, 0, 1, 0, 0, 1, 0, 0, 0] (bA [(0, .ptr 2000000000 0), (3, .ptr 1000000000 0), (4, .ptr 1000000001 0), (5, .ptr 1000000002 0), (6, dIq a0), (7, dIq a1), (16, .ptr 2000000000 0), (17, .ptr 2000000000 0), (18, .ptr 2000000000 2), (19, dIq a2), (20, dBq a3)] [⟨31, (List.map AV.d a4)⟩, ⟨31, (List.map AV.d a5)⟩, ⟨31, [dIq a6, dIq a7, dBq a8, dSq a9, dSq a10, dIq a11, dBq a12, dIq a13, dIq a14, dSq a15, dIq a16, .d (.sl aC.ks a17), dSq a18, dSq a19, dBq a20, dIq a21, dIq a22, dIq a23, dBq a24, dIq a25, dSq a26, dSq a27, dIq a28, dBq a29, dIq a30, dIq a31, dSq a32, dIq a33, .d (.sl aC.ks a34), dBq a35, dIq a36, .row 50231, .row 50232, .row 50233]⟩] [⟨72, (List.map AV.d a37)⟩] [] [(50231, ⟨aH.ks, 53, 32, a38⟩), (50232, ⟨[.str], 9, 16, a39⟩), (50233, ⟨[.int .i64], 3, 8, a40⟩)])
def ale (C : aR) (Λ2 J : Lam) (a0 a1 : Int) (a2 a3 : List D) (a4 a5 : Int) (a6 : Bool) (a7 a8 : Str) (a9 : Int) (a10 : Bool) (a11 a12 : Int) (a13 : Str) (a14 : Int) (a15 : List (List D)) (a16 a17 : Str) (a18 : Bool) (a19 a20 a21 : Int) (a22 : Bool) (a23 : Int) (a24 a25 : Str) (a26 : Int) (a27 : Bool) (a28 a29 : Int) (a30 : Str) (a31 : Int) (a32 : List (List D)) (a33 : Bool) (a34 : Int) (a35 : List D) (a36 a37 a38 : List (List D)) : Res := lab SE C Λ2 J 82 1 [1, 1, 1, 0, 1, 0] (bA [(0, .ptr 2000000000 0), (3, .ptr 1000000000 0), (4, .ptr 1000000001 0), (5, .ptr 1000000002 0), (6, dIq a0), (7, dIq a1)] [⟨31, (List.map AV.d a2)⟩, ⟨31, (List.map AV.d a3)⟩, ⟨31, [dIq a4, dIq a5, dBq a6, dSq a7, dSq a8, dIq a9, dBq a10, dIq a11, dIq a12, dSq a13, dIq a14, .d (.sl aC.ks a15), dSq a16, dSq a17, dBq a18, dIq a19, dIq a20, dIq a21, dBq a22, dIq a23, dSq a24, dSq a25, dIq a26, dBq a27, dIq a28, dIq a29, dSq a30, dIq a31, .d (.sl aC.ks a32), dBq a33, dIq a34, .row 50231, .row 50232, .row 50233]⟩] [⟨72, (List.map AV.d a35)⟩] [] [(50231, ⟨aH.ks, 53, 32, a36⟩), (50232, ⟨[.str], 9, 16, a37⟩), (50233, ⟨[.int .i64], 3, 8, a38⟩)])
section
variable (Γ : Fun) (γ107 : Gm (Int × aE)) (γ105 : Gm (Str × aE)) (γ41 γ80 : Gm (Int × aE)) (Λ2 J : Lam)
def C82 : aR := bE (bE (bE (bE (aS Γ) 107 bC γ107) 105 cX γ105) 41 bC γ41) 80 bC γ80
theorem T82 (p0 : aE) (p1 : aA) : bK SE (C82 Γ γ107 γ105 γ41 γ80) Λ2 J 82 [.ptr 2000000000 0, .agg [dIq p1.Kind, dIq p1.ID, dBq p1.Dup, dSq p1.Message.Topic, dSq p1.Message.Payload, dIq p1.Message.Level, dBq p1.Message.Retain, dIq p1.Message.Priority, dIq p1.Message.Expires, dSq p1.Message.From, dIq p1.Message.Seq, .nil, dSq p1.Client, dSq p1.User, dBq p1.Clean, dIq p1.Keep, dIq p1.Expiry, dIq p1.Window, dBq p1.Will.Set, dIq p1.Will.Delay, dSq p1.Will.Message.Topic, dSq p1.Will.Message.Payload, dIq p1.Will.Message.Level, dBq p1.Will.Message.Retain, dIq p1.Will.Message.Priority, dIq p1.Will.Message.Expires, dSq p1.Will.Message.From, dIq p1.Will.Message.Seq, .nil, dBq p1.Present, dIq p1.Code, .nil, .nil, .nil]] [⟨72, (aE.avs p0)⟩] [] =
 γ107 [.ptr 2000000000 0, dIq 32] [⟨72, (aE.avs p0)⟩] [] fun r0 =>
 ale (C82 Γ γ107 γ105 γ41 γ80) Λ2 J r0.1 0 [D.int .i64 p1.Kind, D.int .i64 p1.ID, D.bool p1.Dup, D.str p1.Message.Topic, D.str p1.Message.Payload, D.int .i64 p1.Message.Level, D.bool p1.Message.Retain, D.int .i64 p1.Message.Priority, D.int .i64 p1.Message.Expires, D.str p1.Message.From, D.int .i64 p1.Message.Seq, D.sl aC.ks (List.map aC.enc []), D.str p1.Client, D.str p1.User, D.bool p1.Clean, D.int .i64 p1.Keep, D.int .i64 p1.Expiry, D.int .i64 p1.Window, D.bool p1.Will.Set, D.int .i64 p1.Will.Delay, D.str p1.Will.Message.Topic, D.str p1.Will.Message.Payload, D.int .i64 p1.Will.Message.Level, D.bool p1.Will.Message.Retain, D.int .i64 p1.Will.Message.Priority, D.int .i64 p1.Will.Message.Expires, D.str p1.Will.Message.From, D.int .i64 p1.Will.Message.Seq, D.sl aC.ks (List.map aC.enc []), D.bool p1.Present, D.int .i64 p1.Code, D.sl aH.ks (List.map aH.enc []), D.sl [.str] (List.map aY []), D.sl [.int .i64] (List.map eI [])] [D.int .i64 0, D.int .i64 0, D.bool false, D.str [], D.str [], D.int .i64 0, D.bool false, D.int .i64 0, D.int .i64 0, D.str [], D.int .i64 0, D.sl aC.ks (List.map aC.enc []), D.str [], D.str [], D.bool false, D.int .i64 0, D.int .i64 0, D.int .i64 0, D.bool false, D.int .i64 0, D.str [], D.str [], D.int .i64 0, D.bool false, D.int .i64 0, D.int .i64 0, D.str [], D.int .i64 0, D.sl aC.ks (List.map aC.enc []), D.bool false, D.int .i64 0, D.sl aH.ks (List.map aH.enc []), D.sl [.str] (List.map aY []), D.sl [.int .i64] (List.map eI [])] p1.Kind p1.ID p1.Dup p1.Message.Topic p1.Message.Payload p1.Message.Level p1.Message.Retain p1.Message.Priority p1.Message.Expires p1.Message.From p1.Message.Seq (List.map aC.enc []) p1.Client p1.User p1.Clean p1.Keep p1.Expiry p1.Window p1.Will.Set p1.Will.Delay p1.Will.Message.Topic p1.Will.Message.Payload p1.Will.Message.Level p1.Will.Message.Retain p1.Will.Message.Priority p1.Will.Message.Expires p1.Will.Message.From p1.Will.Message.Seq (List.map aC.enc []) p1.Present p1.Code (aE.enc r0.2) (List.map aH.enc []) (List.map aY []) (List.map eI []) := by kernel_rfl
theorem aAT (x6 x7 x19 : Int) (x20 : Bool) (b0 b1 : aA) (b2_0 b2_1 : Int) (b2_2 : Bool) (b2_3 b2_4 : Str) (b2_5 : Int) (b2_6 : Bool) (b2_7 b2_8 : Int) (b2_9 : Str) (b2_10 : Int) (b2_11 : List aC) (b2_12 b2_13 : Str) (b2_14 : Bool) (b2_15 b2_16 b2_17 : Int) (b2_18 : Bool) (b2_19 : Int) (b2_20 b2_21 : Str) (b2_22 : Int) (b2_23 : Bool) (b2_24 b2_25 : Int) (b2_26 : Str) (b2_27 : Int) (b2_28 : List aC) (b2_29 : Bool) (b2_30 : Int) (q0 : aE) (w50231 : List aH) (w50232 : List Str) (w50233 : List Int) : cJ SE (C82 Γ γ107 γ105 γ41 γ80) Λ2 J 82 1 [1, 1, 1, 0, 1, 0, 0, 1, 0, 0, 0] (bA [(0, .ptr 2000000000 0), (3, .ptr 1000000000 0), (4, .ptr 1000000001 0), (5, .ptr 1000000002 0), (6, dIq x6), (7, dIq x7), (16, .ptr 2000000000 0), (17, .ptr 2000000000 0), (18, .ptr 2000000000 2), (19, dIq x19), (20, dBq x20)] [⟨31, (List.map AV.d (aA.enc b0))⟩, ⟨31, (List.map AV.d (aA.enc b1))⟩, ⟨31, [dIq b2_0, dIq b2_1, dBq b2_2, dSq b2_3, dSq b2_4, dIq b2_5, dBq b2_6, dIq b2_7, dIq b2_8, dSq b2_9, dIq b2_10, .d (.sl aC.ks (List.map aC.enc b2_11)), dSq b2_12, dSq b2_13, dBq b2_14, dIq b2_15, dIq b2_16, dIq b2_17, dBq b2_18, dIq b2_19, dSq b2_20, dSq b2_21, dIq b2_22, dBq b2_23, dIq b2_24, dIq b2_25, dSq b2_26, dIq b2_27, .d (.sl aC.ks (List.map aC.enc b2_28)), dBq b2_29, dIq b2_30, .row 50231, .row 50232, .row 50233]⟩] [⟨72, (List.map AV.d (aE.enc q0))⟩] [] [(50231, ⟨aH.ks, 53, 32, (List.map aH.enc w50231)⟩), (50232, ⟨[.str], 9, 16, (List.map aY w50232)⟩), (50233, ⟨[.int .i64], 3, 8, (List.map eI w50233)⟩)]) =
 cond (b0.Kind == 10) (
 γ105 [.ptr 2000000000 0, dIq 88] [⟨72, (aE.avs q0)⟩] [] fun r1 =>
 cond (decide ((lM aY w50232 + lM aY [r1.1]) * 16 ≤ 140737488355328)) (
  ale (C82 Γ γ107 γ105 γ41 γ80) Λ2 J x6 (w6 (x7 + 1)) (aA.enc b0) (aA.enc b1) b2_0 b2_1 b2_2 b2_3 b2_4 b2_5 b2_6 b2_7 b2_8 b2_9 b2_10 (List.map aC.enc b2_11) b2_12 b2_13 b2_14 b2_15 b2_16 b2_17 b2_18 b2_19 b2_20 b2_21 b2_22 b2_23 b2_24 b2_25 b2_26 b2_27 (List.map aC.enc b2_28) b2_29 b2_30 (aE.enc r1.2) (List.map aH.enc w50231) (((List.map aY w50232) ++ (List.map aY [r1.1]))) (List.map eI w50233)) none) (
 cond (b0.Kind == 8) (
 γ105 [.ptr 2000000000 0, dIq 88] [⟨72, (aE.avs q0)⟩] [] fun r2 =>
 γ41 [.ptr 2000000000 0] [⟨72, (aE.avs r2.2)⟩] [] fun r3 =>
 γ80 [.ptr 2000000000 0, dIq 2] [⟨72, (aE.avs r3.2)⟩] [] fun r4 =>
 cond (decide ((lM aH.enc w50231 + lM aH.enc [(aH.mk r2.1 r3.1 (r4.1 == 1))]) * 32 ≤ 140737488355328)) (
  ale (C82 Γ γ107 γ105 γ41 γ80) Λ2 J x6 (w6 (x7 + 1)) (aA.enc b0) (aA.enc b1) b2_0 b2_1 b2_2 b2_3 b2_4 b2_5 b2_6 b2_7 b2_8 b2_9 b2_10 (List.map aC.enc b2_11) b2_12 b2_13 b2_14 b2_15 b2_16 b2_17 b2_18 b2_19 b2_20 b2_21 b2_22 b2_23 b2_24 b2_25 b2_26 b2_27 (List.map aC.enc b2_28) b2_29 b2_30 (aE.enc r4.2) (((List.map aH.enc w50231) ++ (List.map aH.enc [(aH.mk r2.1 r3.1 (r4.1 == 1))]))) (List.map aY w50232) (List.map eI w50233)) none) (
 γ41 [.ptr 2000000000 0] [⟨72, (aE.avs q0)⟩] [] fun r5 =>
 cond (decide ((lM eI w50233 + lM eI [r5.1]) * 8 ≤ 140737488355328)) (
 ale (C82 Γ γ107 γ105 γ41 γ80) Λ2 J x6 (w6 (x7 + 1)) (aA.enc b0) (aA.enc b1) b2_0 b2_1 b2_2 b2_3 b2_4 b2_5 b2_6 b2_7 b2_8 b2_9 b2_10 (List.map aC.enc b2_11) b2_12 b2_13 b2_14 b2_15 b2_16 b2_17 b2_18 b2_19 b2_20 b2_21 b2_22 b2_23 b2_24 b2_25 b2_26 b2_27 (List.map aC.enc b2_28) b2_29 b2_30 (aE.enc r5.2) (List.map aH.enc w50231) (List.map aY w50232) (((List.map eI w50233) ++ (List.map eI [r5.1])))) none)) := by kernel_rfl
theorem aAI (x6 x7 : Int) (b0 b1 : aA) (b2_0 b2_1 : Int) (b2_2 : Bool) (b2_3 b2_4 : Str) (b2_5 : Int) (b2_6 : Bool) (b2_7 b2_8 : Int) (b2_9 : Str) (b2_10 : Int) (b2_11 : List aC) (b2_12 b2_13 : Str) (b2_14 : Bool) (b2_15 b2_16 b2_17 : Int) (b2_18 : Bool) (b2_19 : Int) (b2_20 b2_21 : Str) (b2_22 : Int) (b2_23 : Bool) (b2_24 b2_25 : Int) (b2_26 : Str) (b2_27 : Int) (b2_28 : List aC) (b2_29 : Bool) (b2_30 : Int) (q0 : aE) (w50231 : List aH) (w50232 : List Str) (w50233 : List Int) : cJ SE (C82 Γ γ107 γ105 γ41 γ80) Λ2 J 82 1 [1, 1, 1, 0, 1, 0] (bA [(0, .ptr 2000000000 0), (3, .ptr 1000000000 0), (4, .ptr 1000000001 0), (5, .ptr 1000000002 0), (6, dIq x6), (7, dIq x7)] [⟨31, (List.map AV.d (aA.enc b0))⟩, ⟨31, (List.map AV.d (aA.enc b1))⟩, ⟨31, [dIq b2_0, dIq b2_1, dBq b2_2, dSq b2_3, dSq b2_4, dIq b2_5, dBq b2_6, dIq b2_7, dIq b2_8, dSq b2_9, dIq b2_10, .d (.sl aC.ks (List.map aC.enc b2_11)), dSq b2_12, dSq b2_13, dBq b2_14, dIq b2_15, dIq b2_16, dIq b2_17, dBq b2_18, dIq b2_19, dSq b2_20, dSq b2_21, dIq b2_22, dBq b2_23, dIq b2_24, dIq b2_25, dSq b2_26, dIq b2_27, .d (.sl aC.ks (List.map aC.enc b2_28)), dBq b2_29, dIq b2_30, .row 50231, .row 50232, .row 50233]⟩] [⟨72, (List.map AV.d (aE.enc q0))⟩] [] [(50231, ⟨aH.ks, 53, 32, (List.map aH.enc w50231)⟩), (50232, ⟨[.str], 9, 16, (List.map aY w50232)⟩), (50233, ⟨[.int .i64], 3, 8, (List.map eI w50233)⟩)]) =
 cond (decide (x7 < x6)) (
 cond (q0.E == 0) (
  avx (C82 Γ γ107 γ105 γ41 γ80) Λ2 J x6 x7 q0.E (q0.E == 0) (aA.enc b0) (aA.enc b1) b2_0 b2_1 b2_2 b2_3 b2_4 b2_5 b2_6 b2_7 b2_8 b2_9 b2_10 (List.map aC.enc b2_11) b2_12 b2_13 b2_14 b2_15 b2_16 b2_17 b2_18 b2_19 b2_20 b2_21 b2_22 b2_23 b2_24 b2_25 b2_26 b2_27 (List.map aC.enc b2_28) b2_29 b2_30 (aE.enc q0) (List.map aH.enc w50231) (List.map aY w50232) (List.map eI w50233)) (
 (some (eN (((aA.mk b2_0 b2_1 b2_2 (aF.mk b2_3 b2_4 b2_5 b2_6 b2_7 b2_8 b2_9 b2_10 b2_11) b2_12 b2_13 b2_14 b2_15 b2_16 b2_17 (aV.mk b2_18 b2_19 (aF.mk b2_20 b2_21 b2_22 b2_23 b2_24 b2_25 b2_26 b2_27 b2_28)) b2_29 b2_30 w50231 w50232 w50233), q0)))))) (
 (some (eN (((aA.mk b2_0 b2_1 b2_2 (aF.mk b2_3 b2_4 b2_5 b2_6 b2_7 b2_8 b2_9 b2_10 b2_11) b2_12 b2_13 b2_14 b2_15 b2_16 b2_17 (aV.mk b2_18 b2_19 (aF.mk b2_20 b2_21 b2_22 b2_23 b2_24 b2_25 b2_26 b2_27 b2_28)) b2_29 b2_30 w50231 w50232 w50233), q0))))) := by kernel_rfl
end
abbrev X82 : aR := C82 gG (cT 107 bC) (cT 105 cX) (cT 41 bC) (cT 80 bC)
theorem ava : X82 = aS gG := by unfold X82 C82; repeat rw [bH fun _ h => h]
abbrev aAM := avx X82 (cB SE gG (SE.hl 82) (SE.hr 82)) (J0 SE X82)
abbrev avo := ale X82 (cB SE gG (SE.hl 82) (SE.hr 82)) (J0 SE X82)
theorem abN (k4 : Int → Int → aA → aA → Int → Int → Bool → Str → Str → Int → Bool → Int → Int → Str → Int → (List aC) → Str → Str → Bool → Int → Int → Int → Bool → Int → Str → Str → Int → Bool → Int → Int → Str → Int → (List aC) → Bool → Int → aE → (List aH) → (List Str) → (List Int) → Option (aA × aE)) (hk4 : ∀ (x6 x7 : Int) (b0 b1 : aA) (b2_0 b2_1 : Int) (b2_2 : Bool) (b2_3 b2_4 : Str) (b2_5 : Int) (b2_6 : Bool) (b2_7 b2_8 : Int) (b2_9 : Str) (b2_10 : Int) (b2_11 : List aC) (b2_12 b2_13 : Str) (b2_14 : Bool) (b2_15 b2_16 b2_17 : Int) (b2_18 : Bool) (b2_19 : Int) (b2_20 b2_21 : Str) (b2_22 : Int) (b2_23 : Bool) (b2_24 b2_25 : Int) (b2_26 : Str) (b2_27 : Int) (b2_28 : List aC) (b2_29 : Bool) (b2_30 : Int) (q0 : aE) (w50231 : List aH) (w50232 : List Str) (w50233 : List Int), Le (Option.map eN (k4 x6 x7 b0 b1 b2_0 b2_1 b2_2 b2_3 b2_4 b2_5 b2_6 b2_7 b2_8 b2_9 b2_10 b2_11 b2_12 b2_13 b2_14 b2_15 b2_16 b2_17 b2_18 b2_19 b2_20 b2_21 b2_22 b2_23 b2_24 b2_25 b2_26 b2_27 b2_28 b2_29 b2_30 q0 w50231 w50232 w50233)) (avo x6 x7 (aA.enc b0) (aA.enc b1) b2_0 b2_1 b2_2 b2_3 b2_4 b2_5 b2_6 b2_7 b2_8 b2_9 b2_10 (List.map aC.enc b2_11) b2_12 b2_13 b2_14 b2_15 b2_16 b2_17 b2_18 b2_19 b2_20 b2_21 b2_22 b2_23 b2_24 b2_25 b2_26 b2_27 (List.map aC.enc b2_28) b2_29 b2_30 (aE.enc q0) (List.map aH.enc w50231) (List.map aY w50232) (List.map eI w50233))) (x6 x7 x19 : Int) (x20 : Bool) (b0 b1 : aA) (b2_0 b2_1 : Int) (b2_2 : Bool) (b2_3 b2_4 : Str) (b2_5 : Int) (b2_6 : Bool) (b2_7 b2_8 : Int) (b2_9 : Str) (b2_10 : Int) (b2_11 : List aC) (b2_12 b2_13 : Str) (b2_14 : Bool) (b2_15 b2_16 b2_17 : Int) (b2_18 : Bool) (b2_19 : Int) (b2_20 b2_21 : Str) (b2_22 : Int) (b2_23 : Bool) (b2_24 b2_25 : Int) (b2_26 : Str) (b2_27 : Int) (b2_28 : List aC) (b2_29 : Bool) (b2_30 : Int) (q0 : aE) (w50231 : List aH) (w50232 : List Str) (w50233 : List Int) : Le (Option.map eN (iS k4 x6 x7 x19 x20 b0 b1 b2_0 b2_1 b2_2 b2_3 b2_4 b2_5 b2_6 b2_7 b2_8 b2_9 b2_10 b2_11 b2_12 b2_13 b2_14 b2_15 b2_16 b2_17 b2_18 b2_19 b2_20 b2_21 b2_22 b2_23 b2_24 b2_25 b2_26 b2_27 b2_28 b2_29 b2_30 q0 w50231 w50232 w50233)) (aAM x6 x7 x19 x20 (aA.enc b0) (aA.enc b1) b2_0 b2_1 b2_2 b2_3 b2_4 b2_5 b2_6 b2_7 b2_8 b2_9 b2_10 (List.map aC.enc b2_11) b2_12 b2_13 b2_14 b2_15 b2_16 b2_17 b2_18 b2_19 b2_20 b2_21 b2_22 b2_23 b2_24 b2_25 b2_26 b2_27 (List.map aC.enc b2_28) b2_29 b2_30 (aE.enc q0) (List.map aH.enc w50231) (List.map aY w50232) (List.map eI w50233)) := by
 refine Le.trans ?_ (le_of_eq ((bD ava).trans (aAT ..)).symm)
 unfold iS
 refine lC ?_ ?_
 ·refine lQ eX dN (dQ _ _) fun r1 _ => ?_
  refine lG (by simp only [EN]) ?_
  (try simp only [EN]); exact hk4 x6 (w6 (x7 + 1)) b0 b1 b2_0 b2_1 b2_2 b2_3 b2_4 b2_5 b2_6 b2_7 b2_8 b2_9 b2_10 b2_11 b2_12 b2_13 b2_14 b2_15 b2_16 b2_17 b2_18 b2_19 b2_20 b2_21 b2_22 b2_23 b2_24 b2_25 b2_26 b2_27 b2_28 b2_29 b2_30 r1.2 w50231 (w50232 ++ [r1.1]) w50233
 ·refine lC ?_ ?_
  ·refine lQ eX dN (dQ _ _) fun r2 _ => ?_
   refine lQ eX bL (cF _) fun r3 _ => ?_
   refine lQ eX bL (iF _ _) fun r4 _ => ?_
   refine lG (by simp only [EN]) ?_
   (try simp only [EN]); exact hk4 x6 (w6 (x7 + 1)) b0 b1 b2_0 b2_1 b2_2 b2_3 b2_4 b2_5 b2_6 b2_7 b2_8 b2_9 b2_10 b2_11 b2_12 b2_13 b2_14 b2_15 b2_16 b2_17 b2_18 b2_19 b2_20 b2_21 b2_22 b2_23 b2_24 b2_25 b2_26 b2_27 b2_28 b2_29 b2_30 r4.2 (w50231 ++ [(aH.mk r2.1 r3.1 (r4.1 == 1))]) w50232 w50233
  ·refine lQ eX bL (cF _) fun r5 _ => ?_
   refine lG (by simp only [EN]) ?_
   (try simp only [EN]); exact hk4 x6 (w6 (x7 + 1)) b0 b1 b2_0 b2_1 b2_2 b2_3 b2_4 b2_5 b2_6 b2_7 b2_8 b2_9 b2_10 b2_11 b2_12 b2_13 b2_14 b2_15 b2_16 b2_17 b2_18 b2_19 b2_20 b2_21 b2_22 b2_23 b2_24 b2_25 b2_26 b2_27 b2_28 b2_29 b2_30 r5.2 w50231 w50232 (w50233 ++ [r5.1])
theorem abM : ∀ (fu : Nat) (x6 x7 : Int) (b0 b1 : aA) (b2_0 b2_1 : Int) (b2_2 : Bool) (b2_3 b2_4 : Str) (b2_5 : Int) (b2_6 : Bool) (b2_7 b2_8 : Int) (b2_9 : Str) (b2_10 : Int) (b2_11 : List aC) (b2_12 b2_13 : Str) (b2_14 : Bool) (b2_15 b2_16 b2_17 : Int) (b2_18 : Bool) (b2_19 : Int) (b2_20 b2_21 : Str) (b2_22 : Int) (b2_23 : Bool) (b2_24 b2_25 : Int) (b2_26 : Str) (b2_27 : Int) (b2_28 : List aC) (b2_29 : Bool) (b2_30 : Int) (q0 : aE) (w50231 : List aH) (w50232 : List Str) (w50233 : List Int), Le (Option.map eN (cW fu x6 x7 b0 b1 b2_0 b2_1 b2_2 b2_3 b2_4 b2_5 b2_6 b2_7 b2_8 b2_9 b2_10 b2_11 b2_12 b2_13 b2_14 b2_15 b2_16 b2_17 b2_18 b2_19 b2_20 b2_21 b2_22 b2_23 b2_24 b2_25 b2_26 b2_27 b2_28 b2_29 b2_30 q0 w50231 w50232 w50233)) (avo x6 x7 (aA.enc b0) (aA.enc b1) b2_0 b2_1 b2_2 b2_3 b2_4 b2_5 b2_6 b2_7 b2_8 b2_9 b2_10 (List.map aC.enc b2_11) b2_12 b2_13 b2_14 b2_15 b2_16 b2_17 b2_18 b2_19 b2_20 b2_21 b2_22 b2_23 b2_24 b2_25 b2_26 b2_27 (List.map aC.enc b2_28) b2_29 b2_30 (aE.enc q0) (List.map aH.enc w50231) (List.map aY w50232) (List.map eI w50233)) := by
 intro fu
 induction fu with
 | zero => intros; exact le_none
 | succ fu ih =>
  intro x6 x7 b0 b1 b2_0 b2_1 b2_2 b2_3 b2_4 b2_5 b2_6 b2_7 b2_8 b2_9 b2_10 b2_11 b2_12 b2_13 b2_14 b2_15 b2_16 b2_17 b2_18 b2_19 b2_20 b2_21 b2_22 b2_23 b2_24 b2_25 b2_26 b2_27 b2_28 b2_29 b2_30 q0 w50231 w50232 w50233
  refine Le.trans ?_ (le_of_eq ((bD ava).trans (aAI ..)).symm)
  unfold cW
  refine lC ?_ ?_
  ·refine lC ?_ ?_
   ·exact abN _ (ih) x6 x7 q0.E (q0.E == 0) b0 b1 b2_0 b2_1 b2_2 b2_3 b2_4 b2_5 b2_6 b2_7 b2_8 b2_9 b2_10 b2_11 b2_12 b2_13 b2_14 b2_15 b2_16 b2_17 b2_18 b2_19 b2_20 b2_21 b2_22 b2_23 b2_24 b2_25 b2_26 b2_27 b2_28 b2_29 b2_30 q0 w50231 w50232 w50233
   ·exact aG rfl
  ·exact aG rfl
theorem adY (p0 : aE) (p1 : aA) : Le (Option.map eN (fM p0 p1)) (bF SE 82 [.ptr 2000000000 0, .agg [dIq p1.Kind, dIq p1.ID, dBq p1.Dup, dSq p1.Message.Topic, dSq p1.Message.Payload, dIq p1.Message.Level, dBq p1.Message.Retain, dIq p1.Message.Priority, dIq p1.Message.Expires, dSq p1.Message.From, dIq p1.Message.Seq, .nil, dSq p1.Client, dSq p1.User, dBq p1.Clean, dIq p1.Keep, dIq p1.Expiry, dIq p1.Window, dBq p1.Will.Set, dIq p1.Will.Delay, dSq p1.Will.Message.Topic, dSq p1.Will.Message.Payload, dIq p1.Will.Message.Level, dBq p1.Will.Message.Retain, dIq p1.Will.Message.Priority, dIq p1.Will.Message.Expires, dSq p1.Will.Message.From, dIq p1.Will.Message.Seq, .nil, dBq p1.Present, dIq p1.Code, .nil, .nil, .nil]] [⟨72, (aE.avs p0)⟩] []) := by
 refine aZ ava rfl ?_
 refine Le.trans ?_ (le_of_eq (T82 ..).symm)
 unfold fM
 refine lQ eX bL (sR _ _) fun r0 _ => ?_
 (try simp only [EN]); exact abM fuel r0.1 0 ((aA.mk p1.Kind p1.ID p1.Dup (aF.mk p1.Message.Topic p1.Message.Payload p1.Message.Level p1.Message.Retain p1.Message.Priority p1.Message.Expires p1.Message.From p1.Message.Seq []) p1.Client p1.User p1.Clean p1.Keep p1.Expiry p1.Window (aV.mk p1.Will.Set p1.Will.Delay (aF.mk p1.Will.Message.Topic p1.Will.Message.Payload p1.Will.Message.Level p1.Will.Message.Retain p1.Will.Message.Priority p1.Will.Message.Expires p1.Will.Message.From p1.Will.Message.Seq [])) p1.Present p1.Code [] [] [])) (zPq) p1.Kind p1.ID p1.Dup p1.Message.Topic p1.Message.Payload p1.Message.Level p1.Message.Retain p1.Message.Priority p1.Message.Expires p1.Message.From p1.Message.Seq [] p1.Client p1.User p1.Clean p1.Keep p1.Expiry p1.Window p1.Will.Set p1.Will.Delay p1.Will.Message.Topic p1.Will.Message.Payload p1.Will.Message.Level p1.Will.Message.Retain p1.Will.Message.Priority p1.Will.Message.Expires p1.Will.Message.From p1.Will.Message.Seq [] p1.Present p1.Code r0.2 [] [] []
def ath (C : aR) (Λ2 J : Lam) (a0 a1 a2 : Int) (a3 : Bool) (a4 a5 : Str) (a6 : Int) (a7 : Bool) (a8 a9 : Int) (a10 : Str) (a11 : Int) (a12 a13 : Str) (a14 : Bool) (a15 a16 a17 : Int) (a18 : Bool) (a19 : Int) (a20 a21 : Str) (a22 : Int) (a23 : Bool) (a24 a25 : Int) (a26 : Str) (a27 : Int) (a28 : Bool) (a29 a30 a31 : Int) (a32 : Bool) (a33 a34 : Str) (a35 : Int) (a36 : Bool) (a37 a38 : Int) (a39 : Str) (a40 : Int) (a41 a42 : Str) (a43 : Bool) (a44 a45 a46 : Int) (a47 : Bool) (a48 : Int) (a49 a50 : Str) (a51 : Int) (a52 : Bool) (a53 a54 : Int) (a55 : Str) (a56 : Int) (a57 : Bool) (a58 : Int) (a59 : List D) : Res := lab SE C Λ2 J 42 1 [1, 1, 1, 1, 1, 1, 0] (bA [(0, .ptr 2000000000 0), (1, dIq a0), (4, .ptr 1000000000 0), (5, .ptr 1000000001 0)] [⟨31, [dIq a1, dIq a2, dBq a3, dSq a4, dSq a5, dIq a6, dBq a7, dIq a8, dIq a9, dSq a10, dIq a11, .nil, dSq a12, dSq a13, dBq a14, dIq a15, dIq a16, dIq a17, dBq a18, dIq a19, dSq a20, dSq a21, dIq a22, dBq a23, dIq a24, dIq a25, dSq a26, dIq a27, .nil, dBq a28, dIq a29, .nil, .nil, .nil]⟩, ⟨31, [dIq a30, dIq a31, dBq a32, dSq a33, dSq a34, dIq a35, dBq a36, dIq a37, dIq a38, dSq a39, dIq a40, .nil, dSq a41, dSq a42, dBq a43, dIq a44, dIq a45, dIq a46, dBq a47, dIq a48, dSq a49, dSq a50, dIq a51, dBq a52, dIq a53, dIq a54, dSq a55, dIq a56, .nil, dBq a57, dIq a58, .nil, .nil, .nil]⟩] [⟨72, (List.map AV.d a59)⟩] [] [])
section
variable (Γ : Fun) (γ79 : Gm (aA × aE)) (γ80 γ41 : Gm (Int × aE)) (γ81 : Gm (aF × aE)) (γ82 : Gm (aA × aE)) (Λ2 J : Lam)
def C42 : aR := bE (bE (bE (bE (bE (aS Γ) 79 dC γ79) 80 bC γ80) 41 bC γ41) 81 cM γ81) 82 eN γ82
theorem T42 (p0 : aE) (p1 : Int) : bK SE (C42 Γ γ79 γ80 γ41 γ81 γ82) Λ2 J 42 [.ptr 2000000000 0, dIq p1] [⟨72, (aE.avs p0)⟩] [] =
 cond (p1 == 1) (
 γ79 [.ptr 2000000000 0, .agg [dIq p1, dIq 0, dBq false, dSq [], dSq [], dIq 0, dBq false, dIq 0, dIq 0, dSq [], dIq 0, .d (.sl aC.ks (List.map aC.enc [])), dSq [], dSq [], dBq false, dIq 0, dIq 0, dIq 0, dBq false, dIq 0, dSq [], dSq [], dIq 0, dBq false, dIq 0, dIq 0, dSq [], dIq 0, .d (.sl aC.ks (List.map aC.enc [])), dBq false, dIq 0, .d (.sl aH.ks (List.map aH.enc [])), .d (.sl [.str] (List.map aY [])), .d (.sl [.int .i64] (List.map eI []))]] [⟨72, (aE.avs p0)⟩] [] fun r0 =>
 (some (dC (r0.1, r0.2)))) (
 cond (p1 == 2) (
 γ80 [.ptr 2000000000 0, dIq 2] [⟨72, (aE.avs p0)⟩] [] fun r1 =>
 γ41 [.ptr 2000000000 0] [⟨72, (aE.avs r1.2)⟩] [] fun r2 =>
 (some (dC (((aA.mk p1 0 false zMq [] [] false 0 0 0 zWq (r1.1 == 1) r2.1 [] [] []), r2.2))))) (
 cond (p1 == 14) (
 γ41 [.ptr 2000000000 0] [⟨72, (aE.avs p0)⟩] [] fun r3 =>
 (some (dC (((aA.mk p1 0 false zMq [] [] false 0 0 0 zWq false r3.1 [] [] []), r3.2))))) (
 cond (p1 == 12) (
 (some (dC (((aA.mk p1 0 false zMq [] [] false 0 0 0 zWq false 0 [] [] []), p0))))) (
 cond (p1 == 13) (
 (some (dC (((aA.mk p1 0 false zMq [] [] false 0 0 0 zWq false 0 [] [] []), p0))))) (
 ath (C42 Γ γ79 γ80 γ41 γ81 γ82) Λ2 J p1 0 0 false [] [] 0 false 0 0 [] 0 [] [] false 0 0 0 false 0 [] [] 0 false 0 0 [] 0 false 0 p1 0 false [] [] 0 false 0 0 [] 0 [] [] false 0 0 0 false 0 [] [] 0 false 0 0 [] 0 false 0 (aE.enc p0)))))) := by kernel_rfl
theorem aye (x1 b0_0 b0_1 : Int) (b0_2 : Bool) (b0_3 b0_4 : Str) (b0_5 : Int) (b0_6 : Bool) (b0_7 b0_8 : Int) (b0_9 : Str) (b0_10 : Int) (b0_12 b0_13 : Str) (b0_14 : Bool) (b0_15 b0_16 b0_17 : Int) (b0_18 : Bool) (b0_19 : Int) (b0_20 b0_21 : Str) (b0_22 : Int) (b0_23 : Bool) (b0_24 b0_25 : Int) (b0_26 : Str) (b0_27 : Int) (b0_29 : Bool) (b0_30 b1_0 b1_1 : Int) (b1_2 : Bool) (b1_3 b1_4 : Str) (b1_5 : Int) (b1_6 : Bool) (b1_7 b1_8 : Int) (b1_9 : Str) (b1_10 : Int) (b1_12 b1_13 : Str) (b1_14 : Bool) (b1_15 b1_16 b1_17 : Int) (b1_18 : Bool) (b1_19 : Int) (b1_20 b1_21 : Str) (b1_22 : Int) (b1_23 : Bool) (b1_24 b1_25 : Int) (b1_26 : Str) (b1_27 : Int) (b1_29 : Bool) (b1_30 : Int) (q0 : aE) : cJ SE (C42 Γ γ79 γ80 γ41 γ81 γ82) Λ2 J 42 1 [1, 1, 1, 1, 1, 1, 0] (bA [(0, .ptr 2000000000 0), (1, dIq x1), (4, .ptr 1000000000 0), (5, .ptr 1000000001 0)] [⟨31, [dIq b0_0, dIq b0_1, dBq b0_2, dSq b0_3, dSq b0_4, dIq b0_5, dBq b0_6, dIq b0_7, dIq b0_8, dSq b0_9, dIq b0_10, .nil, dSq b0_12, dSq b0_13, dBq b0_14, dIq b0_15, dIq b0_16, dIq b0_17, dBq b0_18, dIq b0_19, dSq b0_20, dSq b0_21, dIq b0_22, dBq b0_23, dIq b0_24, dIq b0_25, dSq b0_26, dIq b0_27, .nil, dBq b0_29, dIq b0_30, .nil, .nil, .nil]⟩, ⟨31, [dIq b1_0, dIq b1_1, dBq b1_2, dSq b1_3, dSq b1_4, dIq b1_5, dBq b1_6, dIq b1_7, dIq b1_8, dSq b1_9, dIq b1_10, .nil, dSq b1_12, dSq b1_13, dBq b1_14, dIq b1_15, dIq b1_16, dIq b1_17, dBq b1_18, dIq b1_19, dSq b1_20, dSq b1_21, dIq b1_22, dBq b1_23, dIq b1_24, dIq b1_25, dSq b1_26, dIq b1_27, .nil, dBq b1_29, dIq b1_30, .nil, .nil, .nil]⟩] [⟨72, (List.map AV.d (aE.enc q0))⟩] [] []) =
 γ41 [.ptr 2000000000 0] [⟨72, (aE.avs q0)⟩] [] fun r4 =>
 cond (x1 == 3) (
 γ80 [.ptr 2000000000 0, dIq 2] [⟨72, (aE.avs r4.2)⟩] [] fun r5 =>
 γ81 [.ptr 2000000000 0] [⟨72, (aE.avs r5.2)⟩] [] fun r6 =>
 (some (dC (((aA.mk b1_0 r4.1 (r5.1 == 1) r6.1 b1_12 b1_13 b1_14 b1_15 b1_16 b1_17 (aV.mk b1_18 b1_19 (aF.mk b1_20 b1_21 b1_22 b1_23 b1_24 b1_25 b1_26 b1_27 [])) b1_29 b1_30 [] [] []), r6.2))))) (
 cond (decide (x1 ≤ 7)) (
 (some (dC (((aA.mk b1_0 r4.1 b1_2 (aF.mk b1_3 b1_4 b1_5 b1_6 b1_7 b1_8 b1_9 b1_10 []) b1_12 b1_13 b1_14 b1_15 b1_16 b1_17 (aV.mk b1_18 b1_19 (aF.mk b1_20 b1_21 b1_22 b1_23 b1_24 b1_25 b1_26 b1_27 [])) b1_29 b1_30 [] [] []), r4.2))))) (
 γ82 [.ptr 2000000000 0, .agg [dIq b1_0, dIq r4.1, dBq b1_2, dSq b1_3, dSq b1_4, dIq b1_5, dBq b1_6, dIq b1_7, dIq b1_8, dSq b1_9, dIq b1_10, .nil, dSq b1_12, dSq b1_13, dBq b1_14, dIq b1_15, dIq b1_16, dIq b1_17, dBq b1_18, dIq b1_19, dSq b1_20, dSq b1_21, dIq b1_22, dBq b1_23, dIq b1_24, dIq b1_25, dSq b1_26, dIq b1_27, .nil, dBq b1_29, dIq b1_30, .nil, .nil, .nil]] [⟨72, (aE.avs r4.2)⟩] [] fun r7 =>
 (some (dC (r7.1, r7.2))))) := by kernel_rfl
end
abbrev X42 : aR := C42 gG (cT 79 dC) (cT 80 bC) (cT 41 bC) (cT 81 cM) (cT 82 eN)
theorem awV : X42 = aS gG := by unfold X42 C42; repeat rw [bH fun _ h => h]
abbrev azy := ath X42 (cB SE gG (SE.hl 42) (SE.hr 42)) (J0 SE X42)
theorem aeB (x1 b0_0 b0_1 : Int) (b0_2 : Bool) (b0_3 b0_4 : Str) (b0_5 : Int) (b0_6 : Bool) (b0_7 b0_8 : Int) (b0_9 : Str) (b0_10 : Int) (b0_12 b0_13 : Str) (b0_14 : Bool) (b0_15 b0_16 b0_17 : Int) (b0_18 : Bool) (b0_19 : Int) (b0_20 b0_21 : Str) (b0_22 : Int) (b0_23 : Bool) (b0_24 b0_25 : Int) (b0_26 : Str) (b0_27 : Int) (b0_29 : Bool) (b0_30 b1_0 b1_1 : Int) (b1_2 : Bool) (b1_3 b1_4 : Str) (b1_5 : Int) (b1_6 : Bool) (b1_7 b1_8 : Int) (b1_9 : Str) (b1_10 : Int) (b1_12 b1_13 : Str) (b1_14 : Bool) (b1_15 b1_16 b1_17 : Int) (b1_18 : Bool) (b1_19 : Int) (b1_20 b1_21 : Str) (b1_22 : Int) (b1_23 : Bool) (b1_24 b1_25 : Int) (b1_26 : Str) (b1_27 : Int) (b1_29 : Bool) (b1_30 : Int) (q0 : aE) : Le (Option.map dC (qD x1 b0_0 b0_1 b0_2 b0_3 b0_4 b0_5 b0_6 b0_7 b0_8 b0_9 b0_10 b0_12 b0_13 b0_14 b0_15 b0_16 b0_17 b0_18 b0_19 b0_20 b0_21 b0_22 b0_23 b0_24 b0_25 b0_26 b0_27 b0_29 b0_30 b1_0 b1_1 b1_2 b1_3 b1_4 b1_5 b1_6 b1_7 b1_8 b1_9 b1_10 b1_12 b1_13 b1_14 b1_15 b1_16 b1_17 b1_18 b1_19 b1_20 b1_21 b1_22 b1_23 b1_24 b1_25 b1_26 b1_27 b1_29 b1_30 q0)) (azy x1 b0_0 b0_1 b0_2 b0_3 b0_4 b0_5 b0_6 b0_7 b0_8 b0_9 b0_10 b0_12 b0_13 b0_14 b0_15 b0_16 b0_17 b0_18 b0_19 b0_20 b0_21 b0_22 b0_23 b0_24 b0_25 b0_26 b0_27 b0_29 b0_30 b1_0 b1_1 b1_2 b1_3 b1_4 b1_5 b1_6 b1_7 b1_8 b1_9 b1_10 b1_12 b1_13 b1_14 b1_15 b1_16 b1_17 b1_18 b1_19 b1_20 b1_21 b1_22 b1_23 b1_24 b1_25 b1_26 b1_27 b1_29 b1_30 (aE.enc q0)) := by
 refine Le.trans ?_ (le_of_eq ((bD awV).trans (aye ..)).symm)
 unfold qD
 refine lQ eX bL (cF _) fun r4 _ => ?_
 refine lC ?_ ?_
 ·refine lQ eX bL (iF _ _) fun r5 _ => ?_
  refine lQ eX qZ (rM _) fun r6 _ => ?_
  exact aG rfl
 ·refine lC ?_ ?_
  ·exact aG rfl
  ·refine lQ eX ac3 (by (try simp only [EN]); exact adY r4.2 ((aA.mk b1_0 r4.1 b1_2 (aF.mk b1_3 b1_4 b1_5 b1_6 b1_7 b1_8 b1_9 b1_10 []) b1_12 b1_13 b1_14 b1_15 b1_16 b1_17 (aV.mk b1_18 b1_19 (aF.mk b1_20 b1_21 b1_22 b1_23 b1_24 b1_25 b1_26 b1_27 [])) b1_29 b1_30 [] [] []))) fun r7 _ => ?_
   exact aG rfl
theorem ahA (p0 : aE) (p1 : Int) : Le (Option.map dC (rP p0 p1)) (bF SE 42 [.ptr 2000000000 0, dIq p1] [⟨72, (aE.avs p0)⟩] []) := by
 refine aZ awV rfl ?_
 refine Le.trans ?_ (le_of_eq (T42 ..).symm)
 unfold rP
 refine lC ?_ ?_
 ·refine lQ eX uQ (by (try simp only [EN]); exact acd p0 ((aA.mk p1 0 false zMq [] [] false 0 0 0 zWq false 0 [] [] []))) fun r0 _ => ?_
  exact aG rfl
 ·refine lC ?_ ?_
  ·refine lQ eX bL (iF _ _) fun r1 _ => ?_
   refine lQ eX bL (cF _) fun r2 _ => ?_
   exact aG rfl
  ·refine lC ?_ ?_
   ·refine lQ eX bL (cF _) fun r3 _ => ?_
    exact aG rfl
   ·refine lC ?_ ?_
    ·exact aG rfl
    ·refine lC ?_ ?_
     ·exact aG rfl
     ·exact aeB p1 0 0 false [] [] 0 false 0 0 [] 0 [] [] false 0 0 0 false 0 [] [] 0 false 0 0 [] 0 false 0 p1 0 false [] [] 0 false 0 0 [] 0 [] [] false 0 0 0 false 0 [] [] 0 false 0 0 [] 0 false 0 p0
def aoE (C : aR) (Λ2 J : Lam) (a0 a1 a2 : List D) : Res := lab SE C Λ2 J 51 0 [1, 1, 1, 1, 1, 1, 1, 1, 1, 0, 0] (bA [(1, .ptr 1000000000 0), (2, .ptr 1000000001 0), (3, .ptr 1000000002 0)] [⟨31, (List.map AV.d a0)⟩, ⟨31, (List.map AV.d a1)⟩, ⟨31, (List.map AV.d a2)⟩] [] [] [])
def aoG (C : aR) (Λ2 J : Lam) (a0 a1 a2 : List D) : Res := lab SE C Λ2 J 51 0 [1, 1, 1, 1, 1, 1, 1, 1, 0, 0] (bA [(1, .ptr 1000000000 0), (2, .ptr 1000000001 0), (3, .ptr 1000000002 0)] [⟨31, (List.map AV.d a0)⟩, ⟨31, (List.map AV.d a1)⟩, ⟨31, (List.map AV.d a2)⟩] [] [] [])
def aol (C : aR) (Λ2 J : Lam) (a0 a1 a2 : List D) : Res := lab SE C Λ2 J 51 0 [1, 1, 1, 1, 1, 1, 1, 0, 0] (bA [(1, .ptr 1000000000 0), (2, .ptr 1000000001 0), (3, .ptr 1000000002 0)] [⟨31, (List.map AV.d a0)⟩, ⟨31, (List.map AV.d a1)⟩, ⟨31, (List.map AV.d a2)⟩] [] [] [])
def akY (C : aR) (Λ2 J : Lam) (a0 a1 a2 : List D) : Res := lab SE C Λ2 J 51 0 [1, 1, 1, 1, 1, 1, 0, 0] (bA [(1, .ptr 1000000000 0), (2, .ptr 1000000001 0), (3, .ptr 1000000002 0)] [⟨31, (List.map AV.d a0)⟩, ⟨31, (List.map AV.d a1)⟩, ⟨31, (List.map AV.d a2)⟩] [] [] [])
def an5 (C : aR) (Λ2 J : Lam) (a0 a1 a2 : List D) : Res := lab SE C Λ2 J 51 0 [1, 1, 1, 1, 1, 0, 0] (bA [(1, .ptr 1000000000 0), (2, .ptr 1000000001 0), (3, .ptr 1000000002 0)] [⟨31, (List.map AV.d a0)⟩, ⟨31, (List.map AV.d a1)⟩, ⟨31, (List.map AV.d a2)⟩] [] [] [])
def ao7 (C : aR) (Λ2 J : Lam) (a0 a1 a2 : List D) : Res := lab SE C Λ2 J 51 0 [1, 1, 1, 1, 0, 0] (bA [(1, .ptr 1000000000 0), (2, .ptr 1000000001 0), (3, .ptr 1000000002 0)] [⟨31, (List.map AV.d a0)⟩, ⟨31, (List.map AV.d a1)⟩, ⟨31, (List.map AV.d a2)⟩] [] [] [])
def akK (C : aR) (Λ2 J : Lam) (a0 a1 a2 : List D) : Res := lab SE C Λ2 J 51 0 [1, 1, 1, 0, 0] (bA [(1, .ptr 1000000000 0), (2, .ptr 1000000001 0), (3, .ptr 1000000002 0)] [⟨31, (List.map AV.d a0)⟩, ⟨31, (List.map AV.d a1)⟩, ⟨31, (List.map AV.d a2)⟩] [] [] [])
section
variable (Γ : Fun)  (Λ2 J : Lam)
def C51 : aR := aS Γ
theorem T51 (p0 : aA) : bK SE (C51 Γ) Λ2 J 51 [aA.av p0] [] [] =
 cond (p0.Kind == 3) (
 akK (C51 Γ) Λ2 J (aA.enc p0) [D.int .i64 0, D.int .i64 0, D.bool false, D.str [], D.str [], D.int .i64 0, D.bool false, D.int .i64 0, D.int .i64 0, D.str [], D.int .i64 0, D.sl aC.ks (List.map aC.enc []), D.str [], D.str [], D.bool false, D.int .i64 0, D.int .i64 0, D.int .i64 0, D.bool false, D.int .i64 0, D.str [], D.str [], D.int .i64 0, D.bool false, D.int .i64 0, D.int .i64 0, D.str [], D.int .i64 0, D.sl aC.ks (List.map aC.enc []), D.bool false, D.int .i64 0, D.sl aH.ks (List.map aH.enc []), D.sl [.str] (List.map aY []), D.sl [.int .i64] (List.map eI [])] [D.int .i64 p0.Kind, D.int .i64 p0.ID, D.bool false, D.str [], D.str [], D.int .i64 0, D.bool false, D.int .i64 0, D.int .i64 0, D.str [], D.int .i64 0, D.sl aC.ks (List.map aC.enc []), D.str [], D.str [], D.bool false, D.int .i64 0, D.int .i64 0, D.int .i64 0, D.bool false, D.int .i64 0, D.str [], D.str [], D.int .i64 0, D.bool false, D.int .i64 0, D.int .i64 0, D.str [], D.int .i64 0, D.sl aC.ks (List.map aC.enc []), D.bool false, D.int .i64 0, D.sl aH.ks (List.map aH.enc []), D.sl [.str] (List.map aY []), D.sl [.int .i64] (List.map eI [])]) (
 cond (decide (p0.Kind ≥ 4)) (
 cond (decide (p0.Kind ≤ 11)) (
  akK (C51 Γ) Λ2 J (aA.enc p0) [D.int .i64 0, D.int .i64 0, D.bool false, D.str [], D.str [], D.int .i64 0, D.bool false, D.int .i64 0, D.int .i64 0, D.str [], D.int .i64 0, D.sl aC.ks (List.map aC.enc []), D.str [], D.str [], D.bool false, D.int .i64 0, D.int .i64 0, D.int .i64 0, D.bool false, D.int .i64 0, D.str [], D.str [], D.int .i64 0, D.bool false, D.int .i64 0, D.int .i64 0, D.str [], D.int .i64 0, D.sl aC.ks (List.map aC.enc []), D.bool false, D.int .i64 0, D.sl aH.ks (List.map aH.enc []), D.sl [.str] (List.map aY []), D.sl [.int .i64] (List.map eI [])] [D.int .i64 p0.Kind, D.int .i64 p0.ID, D.bool false, D.str [], D.str [], D.int .i64 0, D.bool false, D.int .i64 0, D.int .i64 0, D.str [], D.int .i64 0, D.sl aC.ks (List.map aC.enc []), D.str [], D.str [], D.bool false, D.int .i64 0, D.int .i64 0, D.int .i64 0, D.bool false, D.int .i64 0, D.str [], D.str [], D.int .i64 0, D.bool false, D.int .i64 0, D.int .i64 0, D.str [], D.int .i64 0, D.sl aC.ks (List.map aC.enc []), D.bool false, D.int .i64 0, D.sl aH.ks (List.map aH.enc []), D.sl [.str] (List.map aY []), D.sl [.int .i64] (List.map eI [])]) (
 akK (C51 Γ) Λ2 J (aA.enc p0) [D.int .i64 0, D.int .i64 0, D.bool false, D.str [], D.str [], D.int .i64 0, D.bool false, D.int .i64 0, D.int .i64 0, D.str [], D.int .i64 0, D.sl aC.ks (List.map aC.enc []), D.str [], D.str [], D.bool false, D.int .i64 0, D.int .i64 0, D.int .i64 0, D.bool false, D.int .i64 0, D.str [], D.str [], D.int .i64 0, D.bool false, D.int .i64 0, D.int .i64 0, D.str [], D.int .i64 0, D.sl aC.ks (List.map aC.enc []), D.bool false, D.int .i64 0, D.sl aH.ks (List.map aH.enc []), D.sl [.str] (List.map aY []), D.sl [.int .i64] (List.map eI [])] [D.int .i64 p0.Kind, D.int .i64 0, D.bool false, D.str [], D.str [], D.int .i64 0, D.bool false, D.int .i64 0, D.int .i64 0, D.str [], D.int .i64 0, D.sl aC.ks (List.map aC.enc []), D.str [], D.str [], D.bool false, D.int .i64 0, D.int .i64 0, D.int .i64 0, D.bool false, D.int .i64 0, D.str [], D.str [], D.int .i64 0, D.bool false, D.int .i64 0, D.int .i64 0, D.str [], D.int .i64 0, D.sl aC.ks (List.map aC.enc []), D.bool false, D.int .i64 0, D.sl aH.ks (List.map aH.enc []), D.sl [.str] (List.map aY []), D.sl [.int .i64] (List.map eI [])])) (
 akK (C51 Γ) Λ2 J (aA.enc p0) [D.int .i64 0, D.int .i64 0, D.bool false, D.str [], D.str [], D.int .i64 0, D.bool false, D.int .i64 0, D.int .i64 0, D.str [], D.int .i64 0, D.sl aC.ks (List.map aC.enc []), D.str [], D.str [], D.bool false, D.int .i64 0, D.int .i64 0, D.int .i64 0, D.bool false, D.int .i64 0, D.str [], D.str [], D.int .i64 0, D.bool false, D.int .i64 0, D.int .i64 0, D.str [], D.int .i64 0, D.sl aC.ks (List.map aC.enc []), D.bool false, D.int .i64 0, D.sl aH.ks (List.map aH.enc []), D.sl [.str] (List.map aY []), D.sl [.int .i64] (List.map eI [])] [D.int .i64 p0.Kind, D.int .i64 0, D.bool false, D.str [], D.str [], D.int .i64 0, D.bool false, D.int .i64 0, D.int .i64 0, D.str [], D.int .i64 0, D.sl aC.ks (List.map aC.enc []), D.str [], D.str [], D.bool false, D.int .i64 0, D.int .i64 0, D.int .i64 0, D.bool false, D.int .i64 0, D.str [], D.str [], D.int .i64 0, D.bool false, D.int .i64 0, D.int .i64 0, D.str [], D.int .i64 0, D.sl aC.ks (List.map aC.enc []), D.bool false, D.int .i64 0, D.sl aH.ks (List.map aH.enc []), D.sl [.str] (List.map aY []), D.sl [.int .i64] (List.map eI [])])) := by kernel_rfl
theorem azc (b0 b1 b2 : aA) : cJ SE (C51 Γ) Λ2 J 51 0 [1, 1, 1, 1, 1, 1, 1, 1, 1, 0, 0] (bA [(1, .ptr 1000000000 0), (2, .ptr 1000000001 0), (3, .ptr 1000000002 0)] [⟨31, (List.map AV.d (aA.enc b0))⟩, ⟨31, (List.map AV.d (aA.enc b1))⟩, ⟨31, (List.map AV.d (aA.enc b2))⟩] [] [] []) =
 cond (b0.Kind == 9) (
 (some (.ret [aA.av (aA.mk b2.Kind b2.ID b2.Dup b2.Message b2.Client b2.User b2.Clean b2.Keep b2.Expiry b2.Window b2.Will b2.Present b2.Code b2.Subs b2.Filters b0.Codes)] [] []))) (
 cond (b0.Kind == 11) (
 (some (.ret [aA.av (aA.mk b2.Kind b2.ID b2.Dup b2.Message b2.Client b2.User b2.Clean b2.Keep b2.Expiry b2.Window b2.Will b2.Present b2.Code b2.Subs b2.Filters b0.Codes)] [] []))) (
 (some (.ret [aA.av b2] [] [])))) := by kernel_rfl
theorem axV (b0 b1 b2 : aA) : cJ SE (C51 Γ) Λ2 J 51 0 [1, 1, 1, 1, 1, 1, 1, 1, 0, 0] (bA [(1, .ptr 1000000000 0), (2, .ptr 1000000001 0), (3, .ptr 1000000002 0)] [⟨31, (List.map AV.d (aA.enc b0))⟩, ⟨31, (List.map AV.d (aA.enc b1))⟩, ⟨31, (List.map AV.d (aA.enc b2))⟩] [] [] []) =
 cond (b0.Kind == 10) (
 aoE (C51 Γ) Λ2 J (aA.enc b0) (aA.enc b1) (aA.enc (aA.mk b2.Kind b2.ID b2.Dup b2.Message b2.Client b2.User b2.Clean b2.Keep b2.Expiry b2.Window b2.Will b2.Present b2.Code b2.Subs b0.Filters b2.Codes))) (
 aoE (C51 Γ) Λ2 J (aA.enc b0) (aA.enc b1) (aA.enc b2)) := by kernel_rfl
theorem ayu (b0 b1 b2 : aA) : cJ SE (C51 Γ) Λ2 J 51 0 [1, 1, 1, 1, 1, 1, 1, 0, 0] (bA [(1, .ptr 1000000000 0), (2, .ptr 1000000001 0), (3, .ptr 1000000002 0)] [⟨31, (List.map AV.d (aA.enc b0))⟩, ⟨31, (List.map AV.d (aA.enc b1))⟩, ⟨31, (List.map AV.d (aA.enc b2))⟩] [] [] []) =
 cond (b0.Kind == 8) (
 aoG (C51 Γ) Λ2 J (aA.enc b0) (aA.enc b1) (aA.enc (aA.mk b2.Kind b2.ID b2.Dup b2.Message b2.Client b2.User b2.Clean b2.Keep b2.Expiry b2.Window b2.Will b2.Present b2.Code b0.Subs b2.Filters b2.Codes))) (
 aoG (C51 Γ) Λ2 J (aA.enc b0) (aA.enc b1) (aA.enc b2)) := by kernel_rfl
theorem ayC (b0 b1 b2 : aA) : cJ SE (C51 Γ) Λ2 J 51 0 [1, 1, 1, 1, 1, 1, 0, 0] (bA [(1, .ptr 1000000000 0), (2, .ptr 1000000001 0), (3, .ptr 1000000002 0)] [⟨31, (List.map AV.d (aA.enc b0))⟩, ⟨31, (List.map AV.d (aA.enc b1))⟩, ⟨31, (List.map AV.d (aA.enc b2))⟩] [] [] []) =
 cond (b0.Kind == 3) (
 aol (C51 Γ) Λ2 J (aA.enc b0) (aA.enc b1) (aA.enc (aA.mk b2.Kind b2.ID b0.Dup b0.Message b2.Client b2.User b2.Clean b2.Keep b2.Expiry b2.Window b2.Will b2.Present b2.Code b2.Subs b2.Filters b2.Codes))) (
 aol (C51 Γ) Λ2 J (aA.enc b0) (aA.enc b1) (aA.enc b2)) := by kernel_rfl
theorem axC (b0 b1 b2 : aA) : cJ SE (C51 Γ) Λ2 J 51 0 [1, 1, 1, 1, 1, 0, 0] (bA [(1, .ptr 1000000000 0), (2, .ptr 1000000001 0), (3, .ptr 1000000002 0)] [⟨31, (List.map AV.d (aA.enc b0))⟩, ⟨31, (List.map AV.d (aA.enc b1))⟩, ⟨31, (List.map AV.d (aA.enc b2))⟩] [] [] []) =
 cond (b0.Kind == 2) (
 akY (C51 Γ) Λ2 J (aA.enc b0) (aA.enc b1) (aA.enc (aA.mk b2.Kind b2.ID b2.Dup b2.Message b2.Client b2.User b2.Clean b2.Keep b2.Expiry b2.Window b2.Will b2.Present b0.Code b2.Subs b2.Filters b2.Codes))) (
 cond (b0.Kind == 14) (
 akY (C51 Γ) Λ2 J (aA.enc b0) (aA.enc b1) (aA.enc (aA.mk b2.Kind b2.ID b2.Dup b2.Message b2.Client b2.User b2.Clean b2.Keep b2.Expiry b2.Window b2.Will b2.Present b0.Code b2.Subs b2.Filters b2.Codes))) (
 akY (C51 Γ) Λ2 J (aA.enc b0) (aA.enc b1) (aA.enc b2))) := by kernel_rfl
theorem ax1 (b0 b1 b2 : aA) : cJ SE (C51 Γ) Λ2 J 51 0 [1, 1, 1, 1, 0, 0] (bA [(1, .ptr 1000000000 0), (2, .ptr 1000000001 0), (3, .ptr 1000000002 0)] [⟨31, (List.map AV.d (aA.enc b0))⟩, ⟨31, (List.map AV.d (aA.enc b1))⟩, ⟨31, (List.map AV.d (aA.enc b2))⟩] [] [] []) =
 cond (b0.Kind == 2) (
 an5 (C51 Γ) Λ2 J (aA.enc b0) (aA.enc b1) (aA.enc (aA.mk b2.Kind b2.ID b2.Dup b2.Message b2.Client b2.User b2.Clean b2.Keep b2.Expiry b2.Window b2.Will b0.Present b2.Code b2.Subs b2.Filters b2.Codes))) (
 an5 (C51 Γ) Λ2 J (aA.enc b0) (aA.enc b1) (aA.enc b2)) := by kernel_rfl
theorem aA0 (b0 b1 b2 : aA) : cJ SE (C51 Γ) Λ2 J 51 0 [1, 1, 1, 0, 0] (bA [(1, .ptr 1000000000 0), (2, .ptr 1000000001 0), (3, .ptr 1000000002 0)] [⟨31, (List.map AV.d (aA.enc b0))⟩, ⟨31, (List.map AV.d (aA.enc b1))⟩, ⟨31, (List.map AV.d (aA.enc b2))⟩] [] [] []) =
 cond (b0.Kind == 1) (
 ao7 (C51 Γ) Λ2 J (aA.enc b0) (aA.enc b1) (aA.enc (aA.mk b2.Kind b2.ID b2.Dup b2.Message b0.Client b0.User b0.Clean b0.Keep b0.Expiry b0.Window b0.Will b2.Present b2.Code b2.Subs b2.Filters b2.Codes))) (
 ao7 (C51 Γ) Λ2 J (aA.enc b0) (aA.enc b1) (aA.enc b2)) := by kernel_rfl
end
abbrev X51 : aR := C51 gG
theorem aij : X51 = aS gG := rfl
abbrev aw5 := aoE X51 (cB SE gG (SE.hl 51) (SE.hr 51)) (J0 SE X51)
abbrev ayN := aoG X51 (cB SE gG (SE.hl 51) (SE.hr 51)) (J0 SE X51)
abbrev axh := aol X51 (cB SE gG (SE.hl 51) (SE.hr 51)) (J0 SE X51)
abbrev ayc := akY X51 (cB SE gG (SE.hl 51) (SE.hr 51)) (J0 SE X51)
abbrev axE := an5 X51 (cB SE gG (SE.hl 51) (SE.hr 51)) (J0 SE X51)
abbrev axn := ao7 X51 (cB SE gG (SE.hl 51) (SE.hr 51)) (J0 SE X51)
abbrev azP := akK X51 (cB SE gG (SE.hl 51) (SE.hr 51)) (J0 SE X51)
theorem yR (b0 b1 b2 : aA) : Le (Option.map dY (qN b0 b1 b2)) (aw5 (aA.enc b0) (aA.enc b1) (aA.enc b2)) := by
 refine Le.trans ?_ (le_of_eq ((bD aij).trans (azc ..)).symm)
 unfold qN
 refine lC ?_ ?_
 ·exact aG rfl
 ·refine lC ?_ ?_
  ·exact aG rfl
  ·exact aG rfl
theorem yQ (b0 b1 b2 : aA) : Le (Option.map dY (qT b0 b1 b2)) (ayN (aA.enc b0) (aA.enc b1) (aA.enc b2)) := by
 refine Le.trans ?_ (le_of_eq ((bD aij).trans (axV ..)).symm)
 unfold qT
 refine lC ?_ ?_
 ·exact yR b0 b1 (aA.mk b2.Kind b2.ID b2.Dup b2.Message b2.Client b2.User b2.Clean b2.Keep b2.Expiry b2.Window b2.Will b2.Present b2.Code b2.Subs b0.Filters b2.Codes)
 ·exact yR b0 b1 b2
theorem yS (b0 b1 b2 : aA) : Le (Option.map dY (qV b0 b1 b2)) (axh (aA.enc b0) (aA.enc b1) (aA.enc b2)) := by
 refine Le.trans ?_ (le_of_eq ((bD aij).trans (ayu ..)).symm)
 unfold qV
 refine lC ?_ ?_
 ·exact yQ b0 b1 (aA.mk b2.Kind b2.ID b2.Dup b2.Message b2.Client b2.User b2.Clean b2.Keep b2.Expiry b2.Window b2.Will b2.Present b2.Code b0.Subs b2.Filters b2.Codes)
 ·exact yQ b0 b1 b2
theorem sD (b0 b1 b2 : aA) : Le (Option.map dY (mZ b0 b1 b2)) (ayc (aA.enc b0) (aA.enc b1) (aA.enc b2)) := by
 refine Le.trans ?_ (le_of_eq ((bD aij).trans (ayC ..)).symm)
 unfold mZ
 refine lC ?_ ?_
 ·exact yS b0 b1 (aA.mk b2.Kind b2.ID b0.Dup b0.Message b2.Client b2.User b2.Clean b2.Keep b2.Expiry b2.Window b2.Will b2.Present b2.Code b2.Subs b2.Filters b2.Codes)
 ·exact yS b0 b1 b2
theorem yN (b0 b1 b2 : aA) : Le (Option.map dY (qH b0 b1 b2)) (axE (aA.enc b0) (aA.enc b1) (aA.enc b2)) := by
 refine Le.trans ?_ (le_of_eq ((bD aij).trans (axC ..)).symm)
 unfold qH
 refine lC ?_ ?_
 ·exact sD b0 b1 (aA.mk b2.Kind b2.ID b2.Dup b2.Message b2.Client b2.User b2.Clean b2.Keep b2.Expiry b2.Window b2.Will b2.Present b0.Code b2.Subs b2.Filters b2.Codes)
 ·refine lC ?_ ?_
  ·exact sD b0 b1 (aA.mk b2.Kind b2.ID b2.Dup b2.Message b2.Client b2.User b2.Clean b2.Keep b2.Expiry b2.Window b2.Will b2.Present b0.Code b2.Subs b2.Filters b2.Codes)
  ·exact sD b0 b1 b2
theorem yO (b0 b1 b2 : aA) : Le (Option.map dY (qU b0 b1 b2)) (axn (aA.enc b0) (aA.enc b1) (aA.enc b2)) := by
 refine Le.trans ?_ (le_of_eq ((bD aij).trans (ax1 ..)).symm)
 unfold qU
 refine lC ?_ ?_
 ·exact yN b0 b1 (aA.mk b2.Kind b2.ID b2.Dup b2.Message b2.Client b2.User b2.Clean b2.Keep b2.Expiry b2.Window b2.Will b0.Present b2.Code b2.Subs b2.Filters b2.Codes)
 ·exact yN b0 b1 b2
theorem oJ (b0 b1 b2 : aA) : Le (Option.map dY (lH b0 b1 b2)) (azP (aA.enc b0) (aA.enc b1) (aA.enc b2)) := by
 refine Le.trans ?_ (le_of_eq ((bD aij).trans (aA0 ..)).symm)
 unfold lH
 refine lC ?_ ?_
 ·exact yO b0 b1 (aA.mk b2.Kind b2.ID b2.Dup b2.Message b0.Client b0.User b0.Clean b0.Keep b0.Expiry b0.Window b0.Will b2.Present b2.Code b2.Subs b2.Filters b2.Codes)
 ·exact yO b0 b1 b2
theorem ahE (p0 : aA) : Le (Option.map dY (uS p0)) (bF SE 51 [aA.av p0] [] []) := by
 refine aZ aij rfl ?_
 refine Le.trans ?_ (le_of_eq (T51 ..).symm)
 unfold uS
 refine lC ?_ ?_
 ·(try simp only [EN]); exact oJ p0 (zPq) ((aA.mk p0.Kind p0.ID false zMq [] [] false 0 0 0 zWq false 0 [] [] []))
 ·refine lC ?_ ?_
  ·refine lC ?_ ?_
   ·(try simp only [EN]); exact oJ p0 (zPq) ((aA.mk p0.Kind p0.ID false zMq [] [] false 0 0 0 zWq false 0 [] [] []))
   ·(try simp only [EN]); exact oJ p0 (zPq) ((aA.mk p0.Kind 0 false zMq [] [] false 0 0 0 zWq false 0 [] [] []))
  ·(try simp only [EN]); exact oJ p0 (zPq) ((aA.mk p0.Kind 0 false zMq [] [] false 0 0 0 zWq false 0 [] [] []))
section
variable (Γ : Fun)  (Λ2 J : Lam)
def ay3 : aR := aS Γ
theorem aDW (p0 : Int) : bK SE (ay3 Γ) Λ2 J 108 [.d (.int .u8 p0)] [] [] =
 cond (decide (p0 ≥ 97)) (
 (rB (decide (p0 ≤ 122)))) (
 (rB false)) := by kernel_rfl
end
abbrev aCO : aR := ay3 gG
theorem aAl : aCO = aS gG := rfl
theorem aaQ (p0 : Int) : Le (Option.map packet_is_out (nK p0)) (bF SE 108 [.d (.int .u8 p0)] [] []) := by
 refine aZ aAl rfl ?_
 refine Le.trans ?_ (le_of_eq (aDW ..).symm)
 unfold nK
 refine lC ?_ ?_
 ·exact aG rfl
 ·exact aG rfl
section
variable (Γ : Fun)  (Λ2 J : Lam)
def ayP : aR := aS Γ
theorem aEo (p0 : Int) : bK SE (ayP Γ) Λ2 J 109 [.d (.int .u8 p0)] [] [] =
 cond (decide (p0 ≥ 48)) (
 (rB (decide (p0 ≤ 57)))) (
 (rB false)) := by kernel_rfl
end
abbrev aDH : aR := ayP gG
theorem aAv : aDH = aS gG := rfl
theorem agy (p0 : Int) : Le (Option.map packet_is_out (p7 p0)) (bF SE 109 [.d (.int .u8 p0)] [] []) := by
 refine aZ aAv rfl ?_
 refine Le.trans ?_ (le_of_eq (aEo ..).symm)
 unfold p7
 refine lC ?_ ?_
 ·exact aG rfl
 ·exact aG rfl
def ak6 (C : aR) (Λ2 J : Lam) (a0 : Str) (a1 : Int) : Res := lab SE C Λ2 J 86 0 [1, 1, 0, 1, 0] (bA [(0, dSq a0), (3, dIq a1)] [] [] [] [])
def avq (C : aR) (Λ2 J : Lam) (a0 : Str) : Res := lab SE C Λ2 J 86 0 [1, 1, 0, 0] (bA [(0, dSq a0)] [] [] [] [])
section
variable (Γ : Fun) (γ108 γ109 : Gm (Bool)) (Λ2 J : Lam)
def C86 : aR := bE (bE (aS Γ) 108 packet_is_out γ108) 109 packet_is_out γ109
theorem T86 (p0 : Str) : bK SE (C86 Γ γ108 γ109) Λ2 J 86 [dSq p0] [] [] =
 cond (decide ((List.length p0 : Int) < 1)) (
 (rB false)) (
 cond (decide ((List.length p0 : Int) > 16)) (
 (rB false)) (
 cond (decide (0 ≤ 0) && decide (0 < (List.length p0 : Int))) (
 γ108 [.d (.int .u8 (UInt8.toNat (List.getD p0 (Int.toNat 0) 0) : Int))] [] [] fun r0 =>
 cond (!r0) (
  (rB false)) (
 avq (C86 Γ γ108 γ109) Λ2 J p0)) none)) := by kernel_rfl
theorem aAP (x0 : Str) (x3 : Int) : cJ SE (C86 Γ γ108 γ109) Λ2 J 86 0 [1, 1, 0, 1, 0] (bA [(0, dSq x0), (3, dIq x3)] [] [] [] []) =
 cond (decide (x3 < (List.length x0 : Int))) (
 cond (iB x3 (List.length x0 : Int)) (
  γ108 [.d (.int .u8 (UInt8.toNat (List.getD x0 (Int.toNat x3) 0) : Int))] [] [] fun r1 =>
  cond (!r1) (
  cond (iB x3 (List.length x0 : Int)) (
   γ109 [.d (.int .u8 (UInt8.toNat (List.getD x0 (Int.toNat x3) 0) : Int))] [] [] fun r2 =>
   cond (!r2) (
   cond (iB x3 (List.length x0 : Int)) (
    cond ((UInt8.toNat (List.getD x0 (Int.toNat x3) 0) : Int) != 45) (
    (rB false)) (
    ak6 (C86 Γ γ108 γ109) Λ2 J x0 (w6 (x3 + 1)))) none) (
   ak6 (C86 Γ γ108 γ109) Λ2 J x0 (w6 (x3 + 1)))) none) (
  ak6 (C86 Γ γ108 γ109) Λ2 J x0 (w6 (x3 + 1)))) none) (
 (rB true)) := by kernel_rfl
theorem aBX (x0 : Str) : cJ SE (C86 Γ γ108 γ109) Λ2 J 86 0 [1, 1, 0, 0] (bA [(0, dSq x0)] [] [] [] []) =
 ak6 (C86 Γ γ108 γ109) Λ2 J x0 0 := by kernel_rfl
end
abbrev X86 : aR := C86 gG (cT 108 packet_is_out) (cT 109 packet_is_out)
theorem at7 : X86 = aS gG := by unfold X86 C86; repeat rw [bH fun _ h => h]
abbrev aBt := ak6 X86 (cB SE gG (SE.hl 86) (SE.hr 86)) (J0 SE X86)
abbrev aB4 := avq X86 (cB SE gG (SE.hl 86) (SE.hr 86)) (J0 SE X86)
theorem afr : ∀ (fu : Nat) (x0 : Str) (x3 : Int), Le (Option.map packet_is_out (gM fu x0 x3)) (aBt x0 x3) := by
 intro fu
 induction fu with
 | zero => intros; exact le_none
 | succ fu ih =>
  intro x0 x3
  refine Le.trans ?_ (le_of_eq ((bD at7).trans (aAP ..)).symm)
  unfold gM
  refine lC ?_ ?_
  ·refine lF ?_
   refine lQ eX packet_is_inj (aaQ _) fun r1 _ => ?_
   refine lC ?_ ?_
   ·refine lF ?_
    refine lQ eX packet_is_inj (agy _) fun r2 _ => ?_
    refine lC ?_ ?_
    ·refine lF ?_
     refine lC ?_ ?_
     ·exact aG rfl
     ·exact ih x0 (w6 (x3 + 1))
    ·exact ih x0 (w6 (x3 + 1))
   ·exact ih x0 (w6 (x3 + 1))
  ·exact aG rfl
theorem afN (x0 : Str) : Le (Option.map packet_is_out (rZ x0)) (aB4 x0) := by
 refine Le.trans ?_ (le_of_eq ((bD at7).trans (aBX ..)).symm)
 unfold rZ
 exact afr fuel x0 0
theorem rY (p0 : Str) : Le (Option.map packet_is_out (iG p0)) (bF SE 86 [dSq p0] [] []) := by
 refine aZ at7 rfl ?_
 refine Le.trans ?_ (le_of_eq (T86 ..).symm)
 unfold iG
 refine lC ?_ ?_
 ·exact aG rfl
 ·refine lC ?_ ?_
  ·exact aG rfl
  ·refine lF ?_
   refine lQ eX packet_is_inj (aaQ _) fun r0 _ => ?_
   refine lC ?_ ?_
   ·exact aG rfl
   ·exact afN p0
def aob (C : aR) (Λ2 J : Lam) (a0 : Str) (a1 a2 : Int) : Res := lab SE C Λ2 J 123 0 [1, 0, 1, 0] (bA [(0, dSq a0), (1, .d (.int .u8 a1)), (5, dIq a2)] [] [] [] [])
section
variable (Γ : Fun)  (Λ2 J : Lam)
def ao2 : aR := aS Γ
theorem aC0 (p0 : Str) (p1 : Int) : bK SE (ao2 Γ) Λ2 J 123 [dSq p0, .d (.int .u8 p1)] [] [] =
 aob (ao2 Γ) Λ2 J p0 p1 0 := by kernel_rfl
theorem azF (x0 : Str) (x1 x5 : Int) : cJ SE (ao2 Γ) Λ2 J 123 0 [1, 0, 1, 0] (bA [(0, dSq x0), (1, .d (.int .u8 x1)), (5, dIq x5)] [] [] [] []) =
 cond (decide (x5 < (List.length x0 : Int))) (
 cond (iB x5 (List.length x0 : Int)) (
  cond ((UInt8.toNat (List.getD x0 (Int.toNat x5) 0) : Int) == x1) (
  (rB true)) (
  aob (ao2 Γ) Λ2 J x0 x1 (w6 (x5 + 1)))) none) (
 (rB false)) := by kernel_rfl
end
abbrev auy : aR := ao2 gG
theorem avR : auy = aS gG := rfl
abbrev azp := aob auy (cB SE gG (SE.hl 123) (SE.hr 123)) (J0 SE auy)
theorem agc : ∀ (fu : Nat) (x0 : Str) (x1 x5 : Int), Le (Option.map packet_is_out (kD fu x0 x1 x5)) (azp x0 x1 x5) := by
 intro fu
 induction fu with
 | zero => intros; exact le_none
 | succ fu ih =>
  intro x0 x1 x5
  refine Le.trans ?_ (le_of_eq ((bD avR).trans (azF ..)).symm)
  unfold kD
  refine lC ?_ ?_
  ·refine lF ?_
   refine lC ?_ ?_
   ·exact aG rfl
   ·exact ih x0 x1 (w6 (x5 + 1))
  ·exact aG rfl
theorem oV (p0 : Str) (p1 : Int) : Le (Option.map packet_is_out (jX p0 p1)) (bF SE 123 [dSq p0, .d (.int .u8 p1)] [] []) := by
 refine aZ avR rfl ?_
 refine Le.trans ?_ (le_of_eq (aC0 ..).symm)
 unfold jX
 exact agc fuel p0 p1 0
def alQ (C : aR) (Λ2 J : Lam) (a0 : Str) (a1 a2 : Int) (a3 : List (List D)) : Res := lab SE C Λ2 J 125 0 [1, 1, 1, 0, 1, 0] (bA [(0, dSq a0), (3, .row 3003), (4, dIq a1), (5, dIq a2)] [] [] [] [(3003, ⟨[.str], 9, 16, a3⟩)])
section
variable (Γ : Fun)  (Λ2 J : Lam)
def aml : aR := aS Γ
theorem aDm (p0 : Str) : bK SE (aml Γ) Λ2 J 125 [dSq p0] [] [] =
 alQ (aml Γ) Λ2 J p0 0 0 (List.map aY []) := by kernel_rfl
theorem awZ (x0 : Str) (x4 x5 : Int) (w3003 : List Str) : cJ SE (aml Γ) Λ2 J 125 0 [1, 1, 1, 0, 1, 0] (bA [(0, dSq x0), (3, .row 3003), (4, dIq x4), (5, dIq x5)] [] [] [] [(3003, ⟨[.str], 9, 16, (List.map aY w3003)⟩)]) =
 cond (decide (x5 < (List.length x0 : Int))) (
 cond (iB x5 (List.length x0 : Int)) (
  cond ((UInt8.toNat (List.getD x0 (Int.toNat x5) 0) : Int) == 47) (
  cond (decide (0 ≤ x5) && decide (x5 ≤ ((List.length x0) : Int))) (
   cond (decide (0 ≤ x4) && decide (x4 ≤ x5)) (
   cond (decide ((lM aY w3003 + lM aY [(dI x0 (some x4) (some x5))]) * 16 ≤ 140737488355328)) (
    alQ (aml Γ) Λ2 J x0 (w6 (x5 + 1)) (w6 (x5 + 1)) (((List.map aY w3003) ++ (List.map aY [(dI x0 (some x4) (some x5))])))) none) none) none) (
  alQ (aml Γ) Λ2 J x0 x4 (w6 (x5 + 1)) (List.map aY w3003))) none) (
 cond (decide (0 ≤ x4) && decide (x4 ≤ ((List.length x0) : Int))) (
 cond (decide ((lM aY w3003 + lM aY [(dI x0 (some x4) none)]) * 16 ≤ 140737488355328)) (
  (some (.ret [.row 0] [] [⟨[.str], 9, 16, ((List.map aY w3003) ++ (List.map aY [(dI x0 (some x4) none)]))⟩]))) none) none) := by kernel_rfl
end
abbrev aua : aR := aml gG
theorem avp : aua = aS gG := rfl
abbrev azl := alQ aua (cB SE gG (SE.hl 125) (SE.hr 125)) (J0 SE aua)
theorem adv : ∀ (fu : Nat) (x0 : Str) (x4 x5 : Int) (w3003 : List Str), Le (Option.map eQ (gR fu x0 x4 x5 w3003)) (azl x0 x4 x5 (List.map aY w3003)) := by
 intro fu
 induction fu with
 | zero => intros; exact le_none
 | succ fu ih =>
  intro x0 x4 x5 w3003
  refine Le.trans ?_ (le_of_eq ((bD avp).trans (awZ ..)).symm)
  unfold gR
  refine lC ?_ ?_
  ·refine lF ?_
   refine lC ?_ ?_
   ·refine lF ?_
    refine lF ?_
    refine lG (by simp only [EN]) ?_
    (try simp only [EN]); exact ih x0 (w6 (x5 + 1)) (w6 (x5 + 1)) ((w3003 ++ [(dI x0 (some x4) (some x5))]))
   ·exact ih x0 x4 (w6 (x5 + 1)) w3003
  ·refine lF ?_
   refine lG (by simp only [EN]) ?_
   exact aG (by first | rfl | simp only [EN, eQ] <;> rfl)
theorem aax (p0 : Str) : Le (Option.map eQ (oX p0)) (bF SE 125 [dSq p0] [] []) := by
 refine aZ avp rfl ?_
 refine Le.trans ?_ (le_of_eq (aDm ..).symm)
 unfold oX
 (try simp only [EN]); exact adv fuel p0 0 0 []
section
variable (Γ : Fun) (γ123 : Gm (Bool)) (γ125 : Gm ((List Str))) (Λ2 J : Lam)
def avf : aR := bE (bE (aS Γ) 123 packet_is_out γ123) 125 eQ γ125
theorem aC7 (p0 : Str) : bK SE (avf Γ γ123 γ125) Λ2 J 122 [dSq p0] [] [] =
 cond (decide ((List.length p0 : Int) ≥ 1)) (
 cond (decide ((List.length p0 : Int) ≤ 64)) (
  γ123 [dSq p0, .d (.int .u8 0)] [] [] fun r0 =>
  cond (!r0) (
  γ125 [dSq p0] [] [] fun r1 =>
  (rB (decide ((lM aY r1 : Int) ≤ 8)))) (
  (rB false))) (
 (rB false))) (
 (rB false)) := by kernel_rfl
end
abbrev azn : aR := avf gG (cT 123 packet_is_out) (cT 125 eQ)
theorem aBx : azn = aS gG := by unfold azn avf; repeat rw [bH fun _ h => h]
theorem aaE (p0 : Str) : Le (Option.map packet_is_out (nH p0)) (bF SE 122 [dSq p0] [] []) := by
 refine aZ aBx rfl ?_
 refine Le.trans ?_ (le_of_eq (aC7 ..).symm)
 unfold nH
 refine lC ?_ ?_
 ·refine lC ?_ ?_
  ·refine lQ eX packet_is_inj (oV _ _) fun r0 _ => ?_
   refine lC ?_ ?_
   ·refine lQ eX y8 (aax _) fun r1 _ => ?_
    exact aG (by first | rfl | simp only [EN, packet_is_out] <;> rfl)
   ·exact aG rfl
  ·exact aG rfl
 ·exact aG rfl
section
variable (Γ : Fun) (γ122 γ123 : Gm (Bool)) (Λ2 J : Lam)
def atM : aR := bE (bE (aS Γ) 122 packet_is_out γ122) 123 packet_is_out γ123
theorem aD0 (p0 : Str) : bK SE (atM Γ γ122 γ123) Λ2 J 110 [dSq p0] [] [] =
 γ122 [dSq p0] [] [] fun r0 =>
 cond r0 (
 γ123 [dSq p0, .d (.int .u8 43)] [] [] fun r1 =>
 cond (!r1) (
  γ123 [dSq p0, .d (.int .u8 35)] [] [] fun r2 =>
  (rB (!r2))) (
 (rB false))) (
 (rB false)) := by kernel_rfl
end
abbrev aw9 : aR := atM gG (cT 122 packet_is_out) (cT 123 packet_is_out)
theorem aBQ : aw9 = aS gG := by unfold aw9 atM; repeat rw [bH fun _ h => h]
theorem ag8 (p0 : Str) : Le (Option.map packet_is_out (p8 p0)) (bF SE 110 [dSq p0] [] []) := by
 refine aZ aBQ rfl ?_
 refine Le.trans ?_ (le_of_eq (aD0 ..).symm)
 unfold p8
 refine lQ eX packet_is_inj (aaE _) fun r0 _ => ?_
 refine lC ?_ ?_
 ·refine lQ eX packet_is_inj (oV _ _) fun r1 _ => ?_
  refine lC ?_ ?_
  ·refine lQ eX packet_is_inj (oV _ _) fun r2 _ => ?_
   exact aG rfl
  ·exact aG rfl
 ·exact aG rfl
def aaS (C : aR) (Λ2 J : Lam) (a0 : Str) (a1 : Int) : Res := lab SE C Λ2 J 124 0 [1, 1, 0, 1, 0] (bA [(0, dSq a0), (3, dIq a1)] [] [] [] [])
def atp (C : aR) (Λ2 J : Lam) (a0 : Str) : Res := lab SE C Λ2 J 124 0 [1, 1, 0, 0] (bA [(0, dSq a0)] [] [] [] [])
section
variable (Γ : Fun)  (Λ2 J : Lam)
def abl : aR := aS Γ
theorem aDJ (p0 : Str) : bK SE (abl Γ) Λ2 J 124 [dSq p0] [] [] =
 cond (decide ((List.length p0 : Int) < 1)) (
 (rB false)) (
 cond (decide ((List.length p0 : Int) > 16)) (
 (rB false)) (
 atp (abl Γ) Λ2 J p0)) := by kernel_rfl
theorem azf (x0 : Str) (x3 : Int) : cJ SE (abl Γ) Λ2 J 124 0 [1, 1, 0, 1, 0] (bA [(0, dSq x0), (3, dIq x3)] [] [] [] []) =
 cond (decide (x3 < (List.length x0 : Int))) (
 cond (iB x3 (List.length x0 : Int)) (
  cond (decide ((UInt8.toNat (List.getD x0 (Int.toNat x3) 0) : Int) ≥ 97)) (
  cond (!(decide ((UInt8.toNat (List.getD x0 (Int.toNat x3) 0) : Int) ≤ 122))) (
   cond (decide ((UInt8.toNat (List.getD x0 (Int.toNat x3) 0) : Int) ≥ 48)) (
   cond (!(decide ((UInt8.toNat (List.getD x0 (Int.toNat x3) 0) : Int) ≤ 57))) (
    cond ((UInt8.toNat (List.getD x0 (Int.toNat x3) 0) : Int) != 45) (
    (rB false)) (
    aaS (abl Γ) Λ2 J x0 (w6 (x3 + 1)))) (
   aaS (abl Γ) Λ2 J x0 (w6 (x3 + 1)))) (
   cond ((UInt8.toNat (List.getD x0 (Int.toNat x3) 0) : Int) != 45) (
   (rB false)) (
   aaS (abl Γ) Λ2 J x0 (w6 (x3 + 1))))) (
  aaS (abl Γ) Λ2 J x0 (w6 (x3 + 1)))) (
  cond (decide ((UInt8.toNat (List.getD x0 (Int.toNat x3) 0) : Int) ≥ 48)) (
  cond (!(decide ((UInt8.toNat (List.getD x0 (Int.toNat x3) 0) : Int) ≤ 57))) (
   cond ((UInt8.toNat (List.getD x0 (Int.toNat x3) 0) : Int) != 45) (
   (rB false)) (
   aaS (abl Γ) Λ2 J x0 (w6 (x3 + 1)))) (
  aaS (abl Γ) Λ2 J x0 (w6 (x3 + 1)))) (
  cond ((UInt8.toNat (List.getD x0 (Int.toNat x3) 0) : Int) != 45) (
  (rB false)) (
  aaS (abl Γ) Λ2 J x0 (w6 (x3 + 1)))))) none) (
 (rB true)) := by kernel_rfl
theorem azr (x0 : Str) : cJ SE (abl Γ) Λ2 J 124 0 [1, 1, 0, 0] (bA [(0, dSq x0)] [] [] [] []) =
 aaS (abl Γ) Λ2 J x0 0 := by kernel_rfl
end
abbrev aov : aR := abl gG
theorem ary : aov = aS gG := rfl
abbrev ayT := aaS aov (cB SE gG (SE.hl 124) (SE.hr 124)) (J0 SE aov)
abbrev axY := atp aov (cB SE gG (SE.hl 124) (SE.hr 124)) (J0 SE aov)
theorem af2 : ∀ (fu : Nat) (x0 : Str) (x3 : Int), Le (Option.map packet_is_out (eL fu x0 x3)) (ayT x0 x3) := by
 intro fu
 induction fu with
 | zero => intros; exact le_none
 | succ fu ih =>
  intro x0 x3
  refine Le.trans ?_ (le_of_eq ((bD ary).trans (azf ..)).symm)
  unfold eL
  refine lC ?_ ?_
  ·refine lF ?_
   refine lC ?_ ?_
   ·refine lC ?_ ?_
    ·refine lC ?_ ?_
     ·refine lC ?_ ?_
      ·refine lC ?_ ?_
       ·exact aG rfl
       ·exact ih x0 (w6 (x3 + 1))
      ·exact ih x0 (w6 (x3 + 1))
     ·refine lC ?_ ?_
      ·exact aG rfl
      ·exact ih x0 (w6 (x3 + 1))
    ·exact ih x0 (w6 (x3 + 1))
   ·refine lC ?_ ?_
    ·refine lC ?_ ?_
     ·refine lC ?_ ?_
      ·exact aG rfl
      ·exact ih x0 (w6 (x3 + 1))
     ·exact ih x0 (w6 (x3 + 1))
    ·refine lC ?_ ?_
     ·exact aG rfl
     ·exact ih x0 (w6 (x3 + 1))
  ·exact aG rfl
theorem agr (x0 : Str) : Le (Option.map packet_is_out (sO x0)) (axY x0) := by
 refine Le.trans ?_ (le_of_eq ((bD ary).trans (azr ..)).symm)
 unfold sO
 exact af2 fuel x0 0
theorem aiL (p0 : Str) : Le (Option.map packet_is_out (sX p0)) (bF SE 124 [dSq p0] [] []) := by
 refine aZ ary rfl ?_
 refine Le.trans ?_ (le_of_eq (aDJ ..).symm)
 unfold sX
 refine lC ?_ ?_
 ·exact aG rfl
 ·refine lC ?_ ?_
  ·exact aG rfl
  ·exact agr p0
def akQ (C : aR) (Λ2 J : Lam) (a0 : List (List D)) (a1 : Int) : Res := lab SE C Λ2 J 111 0 [1, 1, 0, 1, 0] (bA [(0, .d (.sl aC.ks a0)), (3, dIq a1)] [] [] [] [])
section
variable (Γ : Fun) (γ124 : Gm (Bool)) (Λ2 J : Lam)
def akD : aR := bE (aS Γ) 124 packet_is_out γ124
theorem aDy (p0 : List aC) : bK SE (akD Γ γ124) Λ2 J 111 [.d (.sl aC.ks (List.map aC.enc p0))] [] [] =
 cond (decide ((lM aC.enc p0 : Int) > 8)) (
 (rI 5)) (
 akQ (akD Γ γ124) Λ2 J (List.map aC.enc p0) 0) := by kernel_rfl
theorem ay4 (x0 : List aC) (x3 : Int) : cJ SE (akD Γ γ124) Λ2 J 111 0 [1, 1, 0, 1, 0] (bA [(0, .d (.sl aC.ks (List.map aC.enc x0))), (3, dIq x3)] [] [] [] []) =
 cond (decide (x3 < (lM aC.enc x0 : Int))) (
 cond (iB x3 (lM aC.enc x0 : Int)) (
  γ124 [dSq (bJ (cE aC.enc x0 x3 0))] [] [] fun r0 =>
  cond (!r0) (
  (rI 16)) (
  cond (iB x3 (lM aC.enc x0 : Int)) (
  cond (decide ((List.length (bJ (cE aC.enc x0 x3 1)) : Int) > 160)) (
   (rI 5)) (
  cond (decide (x3 > 0)) (
   cond (iB x3 (lM aC.enc x0 : Int)) (
   cond (iB (w6 (x3 - 1)) (lM aC.enc x0 : Int)) (
    cond (Op.bytesLess (bJ (cE aC.enc x0 x3 0)) (bJ (cE aC.enc x0 (w6 (x3 - 1)) 0)) || (bJ (cE aC.enc x0 x3 0)) == (bJ (cE aC.enc x0 (w6 (x3 - 1)) 0))) (
    (rI 16)) (
    akQ (akD Γ γ124) Λ2 J (List.map aC.enc x0) (w6 (x3 + 1)))) none) none) (
  akQ (akD Γ γ124) Λ2 J (List.map aC.enc x0) (w6 (x3 + 1))))) none)) none) (
 (rI 0)) := by kernel_rfl
end
abbrev arE : aR := akD gG (cT 124 packet_is_out)
theorem avS : arE = aS gG := by unfold arE akD; rw [bH fun _ h => h]
abbrev awY := akQ arE (cB SE gG (SE.hl 111) (SE.hr 111)) (J0 SE arE)
theorem aeC : ∀ (fu : Nat) (x0 : List aC) (x3 : Int), Le (Option.map aJ (hX fu x0 x3)) (awY (List.map aC.enc x0) x3) := by
 intro fu
 induction fu with
 | zero => intros; exact le_none
 | succ fu ih =>
  intro x0 x3
  refine Le.trans ?_ (le_of_eq ((bD avS).trans (ay4 ..)).symm)
  unfold hX
  refine lD (by simp only [EN]) ?_ ?_
  ·refine lG (by simp only [EN]) ?_
   refine lQ eX packet_is_inj (by (try simp only [EN]); exact aiL ((List.getD x0 (Int.toNat x3) default).Key)) fun r0 _ => ?_
   refine lC ?_ ?_
   ·exact aG rfl
   ·refine lG (by simp only [EN]) ?_
    refine lD (by simp only [EN]) ?_ ?_
    ·exact aG rfl
    ·refine lC ?_ ?_
     ·refine lG (by simp only [EN]) ?_
      refine lG (by simp only [EN]) ?_
      refine lD (by simp only [EN]) ?_ ?_
      ·exact aG rfl
      ·exact ih x0 (w6 (x3 + 1))
     ·exact ih x0 (w6 (x3 + 1))
  ·exact aG rfl
theorem ahj (p0 : List aC) : Le (Option.map aJ (pZ p0)) (bF SE 111 [.d (.sl aC.ks (List.map aC.enc p0))] [] []) := by
 refine aZ avS rfl ?_
 refine Le.trans ?_ (le_of_eq (aDy ..).symm)
 unfold pZ
 refine lD (by simp only [EN]) ?_ ?_
 ·exact aG rfl
 ·exact aeC fuel p0 0
def apy (C : aR) (Λ2 J : Lam) (a0 : List D) : Res := lab SE C Λ2 J 88 0 [1, 1, 1, 1, 1, 1, 0, 0] (bA [(1, .ptr 1000000000 0)] [⟨24, (List.map AV.d a0)⟩] [] [] [])
def avW (C : aR) (Λ2 J : Lam) (a0 : List D) : Res := lab SE C Λ2 J 88 0 [1, 1, 1, 1, 1, 0, 0] (bA [(1, .ptr 1000000000 0)] [⟨24, (List.map AV.d a0)⟩] [] [] [])
def avu (C : aR) (Λ2 J : Lam) (a0 : List D) : Res := lab SE C Λ2 J 88 0 [1, 1, 1, 1, 0, 0] (bA [(1, .ptr 1000000000 0)] [⟨24, (List.map AV.d a0)⟩] [] [] [])
section
variable (Γ : Fun) (γ110 γ86 : Gm (Bool)) (γ111 : Gm (Int)) (Λ2 J : Lam)
def C88 : aR := bE (bE (bE (aS Γ) 110 packet_is_out γ110) 86 packet_is_out γ86) 111 aJ γ111
theorem T88 (p0 : aF) : bK SE (C88 Γ γ110 γ86 γ111) Λ2 J 88 [aF.av p0] [] [] =
 γ110 [dSq p0.Topic] [] [] fun r0 =>
 cond (!r0) (
 (rI 12)) (
 cond (decide ((List.length p0.Payload : Int) > 256)) (
 (rI 5)) (
 cond (decide (p0.Level < 0)) (
 (rI 14)) (
 cond (decide (p0.Level > 2)) (
 (rI 14)) (
 avu (C88 Γ γ110 γ86 γ111) Λ2 J (aF.enc p0))))) := by kernel_rfl
theorem azG (b0 : aF) : cJ SE (C88 Γ γ110 γ86 γ111) Λ2 J 88 0 [1, 1, 1, 1, 1, 1, 0, 0] (bA [(1, .ptr 1000000000 0)] [⟨24, (List.map AV.d (aF.enc b0))⟩] [] [] []) =
 cond (decide (b0.Seq < 0)) (
 (rI 1)) (
 cond (decide (b0.Seq > 1099511627776)) (
 (rI 1)) (
 γ111 [.d (.sl aC.ks (List.map aC.enc b0.Props))] [] [] fun r2 =>
 (rI r2))) := by kernel_rfl
theorem aAX (b0 : aF) : cJ SE (C88 Γ γ110 γ86 γ111) Λ2 J 88 0 [1, 1, 1, 1, 1, 0, 0] (bA [(1, .ptr 1000000000 0)] [⟨24, (List.map AV.d (aF.enc b0))⟩] [] [] []) =
 cond (!(b0.From == ([] : Str))) (
 γ86 [dSq b0.From] [] [] fun r1 =>
 cond (!r1) (
  (rI 11)) (
 apy (C88 Γ γ110 γ86 γ111) Λ2 J (aF.enc b0))) (
 apy (C88 Γ γ110 γ86 γ111) Λ2 J (aF.enc b0)) := by kernel_rfl
theorem aCe (b0 : aF) : cJ SE (C88 Γ γ110 γ86 γ111) Λ2 J 88 0 [1, 1, 1, 1, 0, 0] (bA [(1, .ptr 1000000000 0)] [⟨24, (List.map AV.d (aF.enc b0))⟩] [] [] []) =
 cond (decide (b0.Priority < 0)) (
 (rI 1)) (
 cond (decide (b0.Priority > 9)) (
 (rI 1)) (
 cond (decide (b0.Expires < 0)) (
 (rI 1)) (
 cond (decide (b0.Expires > 1099511627776)) (
 (rI 1)) (
 avW (C88 Γ γ110 γ86 γ111) Λ2 J (aF.enc b0))))) := by kernel_rfl
end
abbrev X88 : aR := C88 gG (cT 110 packet_is_out) (cT 86 packet_is_out) (cT 111 aJ)
theorem arB : X88 = aS gG := by unfold X88 C88; repeat rw [bH fun _ h => h]
abbrev ayj := apy X88 (cB SE gG (SE.hl 88) (SE.hr 88)) (J0 SE X88)
abbrev aA2 := avW X88 (cB SE gG (SE.hl 88) (SE.hr 88)) (J0 SE X88)
abbrev aBa := avu X88 (cB SE gG (SE.hl 88) (SE.hr 88)) (J0 SE X88)
theorem wW (b0 : aF) : Le (Option.map aJ (kC b0)) (ayj (aF.enc b0)) := by
 refine Le.trans ?_ (le_of_eq ((bD arB).trans (azG ..)).symm)
 unfold kC
 refine lC ?_ ?_
 ·exact aG rfl
 ·refine lC ?_ ?_
  ·exact aG rfl
  ·refine lQ eX bB (ahj _) fun r2 _ => ?_
   exact aG rfl
theorem aeA (b0 : aF) : Le (Option.map aJ (mR b0)) (aA2 (aF.enc b0)) := by
 refine Le.trans ?_ (le_of_eq ((bD arB).trans (aAX ..)).symm)
 unfold mR
 refine lC ?_ ?_
 ·refine lQ eX packet_is_inj (rY _) fun r1 _ => ?_
  refine lC ?_ ?_
  ·exact aG rfl
  ·exact wW b0
 ·exact wW b0
theorem aez (b0 : aF) : Le (Option.map aJ (nC b0)) (aBa (aF.enc b0)) := by
 refine Le.trans ?_ (le_of_eq ((bD arB).trans (aCe ..)).symm)
 unfold nC
 refine lC ?_ ?_
 ·exact aG rfl
 ·refine lC ?_ ?_
  ·exact aG rfl
  ·refine lC ?_ ?_
   ·exact aG rfl
   ·refine lC ?_ ?_
    ·exact aG rfl
    ·exact aeA b0
theorem aaW (p0 : aF) : Le (Option.map aJ (jS p0)) (bF SE 88 [aF.av p0] [] []) := by
 refine aZ arB rfl ?_
 refine Le.trans ?_ (le_of_eq (T88 ..).symm)
 unfold jS
 refine lQ eX packet_is_inj (ag8 _) fun r0 _ => ?_
 refine lC ?_ ?_
 ·exact aG rfl
 ·refine lC ?_ ?_
  ·exact aG rfl
  ·refine lC ?_ ?_
   ·exact aG rfl
   ·refine lC ?_ ?_
    ·exact aG rfl
    ·exact aez p0
section
variable (Γ : Fun) (γ43 : Gm (Bool)) (γ88 : Gm (Int)) (Λ2 J : Lam)
def C87 : aR := bE (bE (aS Γ) 43 packet_is_out γ43) 88 aJ γ88
theorem T87 (p0 : aV) : bK SE (C87 Γ γ43 γ88) Λ2 J 87 [aV.av p0] [] [] =
 cond (!p0.Set) (
 cond (p0.Delay != 0) (
  (rI 28)) (
 γ43 [aF.av p0.Message, .agg [dSq [], dSq [], dIq 0, dBq false, dIq 0, dIq 0, dSq [], dIq 0, .d (.sl aC.ks (List.map aC.enc []))]] [] [] fun r0 =>
 cond (!r0) (
  (rI 28)) (
 (rI 0)))) (
 cond (decide (p0.Delay < 0)) (
 (rI 1)) (
 cond (decide (p0.Delay > 1099511627776)) (
 (rI 1)) (
 γ88 [aF.av p0.Message] [] [] fun r1 =>
 (rI r1)))) := by kernel_rfl
end
abbrev X87 : aR := C87 gG (cT 43 packet_is_out) (cT 88 aJ)
theorem aDA : X87 = aS gG := by unfold X87 C87; repeat rw [bH fun _ h => h]
theorem ahJ (p0 : aV) : Le (Option.map aJ (rT p0)) (bF SE 87 [aV.av p0] [] []) := by
 refine aZ aDA rfl ?_
 refine Le.trans ?_ (le_of_eq (T87 ..).symm)
 unfold rT
 refine lC ?_ ?_
 ·refine lC ?_ ?_
  ·exact aG rfl
  ·refine lQ eX packet_is_inj (by (try simp only [EN]); exact wH p0.Message (zMq)) fun r0 _ => ?_
   refine lC ?_ ?_
   ·exact aG rfl
   ·exact aG rfl
 ·refine lC ?_ ?_
  ·exact aG rfl
  ·refine lC ?_ ?_
   ·exact aG rfl
   ·refine lQ eX bB (aaW _) fun r1 _ => ?_
    exact aG rfl
def aqJ (C : aR) (Λ2 J : Lam) (a0 : List D) : Res := lab SE C Λ2 J 52 0 [1, 1, 0, 0] (bA [(1, .ptr 1000000000 0)] [⟨31, (List.map AV.d a0)⟩] [] [] [])
section
variable (Γ : Fun) (γ86 : Gm (Bool)) (γ87 : Gm (Int)) (Λ2 J : Lam)
def C52 : aR := bE (bE (aS Γ) 86 packet_is_out γ86) 87 aJ γ87
theorem T52 (p0 : aA) : bK SE (C52 Γ γ86 γ87) Λ2 J 52 [aA.av p0] [] [] =
 γ86 [dSq p0.Client] [] [] fun r0 =>
 cond (!r0) (
 (rI 11)) (
 cond (!(p0.User == ([] : Str))) (
 γ86 [dSq p0.User] [] [] fun r1 =>
 cond (!r1) (
  (rI 11)) (
 aqJ (C52 Γ γ86 γ87) Λ2 J (aA.enc p0))) (
 aqJ (C52 Γ γ86 γ87) Λ2 J (aA.enc p0))) := by kernel_rfl
theorem aBD (b0 : aA) : cJ SE (C52 Γ γ86 γ87) Λ2 J 52 0 [1, 1, 0, 0] (bA [(1, .ptr 1000000000 0)] [⟨31, (List.map AV.d (aA.enc b0))⟩] [] [] []) =
 cond (decide (b0.Keep < 0)) (
 (rI 1)) (
 cond (decide (b0.Keep > 1099511627776)) (
 (rI 1)) (
 cond (decide (b0.Expiry < 0)) (
 (rI 1)) (
 cond (decide (b0.Expiry > 1099511627776)) (
 (rI 1)) (
 cond (decide (b0.Window < 1)) (
 (rI 1)) (
 cond (decide (b0.Window > 32)) (
 (rI 1)) (
 γ87 [aV.av b0.Will] [] [] fun r2 =>
 (rI r2))))))) := by kernel_rfl
end
abbrev X52 : aR := C52 gG (cT 86 packet_is_out) (cT 87 aJ)
theorem ayA : X52 = aS gG := by unfold X52 C52; repeat rw [bH fun _ h => h]
abbrev aBo := aqJ X52 (cB SE gG (SE.hl 52) (SE.hr 52)) (J0 SE X52)
theorem wK (b0 : aA) : Le (Option.map aJ (lK b0)) (aBo (aA.enc b0)) := by
 refine Le.trans ?_ (le_of_eq ((bD ayA).trans (aBD ..)).symm)
 unfold lK
 refine lC ?_ ?_
 ·exact aG rfl
 ·refine lC ?_ ?_
  ·exact aG rfl
  ·refine lC ?_ ?_
   ·exact aG rfl
   ·refine lC ?_ ?_
    ·exact aG rfl
    ·refine lC ?_ ?_
     ·exact aG rfl
     ·refine lC ?_ ?_
      ·exact aG rfl
      ·refine lQ eX bB (ahJ _) fun r2 _ => ?_
       exact aG rfl
theorem afI (p0 : aA) : Le (Option.map aJ (nX p0)) (bF SE 52 [aA.av p0] [] []) := by
 refine aZ ayA rfl ?_
 refine Le.trans ?_ (le_of_eq (T52 ..).symm)
 unfold nX
 refine lQ eX packet_is_inj (rY _) fun r0 _ => ?_
 refine lC ?_ ?_
 ·exact aG rfl
 ·refine lC ?_ ?_
  ·refine lQ eX packet_is_inj (rY _) fun r1 _ => ?_
   refine lC ?_ ?_
   ·exact aG rfl
   ·exact wK p0
  ·exact wK p0
section
variable (Γ : Fun)  (Λ2 J : Lam)
def C55 : aR := aS Γ
theorem T55 (p0 : Int) : bK SE (C55 Γ) Λ2 J 55 [dIq p0] [] [] =
 cond (decide (p0 < 1)) (
 (rI 15)) (
 cond (decide (p0 > 65535)) (
 (rI 15)) (
 (rI 0))) := by kernel_rfl
end
abbrev X55 : aR := C55 gG
theorem aDL : X55 = aS gG := rfl
theorem aaU (p0 : Int) : Le (Option.map aJ (nJ p0)) (bF SE 55 [dIq p0] [] []) := by
 refine aZ aDL rfl ?_
 refine Le.trans ?_ (le_of_eq (T55 ..).symm)
 unfold nJ
 refine lC ?_ ?_
 ·exact aG rfl
 ·refine lC ?_ ?_
  ·exact aG rfl
  ·exact aG rfl
section
variable (Γ : Fun) (γ88 γ55 : Gm (Int)) (Λ2 J : Lam)
def C53 : aR := bE (bE (aS Γ) 88 aJ γ88) 55 aJ γ55
theorem T53 (p0 : aA) : bK SE (C53 Γ γ88 γ55) Λ2 J 53 [aA.av p0] [] [] =
 γ88 [aF.av p0.Message] [] [] fun r0 =>
 cond (r0 != 0) (
 (rI r0)) (
 cond (p0.Message.Level == 0) (
 cond (p0.ID != 0) (
  (rI 15)) (
 cond p0.Dup (
  (rI 28)) (
 (rI 0)))) (
 γ55 [dIq p0.ID] [] [] fun r1 =>
 (rI r1))) := by kernel_rfl
end
abbrev X53 : aR := C53 gG (cT 88 aJ) (cT 55 aJ)
theorem aCK : X53 = aS gG := by unfold X53 C53; repeat rw [bH fun _ h => h]
theorem afL (p0 : aA) : Le (Option.map aJ (n4 p0)) (bF SE 53 [aA.av p0] [] []) := by
 refine aZ aCK rfl ?_
 refine Le.trans ?_ (le_of_eq (T53 ..).symm)
 unfold n4
 refine lQ eX bB (aaW _) fun r0 _ => ?_
 refine lC ?_ ?_
 ·exact aG rfl
 ·refine lC ?_ ?_
  ·refine lC ?_ ?_
   ·exact aG rfl
   ·refine lC ?_ ?_
    ·exact aG rfl
    ·exact aG rfl
  ·refine lQ eX bB (aaU _) fun r1 _ => ?_
   exact aG rfl
section
variable (Γ : Fun)  (Λ2 J : Lam)
def C54 : aR := aS Γ
theorem T54 (p0 : Int) : bK SE (C54 Γ) Λ2 J 54 [dIq p0] [] [] =
 cond (decide (p0 ≥ 0)) (
 (rB (decide (p0 ≤ 29)))) (
 (rB false)) := by kernel_rfl
end
abbrev X54 : aR := C54 gG
theorem aEn : X54 = aS gG := rfl
theorem wI (p0 : Int) : Le (Option.map packet_is_out (lT p0)) (bF SE 54 [dIq p0] [] []) := by
 refine aZ aEn rfl ?_
 refine Le.trans ?_ (le_of_eq (T54 ..).symm)
 unfold lT
 refine lC ?_ ?_
 ·exact aG rfl
 ·exact aG rfl
section
variable (Γ : Fun)  (Λ2 J : Lam)
def C56 : aR := aS Γ
theorem T56 (p0 : Int) : bK SE (C56 Γ) Λ2 J 56 [dIq p0] [] [] =
 cond (p0 == 0) (
 (rI 1)) (
 cond (decide (p0 > 32)) (
 (rI 5)) (
 (rI 0))) := by kernel_rfl
end
abbrev X56 : aR := C56 gG
theorem aDx : X56 = aS gG := rfl
theorem ahc (p0 : Int) : Le (Option.map aJ (pW p0)) (bF SE 56 [dIq p0] [] []) := by
 refine aZ aDx rfl ?_
 refine Le.trans ?_ (le_of_eq (T56 ..).symm)
 unfold pW
 refine lC ?_ ?_
 ·exact aG rfl
 ·refine lC ?_ ?_
  ·exact aG rfl
  ·exact aG rfl
section
variable (Γ : Fun)  (Λ2 J : Lam)
def axZ : aR := aS Γ
theorem aDV (p0 p1 : Str) : bK SE (axZ Γ) Λ2 J 114 [dSq p0, dSq p1] [] [] =
 cond (decide ((List.length p0 : Int) ≥ (List.length p1 : Int))) (
 cond (decide (0 ≤ (List.length p1 : Int)) && decide ((List.length p1 : Int) ≤ ((List.length p0) : Int))) (
  (rB ((dI p0 none (some (List.length p1 : Int))) == p1))) none) (
 (rB false)) := by kernel_rfl
end
abbrev aCR : aR := axZ gG
theorem aA8 : aCR = aS gG := rfl
theorem tU (p0 p1 : Str) : Le (Option.map packet_is_out (mH p0 p1)) (bF SE 114 [dSq p0, dSq p1] [] []) := by
 refine aZ aA8 rfl ?_
 refine Le.trans ?_ (le_of_eq (aDV ..).symm)
 unfold mH
 refine lC ?_ ?_
 ·refine lF ?_
  exact aG rfl
 ·exact aG rfl
def apf (C : aR) (Λ2 J : Lam) (a0 : Int) (a1 : List (List D)) : Res := lab SE C Λ2 J 113 0 [1, 1, 1, 0, 1, 0, 0, 1, 0, 0, 1, 0] (bA [(3, .row 3003), (4, dIq a0)] [] [] [] [(3003, ⟨[.str], 9, 16, a1⟩)])
def alH (C : aR) (Λ2 J : Lam) (a0 : Int) (a1 : List (List D)) : Res := lab SE C Λ2 J 113 0 [1, 1, 1, 0, 1, 0] (bA [(3, .row 3003), (4, dIq a0)] [] [] [] [(3003, ⟨[.str], 9, 16, a1⟩)])
section
variable (Γ : Fun) (γ122 : Gm (Bool)) (γ125 : Gm ((List Str))) (γ123 : Gm (Bool)) (Λ2 J : Lam)
def afz : aR := bE (bE (bE (aS Γ) 122 packet_is_out γ122) 125 eQ γ125) 123 packet_is_out γ123
theorem aD7 (p0 : Str) : bK SE (afz Γ γ122 γ125 γ123) Λ2 J 113 [dSq p0] [] [] =
 γ122 [dSq p0] [] [] fun r0 =>
 cond (!r0) (
 (rB false)) (
 γ125 [dSq p0] [] [] fun r1 =>
 alH (afz Γ γ122 γ125 γ123) Λ2 J 0 (List.map aY r1)) := by kernel_rfl
theorem axM (x4 : Int) (w3003 : List Str) : cJ SE (afz Γ γ122 γ125 γ123) Λ2 J 113 0 [1, 1, 1, 0, 1, 0, 0, 1, 0, 0, 1, 0] (bA [(3, .row 3003), (4, dIq x4)] [] [] [] [(3003, ⟨[.str], 9, 16, (List.map aY w3003)⟩)]) =
 cond (iB x4 (lM aY w3003 : Int)) (
 γ123 [dSq (bJ (cE aY w3003 x4 0)), .d (.int .u8 35)] [] [] fun r3 =>
 cond r3 (
  cond (iB x4 (lM aY w3003 : Int)) (
  cond (!((bJ (cE aY w3003 x4 0)) == ([35] : Str))) (
   (rB false)) (
  cond (x4 != (w6 ((lM aY w3003 : Int) - 1))) (
   (rB false)) (
  alH (afz Γ γ122 γ125 γ123) Λ2 J (w6 (x4 + 1)) (List.map aY w3003)))) none) (
 alH (afz Γ γ122 γ125 γ123) Λ2 J (w6 (x4 + 1)) (List.map aY w3003))) none := by kernel_rfl
theorem azj (x4 : Int) (w3003 : List Str) : cJ SE (afz Γ γ122 γ125 γ123) Λ2 J 113 0 [1, 1, 1, 0, 1, 0] (bA [(3, .row 3003), (4, dIq x4)] [] [] [] [(3003, ⟨[.str], 9, 16, (List.map aY w3003)⟩)]) =
 cond (decide (x4 < (lM aY w3003 : Int))) (
 cond (iB x4 (lM aY w3003 : Int)) (
  γ123 [dSq (bJ (cE aY w3003 x4 0)), .d (.int .u8 43)] [] [] fun r2 =>
  cond r2 (
  cond (iB x4 (lM aY w3003 : Int)) (
   cond (!((bJ (cE aY w3003 x4 0)) == ([43] : Str))) (
   (rB false)) (
   apf (afz Γ γ122 γ125 γ123) Λ2 J x4 (List.map aY w3003))) none) (
  apf (afz Γ γ122 γ125 γ123) Λ2 J x4 (List.map aY w3003))) none) (
 (rB true)) := by kernel_rfl
end
abbrev amy : aR := afz gG (cT 122 packet_is_out) (cT 125 eQ) (cT 123 packet_is_out)
theorem aq8 : amy = aS gG := by unfold amy afz; repeat rw [bH fun _ h => h]
abbrev axJ := apf amy (cB SE gG (SE.hl 113) (SE.hr 113)) (J0 SE amy)
abbrev atu := alH amy (cB SE gG (SE.hl 113) (SE.hr 113)) (J0 SE amy)
theorem xE (k5 : Int → (List Str) → Option (Bool)) (hk5 : ∀ (x4 : Int) (w3003 : List Str), Le (Option.map packet_is_out (k5 x4 w3003)) (atu x4 (List.map aY w3003))) (x4 : Int) (w3003 : List Str) : Le (Option.map packet_is_out (kB k5 x4 w3003)) (axJ x4 (List.map aY w3003)) := by
 refine Le.trans ?_ (le_of_eq ((bD aq8).trans (axM ..)).symm)
 unfold kB
 refine lG (by simp only [EN]) ?_
 refine lQ eX packet_is_inj (by (try simp only [EN]); exact oV (List.getD w3003 (Int.toNat x4) default) 35) fun r3 _ => ?_
 refine lC ?_ ?_
 ·refine lG (by simp only [EN]) ?_
  refine lD (by simp only [EN]) ?_ ?_
  ·exact aG rfl
  ·refine lD (by simp only [EN]) ?_ ?_
   ·exact aG rfl
   ·exact hk5 (w6 (x4 + 1)) w3003
 ·exact hk5 (w6 (x4 + 1)) w3003
theorem adu : ∀ (fu : Nat) (x4 : Int) (w3003 : List Str), Le (Option.map packet_is_out (gV fu x4 w3003)) (atu x4 (List.map aY w3003)) := by
 intro fu
 induction fu with
 | zero => intros; exact le_none
 | succ fu ih =>
  intro x4 w3003
  refine Le.trans ?_ (le_of_eq ((bD aq8).trans (azj ..)).symm)
  unfold gV
  refine lD (by simp only [EN]) ?_ ?_
  ·refine lG (by simp only [EN]) ?_
   refine lQ eX packet_is_inj (by (try simp only [EN]); exact oV (List.getD w3003 (Int.toNat x4) default) 43) fun r2 _ => ?_
   refine lC ?_ ?_
   ·refine lG (by simp only [EN]) ?_
    refine lD (by simp only [EN]) ?_ ?_
    ·exact aG rfl
    ·exact xE _ (ih) x4 w3003
   ·exact xE _ (ih) x4 w3003
  ·exact aG rfl
theorem aaf (p0 : Str) : Le (Option.map packet_is_out (lX p0)) (bF SE 113 [dSq p0] [] []) := by
 refine aZ aq8 rfl ?_
 refine Le.trans ?_ (le_of_eq (aD7 ..).symm)
 unfold lX
 refine lQ eX packet_is_inj (aaE _) fun r0 _ => ?_
 refine lC ?_ ?_
 ·exact aG rfl
 ·refine lQ eX y8 (aax _) fun r1 _ => ?_
  exact adu fuel 0 r1
def asn (C : aR) (Λ2 J : Lam) (a0 : Str) (a1 : Int) : Res := lab SE C Λ2 J 112 0 [1, 1, 1, 1, 1, 1, 0] (bA [(5, dSq a0), (6, dIq a1)] [] [] [] [])
def anZ (C : aR) (Λ2 J : Lam) (a0 : Str) (a1 : Int) : Res := lab SE C Λ2 J 112 0 [1, 1, 1, 1, 1, 0, 0] (bA [(5, dSq a0), (6, dIq a1)] [] [] [] [])
def aou (C : aR) (Λ2 J : Lam) (a0 : Str) (a1 : Int) : Res := lab SE C Λ2 J 112 0 [1, 1, 1, 1, 0, 0] (bA [(5, dSq a0), (6, dIq a1)] [] [] [] [])
section
variable (Γ : Fun) (γ114 γ86 γ113 : Gm (Bool)) (Λ2 J : Lam)
def ad9 : aR := bE (bE (bE (aS Γ) 114 packet_is_out γ114) 86 packet_is_out γ86) 113 packet_is_out γ113
theorem aCD (p0 : Str) : bK SE (ad9 Γ γ114 γ86 γ113) Λ2 J 112 [dSq p0] [] [] =
 γ114 [dSq p0, dSq ([36, 115, 104, 97, 114, 101, 47] : Str)] [] [] fun r0 =>
 cond (!r0) (
 (some (.ret [dSq [], dSq [], dBq false] [] []))) (
 cond (decide (0 ≤ 7) && decide (7 ≤ ((List.length p0) : Int))) (
 aou (ad9 Γ γ114 γ86 γ113) Λ2 J (dI p0 (some 7) none) 0) none) := by kernel_rfl
theorem azq (x5 : Str) (x6 : Int) : cJ SE (ad9 Γ γ114 γ86 γ113) Λ2 J 112 0 [1, 1, 1, 1, 1, 1, 0] (bA [(5, dSq x5), (6, dIq x6)] [] [] [] []) =
 cond (decide (0 ≤ x6) && decide (x6 ≤ ((List.length x5) : Int))) (
 cond (decide (0 ≤ (w6 (x6 + 1))) && decide ((w6 (x6 + 1)) ≤ ((List.length x5) : Int))) (
  (some (.ret [dSq (dI x5 none (some x6)), dSq (dI x5 (some (w6 (x6 + 1))) none), dBq true] [] []))) none) none := by kernel_rfl
theorem awU (x5 : Str) (x6 : Int) : cJ SE (ad9 Γ γ114 γ86 γ113) Λ2 J 112 0 [1, 1, 1, 1, 1, 0, 0] (bA [(5, dSq x5), (6, dIq x6)] [] [] [] []) =
 cond (x6 == (List.length x5 : Int)) (
 (some (.ret [dSq [], dSq [], dBq false] [] []))) (
 cond (decide (0 ≤ x6) && decide (x6 ≤ ((List.length x5) : Int))) (
 γ86 [dSq (dI x5 none (some x6))] [] [] fun r1 =>
 cond (!r1) (
  (some (.ret [dSq [], dSq [], dBq false] [] []))) (
 cond (decide (0 ≤ (w6 (x6 + 1))) && decide ((w6 (x6 + 1)) ≤ ((List.length x5) : Int))) (
  γ113 [dSq (dI x5 (some (w6 (x6 + 1))) none)] [] [] fun r2 =>
  cond (!r2) (
  (some (.ret [dSq [], dSq [], dBq false] [] []))) (
  cond (decide (0 ≤ (w6 (x6 + 1))) && decide ((w6 (x6 + 1)) ≤ ((List.length x5) : Int))) (
  γ114 [dSq (dI x5 (some (w6 (x6 + 1))) none), dSq ([36, 115, 104, 97, 114, 101, 47] : Str)] [] [] fun r3 =>
  cond r3 (
   (some (.ret [dSq [], dSq [], dBq false] [] []))) (
  asn (ad9 Γ γ114 γ86 γ113) Λ2 J x5 x6)) none)) none)) none) := by kernel_rfl
theorem ayY (x5 : Str) (x6 : Int) : cJ SE (ad9 Γ γ114 γ86 γ113) Λ2 J 112 0 [1, 1, 1, 1, 0, 0] (bA [(5, dSq x5), (6, dIq x6)] [] [] [] []) =
 cond (decide (x6 < (List.length x5 : Int))) (
 cond (iB x6 (List.length x5 : Int)) (
  cond ((UInt8.toNat (List.getD x5 (Int.toNat x6) 0) : Int) != 47) (
  aou (ad9 Γ γ114 γ86 γ113) Λ2 J x5 (w6 (x6 + 1))) (
  anZ (ad9 Γ γ114 γ86 γ113) Λ2 J x5 x6)) none) (
 anZ (ad9 Γ γ114 γ86 γ113) Λ2 J x5 x6) := by kernel_rfl
end
abbrev ait : aR := ad9 gG (cT 114 packet_is_out) (cT 86 packet_is_out) (cT 113 packet_is_out)
theorem anU : ait = aS gG := by unfold ait ad9; repeat rw [bH fun _ h => h]
abbrev ayb := asn ait (cB SE gG (SE.hl 112) (SE.hr 112)) (J0 SE ait)
abbrev aym := anZ ait (cB SE gG (SE.hl 112) (SE.hr 112)) (J0 SE ait)
abbrev azz := aou ait (cB SE gG (SE.hl 112) (SE.hr 112)) (J0 SE ait)
theorem adB (x5 : Str) (x6 : Int) : Le (Option.map cC (pI x5 x6)) (ayb x5 x6) := by
 refine Le.trans ?_ (le_of_eq ((bD anU).trans (azq ..)).symm)
 unfold pI
 refine lF ?_
 refine lF ?_
 exact aG rfl
theorem xJ (x5 : Str) (x6 : Int) : Le (Option.map cC (j9 x5 x6)) (aym x5 x6) := by
 refine Le.trans ?_ (le_of_eq ((bD anU).trans (awU ..)).symm)
 unfold j9
 refine lC ?_ ?_
 ·exact aG rfl
 ·refine lF ?_
  refine lQ eX packet_is_inj (rY _) fun r1 _ => ?_
  refine lC ?_ ?_
  ·exact aG rfl
  ·refine lF ?_
   refine lQ eX packet_is_inj (aaf _) fun r2 _ => ?_
   refine lC ?_ ?_
   ·exact aG rfl
   ·refine lF ?_
    refine lQ eX packet_is_inj (tU _ _) fun r3 _ => ?_
    refine lC ?_ ?_
    ·exact aG rfl
    ·exact adB x5 x6
theorem adr : ∀ (fu : Nat) (x5 : Str) (x6 : Int), Le (Option.map cC (iW fu x5 x6)) (azz x5 x6) := by
 intro fu
 induction fu with
 | zero => intros; exact le_none
 | succ fu ih =>
  intro x5 x6
  refine Le.trans ?_ (le_of_eq ((bD anU).trans (ayY ..)).symm)
  unfold iW
  refine lC ?_ ?_
  ·refine lF ?_
   refine lC ?_ ?_
   ·exact ih x5 (w6 (x6 + 1))
   ·exact xJ x5 x6
  ·exact xJ x5 x6
theorem aah (p0 : Str) : Le (Option.map cC (mJ p0)) (bF SE 112 [dSq p0] [] []) := by
 refine aZ anU rfl ?_
 refine Le.trans ?_ (le_of_eq (aCD ..).symm)
 unfold mJ
 refine lQ eX packet_is_inj (tU _ _) fun r0 _ => ?_
 refine lC ?_ ?_
 ·exact aG rfl
 ·refine lF ?_
  exact adr fuel (dI p0 (some 7) none) 0
section
variable (Γ : Fun) (γ112 : Gm (Str × Str × Bool)) (γ113 γ114 : Gm (Bool)) (Λ2 J : Lam)
def C90 : aR := bE (bE (bE (aS Γ) 112 cC γ112) 113 packet_is_out γ113) 114 packet_is_out γ114
theorem T90 (p0 : Str) : bK SE (C90 Γ γ112 γ113 γ114) Λ2 J 90 [dSq p0] [] [] =
 γ112 [dSq p0] [] [] fun r0 =>
 cond r0.2.2 (
 (rB true)) (
 γ113 [dSq p0] [] [] fun r1 =>
 cond r1 (
 γ114 [dSq p0, dSq ([36, 115, 104, 97, 114, 101, 47] : Str)] [] [] fun r2 =>
 (rB (!r2))) (
 (rB false))) := by kernel_rfl
end
abbrev X90 : aR := C90 gG (cT 112 cC) (cT 113 packet_is_out) (cT 114 packet_is_out)
theorem aD4 : X90 = aS gG := by unfold X90 C90; repeat rw [bH fun _ h => h]
theorem aaq (p0 : Str) : Le (Option.map packet_is_out (lY p0)) (bF SE 90 [dSq p0] [] []) := by
 refine aZ aD4 rfl ?_
 refine Le.trans ?_ (le_of_eq (T90 ..).symm)
 unfold lY
 refine lQ eX n3 (aah _) fun r0 _ => ?_
 refine lC ?_ ?_
 ·exact aG rfl
 ·refine lQ eX packet_is_inj (aaf _) fun r1 _ => ?_
  refine lC ?_ ?_
  ·refine lQ eX packet_is_inj (tU _ _) fun r2 _ => ?_
   exact aG rfl
  ·exact aG rfl
def avU (C : aR) (Λ2 J : Lam) (a0 : List D) : Res := lab SE C Λ2 J 89 0 [1, 1, 1, 0] (bA [(1, .ptr 1000000000 0)] [⟨53, (List.map AV.d a0)⟩] [] [] [])
section
variable (Γ : Fun) (γ90 : Gm (Bool)) (γ112 : Gm (Str × Str × Bool)) (Λ2 J : Lam)
def C89 : aR := bE (bE (aS Γ) 90 packet_is_out γ90) 112 cC γ112
theorem T89 (p0 : aH) : bK SE (C89 Γ γ90 γ112) Λ2 J 89 [aH.av p0] [] [] =
 γ90 [dSq p0.Filter] [] [] fun r0 =>
 cond (!r0) (
 (rI 13)) (
 cond (decide (p0.Level < 0)) (
 (rI 14)) (
 cond (decide (p0.Level > 2)) (
 (rI 14)) (
 avU (C89 Γ γ90 γ112) Λ2 J (aH.enc p0)))) := by kernel_rfl
theorem aBw (b0 : aH) : cJ SE (C89 Γ γ90 γ112) Λ2 J 89 0 [1, 1, 1, 0] (bA [(1, .ptr 1000000000 0)] [⟨53, (List.map AV.d (aH.enc b0))⟩] [] [] []) =
 γ112 [dSq b0.Filter] [] [] fun r1 =>
 cond b0.NoLocal (
 cond r1.2.2 (
  (rI 28)) (
 (rI 0))) (
 (rI 0)) := by kernel_rfl
end
abbrev X89 : aR := C89 gG (cT 90 packet_is_out) (cT 112 cC)
theorem axu : X89 = aS gG := by unfold X89 C89; repeat rw [bH fun _ h => h]
abbrev aBK := avU X89 (cB SE gG (SE.hl 89) (SE.hr 89)) (J0 SE X89)
theorem agh (b0 : aH) : Le (Option.map aJ (sV b0)) (aBK (aH.enc b0)) := by
 refine Le.trans ?_ (le_of_eq ((bD axu).trans (aBw ..)).symm)
 unfold sV
 refine lQ eX n3 (aah _) fun r1 _ => ?_
 refine lC ?_ ?_
 ·refine lC ?_ ?_
  ·exact aG rfl
  ·exact aG rfl
 ·exact aG rfl
theorem aiX (p0 : aH) : Le (Option.map aJ (sP p0)) (bF SE 89 [aH.av p0] [] []) := by
 refine aZ axu rfl ?_
 refine Le.trans ?_ (le_of_eq (T89 ..).symm)
 unfold sP
 refine lQ eX packet_is_inj (aaq _) fun r0 _ => ?_
 refine lC ?_ ?_
 ·exact aG rfl
 ·refine lC ?_ ?_
  ·exact aG rfl
  ·refine lC ?_ ?_
   ·exact aG rfl
   ·exact agh p0
end Te
end PX
