import Derived.Test.YthgmhhgmnegocaaGreatDoorTre2
set_option linter.unusedVariables false
set_option linter.unusedSimpArgs false
set_option maxRecDepth 100000
noncomputable section
namespace PX
open Go
open Md
namespace Te
def atD (C : aR) (Λ2 J : Lam) (a0 : List D) (a1 : List (List D)) : Res := lab SE C Λ2 J 12 0 [1, 1, 1, 1, 1, 1, 1, 1, 0] (bA [(1, .ptr 1000000000 0), (5, .row 3005)] [⟨31, (List.map AV.d a0)⟩] [] [] [(3005, ⟨[.int .u8], 5, 1, a1⟩)])
section
variable (Γ : Fun) (γ23 : Gm (Int)) (γ32 γ33 : Gm ((List Int))) (γ34 : Gm (Int)) (γ35 γ36 : Gm ((List Int))) (Λ2 J : Lam)
def C12 : aR := bE (bE (bE (bE (bE (bE (aS Γ) 23 aJ γ23) 32 aP γ32) 33 aP γ33) 34 aJ γ34) 35 aP γ35) 36 aP γ36
theorem T12 (p0 : aA) : bK SE (C12 Γ γ23 γ32 γ33 γ34 γ35 γ36) Λ2 J 12 [aA.av p0] [] [] =
 γ23 [aA.av p0] [] [] fun r0 =>
 cond (r0 != 0) (
 (some (.ret [.row 0, .d (.int .i64 r0)] [] [⟨[.int .u8], 5, 1, []⟩]))) (
 γ32 [.d (.sl [.int .u8] (List.map (aO .u8) [])), .d (.int .i64 p0.Kind)] [] [] fun r1 =>
 cond (p0.Kind == 1) (
 γ33 [.d (.sl [.int .u8] (List.map (aO .u8) r1)), aA.av p0] [] [] fun r2 =>
 (some (.ret [.row 0, .d (.int .i64 0)] [] [⟨[.int .u8], 5, 1, (List.map (aO .u8) r2)⟩]))) (
 cond (p0.Kind == 2) (
 γ34 [.d (.bool p0.Present), .d (.bool false)] [] [] fun r3 =>
 γ32 [.d (.sl [.int .u8] (List.map (aO .u8) r1)), .d (.int .i64 r3)] [] [] fun r4 =>
 γ32 [.d (.sl [.int .u8] (List.map (aO .u8) r4)), .d (.int .i64 p0.Code)] [] [] fun r5 =>
 (some (.ret [.row 0, .d (.int .i64 0)] [] [⟨[.int .u8], 5, 1, (List.map (aO .u8) r5)⟩]))) (
 cond (p0.Kind == 14) (
 γ32 [.d (.sl [.int .u8] (List.map (aO .u8) r1)), .d (.int .i64 p0.Code)] [] [] fun r6 =>
 (some (.ret [.row 0, .d (.int .i64 0)] [] [⟨[.int .u8], 5, 1, (List.map (aO .u8) r6)⟩]))) (
 cond (p0.Kind == 12) (
 (some (.ret [.row 0, .d (.int .i64 0)] [] [⟨[.int .u8], 5, 1, (List.map (aO .u8) r1)⟩]))) (
 cond (p0.Kind == 13) (
 (some (.ret [.row 0, .d (.int .i64 0)] [] [⟨[.int .u8], 5, 1, (List.map (aO .u8) r1)⟩]))) (
 atD (C12 Γ γ23 γ32 γ33 γ34 γ35 γ36) Λ2 J (aA.enc p0) (List.map (aO .u8) r1))))))) := by kernel_rfl
theorem ayv (b0 : aA) (w3005 : List Int) : cJ SE (C12 Γ γ23 γ32 γ33 γ34 γ35 γ36) Λ2 J 12 0 [1, 1, 1, 1, 1, 1, 1, 1, 0] (bA [(1, .ptr 1000000000 0), (5, .row 3005)] [⟨31, (List.map AV.d (aA.enc b0))⟩] [] [] [(3005, ⟨[.int .u8], 5, 1, (List.map (aO .u8) w3005)⟩)]) =
 γ32 [.d (.sl [.int .u8] (List.map (aO .u8) w3005)), .d (.int .i64 b0.ID)] [] [] fun r7 =>
 cond (b0.Kind == 3) (
 γ34 [.d (.bool b0.Dup), .d (.bool false)] [] [] fun r8 =>
 γ32 [.d (.sl [.int .u8] (List.map (aO .u8) r7)), .d (.int .i64 r8)] [] [] fun r9 =>
 γ35 [.d (.sl [.int .u8] (List.map (aO .u8) r9)), aF.av b0.Message] [] [] fun r10 =>
 (some (.ret [.row 0, .d (.int .i64 0)] [] [⟨[.int .u8], 5, 1, (List.map (aO .u8) r10)⟩]))) (
 cond (decide (b0.Kind ≤ 7)) (
 (some (.ret [.row 0, .d (.int .i64 0)] [] [⟨[.int .u8], 5, 1, (List.map (aO .u8) r7)⟩]))) (
 γ36 [.d (.sl [.int .u8] (List.map (aO .u8) r7)), aA.av b0] [] [] fun r11 =>
 (some (.ret [.row 0, .d (.int .i64 0)] [] [⟨[.int .u8], 5, 1, (List.map (aO .u8) r11)⟩])))) := by kernel_rfl
end
abbrev X12 : aR := C12 gG (cT 23 aJ) (cT 32 aP) (cT 33 aP) (cT 34 aJ) (cT 35 aP) (cT 36 aP)
theorem ay9 : X12 = aS gG := by unfold X12 C12; repeat rw [bH fun _ h => h]
abbrev azB := atD X12 (cB SE gG (SE.hl 12) (SE.hr 12)) (J0 SE X12)
theorem acM (b0 : aA) (w3005 : List Int) : Le (Option.map bV (oN b0 w3005)) (azB (aA.enc b0) (List.map (aO .u8) w3005)) := by
 refine Le.trans ?_ (le_of_eq ((bD ay9).trans (ayv ..)).symm)
 unfold oN
 refine lQ eX aW (bX _ _) fun r7 _ => ?_
 refine lC ?_ ?_
 ·refine lQ eX bB (qG _ _) fun r8 _ => ?_
  refine lQ eX aW (bX _ _) fun r9 _ => ?_
  refine lQ eX aW (ab9 _ _) fun r10 _ => ?_
  exact aG rfl
 ·refine lC ?_ ?_
  ·exact aG rfl
  ·refine lQ eX aW (agB _ _) fun r11 _ => ?_
   exact aG rfl
theorem aau (p0 : aA) : Le (Option.map bV (mC p0)) (bF SE 12 [aA.av p0] [] []) := by
 refine aZ ay9 rfl ?_
 refine Le.trans ?_ (le_of_eq (T12 ..).symm)
 unfold mC
 refine lQ eX bB (qO _) fun r0 _ => ?_
 refine lC ?_ ?_
 ·exact aG rfl
 ·refine lQ eX aW (by (try simp only [EN]); exact bX [] p0.Kind) fun r1 _ => ?_
  refine lC ?_ ?_
  ·refine lQ eX aW (afA _ _) fun r2 _ => ?_
   exact aG rfl
  ·refine lC ?_ ?_
   ·refine lQ eX bB (qG _ _) fun r3 _ => ?_
    refine lQ eX aW (bX _ _) fun r4 _ => ?_
    refine lQ eX aW (bX _ _) fun r5 _ => ?_
    exact aG rfl
   ·refine lC ?_ ?_
    ·refine lQ eX aW (bX _ _) fun r6 _ => ?_
     exact aG rfl
    ·refine lC ?_ ?_
     ·exact aG rfl
     ·refine lC ?_ ?_
      ·exact aG rfl
      ·exact acM p0 r1
section
variable (Γ : Fun)  (Λ2 J : Lam)
def C13 : aR := aS Γ
theorem T13 (p0 p1 : List Int) : bK SE (C13 Γ) Λ2 J 13 [.d (.sl [.int .u8] (List.map (aO .u8) p0)), .d (.sl [.int .u8] (List.map (aO .u8) p1))] [] [] =
 (rB ((uG (List.map (aO .u8) p0)) == (uG (List.map (aO .u8) p1)))) := by kernel_rfl
end
abbrev X13 : aR := C13 gG
theorem aDQ : X13 = aS gG := rfl
theorem aa7 (p0 p1 : List Int) : Le (Option.map aB (oB p0 p1)) (bF SE 13 [.d (.sl [.int .u8] (List.map (aO .u8) p0)), .d (.sl [.int .u8] (List.map (aO .u8) p1))] [] []) := by
 refine aZ aDQ rfl ?_
 refine Le.trans ?_ (le_of_eq (T13 ..).symm)
 unfold oB
 exact aG (by first | rfl | simp only [EN, aB] <;> rfl)
section
variable (Γ : Fun) (γ9 γ10 : Gm (Bool)) (γ11 γ12 : Gm ((List Int) × Int)) (γ13 : Gm (Bool)) (Λ2 J : Lam)
def C3 : aR := bE (bE (bE (bE (bE (aS Γ) 9 aB γ9) 10 aB γ10) 11 bV γ11) 12 bV γ12) 13 aB γ13
theorem T3 (p0 : aA) : bK SE (C3 Γ γ9 γ10 γ11 γ12 γ13) Λ2 J 3 [aA.av p0] [] [] =
 γ9 [aA.av p0] [] [] fun r0 =>
 cond (!r0) (
 γ10 [] [] [] fun r1 =>
 (rB r1)) (
 γ11 [aA.av p0] [] [] fun r2 =>
 γ12 [aA.av p0] [] [] fun r3 =>
 γ13 [.d (.sl [.int .u8] (List.map (aO .u8) r2.1)), .d (.sl [.int .u8] (List.map (aO .u8) r3.1))] [] [] fun r4 =>
 cond r4 (
 cond (r2.2 == r3.2) (
  cond (decide ((lM (aO .u8) r2.1 : Int) ≤ 4096)) (
  γ10 [] [] [] fun r5 =>
  (rB r5)) (
  (rB false))) (
 (rB false))) (
 (rB false))) := by kernel_rfl
end
abbrev X3 : aR := C3 gG (cT 9 aB) (cT 10 aB) (cT 11 bV) (cT 12 bV) (cT 13 aB)
theorem Cr3 : X3 = aS gG := by unfold X3 C3; repeat rw [bH fun _ h => h]
theorem acv (p0 : aA) : Le (Option.map aB (nV p0)) (bF SE 3 [aA.av p0] [] []) := by
 refine aZ Cr3 rfl ?_
 refine Le.trans ?_ (le_of_eq (T3 ..).symm)
 unfold nV
 refine lQ eX aK (aaX _) fun r0 _ => ?_
 refine lC ?_ ?_
 ·refine lQ eX aK (dG) fun r1 _ => ?_
  exact aG rfl
 ·refine lQ eX iC (tW _) fun r2 _ => ?_
  refine lQ eX iC (aau _) fun r3 _ => ?_
  refine lQ eX aK (aa7 _ _) fun r4 _ => ?_
  refine lC ?_ ?_
  ·refine lC ?_ ?_
   ·refine lD (by simp only [EN]) ?_ ?_
    ·refine lQ eX aK (dG) fun r5 _ => ?_
     exact aG rfl
    ·exact aG rfl
   ·exact aG rfl
  ·exact aG rfl
end Te
end PX
