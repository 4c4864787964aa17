import Derived.Test.YthgmhhgmnegocaaDoorTre1
set_option linter.unusedVariables false
set_option linter.unusedSimpArgs false
set_option maxRecDepth 100000
noncomputable section
namespace PX
open Go
open Md
namespace Te
section
variable (Γ : Fun) (γ6 : Gm ((List Int) × Int)) (γ5 : Gm (aA × Int)) (γ9 : Gm ((List Int) × Int)) (γ8 : Gm ((List aA) × Int)) (γ10 : Gm (Bool)) (Λ2 J : Lam)
def C4 : aS := bM (bM (bM (bM (bM (aR Γ) 6 cH γ6) 5 fK γ5) 9 cH γ9) 8 eW γ8) 10 aH γ10
theorem T4 : bV SE (C4 Γ γ6 γ5 γ9 γ8 γ10) Λ2 J 4 [] [] [] =
 γ6 [.agg [.d (.int .i64 4), .d (.int .i64 1), .d (.bool false), .d (.str []), .d (.str []), .d (.int .i64 0), .d (.bool false), .d (.int .i64 0), .d (.int .i64 0), .d (.str []), .d (.int .i64 0), .d (.sl aB.ks (List.map aB.enc [])), .d (.str []), .d (.str []), .d (.bool false), .d (.int .i64 0), .d (.int .i64 0), .d (.int .i64 0), .d (.bool false), .d (.int .i64 0), .d (.str []), .d (.str []), .d (.int .i64 0), .d (.bool false), .d (.int .i64 0), .d (.int .i64 0), .d (.str []), .d (.int .i64 0), .d (.sl aB.ks (List.map aB.enc [])), .d (.bool false), .d (.int .i64 0), .d (.sl aF.ks (List.map aF.enc [])), .d (.sl [.str] (List.map aV [])), .d (.sl [.int .i64] (List.map eI []))]] [] [] fun r0 =>
 cond (!(List.isEmpty (List.map (aN .u8) [16, 2, 2, 6, 97, 47, 35, 4, 0]))) (
 γ5 [.d (.sl [.int .u8] (List.map (aN .u8) [16, 2, 2, 6, 97, 47, 35, 4, 0]))] [] [] fun r1 =>
 γ9 [.d (.sl aA.ks [[D.int .i64 12, D.int .i64 0, D.bool false, D.str [], D.str [], D.int .i64 0, D.bool false, D.int .i64 0, D.int .i64 0, D.str [], D.int .i64 0, D.sl aB.ks (List.map aB.enc []), D.str [], D.str [], D.bool false, D.int .i64 0, D.int .i64 0, D.int .i64 0, D.bool false, D.int .i64 0, D.str [], D.str [], D.int .i64 0, D.bool false, D.int .i64 0, D.int .i64 0, D.str [], D.int .i64 0, D.sl aB.ks (List.map aB.enc []), D.bool false, D.int .i64 0, D.sl aF.ks (List.map aF.enc []), D.sl [.str] (List.map aV []), D.sl [.int .i64] (List.map eI [])], [D.int .i64 12, D.int .i64 0, D.bool false, D.str [], D.str [], D.int .i64 0, D.bool false, D.int .i64 0, D.int .i64 0, D.str [], D.int .i64 0, D.sl aB.ks (List.map aB.enc []), D.str [], D.str [], D.bool false, D.int .i64 0, D.int .i64 0, D.int .i64 0, D.bool false, D.int .i64 0, D.str [], D.str [], D.int .i64 0, D.bool false, D.int .i64 0, D.int .i64 0, D.str [], D.int .i64 0, D.sl aB.ks (List.map aB.enc []), D.bool false, D.int .i64 0, D.sl aF.ks (List.map aF.enc []), D.sl [.str] (List.map aV []), D.sl [.int .i64] (List.map eI [])]])] [] [] fun r2 =>
 cond (!(List.isEmpty (List.map (aN .u8) [2, 24, 2, 24]))) (
  γ8 [.d (.sl [.int .u8] (List.map (aN .u8) [2, 24, 2, 24]))] [] [] fun r3 =>
  cond ((pW (List.map (aN .u8) r0.1)) == ([8, 2] : Str)) (
  cond (r0.2 == 0) (
   cond (r1.2 == 0) (
   γ10 [aA.av r1.1, .agg [.d (.int .i64 8), .d (.int .i64 1), .d (.bool false), .d (.str []), .d (.str []), .d (.int .i64 0), .d (.bool false), .d (.int .i64 0), .d (.int .i64 0), .d (.str []), .d (.int .i64 0), .d (.sl aB.ks (List.map aB.enc [])), .d (.str []), .d (.str []), .d (.bool false), .d (.int .i64 0), .d (.int .i64 0), .d (.int .i64 0), .d (.bool false), .d (.int .i64 0), .d (.str []), .d (.str []), .d (.int .i64 0), .d (.bool false), .d (.int .i64 0), .d (.int .i64 0), .d (.str []), .d (.int .i64 0), .d (.sl aB.ks (List.map aB.enc [])), .d (.bool false), .d (.int .i64 0), .d (.sl aF.ks (List.map aF.enc [(aF.mk ([97, 47, 35] : Str) 2 false)])), .d (.sl [.str] (List.map aV [])), .d (.sl [.int .i64] (List.map eI []))]] [] [] fun r4 =>
   cond r4 (
    cond ((pW (List.map (aN .u8) r2.1)) == ([2, 24, 2, 24] : Str)) (
    cond (r2.2 == 0) (
     cond ((lM aA.enc r3.1 : Int) == 2) (
     (rB (r3.2 == 0))) (
     (rB false))) (
    (rB false))) (
    (rB false))) (
   (rB false))) (
   (rB false))) (
  (rB false))) (
  (rB false))) none) none := by kernel_rfl
end
abbrev X4 : aS := C4 gG (cT 6 cH) (cT 5 fK) (cT 9 cH) (cT 8 eW) (cT 10 aH)
theorem Cr4 : X4 = aR gG := by unfold X4 C4; repeat rw [bP fun _ h => h]
theorem n6 : Le (Option.map aH (jF)) (bE SE 4 [] [] []) := by
 refine bB Cr4 rfl ?_
 refine Le.trans ?_ (le_of_eq (T4 _ _ _ _ _ _ _ _ ).symm)
 unfold jF
 refine lQ eX mQ (by (try simp only [EN]); exact uE ((aA.mk 4 1 false (aC.mk [] [] 0 false 0 0 [] 0 []) [] [] false 0 0 0 (aP.mk false 0 (aC.mk [] [] 0 false 0 0 [] 0 [])) false 0 [] [] []))) fun r0 _ => ?_
 refine lG (by simp only [EN] <;> rfl) ?_
 refine lQ eX tO (uA _) fun r1 _ => ?_
 refine lQ eX mQ (by (try simp only [EN]); exact wC [(aA.mk 12 0 false (aC.mk [] [] 0 false 0 0 [] 0 []) [] [] false 0 0 0 (aP.mk false 0 (aC.mk [] [] 0 false 0 0 [] 0 [])) false 0 [] [] []), (aA.mk 12 0 false (aC.mk [] [] 0 false 0 0 [] 0 []) [] [] false 0 0 0 (aP.mk false 0 (aC.mk [] [] 0 false 0 0 [] 0 [])) false 0 [] [] [])]) fun r2 _ => ?_
 refine lG (by simp only [EN] <;> rfl) ?_
 refine lQ eX vO (wE _) fun r3 _ => ?_
 refine lD (by simp only [EN]) ?_ ?_
 ·refine lC ?_ ?_
  ·refine lC ?_ ?_
   ·refine lQ eX aU (by (try simp only [EN]); exact acj r1.1 ((aA.mk 8 1 false (aC.mk [] [] 0 false 0 0 [] 0 []) [] [] false 0 0 0 (aP.mk false 0 (aC.mk [] [] 0 false 0 0 [] 0 [])) false 0 [(aF.mk ([97, 47, 35] : Str) 2 false)] [] []))) fun r4 _ => ?_
    refine lC ?_ ?_
    ·refine lD (by simp only [EN]) ?_ ?_
     ·refine lC ?_ ?_
      ·refine lD (by simp only [EN]) ?_ ?_
       ·exact aG rfl
       ·exact aG rfl
      ·exact aG rfl
     ·exact aG rfl
    ·exact aG rfl
   ·exact aG rfl
  ·exact aG rfl
 ·exact aG rfl
section
variable (Γ : Fun)  (Λ2 J : Lam)
def C7 : aS := aR Γ
theorem T7 (p0 p1 : List Int) : bV SE (C7 Γ) Λ2 J 7 [.d (.sl [.int .u8] (List.map (aN .u8) p0)), .d (.sl [.int .u8] (List.map (aN .u8) p1))] [] [] =
 (rB ((pW (List.map (aN .u8) p0)) == (pW (List.map (aN .u8) p1)))) := by kernel_rfl
end
abbrev X7 : aS := C7 gG
theorem Cr7 : X7 = aR gG := rfl
theorem tT (p0 p1 : List Int) : Le (Option.map aH (jQ p0 p1)) (bE SE 7 [.d (.sl [.int .u8] (List.map (aN .u8) p0)), .d (.sl [.int .u8] (List.map (aN .u8) p1))] [] []) := by
 refine bB Cr7 rfl ?_
 refine Le.trans ?_ (le_of_eq (T7 ..).symm)
 unfold jQ
 exact aG (by first | rfl | simp only [EN, aH] <;> rfl)
def anA (C : aS) (Λ2 J : Lam) (a0 : List (List D)) : Res := lab SE C Λ2 J 3 0 [1, 1, 1, 1, 0] (bN [(0, .d (.sl [.int .u8] a0))] [] [] [] [])
section
variable (Γ : Fun) (γ4 : Gm (Bool)) (γ5 : Gm (aA × Int)) (γ6 : Gm ((List Int) × Int)) (γ7 : Gm (Bool)) (γ8 : Gm ((List aA) × Int)) (γ9 : Gm ((List Int) × Int)) (Λ2 J : Lam)
def C3 : aS := bM (bM (bM (bM (bM (bM (aR Γ) 4 aH γ4) 5 fK γ5) 6 cH γ6) 7 aH γ7) 8 eW γ8) 9 cH γ9
theorem T3 (p0 : List Int) : bV SE (C3 Γ γ4 γ5 γ6 γ7 γ8 γ9) Λ2 J 3 [.d (.sl [.int .u8] (List.map (aN .u8) p0))] [] [] =
 cond (decide ((lM (aN .u8) p0 : Int) > 5000)) (
 γ4 [] [] [] fun r0 =>
 (rB r0)) (
 γ5 [.d (.sl [.int .u8] (List.map (aN .u8) p0))] [] [] fun r1 =>
 cond (r1.2 == 0) (
 γ6 [aA.av r1.1] [] [] fun r2 =>
 cond (r2.2 != 0) (
  (rB false)) (
 γ7 [.d (.sl [.int .u8] (List.map (aN .u8) r2.1)), .d (.sl [.int .u8] (List.map (aN .u8) p0))] [] [] fun r3 =>
 cond (!r3) (
  (rB false)) (
 anA (C3 Γ γ4 γ5 γ6 γ7 γ8 γ9) Λ2 J (List.map (aN .u8) p0)))) (
 anA (C3 Γ γ4 γ5 γ6 γ7 γ8 γ9) Λ2 J (List.map (aN .u8) p0))) := by kernel_rfl
theorem ar6 (x0 : List Int) : dY SE (C3 Γ γ4 γ5 γ6 γ7 γ8 γ9) Λ2 J 3 0 [1, 1, 1, 1, 0] (bN [(0, .d (.sl [.int .u8] (List.map (aN .u8) x0)))] [] [] [] []) =
 γ8 [.d (.sl [.int .u8] (List.map (aN .u8) x0))] [] [] fun r4 =>
 cond (r4.2 == 0) (
 γ9 [.d (.sl aA.ks (List.map aA.enc r4.1))] [] [] fun r5 =>
 cond (r5.2 != 0) (
  (rB false)) (
 γ7 [.d (.sl [.int .u8] (List.map (aN .u8) r5.1)), .d (.sl [.int .u8] (List.map (aN .u8) x0))] [] [] fun r6 =>
 cond (!r6) (
  (rB false)) (
 γ4 [] [] [] fun r7 =>
 (rB r7)))) (
 γ4 [] [] [] fun r8 =>
 (rB r8)) := by kernel_rfl
end
abbrev X3 : aS := C3 gG (cT 4 aH) (cT 5 fK) (cT 6 cH) (cT 7 aH) (cT 8 eW) (cT 9 cH)
theorem Cr3 : X3 = aR gG := by unfold X3 C3; repeat rw [bP fun _ h => h]
abbrev asK := anA X3 (dM SE gG (SE.hl 3) (SE.hr 3)) (J0 SE X3)
theorem oQ (x0 : List Int) : Le (Option.map aH (fP x0)) (asK (List.map (aN .u8) x0)) := by
 refine Le.trans ?_ (le_of_eq ((bU Cr3).trans (ar6 ..)).symm)
 unfold fP
 refine lQ eX vO (wE _) fun r4 _ => ?_
 refine lC ?_ ?_
 ·refine lQ eX mQ (wC _) fun r5 _ => ?_
  refine lC ?_ ?_
  ·exact aG rfl
  ·refine lQ eX aU (tT _ _) fun r6 _ => ?_
   refine lC ?_ ?_
   ·exact aG rfl
   ·refine lQ eX aU (n6) fun r7 _ => ?_
    exact aG rfl
 ·refine lQ eX aU (n6) fun r8 _ => ?_
  exact aG rfl
theorem zB (p0 : List Int) : Le (Option.map aH (lH p0)) (bE SE 3 [.d (.sl [.int .u8] (List.map (aN .u8) p0))] [] []) := by
 refine bB Cr3 rfl ?_
 refine Le.trans ?_ (le_of_eq (T3 ..).symm)
 unfold lH
 refine lD (by simp only [EN]) ?_ ?_
 ·refine lQ eX aU (n6) fun r0 _ => ?_
  exact aG rfl
 ·refine lQ eX tO (uA _) fun r1 _ => ?_
  refine lC ?_ ?_
  ·refine lQ eX mQ (uE _) fun r2 _ => ?_
   refine lC ?_ ?_
   ·exact aG rfl
   ·refine lQ eX aU (tT _ _) fun r3 _ => ?_
    refine lC ?_ ?_
    ·exact aG rfl
    ·exact oQ p0
  ·exact oQ p0
end Te
end PX
