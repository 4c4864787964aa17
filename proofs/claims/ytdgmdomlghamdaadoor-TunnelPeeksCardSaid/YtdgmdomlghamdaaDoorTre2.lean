import Derived.Test.YtdgmdomlghamdaaDoorTre1
set_option linter.unusedVariables false
set_option linter.unusedSimpArgs false
set_option maxRecDepth 100000
noncomputable section
namespace PX
open Go
open Md
namespace Te
section
variable (Γ : Fun) (γ30 : Gm (Int × Int × Int)) (γ31 : Gm ((List Int))) (Λ2 J : Lam)
def C22 : aS := bM (bM (aQ Γ) 30 bN γ30) 31 aP γ31
theorem T22 (p0 : List Int) (p1 : Int) : bS SE (C22 Γ γ30 γ31) Λ2 J 22 [.d (.sl [.int .u8] (List.map (aJ .u8) p0)), dIq p1] [] [] =
 γ30 [.d (.sl [.int .u8] (List.map (aJ .u8) p0)), dIq p1, dIq 65536] [] [] fun r0 =>
 cond (r0.2.2 != 0) (
 (some (eU ([], 0, r0.2.2)))) (
 cond (decide ((w6 ((lM (aJ .u8) p0 : Int) - r0.2.1)) < (w6 (4 + r0.1)))) (
 (some (eU ([], 0, 3)))) (
 cond (decide (0 ≤ (w6 ((w6 (r0.2.1 + 4)) + r0.1))) && decide ((w6 ((w6 (r0.2.1 + 4)) + r0.1)) ≤ ((lM (aJ .u8) p0) : Int))) (
 cond (decide (0 ≤ (w6 (r0.2.1 + 4))) && decide ((w6 (r0.2.1 + 4)) ≤ (w6 ((w6 (r0.2.1 + 4)) + r0.1)))) (
  cond (decide ((lM (aJ .u8) [] + List.length (cH (List.map (aJ .u8) p0) (some (w6 (r0.2.1 + 4))) (some (w6 ((w6 (r0.2.1 + 4)) + r0.1))))) * 1 ≤ 140737488355328)) (
  γ31 [.d (.sl [.int .u8] ((List.map (aJ .u8) []) ++ (cH (List.map (aJ .u8) p0) (some (w6 (r0.2.1 + 4))) (some (w6 ((w6 (r0.2.1 + 4)) + r0.1))))))] [] [] fun r1 =>
  cond (decide (0 ≤ (w6 ((w6 (r0.2.1 + 4)) + r0.1))) && decide ((w6 ((w6 (r0.2.1 + 4)) + r0.1)) ≤ ((lM (aJ .u8) p0) : Int))) (
   cond (decide (0 ≤ p1) && decide (p1 ≤ (w6 ((w6 (r0.2.1 + 4)) + r0.1)))) (
   cond (!((tQ (List.map (aJ .u8) r1)) == (tQ (cH (List.map (aJ .u8) p0) (some p1) (some (w6 ((w6 (r0.2.1 + 4)) + r0.1))))))) (
    (some (eU ([], 0, 4)))) (
   (some (.ret [.row 0, dIq (w6 ((w6 (r0.2.1 + 4)) + r0.1)), dIq 0] [] [⟨[.int .u8], 5, 1, ((List.map (aJ .u8) []) ++ (cH (List.map (aJ .u8) p0) (some (w6 (r0.2.1 + 4))) (some (w6 ((w6 (r0.2.1 + 4)) + r0.1)))))⟩])))) none) none) none) none) none)) := by kernel_rfl
end
abbrev X22 : aS := C22 gG (cT 30 bN) (cT 31 aP)
theorem aur : X22 = aQ gG := by unfold X22 C22; repeat rw [bK fun _ h => h]
theorem acC (p0 : List Int) (p1 : Int) : Le (Option.map eU (mG p0 p1)) (bD SE 22 [.d (.sl [.int .u8] (List.map (aJ .u8) p0)), dIq p1] [] []) := by
 refine aY aur rfl ?_
 refine Le.trans ?_ (le_of_eq (T22 ..).symm)
 unfold mG
 refine lQ eX fG (acn _ _ _) fun r0 _ => ?_
 refine lC ?_ ?_
 ·exact aF rfl
 ·refine lD (by simp only [EN]) ?_ ?_
  ·exact aF rfl
  ·refine lG (by simp only [EN]) ?_
   refine lF ?_
   refine lG (by simp only [EN]) ?_
   refine lQ eX aU (by (try simp only [EN]); exact acI ((([] : List Int) ++ (cH p0 (some (w6 (r0.2.1 + 4))) (some (w6 ((w6 (r0.2.1 + 4)) + r0.1))))))) fun r1 _ => ?_
   refine lG (by simp only [EN]) ?_
   refine lF ?_
   refine lD (by simp only [EN]) ?_ ?_
   ·exact aF rfl
   ·exact aF (by first | rfl | simp only [EN, eU] <;> rfl)
section
variable (Γ : Fun) (γ22 : Gm ((List Int) × Int × Int)) (γ23 : Gm (Int × Int × Int)) (Λ2 J : Lam)
def C15 : aS := bM (bM (aQ Γ) 22 eU γ22) 23 bN γ23
theorem T15 (p0 : List Int) : bS SE (C15 Γ γ22 γ23) Λ2 J 15 [.d (.sl [.int .u8] (List.map (aJ .u8) p0))] [] [] =
 γ22 [.d (.sl [.int .u8] (List.map (aJ .u8) p0)), dIq 0] [] [] fun r0 =>
 cond (r0.2.2 != 0) (
 (some (dL (0, 0, [], r0.2.2)))) (
 cond (decide (r0.2.1 < (lM (aJ .u8) p0 : Int))) (
 (some (dL (0, 0, [], 2)))) (
 γ23 [.d (.sl [.int .u8] (List.map (aJ .u8) r0.1)), dIq 0] [] [] fun r1 =>
 cond (r1.2.2 != 0) (
 (some (dL (0, 0, [], r1.2.2)))) (
 γ23 [.d (.sl [.int .u8] (List.map (aJ .u8) r0.1)), dIq r1.2.1] [] [] fun r2 =>
 cond (r2.2.2 != 0) (
 (some (dL (0, 0, [], r2.2.2)))) (
 cond (decide (0 ≤ r2.2.1) && decide (r2.2.1 ≤ ((lM (aJ .u8) r0.1) : Int))) (
 (some (.ret [dIq r1.1, dIq r2.1, .d (.sl [.int .u8] (List.take ((lM (aJ .u8) r0.1) - (Int.toNat r2.2.1)) (List.drop (Int.toNat r2.2.1) (List.map (aJ .u8) r0.1)))), dIq 0] [] []))) none)))) := by kernel_rfl
end
abbrev X15 : aS := C15 gG (cT 22 eU) (cT 23 bN)
theorem auy : X15 = aQ gG := by unfold X15 C15; repeat rw [bK fun _ h => h]
theorem acK (p0 : List Int) : Le (Option.map dL (oC p0)) (bD SE 15 [.d (.sl [.int .u8] (List.map (aJ .u8) p0))] [] []) := by
 refine aY auy rfl ?_
 refine Le.trans ?_ (le_of_eq (T15 ..).symm)
 unfold oC
 refine lQ eX aa9 (acC _ _) fun r0 _ => ?_
 refine lC ?_ ?_
 ·exact aF rfl
 ·refine lD (by simp only [EN]) ?_ ?_
  ·exact aF rfl
  ·refine lQ eX fG (qF _ _) fun r1 _ => ?_
   refine lC ?_ ?_
   ·exact aF rfl
   ·refine lQ eX fG (qF _ _) fun r2 _ => ?_
    refine lC ?_ ?_
    ·exact aF rfl
    ·refine lG (by simp only [EN]) ?_
     exact aF (by first | rfl | simp only [EN, dL] <;> rfl)
section
variable (Γ : Fun) (γ15 : Gm (Int × Int × (List Int) × Int)) (Λ2 J : Lam)
def C11 : aS := bM (aQ Γ) 15 dL γ15
theorem T11 (p0 : List Int) : bS SE (C11 Γ γ15) Λ2 J 11 [.d (.sl [.int .u8] (List.map (aJ .u8) p0))] [] [] =
 γ15 [.d (.sl [.int .u8] (List.map (aJ .u8) p0))] [] [] fun r0 =>
 (some (bN (r0.1, r0.2.1, r0.2.2.2))) := by kernel_rfl
end
abbrev X11 : aS := C11 gG (cT 15 dL)
theorem at0 : X11 = aQ gG := by unfold X11 C11; rw [bK fun _ h => h]
theorem acB (p0 : List Int) : Le (Option.map bN (oD p0)) (bD SE 11 [.d (.sl [.int .u8] (List.map (aJ .u8) p0))] [] []) := by
 refine aY at0 rfl ?_
 refine Le.trans ?_ (le_of_eq (T11 ..).symm)
 unfold oD
 refine lQ eX tL (acK _) fun r0 _ => ?_
 exact aF rfl
section
variable (Γ : Fun) (γ9 : Gm (Bool)) (γ10 γ11 : Gm (Int × Int × Int)) (Λ2 J : Lam)
def C4 : aS := bM (bM (bM (aQ Γ) 9 aK γ9) 10 bN γ10) 11 bN γ11
theorem T4 (p0 : List Int) : bS SE (C4 Γ γ9 γ10 γ11) Λ2 J 4 [.d (.sl [.int .u8] (List.map (aJ .u8) p0))] [] [] =
 cond (decide ((lM (aJ .u8) p0 : Int) > 6000)) (
 γ9 [] [] [] fun r0 =>
 (rB r0)) (
 γ10 [.d (.sl [.int .u8] (List.map (aJ .u8) p0))] [] [] fun r1 =>
 γ11 [.d (.sl [.int .u8] (List.map (aJ .u8) p0))] [] [] fun r2 =>
 cond (r1.1 == r2.1) (
 cond (r1.2.1 == r2.2.1) (
  cond (r1.2.2 == r2.2.2) (
  γ9 [] [] [] fun r3 =>
  (rB r3)) (
  (rB false))) (
 (rB false))) (
 (rB false))) := by kernel_rfl
end
abbrev X4 : aS := C4 gG (cT 9 aK) (cT 10 bN) (cT 11 bN)
theorem Cr4 : X4 = aQ gG := by unfold X4 C4; repeat rw [bK fun _ h => h]
theorem wT (p0 : List Int) : Le (Option.map aK (jK p0)) (bD SE 4 [.d (.sl [.int .u8] (List.map (aJ .u8) p0))] [] []) := by
 refine aY Cr4 rfl ?_
 refine Le.trans ?_ (le_of_eq (T4 ..).symm)
 unfold jK
 refine lD (by simp only [EN]) ?_ ?_
 ·refine lQ eX bC (n7) fun r0 _ => ?_
  exact aF rfl
 ·refine lQ eX fG (abw _) fun r1 _ => ?_
  refine lQ eX fG (acB _) fun r2 _ => ?_
  refine lC ?_ ?_
  ·refine lC ?_ ?_
   ·refine lC ?_ ?_
    ·refine lQ eX bC (n7) fun r3 _ => ?_
     exact aF rfl
    ·exact aF rfl
   ·exact aF rfl
  ·exact aF rfl
end Te
end PX
