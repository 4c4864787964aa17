import Derived.Test.YtdgmdomlghamdaaDoorTre1
set_option linter.unusedVariables false
set_option linter.unusedSimpArgs false
set_option maxRecDepth 100000
noncomputable section
namespace PX
open Go
open Md
namespace Te
def ak5 (C : aS) (Λ2 J : Lam) (a0 : List (List D)) (a1 : Int) (a2 : List (List D)) : Res := lab SE C Λ2 J 19 0 [1, 1, 1, 0, 0] (bU [(0, .d (.sl [.int .u8] a0)), (4, .row 3004), (5, .d (.int .i64 a1))] [] [] [] [(3004, ⟨aA.ks, 58, 416, a2⟩)])
section
variable (Γ : Fun) (γ21 : Gm (Int × Int × Int)) (γ28 : Gm (aA × Int)) (Λ2 J : Lam)
def C19 : aS := bM (bM (aQ Γ) 21 bN γ21) 28 kP γ28
theorem T19 (p0 : List Int) : bS SE (C19 Γ γ21 γ28) Λ2 J 19 [.d (.sl [.int .u8] (List.map (aJ .u8) p0))] [] [] =
 ak5 (C19 Γ γ21 γ28) Λ2 J (List.map (aJ .u8) p0) 0 (List.map aA.enc []) := by kernel_rfl
theorem arw (x0 : List Int) (x5 : Int) (w3004 : List aA) : eA SE (C19 Γ γ21 γ28) Λ2 J 19 0 [1, 1, 1, 0, 0] (bU [(0, .d (.sl [.int .u8] (List.map (aJ .u8) x0))), (4, .row 3004), (5, .d (.int .i64 x5))] [] [] [] [(3004, ⟨aA.ks, 58, 416, (List.map aA.enc w3004)⟩)]) =
 cond (decide (x5 < (lM (aJ .u8) x0 : Int))) (
 γ21 [.d (.sl [.int .u8] (List.map (aJ .u8) x0)), .d (.int .i64 x5)] [] [] fun r0 =>
 cond (r0.2.2 != 0) (
  (some (.ret [.row 0, .d (.int .i64 r0.2.2)] [] [⟨aA.ks, 58, 416, []⟩]))) (
 cond (decide (r0.1 < 0)) (
  (some (.ret [.row 0, .d (.int .i64 2)] [] [⟨aA.ks, 58, 416, []⟩]))) (
 cond (decide (r0.1 > 4096)) (
  (some (.ret [.row 0, .d (.int .i64 5)] [] [⟨aA.ks, 58, 416, []⟩]))) (
 cond (decide (r0.1 > (w6 ((lM (aJ .u8) x0 : Int) - r0.2.1)))) (
  (some (.ret [.row 0, .d (.int .i64 3)] [] [⟨aA.ks, 58, 416, []⟩]))) (
 cond (decide (0 ≤ (w6 (r0.2.1 + r0.1))) && decide ((w6 (r0.2.1 + r0.1)) ≤ ((lM (aJ .u8) x0) : Int))) (
  cond (decide (0 ≤ (w6 (r0.2.1 + r0.1))) && decide ((w6 (r0.2.1 + r0.1)) ≤ (w6 (r0.2.1 + r0.1)))) (
  cond (decide (0 ≤ r0.2.1) && decide (r0.2.1 ≤ (w6 (r0.2.1 + r0.1)))) (
   γ28 [.d (.sl [.int .u8] (cH (List.map (aJ .u8) x0) (some r0.2.1) (some (w6 (r0.2.1 + r0.1)))))] [] [] fun r1 =>
   cond (r1.2 != 0) (
   (some (.ret [.row 0, .d (.int .i64 r1.2)] [] [⟨aA.ks, 58, 416, []⟩]))) (
   cond (decide ((lM aA.enc w3004 + lM aA.enc [r1.1]) * 416 ≤ 140737488355328)) (
   ak5 (C19 Γ γ21 γ28) Λ2 J (List.map (aJ .u8) x0) (w6 (r0.2.1 + r0.1)) (((List.map aA.enc w3004) ++ (List.map aA.enc [r1.1])))) none)) none) none) none))))) (
 (some (.ret [.row 0, .d (.int .i64 0)] [] [⟨aA.ks, 58, 416, (List.map aA.enc w3004)⟩]))) := by kernel_rfl
end
abbrev X19 : aS := C19 gG (cT 21 bN) (cT 28 kP)
theorem aqs : X19 = aQ gG := by unfold X19 C19; repeat rw [bK fun _ h => h]
abbrev asH := ak5 X19 (dQ SE gG (SE.hl 19) (SE.hr 19)) (J0 SE X19)
theorem ab2 : ∀ (fu : Nat) (x0 : List Int) (x5 : Int) (w3004 : List aA), Le (Option.map gH (nB fu x0 x5 w3004)) (asH (List.map (aJ .u8) x0) x5 (List.map aA.enc w3004)) := by
 intro fu
 induction fu with
 | zero => intros; exact le_none
 | succ fu ih =>
  intro x0 x5 w3004
  refine Le.trans ?_ (le_of_eq ((bX aqs).trans (arw ..)).symm)
  unfold nB
  refine lD (by simp only [EN]) ?_ ?_
  ·refine lQ eX fG (pG _ _) fun r0 _ => ?_
   refine lC ?_ ?_
   ·exact aF rfl
   ·refine lC ?_ ?_
    ·exact aF rfl
    ·refine lC ?_ ?_
     ·exact aF rfl
     ·refine lD (by simp only [EN]) ?_ ?_
      ·exact aF rfl
      ·refine lG (by simp only [EN]) ?_
       refine lF ?_
       refine lF ?_
       refine lQ eX afO (by (try simp only [EN]); exact ahm ((cH x0 (some r0.2.1) (some (w6 (r0.2.1 + r0.1)))))) fun r1 _ => ?_
       refine lC ?_ ?_
       ·exact aF rfl
       ·refine lG (by simp only [EN]) ?_
        (try simp only [EN]); exact ih x0 (w6 (r0.2.1 + r0.1)) (w3004 ++ [r1.1])
  ·exact aF rfl
theorem aet (p0 : List Int) : Le (Option.map gH (vD p0)) (bD SE 19 [.d (.sl [.int .u8] (List.map (aJ .u8) p0))] [] []) := by
 refine aY aqs rfl ?_
 refine Le.trans ?_ (le_of_eq (T19 ..).symm)
 unfold vD
 (try simp only [EN]); exact ab2 fuel p0 0 []
section
variable (Γ : Fun) (γ14 : Gm (Int × Int × (List Int) × Int)) (γ19 : Gm ((List aA) × Int)) (γ7 : Gm (aL)) (Λ2 J : Lam)
def C13 : aS := bM (bM (bM (aQ Γ) 14 dL γ14) 19 gH γ19) 7 cF γ7
theorem T13 (p0 : aL) (p1 : List Int) : bS SE (C13 Γ γ14 γ19 γ7) Λ2 J 13 [aL.av p0, .d (.sl [.int .u8] (List.map (aJ .u8) p1))] [] [] =
 γ14 [.d (.sl [.int .u8] (List.map (aJ .u8) p1))] [] [] fun r0 =>
 cond (r0.2.2.2 != 0) (
 (some (.ret [.row 0, aL.av p0, .d (.int .i64 r0.2.2.2)] [] [⟨aA.ks, 58, 416, []⟩]))) (
 γ19 [.d (.sl [.int .u8] (List.map (aJ .u8) r0.2.2.1))] [] [] fun r1 =>
 cond (r1.2 != 0) (
 (some (.ret [.row 0, aL.av p0, .d (.int .i64 r1.2)] [] [⟨aA.ks, 58, 416, []⟩]))) (
 cond (r0.1 != p0.Conn) (
 (some (.ret [.row 0, aL.av p0, .d (.int .i64 8)] [] [⟨aA.ks, 58, 416, []⟩]))) (
 cond p0.Broken (
 (some (.ret [.row 0, aL.av p0, .d (.int .i64 21)] [] [⟨aA.ks, 58, 416, []⟩]))) (
 cond (decide (r0.2.1 ≤ p0.Got)) (
 (some (.ret [.row 0, aL.av p0, .d (.int .i64 26)] [] [⟨aA.ks, 58, 416, []⟩]))) (
 cond (decide ((w6 (r0.2.1 - 1)) > p0.Got)) (
 γ7 [aL.av p0] [] [] fun r2 =>
 (some (.ret [.row 0, aL.av r2, .d (.int .i64 22)] [] [⟨aA.ks, 58, 416, []⟩]))) (
 (some (.ret [.row 0, aL.av (aL.mk p0.Conn p0.Sent (w6 (p0.Got + 1)) p0.Broken), .d (.int .i64 0)] [] [⟨aA.ks, 58, 416, (List.map aA.enc r1.1)⟩])))))))) := by kernel_rfl
end
abbrev X13 : aS := C13 gG (cT 14 dL) (cT 19 gH) (cT 7 cF)
theorem atk : X13 = aQ gG := by unfold X13 C13; repeat rw [bK fun _ h => h]
theorem wU (p0 : aL) (p1 : List Int) : Le (Option.map hY (qQ p0 p1)) (bD SE 13 [aL.av p0, .d (.sl [.int .u8] (List.map (aJ .u8) p1))] [] []) := by
 refine aY atk rfl ?_
 refine Le.trans ?_ (le_of_eq (T13 ..).symm)
 unfold qQ
 refine lQ eX tL (aa3 _) fun r0 _ => ?_
 refine lC ?_ ?_
 ·exact aF rfl
 ·refine lQ eX adG (aet _) fun r1 _ => ?_
  refine lC ?_ ?_
  ·exact aF rfl
  ·refine lC ?_ ?_
   ·exact aF rfl
   ·refine lC ?_ ?_
    ·exact aF rfl
    ·refine lC ?_ ?_
     ·exact aF rfl
     ·refine lC ?_ ?_
      ·refine lQ eX hZ (tM _) fun r2 _ => ?_
       exact aF rfl
      ·exact aF rfl
section
variable (Γ : Fun) (γ5 : Gm (aL)) (γ12 : Gm ((List Int) × aL × Int)) (γ10 : Gm (Int × Int × Int)) (γ13 : Gm ((List aA) × aL × Int)) (γ7 : Gm (aL)) (Λ2 J : Lam)
def C9 : aS := bM (bM (bM (bM (bM (aQ Γ) 5 cF γ5) 12 iQ γ12) 10 bN γ10) 13 hY γ13) 7 cF γ7
theorem T9 : bS SE (C9 Γ γ5 γ12 γ10 γ13 γ7) Λ2 J 9 [] [] [] =
 γ5 [.d (.int .i64 1)] [] [] fun r0 =>
 γ12 [aL.av r0, .d (.sl aA.ks (List.map aA.enc []))] [] [] fun r1 =>
 γ10 [.d (.sl [.int .u8] (List.map (aJ .u8) r1.1))] [] [] fun r2 =>
 γ5 [.d (.int .i64 1)] [] [] fun r3 =>
 γ13 [aL.av r3, .d (.sl [.int .u8] (List.map (aJ .u8) r1.1))] [] [] fun r4 =>
 γ13 [aL.av r4.2.1, .d (.sl [.int .u8] (List.map (aJ .u8) r1.1))] [] [] fun r5 =>
 cond (r1.2.2 == 0) (
 cond ((r1.2.1.Conn == 1) && ((r1.2.1.Sent == 1) && ((r1.2.1.Got == 0) && ((r1.2.1.Broken == false) && true)))) (
  cond (r2.1 == 1) (
  cond (r2.2.1 == 1) (
   cond (r2.2.2 == 0) (
   cond ((lM (aJ .u8) r1.1 : Int) == 7) (
    cond (decide (0 ≤ 0) && decide (0 < (lM (aJ .u8) r1.1 : Int))) (
    cond ((aX (cE (aJ .u8) r1.1 0 0)) == 4) (
     cond (r4.2.2 == 0) (
     cond ((r4.2.1.Conn == 1) && ((r4.2.1.Sent == 0) && ((r4.2.1.Got == 1) && ((r4.2.1.Broken == false) && true)))) (
      cond (r5.2.2 == 26) (
      cond ((r5.2.1.Conn == r4.2.1.Conn) && ((r5.2.1.Sent == r4.2.1.Sent) && ((r5.2.1.Got == r4.2.1.Got) && ((r5.2.1.Broken == r4.2.1.Broken) && true)))) (
       γ7 [aL.av r4.2.1] [] [] fun r6 =>
       (rB r6.Broken)) (
      (rB false))) (
      (rB false))) (
     (rB false))) (
     (rB false))) (
    (rB false))) none) (
   (rB false))) (
   (rB false))) (
  (rB false))) (
  (rB false))) (
 (rB false))) (
 (rB false)) := by kernel_rfl
end
abbrev X9 : aS := C9 gG (cT 5 cF) (cT 12 iQ) (cT 10 bN) (cT 13 hY) (cT 7 cF)
theorem Cr9 : X9 = aQ gG := by unfold X9 C9; repeat rw [bK fun _ h => h]
theorem n7 : Le (Option.map aK (jE)) (bD SE 9 [] [] []) := by
 refine aY Cr9 rfl ?_
 refine Le.trans ?_ (le_of_eq (T9 _ _ _ _ _ _ _ _ ).symm)
 unfold jE
 refine lQ eX hZ (wP _) fun r0 _ => ?_
 refine lQ eX agL (by (try simp only [EN]); exact ahj r0 []) fun r1 _ => ?_
 refine lQ eX fG (abw _) fun r2 _ => ?_
 refine lQ eX hZ (wP _) fun r3 _ => ?_
 refine lQ eX vU (wU _ _) fun r4 _ => ?_
 refine lQ eX vU (wU _ _) fun r5 _ => ?_
 refine lC ?_ ?_
 ·refine lC ?_ ?_
  ·refine lC ?_ ?_
   ·refine lC ?_ ?_
    ·refine lC ?_ ?_
     ·refine lD (by simp only [EN]) ?_ ?_
      ·refine lG (by simp only [EN]) ?_
       refine lD (by simp only [EN]) ?_ ?_
       ·refine lC ?_ ?_
        ·refine lC ?_ ?_
         ·refine lC ?_ ?_
          ·refine lC ?_ ?_
           ·refine lQ eX hZ (tM _) fun r6 _ => ?_
            exact aF rfl
           ·exact aF rfl
          ·exact aF rfl
         ·exact aF rfl
        ·exact aF rfl
       ·exact aF rfl
      ·exact aF rfl
     ·exact aF rfl
    ·exact aF rfl
   ·exact aF rfl
  ·exact aF rfl
 ·exact aF rfl
section
variable (Γ : Fun) (γ5 γ6 γ7 γ8 : Gm (aL)) (γ9 : Gm (Bool)) (Λ2 J : Lam)
def C3 : aS := bM (bM (bM (bM (bM (aQ Γ) 5 cF γ5) 6 cF γ6) 7 cF γ7) 8 cF γ8) 9 aK γ9
theorem T3 (p0 : aL) : bS SE (C3 Γ γ5 γ6 γ7 γ8 γ9) Λ2 J 3 [aL.av p0] [] [] =
 γ5 [.d (.int .i64 p0.Conn)] [] [] fun r0 =>
 γ6 [.d (.int .i64 p0.Conn)] [] [] fun r1 =>
 cond ((r0.Conn == r1.Conn) && ((r0.Sent == r1.Sent) && ((r0.Got == r1.Got) && ((r0.Broken == r1.Broken) && true)))) (
 γ7 [aL.av p0] [] [] fun r2 =>
 γ8 [aL.av p0] [] [] fun r3 =>
 cond ((r2.Conn == r3.Conn) && ((r2.Sent == r3.Sent) && ((r2.Got == r3.Got) && ((r2.Broken == r3.Broken) && true)))) (
  γ9 [] [] [] fun r4 =>
  (rB r4)) (
 (rB false))) (
 (rB false)) := by kernel_rfl
end
abbrev X3 : aS := C3 gG (cT 5 cF) (cT 6 cF) (cT 7 cF) (cT 8 cF) (cT 9 aK)
theorem Cr3 : X3 = aQ gG := by unfold X3 C3; repeat rw [bK fun _ h => h]
theorem xK (p0 : aL) : Le (Option.map aK (j6 p0)) (bD SE 3 [aL.av p0] [] []) := by
 refine aY Cr3 rfl ?_
 refine Le.trans ?_ (le_of_eq (T3 ..).symm)
 unfold j6
 refine lQ eX hZ (wP _) fun r0 _ => ?_
 refine lQ eX hZ (ac2 _) fun r1 _ => ?_
 refine lC ?_ ?_
 ·refine lQ eX hZ (tM _) fun r2 _ => ?_
  refine lQ eX hZ (ab0 _) fun r3 _ => ?_
  refine lC ?_ ?_
  ·refine lQ eX bC (n7) fun r4 _ => ?_
   exact aF rfl
  ·exact aF rfl
 ·exact aF rfl
end Te
end PX
