import Derived.Test.YtmcpanmcgpjfiaaGreatDoorTre1
set_option linter.unusedVariables false
set_option linter.unusedSimpArgs false
set_option maxRecDepth 100000
noncomputable section
namespace PX
open Go
open Md
namespace Te
def agt (C : aP) (Λ2 J : Lam) (a0 : List (List D)) (a1 a2 a3 a4 a5 a6 : Int) (a7 a8 a9 : Bool) : Res := lab SE C Λ2 J 103 0 [1, 1, 1, 1, 0, 1, 0, 0, 1, 0, 0, 1, 1, 1, 0] (aV [(0, .d (.sl [.int .u8] a0)), (1, .d (.int .i64 a1)), (7, .d (.int .u64 a2)), (8, .d (.int .u64 a3)), (9, .d (.int .i64 a4)), (10, .d (.int .u8 a5)), (42, .d (.int .i64 a6)), (43, .d (.bool a7)), (44, .d (.bool a8)), (47, .d (.bool a9))] [] [] [] [])
def apa (C : aP) (Λ2 J : Lam) (a0 : List (List D)) (a1 a2 a3 a4 : Int) : Res := lab SE C Λ2 J 103 0 [1, 1, 1, 1, 0, 1, 0] (aV [(0, .d (.sl [.int .u8] a0)), (1, .d (.int .i64 a1)), (7, .d (.int .u64 a2)), (8, .d (.int .u64 a3)), (9, .d (.int .i64 a4))] [] [] [] [])
def auB (C : aP) (Λ2 J : Lam) (a0 : List (List D)) (a1 : Int) : Res := lab SE C Λ2 J 103 0 [1, 1, 0] (aV [(0, .d (.sl [.int .u8] a0)), (1, .d (.int .i64 a1))] [] [] [] [])
section
variable (Γ : Fun) (γ129 : Gm (Int)) (Λ2 J : Lam)
def ace : aP := bB (aR Γ) 129 aB γ129
theorem aG4 (p0 : List Int) (p1 : Int) : bG SE (ace Γ γ129) Λ2 J 103 [.d (.sl [.int .u8] (List.map (encI .u8) p0)), .d (.int .i64 p1)] [] [] =
 cond (decide (p1 < 0)) (
 (some (.ret [.d (.int .i64 0), .d (.int .i64 0), .d (.int .i64 1)] [] []))) (
 cond (decide (p1 > (lM (encI .u8) p0 : Int))) (
 (some (.ret [.d (.int .i64 0), .d (.int .i64 0), .d (.int .i64 1)] [] []))) (
 auB (ace Γ γ129) Λ2 J (List.map (encI .u8) p0) p1)) := by kernel_rfl
theorem axV (x0 : List Int) (x1 x7 x8 x9 x10 x42 : Int) (x43 x44 x47 : Bool) : bW SE (ace Γ γ129) Λ2 J 103 0 [1, 1, 1, 1, 0, 1, 0, 0, 1, 0, 0, 1, 1, 1, 0] (aV [(0, .d (.sl [.int .u8] (List.map (encI .u8) x0))), (1, .d (.int .i64 x1)), (7, .d (.int .u64 x7)), (8, .d (.int .u64 x8)), (9, .d (.int .i64 x9)), (10, .d (.int .u8 x10)), (42, .d (.int .i64 x42)), (43, .d (.bool x43)), (44, .d (.bool x44)), (47, .d (.bool x47))] [] [] [] []) =
 cond (decide (x10 < 128)) (
 γ129 [.d (.int .u64 (IntKind.wrap .u64 (x7 + (IntKind.wrap .u64 ((IntKind.wrap .u64 (Int.tmod x10 128)) * x8)))))] [] [] fun r0 =>
 (some (.ret [.d (.int .i64 r0), .d (.int .i64 (w6 ((w6 (x1 + x9)) + 1))), .d (.int .i64 0)] [] []))) (
 apa (ace Γ γ129) Λ2 J (List.map (encI .u8) x0) x1 (IntKind.wrap .u64 (x7 + (IntKind.wrap .u64 ((IntKind.wrap .u64 (Int.tmod x10 128)) * x8)))) (IntKind.wrap .u64 (x8 * 128)) (w6 (x9 + 1))) := by kernel_rfl
theorem azn (x0 : List Int) (x1 x7 x8 x9 : Int) : bW SE (ace Γ γ129) Λ2 J 103 0 [1, 1, 1, 1, 0, 1, 0] (aV [(0, .d (.sl [.int .u8] (List.map (encI .u8) x0))), (1, .d (.int .i64 x1)), (7, .d (.int .u64 x7)), (8, .d (.int .u64 x8)), (9, .d (.int .i64 x9))] [] [] [] []) =
 cond (decide (x9 < 10)) (
 cond (decide (x9 ≥ (w6 ((lM (encI .u8) x0 : Int) - x1)))) (
  (some (.ret [.d (.int .i64 0), .d (.int .i64 0), .d (.int .i64 3)] [] []))) (
 cond (iB (w6 (x1 + x9)) (lM (encI .u8) x0 : Int)) (
  cond (x9 == 9) (
  cond ((aX (cE (encI .u8) x0 (w6 (x1 + x9)) 0)) != 1) (
   (some (.ret [.d (.int .i64 0), .d (.int .i64 0), .d (.int .i64 2)] [] []))) (
  cond (decide (x9 > 0)) (
   cond ((aX (cE (encI .u8) x0 (w6 (x1 + x9)) 0)) == 0) (
   (some (.ret [.d (.int .i64 0), .d (.int .i64 0), .d (.int .i64 2)] [] []))) (
   agt (ace Γ γ129) Λ2 J (List.map (encI .u8) x0) x1 x7 x8 x9 ((aX (cE (encI .u8) x0 (w6 (x1 + x9)) 0))) x9 (decide (x9 > 0)) true (((aX (cE (encI .u8) x0 (w6 (x1 + x9)) 0)) == 0)))) (
  agt (ace Γ γ129) Λ2 J (List.map (encI .u8) x0) x1 x7 x8 x9 ((aX (cE (encI .u8) x0 (w6 (x1 + x9)) 0))) x9 (decide (x9 > 0)) false false))) (
  cond (decide (x9 > 0)) (
  cond ((aX (cE (encI .u8) x0 (w6 (x1 + x9)) 0)) == 0) (
   (some (.ret [.d (.int .i64 0), .d (.int .i64 0), .d (.int .i64 2)] [] []))) (
  agt (ace Γ γ129) Λ2 J (List.map (encI .u8) x0) x1 x7 x8 x9 ((aX (cE (encI .u8) x0 (w6 (x1 + x9)) 0))) x9 (decide (x9 > 0)) true (((aX (cE (encI .u8) x0 (w6 (x1 + x9)) 0)) == 0)))) (
  agt (ace Γ γ129) Λ2 J (List.map (encI .u8) x0) x1 x7 x8 x9 ((aX (cE (encI .u8) x0 (w6 (x1 + x9)) 0))) x9 (decide (x9 > 0)) false false))) none)) (
 (some (.ret [.d (.int .i64 0), .d (.int .i64 0), .d (.int .i64 2)] [] []))) := by kernel_rfl
theorem aAe (x0 : List Int) (x1 : Int) : bW SE (ace Γ γ129) Λ2 J 103 0 [1, 1, 0] (aV [(0, .d (.sl [.int .u8] (List.map (encI .u8) x0))), (1, .d (.int .i64 x1))] [] [] [] []) =
 apa (ace Γ γ129) Λ2 J (List.map (encI .u8) x0) x1 0 1 0 := by kernel_rfl
end
abbrev ajl : aP := ace gG (cT 129 aB)
theorem aoF : ajl = aR gG := by unfold ajl ace; rw [bD fun _ h => h]
abbrev ayf := agt ajl (bV SE gG (SE.hl 103) (SE.hr 103)) (J0 SE ajl)
abbrev atK := apa ajl (bV SE gG (SE.hl 103) (SE.hr 103)) (J0 SE ajl)
abbrev aBh := auB ajl (bV SE gG (SE.hl 103) (SE.hr 103)) (J0 SE ajl)
theorem pQ (k6 : (List Int) → Int → Int → Int → Int → Option (Int × Int × Int)) (hk6 : ∀ (x0 : List Int) (x1 x7 x8 x9 : Int), Le (Option.map cW (k6 x0 x1 x7 x8 x9)) (atK (List.map (encI .u8) x0) x1 x7 x8 x9)) (x0 : List Int) (x1 x7 x8 x9 x10 x42 : Int) (x43 x44 x47 : Bool) : Le (Option.map cW (fM k6 x0 x1 x7 x8 x9 x10 x42 x43 x44 x47)) (ayf (List.map (encI .u8) x0) x1 x7 x8 x9 x10 x42 x43 x44 x47) := by
 refine Le.trans ?_ (le_of_eq ((aZ aoF).trans (axV ..)).symm)
 unfold fM
 refine lC ?_ ?_
 ·refine lQ eX aM (agD _) fun r0 _ => ?_
  exact aJ rfl
 ·exact hk6 x0 x1 (IntKind.wrap .u64 (x7 + (IntKind.wrap .u64 ((IntKind.wrap .u64 (Int.tmod x10 128)) * x8)))) (IntKind.wrap .u64 (x8 * 128)) (w6 (x9 + 1))
theorem agP : ∀ (fu : Nat) (x0 : List Int) (x1 x7 x8 x9 : Int), Le (Option.map cW (cP fu x0 x1 x7 x8 x9)) (atK (List.map (encI .u8) x0) x1 x7 x8 x9) := by
 intro fu
 induction fu with
 | zero => intros; exact le_none
 | succ fu ih =>
  intro x0 x1 x7 x8 x9
  refine Le.trans ?_ (le_of_eq ((aZ aoF).trans (azn ..)).symm)
  unfold cP
  refine lC ?_ ?_
  ·refine lD (by simp only [EN]) ?_ ?_
   ·exact aJ rfl
   ·refine lG (by simp only [EN]) ?_
    refine lC ?_ ?_
    ·refine lD (by simp only [EN]) ?_ ?_
     ·exact aJ rfl
     ·refine lC ?_ ?_
      ·refine lD (by simp only [EN]) ?_ ?_
       ·exact aJ rfl
       ·(try simp only [EN]); exact pQ _ (ih) x0 x1 x7 x8 x9 (List.getD x0 (Int.toNat (w6 (x1 + x9))) default) x9 (decide (x9 > 0)) true ((List.getD x0 (Int.toNat (w6 (x1 + x9))) default) == 0)
      ·(try simp only [EN]); exact pQ _ (ih) x0 x1 x7 x8 x9 (List.getD x0 (Int.toNat (w6 (x1 + x9))) default) x9 (decide (x9 > 0)) false false
    ·refine lC ?_ ?_
     ·refine lD (by simp only [EN]) ?_ ?_
      ·exact aJ rfl
      ·(try simp only [EN]); exact pQ _ (ih) x0 x1 x7 x8 x9 (List.getD x0 (Int.toNat (w6 (x1 + x9))) default) x9 (decide (x9 > 0)) true ((List.getD x0 (Int.toNat (w6 (x1 + x9))) default) == 0)
     ·(try simp only [EN]); exact pQ _ (ih) x0 x1 x7 x8 x9 (List.getD x0 (Int.toNat (w6 (x1 + x9))) default) x9 (decide (x9 > 0)) false false
  ·exact aJ rfl
theorem agS (x0 : List Int) (x1 : Int) : Le (Option.map cW (uL x0 x1)) (aBh (List.map (encI .u8) x0) x1) := by
 refine Le.trans ?_ (le_of_eq ((aZ aoF).trans (aAe ..)).symm)
 unfold uL
 exact agP fuel x0 x1 0 1 0
theorem ac2 (p0 : List Int) (p1 : Int) : Le (Option.map cW (qR p0 p1)) (bF SE 103 [.d (.sl [.int .u8] (List.map (encI .u8) p0)), .d (.int .i64 p1)] [] []) := by
 refine aW aoF rfl ?_
 refine Le.trans ?_ (le_of_eq (aG4 ..).symm)
 unfold qR
 refine lC ?_ ?_
 ·exact aJ rfl
 ·refine lD (by simp only [EN]) ?_ ?_
  ·exact aJ rfl
  ·exact agS p0 p1
section
variable (Γ : Fun) (γ103 : Gm (Int × Int × Int)) (Λ2 J : Lam)
def awV : aP := bB (aR Γ) 103 cW γ103
theorem aGh (p0 : List Int) (p1 p2 : Int) : bG SE (awV Γ γ103) Λ2 J 104 [.d (.sl [.int .u8] (List.map (encI .u8) p0)), .d (.int .i64 p1), .d (.int .i64 p2)] [] [] =
 γ103 [.d (.sl [.int .u8] (List.map (encI .u8) p0)), .d (.int .i64 p1)] [] [] fun r0 =>
 cond (r0.2.2 != 0) (
 (some (.ret [.d (.int .i64 0), .d (.int .i64 0), .d (.int .i64 r0.2.2)] [] []))) (
 cond (decide (r0.1 < 0)) (
 (some (.ret [.d (.int .i64 0), .d (.int .i64 0), .d (.int .i64 2)] [] []))) (
 cond (decide (r0.1 > p2)) (
 (some (.ret [.d (.int .i64 0), .d (.int .i64 0), .d (.int .i64 5)] [] []))) (
 (some (.ret [.d (.int .i64 r0.1), .d (.int .i64 r0.2.1), .d (.int .i64 0)] [] []))))) := by kernel_rfl
end
abbrev ay9 : aP := awV gG (cT 103 cW)
theorem aE7 : ay9 = aR gG := by unfold ay9 awV; rw [bD fun _ h => h]
theorem abH (p0 : List Int) (p1 p2 : Int) : Le (Option.map cW (jC p0 p1 p2)) (bF SE 104 [.d (.sl [.int .u8] (List.map (encI .u8) p0)), .d (.int .i64 p1), .d (.int .i64 p2)] [] []) := by
 refine aW aE7 rfl ?_
 refine Le.trans ?_ (le_of_eq (aGh ..).symm)
 unfold jC
 refine lQ eX sP (ac2 _ _) fun r0 _ => ?_
 refine lC ?_ ?_
 ·exact aJ rfl
 ·refine lC ?_ ?_
  ·exact aJ rfl
  ·refine lC ?_ ?_
   ·exact aJ rfl
   ·exact aJ rfl
section
variable (Γ : Fun) (γ104 : Gm (Int × Int × Int)) (Λ2 J : Lam)
def awR : aP := bB (aR Γ) 104 cW γ104
theorem aHX (p0 : List Int) (p1 p2 : Int) : bG SE (awR Γ γ104) Λ2 J 102 [.d (.sl [.int .u8] (List.map (encI .u8) p0)), .d (.int .i64 p1), .d (.int .i64 p2)] [] [] =
 γ104 [.d (.sl [.int .u8] (List.map (encI .u8) p0)), .d (.int .i64 p1), .d (.int .i64 p2)] [] [] fun r0 =>
 cond (r0.2.2 != 0) (
 (some (.ret [.d (.str []), .d (.int .i64 0), .d (.int .i64 r0.2.2)] [] []))) (
 cond (decide (r0.1 > (w6 ((lM (encI .u8) p0 : Int) - r0.2.1)))) (
 (some (.ret [.d (.str []), .d (.int .i64 0), .d (.int .i64 3)] [] []))) (
 cond (decide (0 ≤ (w6 (r0.2.1 + r0.1))) && decide ((w6 (r0.2.1 + r0.1)) ≤ ((lM (encI .u8) p0) : Int))) (
 cond (decide (0 ≤ r0.2.1) && decide (r0.2.1 ≤ (w6 (r0.2.1 + r0.1)))) (
  (some (.ret [.d (.str (aas (dB (List.map (encI .u8) p0) (some r0.2.1) (some (w6 (r0.2.1 + r0.1)))))), .d (.int .i64 (w6 (r0.2.1 + r0.1))), .d (.int .i64 0)] [] []))) none) none)) := by kernel_rfl
end
abbrev aBO : aP := awR gG (cT 104 cW)
theorem aD3 : aBO = aR gG := by unfold aBO awR; rw [bD fun _ h => h]
theorem ah8 (p0 : List Int) (p1 p2 : Int) : Le (Option.map gK (lL p0 p1 p2)) (bF SE 102 [.d (.sl [.int .u8] (List.map (encI .u8) p0)), .d (.int .i64 p1), .d (.int .i64 p2)] [] []) := by
 refine aW aD3 rfl ?_
 refine Le.trans ?_ (le_of_eq (aHX ..).symm)
 unfold lL
 refine lQ eX sP (abH _ _ _) fun r0 _ => ?_
 refine lC ?_ ?_
 ·exact aJ rfl
 ·refine lD (by simp only [EN]) ?_ ?_
  ·exact aJ rfl
  ·refine lG (by simp only [EN]) ?_
   refine lF ?_
   exact aJ (by first | rfl | simp only [EN, gK] <;> rfl)
section
variable (Γ : Fun) (γ102 : Gm (Str × Int × Int)) (Λ2 J : Lam)
def C57 : aP := bB (aR Γ) 102 gK γ102
theorem T57 (p0 : aD) (p1 : Int) : bG SE (C57 Γ γ102) Λ2 J 57 [.ptr 2000000000 0, .d (.int .i64 p1)] [⟨97, (aD.avs p0)⟩] [] =
 cond (p0.E != 0) (
 (some (.ret [.d (.str [])] [⟨97, (aD.avs p0)⟩] []))) (
 γ102 [.d (.sl [.int .u8] (List.map (encI .u8) p0.B)), .d (.int .i64 p0.At), .d (.int .i64 p1)] [] [] fun r0 =>
 cond (r0.2.2 != 0) (
 (some (.ret [.d (.str [])] [⟨97, (aD.avs (aD.mk p0.B p0.At r0.2.2))⟩] []))) (
 (some (.ret [.d (.str r0.1)] [⟨97, (aD.avs (aD.mk p0.B r0.2.1 p0.E))⟩] [])))) := by kernel_rfl
end
abbrev X57 : aP := C57 gG (cT 102 gK)
theorem aG5 : X57 = aR gG := by unfold X57 C57; rw [bD fun _ h => h]
theorem eF (p0 : aD) (p1 : Int) : Le (Option.map dG (cA p0 p1)) (bF SE 57 [.ptr 2000000000 0, .d (.int .i64 p1)] [⟨97, (aD.avs p0)⟩] []) := by
 refine aW aG5 rfl ?_
 refine Le.trans ?_ (le_of_eq (T57 ..).symm)
 unfold cA
 refine lC ?_ ?_
 ·exact aJ rfl
 ·refine lQ eX ac4 (ah8 _ _ _) fun r0 _ => ?_
  refine lC ?_ ?_
  ·exact aJ rfl
  ·exact aJ rfl
section
variable (Γ : Fun) (γ103 : Gm (Int × Int × Int)) (Λ2 J : Lam)
def C58 : aP := bB (aR Γ) 103 cW γ103
theorem T58 (p0 : aD) : bG SE (C58 Γ γ103) Λ2 J 58 [.ptr 2000000000 0] [⟨97, (aD.avs p0)⟩] [] =
 cond (p0.E != 0) (
 (some (.ret [.d (.int .i64 0)] [⟨97, (aD.avs p0)⟩] []))) (
 γ103 [.d (.sl [.int .u8] (List.map (encI .u8) p0.B)), .d (.int .i64 p0.At)] [] [] fun r0 =>
 cond (r0.2.2 != 0) (
 (some (.ret [.d (.int .i64 0)] [⟨97, (aD.avs (aD.mk p0.B p0.At r0.2.2))⟩] []))) (
 (some (.ret [.d (.int .i64 r0.1)] [⟨97, (aD.avs (aD.mk p0.B r0.2.1 p0.E))⟩] [])))) := by kernel_rfl
end
abbrev X58 : aP := C58 gG (cT 103 cW)
theorem aHl : X58 = aR gG := by unfold X58 C58; rw [bD fun _ h => h]
theorem cJ (p0 : aD) : Le (Option.map bC (bP p0)) (bF SE 58 [.ptr 2000000000 0] [⟨97, (aD.avs p0)⟩] []) := by
 refine aW aHl rfl ?_
 refine Le.trans ?_ (le_of_eq (T58 ..).symm)
 unfold bP
 refine lC ?_ ?_
 ·exact aJ rfl
 ·refine lQ eX sP (ac2 _ _) fun r0 _ => ?_
  refine lC ?_ ?_
  ·exact aJ rfl
  ·exact aJ rfl
section
variable (Γ : Fun) (γ104 : Gm (Int × Int × Int)) (Λ2 J : Lam)
def C60 : aP := bB (aR Γ) 104 cW γ104
theorem T60 (p0 : aD) (p1 : Int) : bG SE (C60 Γ γ104) Λ2 J 60 [.ptr 2000000000 0, .d (.int .i64 p1)] [⟨97, (aD.avs p0)⟩] [] =
 cond (p0.E != 0) (
 (some (.ret [.d (.int .i64 0)] [⟨97, (aD.avs p0)⟩] []))) (
 γ104 [.d (.sl [.int .u8] (List.map (encI .u8) p0.B)), .d (.int .i64 p0.At), .d (.int .i64 p1)] [] [] fun r0 =>
 cond (r0.2.2 != 0) (
 (some (.ret [.d (.int .i64 0)] [⟨97, (aD.avs (aD.mk p0.B p0.At r0.2.2))⟩] []))) (
 (some (.ret [.d (.int .i64 r0.1)] [⟨97, (aD.avs (aD.mk p0.B r0.2.1 p0.E))⟩] [])))) := by kernel_rfl
end
abbrev X60 : aP := C60 gG (cT 104 cW)
theorem aHW : X60 = aR gG := by unfold X60 C60; rw [bD fun _ h => h]
theorem iC (p0 : aD) (p1 : Int) : Le (Option.map bC (dA p0 p1)) (bF SE 60 [.ptr 2000000000 0, .d (.int .i64 p1)] [⟨97, (aD.avs p0)⟩] []) := by
 refine aW aHW rfl ?_
 refine Le.trans ?_ (le_of_eq (T60 ..).symm)
 unfold dA
 refine lC ?_ ?_
 ·exact aJ rfl
 ·refine lQ eX sP (abH _ _ _) fun r0 _ => ?_
  refine lC ?_ ?_
  ·exact aJ rfl
  ·exact aJ rfl
def al5 (C : aP) (Λ2 J : Lam) (a0 : Int) (a1 : List D) : Res := lab SE C Λ2 J 64 1 [1, 1, 1, 0, 0] (aV [(0, .ptr 2000000000 0), (5, .d (.int .i64 a0))] [] [⟨97, (List.map AV.d a1)⟩] [] [])
section
variable (Γ : Fun) (γ58 : Gm (Int × aD)) (Λ2 J : Lam)
def C64 : aP := bB (aR Γ) 58 bC γ58
theorem T64 (p0 : aD) (p1 : Int) : bG SE (C64 Γ γ58) Λ2 J 64 [.ptr 2000000000 0, .d (.int .i64 p1)] [⟨97, (aD.avs p0)⟩] [] =
 γ58 [.ptr 2000000000 0] [⟨97, (aD.avs p0)⟩] [] fun r0 =>
 cond (r0.2.E == 0) (
 cond (decide (r0.1 < 0)) (
  al5 (C64 Γ γ58) Λ2 J r0.1 (aD.enc (aD.mk r0.2.B r0.2.At 2))) (
 cond (decide (r0.1 ≥ p1)) (
  al5 (C64 Γ γ58) Λ2 J r0.1 (aD.enc (aD.mk r0.2.B r0.2.At 2))) (
 al5 (C64 Γ γ58) Λ2 J r0.1 (aD.enc r0.2)))) (
 al5 (C64 Γ γ58) Λ2 J r0.1 (aD.enc r0.2)) := by kernel_rfl
theorem aDr (x5 : Int) (q0 : aD) : bW SE (C64 Γ γ58) Λ2 J 64 1 [1, 1, 1, 0, 0] (aV [(0, .ptr 2000000000 0), (5, .d (.int .i64 x5))] [] [⟨97, (List.map AV.d (aD.enc q0))⟩] [] []) =
 cond (q0.E != 0) (
 (some (.ret [.d (.int .i64 0)] [⟨97, (aD.avs q0)⟩] []))) (
 (some (.ret [.d (.int .i64 x5)] [⟨97, (aD.avs q0)⟩] []))) := by kernel_rfl
end
abbrev X64 : aP := C64 gG (cT 58 bC)
theorem azH : X64 = aR gG := by unfold X64 C64; rw [bD fun _ h => h]
abbrev aFu := al5 X64 (bV SE gG (SE.hl 64) (SE.hr 64)) (J0 SE X64)
theorem jM (x5 : Int) (q0 : aD) : Le (Option.map bC (cY x5 q0)) (aFu x5 (aD.enc q0)) := by
 refine Le.trans ?_ (le_of_eq ((aZ azH).trans (aDr ..)).symm)
 unfold cY
 refine lC ?_ ?_
 ·exact aJ rfl
 ·exact aJ rfl
theorem oF (p0 : aD) (p1 : Int) : Le (Option.map bC (eB p0 p1)) (bF SE 64 [.ptr 2000000000 0, .d (.int .i64 p1)] [⟨97, (aD.avs p0)⟩] []) := by
 refine aW azH rfl ?_
 refine Le.trans ?_ (le_of_eq (T64 ..).symm)
 unfold eB
 refine lQ eX bQ (cJ _) fun r0 _ => ?_
 refine lC ?_ ?_
 ·refine lC ?_ ?_
  ·exact jM r0.1 (aD.mk r0.2.B r0.2.At 2)
  ·refine lC ?_ ?_
   ·exact jM r0.1 (aD.mk r0.2.B r0.2.At 2)
   ·exact jM r0.1 r0.2
 ·exact jM r0.1 r0.2
def axw (C : aP) (Λ2 J : Lam) (a0 a1 a2 : Int) (a3 : Bool) (a4 : List D) (a5 : List (List D)) : Res := lab SE C Λ2 J 59 1 [1, 1, 1, 0, 1, 0, 0, 1, 0, 0, 0] (aV [(0, .ptr 2000000000 0), (3, .row 3003), (4, .d (.int .i64 a0)), (5, .d (.int .i64 a1)), (13, .ptr 2000000000 0), (14, .ptr 2000000000 0), (15, .ptr 2000000000 2), (16, .d (.int .i64 a2)), (17, .d (.bool a3))] [] [⟨97, (List.map AV.d a4)⟩] [] [(3003, ⟨aK.ks, 72, 32, a5⟩)])
def arS (C : aP) (Λ2 J : Lam) (a0 a1 : Int) (a2 : List D) (a3 : List (List D)) : Res := lab SE C Λ2 J 59 1 [1, 1, 1, 0, 1, 0] (aV [(0, .ptr 2000000000 0), (3, .row 3003), (4, .d (.int .i64 a0)), (5, .d (.int .i64 a1))] [] [⟨97, (List.map AV.d a2)⟩] [] [(3003, ⟨aK.ks, 72, 32, a3⟩)])
section
variable (Γ : Fun) (γ60 : Gm (Int × aD)) (γ57 : Gm (Str × aD)) (γ58 γ64 : Gm (Int × aD)) (Λ2 J : Lam)
def C59 : aP := bB (bB (bB (bB (aR Γ) 60 bC γ60) 57 dG γ57) 58 bC γ58) 64 bC γ64
theorem T59 (p0 : aD) : bG SE (C59 Γ γ60 γ57 γ58 γ64) Λ2 J 59 [.ptr 2000000000 0] [⟨97, (aD.avs p0)⟩] [] =
 γ60 [.ptr 2000000000 0, .d (.int .i64 32)] [⟨97, (aD.avs p0)⟩] [] fun r0 =>
 arS (C59 Γ γ60 γ57 γ58 γ64) Λ2 J r0.1 0 (aD.enc r0.2) (List.map aK.enc []) := by kernel_rfl
theorem aD5 (x4 x5 x16 : Int) (x17 : Bool) (q0 : aD) (w3003 : List aK) : bW SE (C59 Γ γ60 γ57 γ58 γ64) Λ2 J 59 1 [1, 1, 1, 0, 1, 0, 0, 1, 0, 0, 0] (aV [(0, .ptr 2000000000 0), (3, .row 3003), (4, .d (.int .i64 x4)), (5, .d (.int .i64 x5)), (13, .ptr 2000000000 0), (14, .ptr 2000000000 0), (15, .ptr 2000000000 2), (16, .d (.int .i64 x16)), (17, .d (.bool x17))] [] [⟨97, (List.map AV.d (aD.enc q0))⟩] [] [(3003, ⟨aK.ks, 72, 32, (List.map aK.enc w3003)⟩)]) =
 γ57 [.ptr 2000000000 0, .d (.int .i64 88)] [⟨97, (aD.avs q0)⟩] [] fun r1 =>
 γ58 [.ptr 2000000000 0] [⟨97, (aD.avs r1.2)⟩] [] fun r2 =>
 γ64 [.ptr 2000000000 0, .d (.int .i64 2)] [⟨97, (aD.avs r2.2)⟩] [] fun r3 =>
 cond (decide ((lM aK.enc w3003 + lM aK.enc [(aK.mk r1.1 r2.1 (r3.1 == 1))]) * 32 ≤ 140737488355328)) (
 arS (C59 Γ γ60 γ57 γ58 γ64) Λ2 J x4 (w6 (x5 + 1)) (aD.enc r3.2) (((List.map aK.enc w3003) ++ (List.map aK.enc [(aK.mk r1.1 r2.1 (r3.1 == 1))])))) none := by kernel_rfl
theorem aE1 (x4 x5 : Int) (q0 : aD) (w3003 : List aK) : bW SE (C59 Γ γ60 γ57 γ58 γ64) Λ2 J 59 1 [1, 1, 1, 0, 1, 0] (aV [(0, .ptr 2000000000 0), (3, .row 3003), (4, .d (.int .i64 x4)), (5, .d (.int .i64 x5))] [] [⟨97, (List.map AV.d (aD.enc q0))⟩] [] [(3003, ⟨aK.ks, 72, 32, (List.map aK.enc w3003)⟩)]) =
 cond (decide (x5 < x4)) (
 cond (q0.E == 0) (
  axw (C59 Γ γ60 γ57 γ58 γ64) Λ2 J x4 x5 q0.E (q0.E == 0) (aD.enc q0) (List.map aK.enc w3003)) (
 (some (.ret [.row 0] [⟨97, (aD.avs q0)⟩] [⟨aK.ks, 72, 32, (List.map aK.enc w3003)⟩])))) (
 (some (.ret [.row 0] [⟨97, (aD.avs q0)⟩] [⟨aK.ks, 72, 32, (List.map aK.enc w3003)⟩]))) := by kernel_rfl
end
abbrev X59 : aP := C59 gG (cT 60 bC) (cT 57 dG) (cT 58 bC) (cT 64 bC)
theorem au4 : X59 = aR gG := by unfold X59 C59; repeat rw [bD fun _ h => h]
abbrev aDI := axw X59 (bV SE gG (SE.hl 59) (SE.hr 59)) (J0 SE X59)
abbrev axo := arS X59 (bV SE gG (SE.hl 59) (SE.hr 59)) (J0 SE X59)
theorem afv (k4 : Int → Int → aD → (List aK) → Option ((List aK) × aD)) (hk4 : ∀ (x4 x5 : Int) (q0 : aD) (w3003 : List aK), Le (Option.map fX (k4 x4 x5 q0 w3003)) (axo x4 x5 (aD.enc q0) (List.map aK.enc w3003))) (x4 x5 x16 : Int) (x17 : Bool) (q0 : aD) (w3003 : List aK) : Le (Option.map fX (tM k4 x4 x5 x16 x17 q0 w3003)) (aDI x4 x5 x16 x17 (aD.enc q0) (List.map aK.enc w3003)) := by
 refine Le.trans ?_ (le_of_eq ((aZ au4).trans (aD5 ..)).symm)
 unfold tM
 refine lQ eX eA (eF _ _) fun r1 _ => ?_
 refine lQ eX bQ (cJ _) fun r2 _ => ?_
 refine lQ eX bQ (oF _ _) fun r3 _ => ?_
 refine lG (by simp only [EN]) ?_
 (try simp only [EN]); exact hk4 x4 (w6 (x5 + 1)) r3.2 (w3003 ++ [(aK.mk r1.1 r2.1 (r3.1 == 1))])
theorem afQ : ∀ (fu : Nat) (x4 x5 : Int) (q0 : aD) (w3003 : List aK), Le (Option.map fX (mQ fu x4 x5 q0 w3003)) (axo x4 x5 (aD.enc q0) (List.map aK.enc w3003)) := by
 intro fu
 induction fu with
 | zero => intros; exact le_none
 | succ fu ih =>
  intro x4 x5 q0 w3003
  refine Le.trans ?_ (le_of_eq ((aZ au4).trans (aE1 ..)).symm)
  unfold mQ
  refine lC ?_ ?_
  ·refine lC ?_ ?_
   ·exact afv _ (ih) x4 x5 q0.E (q0.E == 0) q0 w3003
   ·exact aJ rfl
  ·exact aJ rfl
theorem ain (p0 : aD) : Le (Option.map fX (pJ p0)) (bF SE 59 [.ptr 2000000000 0] [⟨97, (aD.avs p0)⟩] []) := by
 refine aW au4 rfl ?_
 refine Le.trans ?_ (le_of_eq (T59 ..).symm)
 unfold pJ
 refine lQ eX bQ (iC _ _) fun r0 _ => ?_
 (try simp only [EN]); exact afQ fuel r0.1 0 r0.2 []
def arv (C : aP) (Λ2 J : Lam) (a0 a1 a2 : Int) (a3 : Bool) (a4 : List D) (a5 a6 : Str) (a7 : Int) (a8 : Bool) (a9 a10 : Int) (a11 : Str) (a12 : Int) (a13 : List D) (a14 : List (List D)) : Res := lab SE C Λ2 J 105 1 [1, 1, 1, 1, 1, 1, 1, 1, 1, 1, 1, 0, 1, 0, 0, 1, 0, 0, 0] (aV [(0, .ptr 2000000000 0), (2, .ptr 1000000000 0), (3, .ptr 1000000001 0), (4, .d (.int .i64 a0)), (5, .d (.int .i64 a1)), (39, .ptr 2000000000 0), (40, .ptr 2000000000 0), (41, .ptr 2000000000 2), (42, .d (.int .i64 a2)), (43, .d (.bool a3))] [⟨42, (List.map AV.d a4)⟩, ⟨42, [.d (.str a5), .d (.str a6), .d (.int .i64 a7), .d (.bool a8), .d (.int .i64 a9), .d (.int .i64 a10), .d (.str a11), .d (.int .i64 a12), .row 50108]⟩] [⟨97, (List.map AV.d a13)⟩] [] [(50108, ⟨aG.ks, 128, 32, a14⟩)])
def amH (C : aP) (Λ2 J : Lam) (a0 a1 : Int) (a2 : List D) (a3 a4 : Str) (a5 : Int) (a6 : Bool) (a7 a8 : Int) (a9 : Str) (a10 : Int) (a11 : List D) (a12 : List (List D)) : Res := lab SE C Λ2 J 105 1 [1, 1, 1, 1, 1, 1, 1, 1, 1, 1, 1, 0, 1, 0] (aV [(0, .ptr 2000000000 0), (2, .ptr 1000000000 0), (3, .ptr 1000000001 0), (4, .d (.int .i64 a0)), (5, .d (.int .i64 a1))] [⟨42, (List.map AV.d a2)⟩, ⟨42, [.d (.str a3), .d (.str a4), .d (.int .i64 a5), .d (.bool a6), .d (.int .i64 a7), .d (.int .i64 a8), .d (.str a9), .d (.int .i64 a10), .row 50108]⟩] [⟨97, (List.map AV.d a11)⟩] [] [(50108, ⟨aG.ks, 128, 32, a12⟩)])
section
variable (Γ : Fun) (γ57 : Gm (Str × aD)) (γ58 γ64 γ60 : Gm (Int × aD)) (Λ2 J : Lam)
def aiW : aP := bB (bB (bB (bB (aR Γ) 57 dG γ57) 58 bC γ58) 64 bC γ64) 60 bC γ60
theorem aGH (p0 : aD) : bG SE (aiW Γ γ57 γ58 γ64 γ60) Λ2 J 105 [.ptr 2000000000 0] [⟨97, (aD.avs p0)⟩] [] =
 γ57 [.ptr 2000000000 0, .d (.int .i64 64)] [⟨97, (aD.avs p0)⟩] [] fun r0 =>
 γ57 [.ptr 2000000000 0, .d (.int .i64 256)] [⟨97, (aD.avs r0.2)⟩] [] fun r1 =>
 γ58 [.ptr 2000000000 0] [⟨97, (aD.avs r1.2)⟩] [] fun r2 =>
 γ64 [.ptr 2000000000 0, .d (.int .i64 2)] [⟨97, (aD.avs r2.2)⟩] [] fun r3 =>
 γ58 [.ptr 2000000000 0] [⟨97, (aD.avs r3.2)⟩] [] fun r4 =>
 γ58 [.ptr 2000000000 0] [⟨97, (aD.avs r4.2)⟩] [] fun r5 =>
 γ57 [.ptr 2000000000 0, .d (.int .i64 16)] [⟨97, (aD.avs r5.2)⟩] [] fun r6 =>
 γ58 [.ptr 2000000000 0] [⟨97, (aD.avs r6.2)⟩] [] fun r7 =>
 γ60 [.ptr 2000000000 0, .d (.int .i64 8)] [⟨97, (aD.avs r7.2)⟩] [] fun r8 =>
 amH (aiW Γ γ57 γ58 γ64 γ60) Λ2 J r8.1 0 [D.str [], D.str [], D.int .i64 0, D.bool false, D.int .i64 0, D.int .i64 0, D.str [], D.int .i64 0, D.sl aG.ks (List.map aG.enc [])] r0.1 r1.1 r2.1 (r3.1 == 1) r4.1 r5.1 r6.1 r7.1 (aD.enc r8.2) (List.map aG.enc []) := by kernel_rfl
theorem ayy (x4 x5 x42 : Int) (x43 : Bool) (b0 : aC) (b1_0 b1_1 : Str) (b1_2 : Int) (b1_3 : Bool) (b1_4 b1_5 : Int) (b1_6 : Str) (b1_7 : Int) (q0 : aD) (w50108 : List aG) : bW SE (aiW Γ γ57 γ58 γ64 γ60) Λ2 J 105 1 [1, 1, 1, 1, 1, 1, 1, 1, 1, 1, 1, 0, 1, 0, 0, 1, 0, 0, 0] (aV [(0, .ptr 2000000000 0), (2, .ptr 1000000000 0), (3, .ptr 1000000001 0), (4, .d (.int .i64 x4)), (5, .d (.int .i64 x5)), (39, .ptr 2000000000 0), (40, .ptr 2000000000 0), (41, .ptr 2000000000 2), (42, .d (.int .i64 x42)), (43, .d (.bool x43))] [⟨42, (List.map AV.d (aC.enc b0))⟩, ⟨42, [.d (.str b1_0), .d (.str b1_1), .d (.int .i64 b1_2), .d (.bool b1_3), .d (.int .i64 b1_4), .d (.int .i64 b1_5), .d (.str b1_6), .d (.int .i64 b1_7), .row 50108]⟩] [⟨97, (List.map AV.d (aD.enc q0))⟩] [] [(50108, ⟨aG.ks, 128, 32, (List.map aG.enc w50108)⟩)]) =
 γ57 [.ptr 2000000000 0, .d (.int .i64 16)] [⟨97, (aD.avs q0)⟩] [] fun r9 =>
 γ57 [.ptr 2000000000 0, .d (.int .i64 160)] [⟨97, (aD.avs r9.2)⟩] [] fun r10 =>
 cond (decide ((lM aG.enc w50108 + lM aG.enc [(aG.mk r9.1 r10.1)]) * 32 ≤ 140737488355328)) (
 amH (aiW Γ γ57 γ58 γ64 γ60) Λ2 J x4 (w6 (x5 + 1)) (aC.enc b0) b1_0 b1_1 b1_2 b1_3 b1_4 b1_5 b1_6 b1_7 (aD.enc r10.2) (((List.map aG.enc w50108) ++ (List.map aG.enc [(aG.mk r9.1 r10.1)])))) none := by kernel_rfl
theorem ayj (x4 x5 : Int) (b0 : aC) (b1_0 b1_1 : Str) (b1_2 : Int) (b1_3 : Bool) (b1_4 b1_5 : Int) (b1_6 : Str) (b1_7 : Int) (q0 : aD) (w50108 : List aG) : bW SE (aiW Γ γ57 γ58 γ64 γ60) Λ2 J 105 1 [1, 1, 1, 1, 1, 1, 1, 1, 1, 1, 1, 0, 1, 0] (aV [(0, .ptr 2000000000 0), (2, .ptr 1000000000 0), (3, .ptr 1000000001 0), (4, .d (.int .i64 x4)), (5, .d (.int .i64 x5))] [⟨42, (List.map AV.d (aC.enc b0))⟩, ⟨42, [.d (.str b1_0), .d (.str b1_1), .d (.int .i64 b1_2), .d (.bool b1_3), .d (.int .i64 b1_4), .d (.int .i64 b1_5), .d (.str b1_6), .d (.int .i64 b1_7), .row 50108]⟩] [⟨97, (List.map AV.d (aD.enc q0))⟩] [] [(50108, ⟨aG.ks, 128, 32, (List.map aG.enc w50108)⟩)]) =
 cond (decide (x5 < x4)) (
 cond (q0.E == 0) (
  arv (aiW Γ γ57 γ58 γ64 γ60) Λ2 J x4 x5 q0.E (q0.E == 0) (aC.enc b0) b1_0 b1_1 b1_2 b1_3 b1_4 b1_5 b1_6 b1_7 (aD.enc q0) (List.map aG.enc w50108)) (
 (some (.ret [.agg [.d (.str b1_0), .d (.str b1_1), .d (.int .i64 b1_2), .d (.bool b1_3), .d (.int .i64 b1_4), .d (.int .i64 b1_5), .d (.str b1_6), .d (.int .i64 b1_7), .row 0]] [⟨97, (aD.avs q0)⟩] [⟨aG.ks, 128, 32, (List.map aG.enc w50108)⟩])))) (
 (some (.ret [.agg [.d (.str b1_0), .d (.str b1_1), .d (.int .i64 b1_2), .d (.bool b1_3), .d (.int .i64 b1_4), .d (.int .i64 b1_5), .d (.str b1_6), .d (.int .i64 b1_7), .row 0]] [⟨97, (aD.avs q0)⟩] [⟨aG.ks, 128, 32, (List.map aG.enc w50108)⟩]))) := by kernel_rfl
end
abbrev ans : aP := aiW gG (cT 57 dG) (cT 58 bC) (cT 64 bC) (cT 60 bC)
theorem ar2 : ans = aR gG := by unfold ans aiW; repeat rw [bD fun _ h => h]
abbrev ayw := arv ans (bV SE gG (SE.hl 105) (SE.hr 105)) (J0 SE ans)
abbrev ars := amH ans (bV SE gG (SE.hl 105) (SE.hr 105)) (J0 SE ans)
theorem yB (k12 : Int → Int → aC → Str → Str → Int → Bool → Int → Int → Str → Int → aD → (List aG) → Option (aC × aD)) (hk12 : ∀ (x4 x5 : Int) (b0 : aC) (b1_0 b1_1 : Str) (b1_2 : Int) (b1_3 : Bool) (b1_4 b1_5 : Int) (b1_6 : Str) (b1_7 : Int) (q0 : aD) (w50108 : List aG), Le (Option.map bY (k12 x4 x5 b0 b1_0 b1_1 b1_2 b1_3 b1_4 b1_5 b1_6 b1_7 q0 w50108)) (ars x4 x5 (aC.enc b0) b1_0 b1_1 b1_2 b1_3 b1_4 b1_5 b1_6 b1_7 (aD.enc q0) (List.map aG.enc w50108))) (x4 x5 x42 : Int) (x43 : Bool) (b0 : aC) (b1_0 b1_1 : Str) (b1_2 : Int) (b1_3 : Bool) (b1_4 b1_5 : Int) (b1_6 : Str) (b1_7 : Int) (q0 : aD) (w50108 : List aG) : Le (Option.map bY (jP k12 x4 x5 x42 x43 b0 b1_0 b1_1 b1_2 b1_3 b1_4 b1_5 b1_6 b1_7 q0 w50108)) (ayw x4 x5 x42 x43 (aC.enc b0) b1_0 b1_1 b1_2 b1_3 b1_4 b1_5 b1_6 b1_7 (aD.enc q0) (List.map aG.enc w50108)) := by
 refine Le.trans ?_ (le_of_eq ((aZ ar2).trans (ayy ..)).symm)
 unfold jP
 refine lQ eX eA (eF _ _) fun r9 _ => ?_
 refine lQ eX eA (eF _ _) fun r10 _ => ?_
 refine lG (by simp only [EN]) ?_
 (try simp only [EN]); exact hk12 x4 (w6 (x5 + 1)) b0 b1_0 b1_1 b1_2 b1_3 b1_4 b1_5 b1_6 b1_7 r10.2 (w50108 ++ [(aG.mk r9.1 r10.1)])
theorem y9 : ∀ (fu : Nat) (x4 x5 : Int) (b0 : aC) (b1_0 b1_1 : Str) (b1_2 : Int) (b1_3 : Bool) (b1_4 b1_5 : Int) (b1_6 : Str) (b1_7 : Int) (q0 : aD) (w50108 : List aG), Le (Option.map bY (fC fu x4 x5 b0 b1_0 b1_1 b1_2 b1_3 b1_4 b1_5 b1_6 b1_7 q0 w50108)) (ars x4 x5 (aC.enc b0) b1_0 b1_1 b1_2 b1_3 b1_4 b1_5 b1_6 b1_7 (aD.enc q0) (List.map aG.enc w50108)) := by
 intro fu
 induction fu with
 | zero => intros; exact le_none
 | succ fu ih =>
  intro x4 x5 b0 b1_0 b1_1 b1_2 b1_3 b1_4 b1_5 b1_6 b1_7 q0 w50108
  refine Le.trans ?_ (le_of_eq ((aZ ar2).trans (ayj ..)).symm)
  unfold fC
  refine lC ?_ ?_
  ·refine lC ?_ ?_
   ·exact yB _ (ih) x4 x5 q0.E (q0.E == 0) b0 b1_0 b1_1 b1_2 b1_3 b1_4 b1_5 b1_6 b1_7 q0 w50108
   ·exact aJ rfl
  ·exact aJ rfl
theorem aaH (p0 : aD) : Le (Option.map bY (iX p0)) (bF SE 105 [.ptr 2000000000 0] [⟨97, (aD.avs p0)⟩] []) := by
 refine aW ar2 rfl ?_
 refine Le.trans ?_ (le_of_eq (aGH ..).symm)
 unfold iX
 refine lQ eX eA (eF _ _) fun r0 _ => ?_
 refine lQ eX eA (eF _ _) fun r1 _ => ?_
 refine lQ eX bQ (cJ _) fun r2 _ => ?_
 refine lQ eX bQ (oF _ _) fun r3 _ => ?_
 refine lQ eX bQ (cJ _) fun r4 _ => ?_
 refine lQ eX bQ (cJ _) fun r5 _ => ?_
 refine lQ eX eA (eF _ _) fun r6 _ => ?_
 refine lQ eX bQ (cJ _) fun r7 _ => ?_
 refine lQ eX bQ (iC _ _) fun r8 _ => ?_
 (try simp only [EN]); exact y9 fuel r8.1 0 ((aC.mk [] [] 0 false 0 0 [] 0 [])) r0.1 r1.1 r2.1 (r3.1 == 1) r4.1 r5.1 r6.1 r7.1 r8.2 []
def aoW (C : aP) (Λ2 J : Lam) (a0 : Str) (a1 a2 : Int) : Res := lab SE C Λ2 J 148 0 [1, 0, 1, 0] (aV [(0, .d (.str a0)), (1, .d (.int .u8 a1)), (5, .d (.int .i64 a2))] [] [] [] [])
section
variable (Γ : Fun)  (Λ2 J : Lam)
def apA : aP := aR Γ
theorem aFH (p0 : Str) (p1 : Int) : bG SE (apA Γ) Λ2 J 148 [.d (.str p0), .d (.int .u8 p1)] [] [] =
 aoW (apA Γ) Λ2 J p0 p1 0 := by kernel_rfl
theorem az9 (x0 : Str) (x1 x5 : Int) : bW SE (apA Γ) Λ2 J 148 0 [1, 0, 1, 0] (aV [(0, .d (.str x0)), (1, .d (.int .u8 x1)), (5, .d (.int .i64 x5))] [] [] [] []) =
 cond (decide (x5 < (List.length x0 : Int))) (
 cond (iB x5 (List.length x0 : Int)) (
  cond ((UInt8.toNat (List.getD x0 (Int.toNat x5) 0) : Int) == x1) (
  (rB true)) (
  aoW (apA Γ) Λ2 J x0 x1 (w6 (x5 + 1)))) none) (
 (rB false)) := by kernel_rfl
end
abbrev awB : aP := apA gG
theorem axI : awB = aR gG := rfl
abbrev ay8 := aoW awB (bV SE gG (SE.hl 148) (SE.hr 148)) (J0 SE awB)
theorem agA : ∀ (fu : Nat) (x0 : Str) (x1 x5 : Int), Le (Option.map aF (lS fu x0 x1 x5)) (ay8 x0 x1 x5) := by
 intro fu
 induction fu with
 | zero => intros; exact le_none
 | succ fu ih =>
  intro x0 x1 x5
  refine Le.trans ?_ (le_of_eq ((aZ axI).trans (az9 ..)).symm)
  unfold lS
  refine lC ?_ ?_
  ·refine lF ?_
   refine lC ?_ ?_
   ·exact aJ rfl
   ·exact ih x0 x1 (w6 (x5 + 1))
  ·exact aJ rfl
theorem p7 (p0 : Str) (p1 : Int) : Le (Option.map aF (kO p0 p1)) (bF SE 148 [.d (.str p0), .d (.int .u8 p1)] [] []) := by
 refine aW axI rfl ?_
 refine Le.trans ?_ (le_of_eq (aFH ..).symm)
 unfold kO
 exact agA fuel p0 p1 0
def amn (C : aP) (Λ2 J : Lam) (a0 : Str) (a1 a2 : Int) (a3 : List (List D)) : Res := lab SE C Λ2 J 163 0 [1, 1, 1, 0, 1, 0] (aV [(0, .d (.str a0)), (3, .row 3003), (4, .d (.int .i64 a1)), (5, .d (.int .i64 a2))] [] [] [] [(3003, ⟨[.str], 9, 16, a3⟩)])
section
variable (Γ : Fun)  (Λ2 J : Lam)
def anu : aP := aR Γ
theorem aF1 (p0 : Str) : bG SE (anu Γ) Λ2 J 163 [.d (.str p0)] [] [] =
 amn (anu Γ) Λ2 J p0 0 0 (List.map cU []) := by kernel_rfl
theorem aAq (x0 : Str) (x4 x5 : Int) (w3003 : List Str) : bW SE (anu Γ) Λ2 J 163 0 [1, 1, 1, 0, 1, 0] (aV [(0, .d (.str x0)), (3, .row 3003), (4, .d (.int .i64 x4)), (5, .d (.int .i64 x5))] [] [] [] [(3003, ⟨[.str], 9, 16, (List.map cU w3003)⟩)]) =
 cond (decide (x5 < (List.length x0 : Int))) (
 cond (iB x5 (List.length x0 : Int)) (
  cond ((UInt8.toNat (List.getD x0 (Int.toNat x5) 0) : Int) == 47) (
  cond (decide (0 ≤ x5) && decide (x5 ≤ ((List.length x0) : Int))) (
   cond (decide (0 ≤ x4) && decide (x4 ≤ x5)) (
   cond (decide ((lM cU w3003 + lM cU [(dB x0 (some x4) (some x5))]) * 16 ≤ 140737488355328)) (
    amn (anu Γ) Λ2 J x0 (w6 (x5 + 1)) (w6 (x5 + 1)) (((List.map cU w3003) ++ (List.map cU [(dB x0 (some x4) (some x5))])))) none) none) none) (
  amn (anu Γ) Λ2 J x0 x4 (w6 (x5 + 1)) (List.map cU w3003))) none) (
 cond (decide (0 ≤ x4) && decide (x4 ≤ ((List.length x0) : Int))) (
 cond (decide ((lM cU w3003 + lM cU [(dB x0 (some x4) none)]) * 16 ≤ 140737488355328)) (
  (some (.ret [.row 0] [] [⟨[.str], 9, 16, ((List.map cU w3003) ++ (List.map cU [(dB x0 (some x4) none)]))⟩]))) none) none) := by kernel_rfl
end
abbrev auY : aP := anu gG
theorem axR : auY = aR gG := rfl
abbrev aAB := amn auY (bV SE gG (SE.hl 163) (SE.hr 163)) (J0 SE auY)
theorem ael : ∀ (fu : Nat) (x0 : Str) (x4 x5 : Int) (w3003 : List Str), Le (Option.map eR (gW fu x0 x4 x5 w3003)) (aAB x0 x4 x5 (List.map cU w3003)) := by
 intro fu
 induction fu with
 | zero => intros; exact le_none
 | succ fu ih =>
  intro x0 x4 x5 w3003
  refine Le.trans ?_ (le_of_eq ((aZ axR).trans (aAq ..)).symm)
  unfold gW
  refine lC ?_ ?_
  ·refine lF ?_
   refine lC ?_ ?_
   ·refine lF ?_
    refine lF ?_
    refine lG (by simp only [EN]) ?_
    (try simp only [EN]); exact ih x0 (w6 (x5 + 1)) (w6 (x5 + 1)) ((w3003 ++ [(dB x0 (some x4) (some x5))]))
   ·exact ih x0 x4 (w6 (x5 + 1)) w3003
  ·refine lF ?_
   refine lG (by simp only [EN]) ?_
   exact aJ (by first | rfl | simp only [EN, eR] <;> rfl)
theorem aaX (p0 : Str) : Le (Option.map eR (qG p0)) (bF SE 163 [.d (.str p0)] [] []) := by
 refine aW axR rfl ?_
 refine Le.trans ?_ (le_of_eq (aF1 ..).symm)
 unfold qG
 (try simp only [EN]); exact ael fuel p0 0 0 []
section
variable (Γ : Fun) (γ148 : Gm (Bool)) (γ163 : Gm ((List Str))) (Λ2 J : Lam)
def avE : aP := bB (bB (aR Γ) 148 aF γ148) 163 eR γ163
theorem aH0 (p0 : Str) : bG SE (avE Γ γ148 γ163) Λ2 J 147 [.d (.str p0)] [] [] =
 cond (decide ((List.length p0 : Int) ≥ 1)) (
 cond (decide ((List.length p0 : Int) ≤ 64)) (
  γ148 [.d (.str p0), .d (.int .u8 0)] [] [] fun r0 =>
  cond (!r0) (
  γ163 [.d (.str p0)] [] [] fun r1 =>
  (rB (decide ((lM cU r1 : Int) ≤ 8)))) (
  (rB false))) (
 (rB false))) (
 (rB false)) := by kernel_rfl
end
abbrev aBD : aP := avE gG (cT 148 aF) (cT 163 eR)
theorem aEP : aBD = aR gG := by unfold aBD avE; repeat rw [bD fun _ h => h]
theorem abi (p0 : Str) : Le (Option.map aF (oQ p0)) (bF SE 147 [.d (.str p0)] [] []) := by
 refine aW aEP rfl ?_
 refine Le.trans ?_ (le_of_eq (aH0 ..).symm)
 unfold oQ
 refine lC ?_ ?_
 ·refine lC ?_ ?_
  ·refine lQ eX aQ (p7 _ _) fun r0 _ => ?_
   refine lC ?_ ?_
   ·refine lQ eX aam (aaX _) fun r1 _ => ?_
    exact aJ (by first | rfl | simp only [EN, aF] <;> rfl)
   ·exact aJ rfl
  ·exact aJ rfl
 ·exact aJ rfl
section
variable (Γ : Fun) (γ147 γ148 : Gm (Bool)) (Λ2 J : Lam)
def avF : aP := bB (bB (aR Γ) 147 aF γ147) 148 aF γ148
theorem aGP (p0 : Str) : bG SE (avF Γ γ147 γ148) Λ2 J 130 [.d (.str p0)] [] [] =
 γ147 [.d (.str p0)] [] [] fun r0 =>
 cond r0 (
 γ148 [.d (.str p0), .d (.int .u8 43)] [] [] fun r1 =>
 cond (!r1) (
  γ148 [.d (.str p0), .d (.int .u8 35)] [] [] fun r2 =>
  (rB (!r2))) (
 (rB false))) (
 (rB false)) := by kernel_rfl
end
abbrev aBt : aP := avF gG (cT 147 aF) (cT 148 aF)
theorem aFf : aBt = aR gG := by unfold aBt avF; repeat rw [bD fun _ h => h]
theorem ahJ (p0 : Str) : Le (Option.map aF (rQ p0)) (bF SE 130 [.d (.str p0)] [] []) := by
 refine aW aFf rfl ?_
 refine Le.trans ?_ (le_of_eq (aGP ..).symm)
 unfold rQ
 refine lQ eX aQ (abi _) fun r0 _ => ?_
 refine lC ?_ ?_
 ·refine lQ eX aQ (p7 _ _) fun r1 _ => ?_
  refine lC ?_ ?_
  ·refine lQ eX aQ (p7 _ _) fun r2 _ => ?_
   exact aJ rfl
  ·exact aJ rfl
 ·exact aJ rfl
section
variable (Γ : Fun)  (Λ2 J : Lam)
def C84 : aP := aR Γ
theorem T84 (p0 : Int) : bG SE (C84 Γ) Λ2 J 84 [.d (.int .u8 p0)] [] [] =
 cond (decide (p0 ≥ 97)) (
 (rB (decide (p0 ≤ 122)))) (
 (rB false)) := by kernel_rfl
end
abbrev X84 : aP := C84 gG
theorem aHn : X84 = aR gG := rfl
theorem abC (p0 : Int) : Le (Option.map aF (oN p0)) (bF SE 84 [.d (.int .u8 p0)] [] []) := by
 refine aW aHn rfl ?_
 refine Le.trans ?_ (le_of_eq (T84 ..).symm)
 unfold oN
 refine lC ?_ ?_
 ·exact aJ rfl
 ·exact aJ rfl
section
variable (Γ : Fun)  (Λ2 J : Lam)
def C85 : aP := aR Γ
theorem T85 (p0 : Int) : bG SE (C85 Γ) Λ2 J 85 [.d (.int .u8 p0)] [] [] =
 cond (decide (p0 ≥ 48)) (
 (rB (decide (p0 ≤ 57)))) (
 (rB false)) := by kernel_rfl
end
abbrev X85 : aP := C85 gG
theorem aG1 : X85 = aR gG := rfl
theorem ahc (p0 : Int) : Le (Option.map aF (rM p0)) (bF SE 85 [.d (.int .u8 p0)] [] []) := by
 refine aW aG1 rfl ?_
 refine Le.trans ?_ (le_of_eq (T85 ..).symm)
 unfold rM
 refine lC ?_ ?_
 ·exact aJ rfl
 ·exact aJ rfl
def als (C : aP) (Λ2 J : Lam) (a0 : Str) (a1 : Int) : Res := lab SE C Λ2 J 33 0 [1, 1, 0, 1, 0] (aV [(0, .d (.str a0)), (3, .d (.int .i64 a1))] [] [] [] [])
def axO (C : aP) (Λ2 J : Lam) (a0 : Str) : Res := lab SE C Λ2 J 33 0 [1, 1, 0, 0] (aV [(0, .d (.str a0))] [] [] [] [])
section
variable (Γ : Fun) (γ84 γ85 : Gm (Bool)) (Λ2 J : Lam)
def C33 : aP := bB (bB (aR Γ) 84 aF γ84) 85 aF γ85
theorem T33 (p0 : Str) : bG SE (C33 Γ γ84 γ85) Λ2 J 33 [.d (.str p0)] [] [] =
 cond (decide ((List.length p0 : Int) < 1)) (
 (rB false)) (
 cond (decide ((List.length p0 : Int) > 16)) (
 (rB false)) (
 cond (decide (0 ≤ 0) && decide (0 < (List.length p0 : Int))) (
 γ84 [.d (.int .u8 (UInt8.toNat (List.getD p0 (Int.toNat 0) 0) : Int))] [] [] fun r0 =>
 cond (!r0) (
  (rB false)) (
 axO (C33 Γ γ84 γ85) Λ2 J p0)) none)) := by kernel_rfl
theorem aCP (x0 : Str) (x3 : Int) : bW SE (C33 Γ γ84 γ85) Λ2 J 33 0 [1, 1, 0, 1, 0] (aV [(0, .d (.str x0)), (3, .d (.int .i64 x3))] [] [] [] []) =
 cond (decide (x3 < (List.length x0 : Int))) (
 cond (iB x3 (List.length x0 : Int)) (
  γ84 [.d (.int .u8 (UInt8.toNat (List.getD x0 (Int.toNat x3) 0) : Int))] [] [] fun r1 =>
  cond (!r1) (
  cond (iB x3 (List.length x0 : Int)) (
   γ85 [.d (.int .u8 (UInt8.toNat (List.getD x0 (Int.toNat x3) 0) : Int))] [] [] fun r2 =>
   cond (!r2) (
   cond (iB x3 (List.length x0 : Int)) (
    cond ((UInt8.toNat (List.getD x0 (Int.toNat x3) 0) : Int) != 45) (
    (rB false)) (
    als (C33 Γ γ84 γ85) Λ2 J x0 (w6 (x3 + 1)))) none) (
   als (C33 Γ γ84 γ85) Λ2 J x0 (w6 (x3 + 1)))) none) (
  als (C33 Γ γ84 γ85) Λ2 J x0 (w6 (x3 + 1)))) none) (
 (rB true)) := by kernel_rfl
theorem aEL (x0 : Str) : bW SE (C33 Γ γ84 γ85) Λ2 J 33 0 [1, 1, 0, 0] (aV [(0, .d (.str x0))] [] [] [] []) =
 als (C33 Γ γ84 γ85) Λ2 J x0 0 := by kernel_rfl
end
abbrev X33 : aP := C33 gG (cT 84 aF) (cT 85 aF)
theorem avb : X33 = aR gG := by unfold X33 C33; repeat rw [bD fun _ h => h]
abbrev aCH := als X33 (bV SE gG (SE.hl 33) (SE.hr 33)) (J0 SE X33)
abbrev aDh := axO X33 (bV SE gG (SE.hl 33) (SE.hr 33)) (J0 SE X33)
theorem afK : ∀ (fu : Nat) (x0 : Str) (x3 : Int), Le (Option.map aF (gT fu x0 x3)) (aCH x0 x3) := by
 intro fu
 induction fu with
 | zero => intros; exact le_none
 | succ fu ih =>
  intro x0 x3
  refine Le.trans ?_ (le_of_eq ((aZ avb).trans (aCP ..)).symm)
  unfold gT
  refine lC ?_ ?_
  ·refine lF ?_
   refine lQ eX aQ (abC _) fun r1 _ => ?_
   refine lC ?_ ?_
   ·refine lF ?_
    refine lQ eX aQ (ahc _) fun r2 _ => ?_
    refine lC ?_ ?_
    ·refine lF ?_
     refine lC ?_ ?_
     ·exact aJ rfl
     ·exact ih x0 (w6 (x3 + 1))
    ·exact ih x0 (w6 (x3 + 1))
   ·exact ih x0 (w6 (x3 + 1))
  ·exact aJ rfl
theorem afD (x0 : Str) : Le (Option.map aF (tG x0)) (aDh x0) := by
 refine Le.trans ?_ (le_of_eq ((aZ avb).trans (aEL ..)).symm)
 unfold tG
 exact afK fuel x0 0
theorem mU (p0 : Str) : Le (Option.map aF (fQ p0)) (bF SE 33 [.d (.str p0)] [] []) := by
 refine aW avb rfl ?_
 refine Le.trans ?_ (le_of_eq (T33 ..).symm)
 unfold fQ
 refine lC ?_ ?_
 ·exact aJ rfl
 ·refine lC ?_ ?_
  ·exact aJ rfl
  ·refine lF ?_
   refine lQ eX aQ (abC _) fun r0 _ => ?_
   refine lC ?_ ?_
   ·exact aJ rfl
   ·exact afD p0
def abJ (C : aP) (Λ2 J : Lam) (a0 : Str) (a1 : Int) : Res := lab SE C Λ2 J 149 0 [1, 1, 0, 1, 0] (aV [(0, .d (.str a0)), (3, .d (.int .i64 a1))] [] [] [] [])
def auJ (C : aP) (Λ2 J : Lam) (a0 : Str) : Res := lab SE C Λ2 J 149 0 [1, 1, 0, 0] (aV [(0, .d (.str a0))] [] [] [] [])
section
variable (Γ : Fun)  (Λ2 J : Lam)
def acn : aP := aR Γ
theorem aG3 (p0 : Str) : bG SE (acn Γ) Λ2 J 149 [.d (.str p0)] [] [] =
 cond (decide ((List.length p0 : Int) < 1)) (
 (rB false)) (
 cond (decide ((List.length p0 : Int) > 16)) (
 (rB false)) (
 auJ (acn Γ) Λ2 J p0)) := by kernel_rfl
theorem aBS (x0 : Str) (x3 : Int) : bW SE (acn Γ) Λ2 J 149 0 [1, 1, 0, 1, 0] (aV [(0, .d (.str x0)), (3, .d (.int .i64 x3))] [] [] [] []) =
 cond (decide (x3 < (List.length x0 : Int))) (
 cond (iB x3 (List.length x0 : Int)) (
  cond (decide ((UInt8.toNat (List.getD x0 (Int.toNat x3) 0) : Int) ≥ 97)) (
  cond (!(decide ((UInt8.toNat (List.getD x0 (Int.toNat x3) 0) : Int) ≤ 122))) (
   cond (decide ((UInt8.toNat (List.getD x0 (Int.toNat x3) 0) : Int) ≥ 48)) (
   cond (!(decide ((UInt8.toNat (List.getD x0 (Int.toNat x3) 0) : Int) ≤ 57))) (
    cond ((UInt8.toNat (List.getD x0 (Int.toNat x3) 0) : Int) != 45) (
    (rB false)) (
    abJ (acn Γ) Λ2 J x0 (w6 (x3 + 1)))) (
   abJ (acn Γ) Λ2 J x0 (w6 (x3 + 1)))) (
   cond ((UInt8.toNat (List.getD x0 (Int.toNat x3) 0) : Int) != 45) (
   (rB false)) (
   abJ (acn Γ) Λ2 J x0 (w6 (x3 + 1))))) (
  abJ (acn Γ) Λ2 J x0 (w6 (x3 + 1)))) (
  cond (decide ((UInt8.toNat (List.getD x0 (Int.toNat x3) 0) : Int) ≥ 48)) (
  cond (!(decide ((UInt8.toNat (List.getD x0 (Int.toNat x3) 0) : Int) ≤ 57))) (
   cond ((UInt8.toNat (List.getD x0 (Int.toNat x3) 0) : Int) != 45) (
   (rB false)) (
   abJ (acn Γ) Λ2 J x0 (w6 (x3 + 1)))) (
  abJ (acn Γ) Λ2 J x0 (w6 (x3 + 1)))) (
  cond ((UInt8.toNat (List.getD x0 (Int.toNat x3) 0) : Int) != 45) (
  (rB false)) (
  abJ (acn Γ) Λ2 J x0 (w6 (x3 + 1)))))) none) (
 (rB true)) := by kernel_rfl
theorem az2 (x0 : Str) : bW SE (acn Γ) Λ2 J 149 0 [1, 1, 0, 0] (aV [(0, .d (.str x0))] [] [] [] []) =
 abJ (acn Γ) Λ2 J x0 0 := by kernel_rfl
end
abbrev aoU : aP := acn gG
theorem as9 : aoU = aR gG := rfl
abbrev aAf := abJ aoU (bV SE gG (SE.hl 149) (SE.hr 149)) (J0 SE aoU)
abbrev aBH := auJ aoU (bV SE gG (SE.hl 149) (SE.hr 149)) (J0 SE aoU)
theorem agE : ∀ (fu : Nat) (x0 : Str) (x3 : Int), Le (Option.map aF (eJ fu x0 x3)) (aAf x0 x3) := by
 intro fu
 induction fu with
 | zero => intros; exact le_none
 | succ fu ih =>
  intro x0 x3
  refine Le.trans ?_ (le_of_eq ((aZ as9).trans (aBS ..)).symm)
  unfold eJ
  refine lC ?_ ?_
  ·refine lF ?_
   refine lC ?_ ?_
   ·refine lC ?_ ?_
    ·refine lC ?_ ?_
     ·refine lC ?_ ?_
      ·refine lC ?_ ?_
       ·exact aJ rfl
       ·exact ih x0 (w6 (x3 + 1))
      ·exact ih x0 (w6 (x3 + 1))
     ·refine lC ?_ ?_
      ·exact aJ rfl
      ·exact ih x0 (w6 (x3 + 1))
    ·exact ih x0 (w6 (x3 + 1))
   ·refine lC ?_ ?_
    ·refine lC ?_ ?_
     ·refine lC ?_ ?_
      ·exact aJ rfl
      ·exact ih x0 (w6 (x3 + 1))
     ·exact ih x0 (w6 (x3 + 1))
    ·refine lC ?_ ?_
     ·exact aJ rfl
     ·exact ih x0 (w6 (x3 + 1))
  ·exact aJ rfl
theorem agC (x0 : Str) : Le (Option.map aF (uR x0)) (aBH x0) := by
 refine Le.trans ?_ (le_of_eq ((aZ as9).trans (az2 ..)).symm)
 unfold uR
 exact agE fuel x0 0
theorem aiw (p0 : Str) : Le (Option.map aF (uB p0)) (bF SE 149 [.d (.str p0)] [] []) := by
 refine aW as9 rfl ?_
 refine Le.trans ?_ (le_of_eq (aG3 ..).symm)
 unfold uB
 refine lC ?_ ?_
 ·exact aJ rfl
 ·refine lC ?_ ?_
  ·exact aJ rfl
  ·exact agC p0
def alV (C : aP) (Λ2 J : Lam) (a0 : List (List D)) (a1 : Int) : Res := lab SE C Λ2 J 131 0 [1, 1, 0, 1, 0] (aV [(0, .d (.sl aG.ks a0)), (3, .d (.int .i64 a1))] [] [] [] [])
section
variable (Γ : Fun) (γ149 : Gm (Bool)) (Λ2 J : Lam)
def ak3 : aP := bB (aR Γ) 149 aF γ149
theorem aFW (p0 : List aG) : bG SE (ak3 Γ γ149) Λ2 J 131 [.d (.sl aG.ks (List.map aG.enc p0))] [] [] =
 cond (decide ((lM aG.enc p0 : Int) > 8)) (
 (rI 5)) (
 alV (ak3 Γ γ149) Λ2 J (List.map aG.enc p0) 0) := by kernel_rfl
theorem aza (x0 : List aG) (x3 : Int) : bW SE (ak3 Γ γ149) Λ2 J 131 0 [1, 1, 0, 1, 0] (aV [(0, .d (.sl aG.ks (List.map aG.enc x0))), (3, .d (.int .i64 x3))] [] [] [] []) =
 cond (decide (x3 < (lM aG.enc x0 : Int))) (
 cond (iB x3 (lM aG.enc x0 : Int)) (
  γ149 [.d (.str (bL (cE aG.enc x0 x3 0)))] [] [] fun r0 =>
  cond (!r0) (
  (rI 16)) (
  cond (iB x3 (lM aG.enc x0 : Int)) (
  cond (decide ((List.length (bL (cE aG.enc x0 x3 1)) : Int) > 160)) (
   (rI 5)) (
  cond (decide (x3 > 0)) (
   cond (iB x3 (lM aG.enc x0 : Int)) (
   cond (iB (w6 (x3 - 1)) (lM aG.enc x0 : Int)) (
    cond (Op.bytesLess (bL (cE aG.enc x0 x3 0)) (bL (cE aG.enc x0 (w6 (x3 - 1)) 0)) || (bL (cE aG.enc x0 x3 0)) == (bL (cE aG.enc x0 (w6 (x3 - 1)) 0))) (
    (rI 16)) (
    alV (ak3 Γ γ149) Λ2 J (List.map aG.enc x0) (w6 (x3 + 1)))) none) none) (
  alV (ak3 Γ γ149) Λ2 J (List.map aG.enc x0) (w6 (x3 + 1))))) none)) none) (
 (rI 0)) := by kernel_rfl
end
abbrev asK : aP := ak3 gG (cT 149 aF)
theorem axN : asK = aR gG := by unfold asK ak3; rw [bD fun _ h => h]
abbrev aBd := alV asK (bV SE gG (SE.hl 131) (SE.hr 131)) (J0 SE asK)
theorem aeP : ∀ (fu : Nat) (x0 : List aG) (x3 : Int), Le (Option.map aB (iJ fu x0 x3)) (aBd (List.map aG.enc x0) x3) := by
 intro fu
 induction fu with
 | zero => intros; exact le_none
 | succ fu ih =>
  intro x0 x3
  refine Le.trans ?_ (le_of_eq ((aZ axN).trans (aza ..)).symm)
  unfold iJ
  refine lD (by simp only [EN]) ?_ ?_
  ·refine lG (by simp only [EN]) ?_
   refine lQ eX aQ (by (try simp only [EN]); exact aiw ((List.getD x0 (Int.toNat x3) default).Key)) fun r0 _ => ?_
   refine lC ?_ ?_
   ·exact aJ rfl
   ·refine lG (by simp only [EN]) ?_
    refine lD (by simp only [EN]) ?_ ?_
    ·exact aJ rfl
    ·refine lC ?_ ?_
     ·refine lG (by simp only [EN]) ?_
      refine lG (by simp only [EN]) ?_
      refine lD (by simp only [EN]) ?_ ?_
      ·exact aJ rfl
      ·exact ih x0 (w6 (x3 + 1))
     ·exact ih x0 (w6 (x3 + 1))
  ·exact aJ rfl
theorem ahq (p0 : List aG) : Le (Option.map aB (rP p0)) (bF SE 131 [.d (.sl aG.ks (List.map aG.enc p0))] [] []) := by
 refine aW axN rfl ?_
 refine Le.trans ?_ (le_of_eq (aFW ..).symm)
 unfold rP
 refine lD (by simp only [EN]) ?_ ?_
 ·exact aJ rfl
 ·exact aeP fuel p0 0
def amE (C : aP) (Λ2 J : Lam) (a0 : List D) : Res := lab SE C Λ2 J 106 0 [1, 1, 1, 1, 1, 1, 0, 0] (aV [(1, .ptr 1000000000 0)] [⟨42, (List.map AV.d a0)⟩] [] [] [])
def atv (C : aP) (Λ2 J : Lam) (a0 : List D) : Res := lab SE C Λ2 J 106 0 [1, 1, 1, 1, 1, 0, 0] (aV [(1, .ptr 1000000000 0)] [⟨42, (List.map AV.d a0)⟩] [] [] [])
def atT (C : aP) (Λ2 J : Lam) (a0 : List D) : Res := lab SE C Λ2 J 106 0 [1, 1, 1, 1, 0, 0] (aV [(1, .ptr 1000000000 0)] [⟨42, (List.map AV.d a0)⟩] [] [] [])
section
variable (Γ : Fun) (γ130 γ33 : Gm (Bool)) (γ131 : Gm (Int)) (Λ2 J : Lam)
def afT : aP := bB (bB (bB (aR Γ) 130 aF γ130) 33 aF γ33) 131 aB γ131
theorem aGZ (p0 : aC) : bG SE (afT Γ γ130 γ33 γ131) Λ2 J 106 [aC.av p0] [] [] =
 γ130 [.d (.str p0.Topic)] [] [] fun r0 =>
 cond (!r0) (
 (rI 12)) (
 cond (decide ((List.length p0.Payload : Int) > 256)) (
 (rI 5)) (
 cond (decide (p0.Level < 0)) (
 (rI 14)) (
 cond (decide (p0.Level > 2)) (
 (rI 14)) (
 atT (afT Γ γ130 γ33 γ131) Λ2 J (aC.enc p0))))) := by kernel_rfl
theorem ayA (b0 : aC) : bW SE (afT Γ γ130 γ33 γ131) Λ2 J 106 0 [1, 1, 1, 1, 1, 1, 0, 0] (aV [(1, .ptr 1000000000 0)] [⟨42, (List.map AV.d (aC.enc b0))⟩] [] [] []) =
 cond (decide (b0.Seq < 0)) (
 (rI 1)) (
 cond (decide (b0.Seq > 1099511627776)) (
 (rI 1)) (
 γ131 [.d (.sl aG.ks (List.map aG.enc b0.Props))] [] [] fun r2 =>
 (rI r2))) := by kernel_rfl
theorem aBa (b0 : aC) : bW SE (afT Γ γ130 γ33 γ131) Λ2 J 106 0 [1, 1, 1, 1, 1, 0, 0] (aV [(1, .ptr 1000000000 0)] [⟨42, (List.map AV.d (aC.enc b0))⟩] [] [] []) =
 cond (!(b0.From == ([] : Str))) (
 γ33 [.d (.str b0.From)] [] [] fun r1 =>
 cond (!r1) (
  (rI 11)) (
 amE (afT Γ γ130 γ33 γ131) Λ2 J (aC.enc b0))) (
 amE (afT Γ γ130 γ33 γ131) Λ2 J (aC.enc b0)) := by kernel_rfl
theorem azX (b0 : aC) : bW SE (afT Γ γ130 γ33 γ131) Λ2 J 106 0 [1, 1, 1, 1, 0, 0] (aV [(1, .ptr 1000000000 0)] [⟨42, (List.map AV.d (aC.enc b0))⟩] [] [] []) =
 cond (decide (b0.Priority < 0)) (
 (rI 1)) (
 cond (decide (b0.Priority > 9)) (
 (rI 1)) (
 cond (decide (b0.Expires < 0)) (
 (rI 1)) (
 cond (decide (b0.Expires > 1099511627776)) (
 (rI 1)) (
 atv (afT Γ γ130 γ33 γ131) Λ2 J (aC.enc b0))))) := by kernel_rfl
end
abbrev aiN : aP := afT gG (cT 130 aF) (cT 33 aF) (cT 131 aB)
theorem aoP : aiN = aR gG := by unfold aiN afT; repeat rw [bD fun _ h => h]
abbrev aym := amE aiN (bV SE gG (SE.hl 106) (SE.hr 106)) (J0 SE aiN)
abbrev aAI := atv aiN (bV SE gG (SE.hl 106) (SE.hr 106)) (J0 SE aiN)
abbrev ayO := atT aiN (bV SE gG (SE.hl 106) (SE.hr 106)) (J0 SE aiN)
theorem yI (b0 : aC) : Le (Option.map aB (kW b0)) (aym (aC.enc b0)) := by
 refine Le.trans ?_ (le_of_eq ((aZ aoP).trans (ayA ..)).symm)
 unfold kW
 refine lC ?_ ?_
 ·exact aJ rfl
 ·refine lC ?_ ?_
  ·exact aJ rfl
  ·refine lQ eX aM (ahq _) fun r2 _ => ?_
   exact aJ rfl
theorem aeY (b0 : aC) : Le (Option.map aB (oK b0)) (aAI (aC.enc b0)) := by
 refine Le.trans ?_ (le_of_eq ((aZ aoP).trans (aBa ..)).symm)
 unfold oK
 refine lC ?_ ?_
 ·refine lQ eX aQ (mU _) fun r1 _ => ?_
  refine lC ?_ ?_
  ·exact aJ rfl
  ·exact yI b0
 ·exact yI b0
theorem aeU (b0 : aC) : Le (Option.map aB (oH b0)) (ayO (aC.enc b0)) := by
 refine Le.trans ?_ (le_of_eq ((aZ aoP).trans (azX ..)).symm)
 unfold oH
 refine lC ?_ ?_
 ·exact aJ rfl
 ·refine lC ?_ ?_
  ·exact aJ rfl
  ·refine lC ?_ ?_
   ·exact aJ rfl
   ·refine lC ?_ ?_
    ·exact aJ rfl
    ·exact aeY b0
theorem sB (p0 : aC) : Le (Option.map aB (hJ p0)) (bF SE 106 [aC.av p0] [] []) := by
 refine aW aoP rfl ?_
 refine Le.trans ?_ (le_of_eq (aGZ ..).symm)
 unfold hJ
 refine lQ eX aQ (ahJ _) fun r0 _ => ?_
 refine lC ?_ ?_
 ·exact aJ rfl
 ·refine lC ?_ ?_
  ·exact aJ rfl
  ·refine lC ?_ ?_
   ·exact aJ rfl
   ·refine lC ?_ ?_
    ·exact aJ rfl
    ·exact aeU p0
section
variable (Γ : Fun) (γ105 : Gm (aC × aD)) (γ106 : Gm (Int)) (Λ2 J : Lam)
def C61 : aP := bB (bB (aR Γ) 105 bY γ105) 106 aB γ106
theorem T61 (p0 : aD) : bG SE (C61 Γ γ105 γ106) Λ2 J 61 [.ptr 2000000000 0] [⟨97, (aD.avs p0)⟩] [] =
 γ105 [.ptr 2000000000 0] [⟨97, (aD.avs p0)⟩] [] fun r0 =>
 cond (r0.2.E == 0) (
 γ106 [aC.av r0.1] [] [] fun r1 =>
 (some (.ret [.agg [.d (.str r0.1.Topic), .d (.str r0.1.Payload), .d (.int .i64 r0.1.Level), .d (.bool r0.1.Retain), .d (.int .i64 r0.1.Priority), .d (.int .i64 r0.1.Expires), .d (.str r0.1.From), .d (.int .i64 r0.1.Seq), .row 0]] [⟨97, (aD.avs (aD.mk r0.2.B r0.2.At r1))⟩] [⟨aG.ks, 128, 32, (List.map aG.enc r0.1.Props)⟩]))) (
 (some (.ret [.agg [.d (.str r0.1.Topic), .d (.str r0.1.Payload), .d (.int .i64 r0.1.Level), .d (.bool r0.1.Retain), .d (.int .i64 r0.1.Priority), .d (.int .i64 r0.1.Expires), .d (.str r0.1.From), .d (.int .i64 r0.1.Seq), .row 0]] [⟨97, (aD.avs r0.2)⟩] [⟨aG.ks, 128, 32, (List.map aG.enc r0.1.Props)⟩]))) := by kernel_rfl
end
abbrev X61 : aP := C61 gG (cT 105 bY) (cT 106 aB)
theorem aGl : X61 = aR gG := by unfold X61 C61; repeat rw [bD fun _ h => h]
theorem uX (p0 : aD) : Le (Option.map bY (jB p0)) (bF SE 61 [.ptr 2000000000 0] [⟨97, (aD.avs p0)⟩] []) := by
 refine aW aGl rfl ?_
 refine Le.trans ?_ (le_of_eq (T61 ..).symm)
 unfold jB
 refine lQ eX jO (aaH _) fun r0 _ => ?_
 refine lC ?_ ?_
 ·refine lQ eX aM (sB _) fun r1 _ => ?_
  exact aJ rfl
 ·exact aJ rfl
def axC (C : aP) (Λ2 J : Lam) (a0 a1 a2 : Int) (a3 : Bool) (a4 : List D) (a5 : List (List D)) : Res := lab SE C Λ2 J 63 1 [1, 1, 1, 0, 1, 0, 0, 1, 0, 0] (aV [(0, .ptr 2000000000 0), (3, .row 3003), (4, .d (.int .i64 a0)), (5, .d (.int .i64 a1)), (12, .ptr 2000000000 0), (13, .ptr 2000000000 0), (14, .ptr 2000000000 2), (15, .d (.int .i64 a2)), (16, .d (.bool a3))] [] [⟨97, (List.map AV.d a4)⟩] [] [(3003, ⟨[.int .i64], 3, 8, a5⟩)])
def arL (C : aP) (Λ2 J : Lam) (a0 a1 : Int) (a2 : List D) (a3 : List (List D)) : Res := lab SE C Λ2 J 63 1 [1, 1, 1, 0, 1, 0] (aV [(0, .ptr 2000000000 0), (3, .row 3003), (4, .d (.int .i64 a0)), (5, .d (.int .i64 a1))] [] [⟨97, (List.map AV.d a2)⟩] [] [(3003, ⟨[.int .i64], 3, 8, a3⟩)])
section
variable (Γ : Fun) (γ60 γ58 : Gm (Int × aD)) (Λ2 J : Lam)
def C63 : aP := bB (bB (aR Γ) 60 bC γ60) 58 bC γ58
theorem T63 (p0 : aD) : bG SE (C63 Γ γ60 γ58) Λ2 J 63 [.ptr 2000000000 0] [⟨97, (aD.avs p0)⟩] [] =
 γ60 [.ptr 2000000000 0, .d (.int .i64 32)] [⟨97, (aD.avs p0)⟩] [] fun r0 =>
 arL (C63 Γ γ60 γ58) Λ2 J r0.1 0 (aD.enc r0.2) (List.map eI []) := by kernel_rfl
theorem aEc (x4 x5 x15 : Int) (x16 : Bool) (q0 : aD) (w3003 : List Int) : bW SE (C63 Γ γ60 γ58) Λ2 J 63 1 [1, 1, 1, 0, 1, 0, 0, 1, 0, 0] (aV [(0, .ptr 2000000000 0), (3, .row 3003), (4, .d (.int .i64 x4)), (5, .d (.int .i64 x5)), (12, .ptr 2000000000 0), (13, .ptr 2000000000 0), (14, .ptr 2000000000 2), (15, .d (.int .i64 x15)), (16, .d (.bool x16))] [] [⟨97, (List.map AV.d (aD.enc q0))⟩] [] [(3003, ⟨[.int .i64], 3, 8, (List.map eI w3003)⟩)]) =
 γ58 [.ptr 2000000000 0] [⟨97, (aD.avs q0)⟩] [] fun r1 =>
 cond (decide ((lM eI w3003 + lM eI [r1.1]) * 8 ≤ 140737488355328)) (
 arL (C63 Γ γ60 γ58) Λ2 J x4 (w6 (x5 + 1)) (aD.enc r1.2) (((List.map eI w3003) ++ (List.map eI [r1.1])))) none := by kernel_rfl
theorem aCN (x4 x5 : Int) (q0 : aD) (w3003 : List Int) : bW SE (C63 Γ γ60 γ58) Λ2 J 63 1 [1, 1, 1, 0, 1, 0] (aV [(0, .ptr 2000000000 0), (3, .row 3003), (4, .d (.int .i64 x4)), (5, .d (.int .i64 x5))] [] [⟨97, (List.map AV.d (aD.enc q0))⟩] [] [(3003, ⟨[.int .i64], 3, 8, (List.map eI w3003)⟩)]) =
 cond (decide (x5 < x4)) (
 cond (q0.E == 0) (
  axC (C63 Γ γ60 γ58) Λ2 J x4 x5 q0.E (q0.E == 0) (aD.enc q0) (List.map eI w3003)) (
 (some (.ret [.row 0] [⟨97, (aD.avs q0)⟩] [⟨[.int .i64], 3, 8, (List.map eI w3003)⟩])))) (
 (some (.ret [.row 0] [⟨97, (aD.avs q0)⟩] [⟨[.int .i64], 3, 8, (List.map eI w3003)⟩]))) := by kernel_rfl
end
abbrev X63 : aP := C63 gG (cT 60 bC) (cT 58 bC)
theorem avO : X63 = aR gG := by unfold X63 C63; repeat rw [bD fun _ h => h]
abbrev aDA := axC X63 (bV SE gG (SE.hl 63) (SE.hr 63)) (J0 SE X63)
abbrev axq := arL X63 (bV SE gG (SE.hl 63) (SE.hr 63)) (J0 SE X63)
theorem adv (k4 : Int → Int → aD → (List Int) → Option ((List Int) × aD)) (hk4 : ∀ (x4 x5 : Int) (q0 : aD) (w3003 : List Int), Le (Option.map dW (k4 x4 x5 q0 w3003)) (axq x4 x5 (aD.enc q0) (List.map eI w3003))) (x4 x5 x15 : Int) (x16 : Bool) (q0 : aD) (w3003 : List Int) : Le (Option.map dW (pT k4 x4 x5 x15 x16 q0 w3003)) (aDA x4 x5 x15 x16 (aD.enc q0) (List.map eI w3003)) := by
 refine Le.trans ?_ (le_of_eq ((aZ avO).trans (aEc ..)).symm)
 unfold pT
 refine lQ eX bQ (cJ _) fun r1 _ => ?_
 refine lG (by simp only [EN]) ?_
 (try simp only [EN]); exact hk4 x4 (w6 (x5 + 1)) r1.2 (w3003 ++ [r1.1])
theorem adB : ∀ (fu : Nat) (x4 x5 : Int) (q0 : aD) (w3003 : List Int), Le (Option.map dW (j7 fu x4 x5 q0 w3003)) (axq x4 x5 (aD.enc q0) (List.map eI w3003)) := by
 intro fu
 induction fu with
 | zero => intros; exact le_none
 | succ fu ih =>
  intro x4 x5 q0 w3003
  refine Le.trans ?_ (le_of_eq ((aZ avO).trans (aCN ..)).symm)
  unfold j7
  refine lC ?_ ?_
  ·refine lC ?_ ?_
   ·exact adv _ (ih) x4 x5 q0.E (q0.E == 0) q0 w3003
   ·exact aJ rfl
  ·exact aJ rfl
theorem aad (p0 : aD) : Le (Option.map dW (mS p0)) (bF SE 63 [.ptr 2000000000 0] [⟨97, (aD.avs p0)⟩] []) := by
 refine aW avO rfl ?_
 refine Le.trans ?_ (le_of_eq (T63 ..).symm)
 unfold mS
 refine lQ eX bQ (iC _ _) fun r0 _ => ?_
 (try simp only [EN]); exact adB fuel r0.1 0 r0.2 []
def axM (C : aP) (Λ2 J : Lam) (a0 a1 a2 : Int) (a3 : Bool) (a4 : List D) (a5 : Int) (a6 : List (List D)) (a7 : Int) (a8 : List D) (a9 : List (List D)) : Res := lab SE C Λ2 J 62 1 [1, 1, 1, 0, 1, 0, 0, 1, 0, 0, 0] (aV [(0, .ptr 2000000000 0), (2, .ptr 1000000000 0), (3, .ptr 1000000001 0), (4, .d (.int .i64 a0)), (5, .d (.int .i64 a1)), (16, .ptr 2000000000 0), (17, .ptr 2000000000 0), (18, .ptr 2000000000 2), (19, .d (.int .i64 a2)), (20, .d (.bool a3))] [⟨37, (List.map AV.d a4)⟩, ⟨37, [.d (.int .i64 a5), .row 50101, .d (.sl [.int .i64] a6), .d (.int .i64 a7)]⟩] [⟨97, (List.map AV.d a8)⟩] [] [(50101, ⟨aE.ks, 78, 128, a9⟩)])
def aqi (C : aP) (Λ2 J : Lam) (a0 : List D) (a1 : Int) (a2 : List (List D)) (a3 : Int) (a4 : List D) (a5 : List (List D)) : Res := lab SE C Λ2 J 62 1 [1, 1, 1, 1, 0] (aV [(0, .ptr 2000000000 0), (2, .ptr 1000000000 0), (3, .ptr 1000000001 0)] [⟨37, (List.map AV.d a0)⟩, ⟨37, [.d (.int .i64 a1), .row 50101, .d (.sl [.int .i64] a2), .d (.int .i64 a3)]⟩] [⟨97, (List.map AV.d a4)⟩] [] [(50101, ⟨aE.ks, 78, 128, a5⟩)])
def ata (C : aP) (Λ2 J : Lam) (a0 a1 : Int) (a2 : List D) (a3 : Int) (a4 : List (List D)) (a5 : Int) (a6 : List D) (a7 : List (List D)) : Res := lab SE C Λ2 J 62 1 [1, 1, 1, 0, 1, 0] (aV [(0, .ptr 2000000000 0), (2, .ptr 1000000000 0), (3, .ptr 1000000001 0), (4, .d (.int .i64 a0)), (5, .d (.int .i64 a1))] [⟨37, (List.map AV.d a2)⟩, ⟨37, [.d (.int .i64 a3), .row 50101, .d (.sl [.int .i64] a4), .d (.int .i64 a5)]⟩] [⟨97, (List.map AV.d a6)⟩] [] [(50101, ⟨aE.ks, 78, 128, a7⟩)])
section
variable (Γ : Fun) (γ58 γ60 : Gm (Int × aD)) (γ61 : Gm (aC × aD)) (γ63 : Gm ((List Int) × aD)) (Λ2 J : Lam)
def C62 : aP := bB (bB (bB (bB (aR Γ) 58 bC γ58) 60 bC γ60) 61 bY γ61) 63 dW γ63
theorem T62 (p0 : aD) : bG SE (C62 Γ γ58 γ60 γ61 γ63) Λ2 J 62 [.ptr 2000000000 0] [⟨97, (aD.avs p0)⟩] [] =
 γ58 [.ptr 2000000000 0] [⟨97, (aD.avs p0)⟩] [] fun r0 =>
 γ60 [.ptr 2000000000 0, .d (.int .i64 32)] [⟨97, (aD.avs r0.2)⟩] [] fun r1 =>
 ata (C62 Γ γ58 γ60 γ61 γ63) Λ2 J r1.1 0 [D.int .i64 0, D.sl aE.ks (List.map aE.enc []), D.sl [.int .i64] (List.map eI []), D.int .i64 0] r0.1 (List.map eI []) 0 (aD.enc r1.2) (List.map aE.enc []) := by kernel_rfl
theorem aEx (x4 x5 x19 : Int) (x20 : Bool) (b0 : aO) (b1_0 : Int) (b1_2 : List Int) (b1_3 : Int) (q0 : aD) (w50101 : List aE) : bW SE (C62 Γ γ58 γ60 γ61 γ63) Λ2 J 62 1 [1, 1, 1, 0, 1, 0, 0, 1, 0, 0, 0] (aV [(0, .ptr 2000000000 0), (2, .ptr 1000000000 0), (3, .ptr 1000000001 0), (4, .d (.int .i64 x4)), (5, .d (.int .i64 x5)), (16, .ptr 2000000000 0), (17, .ptr 2000000000 0), (18, .ptr 2000000000 2), (19, .d (.int .i64 x19)), (20, .d (.bool x20))] [⟨37, (List.map AV.d (aO.enc b0))⟩, ⟨37, [.d (.int .i64 b1_0), .row 50101, .d (.sl [.int .i64] (List.map eI b1_2)), .d (.int .i64 b1_3)]⟩] [⟨97, (List.map AV.d (aD.enc q0))⟩] [] [(50101, ⟨aE.ks, 78, 128, (List.map aE.enc w50101)⟩)]) =
 γ58 [.ptr 2000000000 0] [⟨97, (aD.avs q0)⟩] [] fun r2 =>
 γ58 [.ptr 2000000000 0] [⟨97, (aD.avs r2.2)⟩] [] fun r3 =>
 γ61 [.ptr 2000000000 0] [⟨97, (aD.avs r3.2)⟩] [] fun r4 =>
 cond (decide ((lM aE.enc w50101 + lM aE.enc [(aE.mk r2.1 r3.1 r4.1)]) * 128 ≤ 140737488355328)) (
 ata (C62 Γ γ58 γ60 γ61 γ63) Λ2 J x4 (w6 (x5 + 1)) (aO.enc b0) b1_0 (List.map eI b1_2) b1_3 (aD.enc r4.2) (((List.map aE.enc w50101) ++ (List.map aE.enc [(aE.mk r2.1 r3.1 r4.1)])))) none := by kernel_rfl
theorem azU (b0 : aO) (b1_0 : Int) (b1_2 : List Int) (b1_3 : Int) (q0 : aD) (w50101 : List aE) : bW SE (C62 Γ γ58 γ60 γ61 γ63) Λ2 J 62 1 [1, 1, 1, 1, 0] (aV [(0, .ptr 2000000000 0), (2, .ptr 1000000000 0), (3, .ptr 1000000001 0)] [⟨37, (List.map AV.d (aO.enc b0))⟩, ⟨37, [.d (.int .i64 b1_0), .row 50101, .d (.sl [.int .i64] (List.map eI b1_2)), .d (.int .i64 b1_3)]⟩] [⟨97, (List.map AV.d (aD.enc q0))⟩] [] [(50101, ⟨aE.ks, 78, 128, (List.map aE.enc w50101)⟩)]) =
 γ63 [.ptr 2000000000 0] [⟨97, (aD.avs q0)⟩] [] fun r5 =>
 γ58 [.ptr 2000000000 0] [⟨97, (aD.avs r5.2)⟩] [] fun r6 =>
 (some (.ret [.agg [.d (.int .i64 b1_0), .row 0, .row 1, .d (.int .i64 r6.1)]] [⟨97, (aD.avs r6.2)⟩] [⟨aE.ks, 78, 128, (List.map aE.enc w50101)⟩, ⟨[.int .i64], 3, 8, (List.map eI r5.1)⟩])) := by kernel_rfl
theorem aEU (x4 x5 : Int) (b0 : aO) (b1_0 : Int) (b1_2 : List Int) (b1_3 : Int) (q0 : aD) (w50101 : List aE) : bW SE (C62 Γ γ58 γ60 γ61 γ63) Λ2 J 62 1 [1, 1, 1, 0, 1, 0] (aV [(0, .ptr 2000000000 0), (2, .ptr 1000000000 0), (3, .ptr 1000000001 0), (4, .d (.int .i64 x4)), (5, .d (.int .i64 x5))] [⟨37, (List.map AV.d (aO.enc b0))⟩, ⟨37, [.d (.int .i64 b1_0), .row 50101, .d (.sl [.int .i64] (List.map eI b1_2)), .d (.int .i64 b1_3)]⟩] [⟨97, (List.map AV.d (aD.enc q0))⟩] [] [(50101, ⟨aE.ks, 78, 128, (List.map aE.enc w50101)⟩)]) =
 cond (decide (x5 < x4)) (
 cond (q0.E == 0) (
  axM (C62 Γ γ58 γ60 γ61 γ63) Λ2 J x4 x5 q0.E (q0.E == 0) (aO.enc b0) b1_0 (List.map eI b1_2) b1_3 (aD.enc q0) (List.map aE.enc w50101)) (
 aqi (C62 Γ γ58 γ60 γ61 γ63) Λ2 J (aO.enc b0) b1_0 (List.map eI b1_2) b1_3 (aD.enc q0) (List.map aE.enc w50101))) (
 aqi (C62 Γ γ58 γ60 γ61 γ63) Λ2 J (aO.enc b0) b1_0 (List.map eI b1_2) b1_3 (aD.enc q0) (List.map aE.enc w50101)) := by kernel_rfl
end
abbrev X62 : aP := C62 gG (cT 58 bC) (cT 60 bC) (cT 61 bY) (cT 63 dW)
theorem atf : X62 = aR gG := by unfold X62 C62; repeat rw [bD fun _ h => h]
abbrev aC0 := axM X62 (bV SE gG (SE.hl 62) (SE.hr 62)) (J0 SE X62)
abbrev ayT := aqi X62 (bV SE gG (SE.hl 62) (SE.hr 62)) (J0 SE X62)
abbrev axr := ata X62 (bV SE gG (SE.hl 62) (SE.hr 62)) (J0 SE X62)
theorem aea (k4 : Int → Int → aO → Int → (List Int) → Int → aD → (List aE) → Option (aO × aD)) (hk4 : ∀ (x4 x5 : Int) (b0 : aO) (b1_0 : Int) (b1_2 : List Int) (b1_3 : Int) (q0 : aD) (w50101 : List aE), Le (Option.map eQ (k4 x4 x5 b0 b1_0 b1_2 b1_3 q0 w50101)) (axr x4 x5 (aO.enc b0) b1_0 (List.map eI b1_2) b1_3 (aD.enc q0) (List.map aE.enc w50101))) (x4 x5 x19 : Int) (x20 : Bool) (b0 : aO) (b1_0 : Int) (b1_2 : List Int) (b1_3 : Int) (q0 : aD) (w50101 : List aE) : Le (Option.map eQ (qQ k4 x4 x5 x19 x20 b0 b1_0 b1_2 b1_3 q0 w50101)) (aC0 x4 x5 x19 x20 (aO.enc b0) b1_0 (List.map eI b1_2) b1_3 (aD.enc q0) (List.map aE.enc w50101)) := by
 refine Le.trans ?_ (le_of_eq ((aZ atf).trans (aEx ..)).symm)
 unfold qQ
 refine lQ eX bQ (cJ _) fun r2 _ => ?_
 refine lQ eX bQ (cJ _) fun r3 _ => ?_
 refine lQ eX jO (uX _) fun r4 _ => ?_
 refine lG (by simp only [EN]) ?_
 (try simp only [EN]); exact hk4 x4 (w6 (x5 + 1)) b0 b1_0 b1_2 b1_3 r4.2 (w50101 ++ [(aE.mk r2.1 r3.1 r4.1)])
theorem xL (b0 : aO) (b1_0 : Int) (b1_2 : List Int) (b1_3 : Int) (q0 : aD) (w50101 : List aE) : Le (Option.map eQ (kA b0 b1_0 b1_2 b1_3 q0 w50101)) (ayT (aO.enc b0) b1_0 (List.map eI b1_2) b1_3 (aD.enc q0) (List.map aE.enc w50101)) := by
 refine Le.trans ?_ (le_of_eq ((aZ atf).trans (azU ..)).symm)
 unfold kA
 refine lQ eX zU (aad _) fun r5 _ => ?_
 refine lQ eX bQ (cJ _) fun r6 _ => ?_
 exact aJ rfl
theorem aeD : ∀ (fu : Nat) (x4 x5 : Int) (b0 : aO) (b1_0 : Int) (b1_2 : List Int) (b1_3 : Int) (q0 : aD) (w50101 : List aE), Le (Option.map eQ (kT fu x4 x5 b0 b1_0 b1_2 b1_3 q0 w50101)) (axr x4 x5 (aO.enc b0) b1_0 (List.map eI b1_2) b1_3 (aD.enc q0) (List.map aE.enc w50101)) := by
 intro fu
 induction fu with
 | zero => intros; exact le_none
 | succ fu ih =>
  intro x4 x5 b0 b1_0 b1_2 b1_3 q0 w50101
  refine Le.trans ?_ (le_of_eq ((aZ atf).trans (aEU ..)).symm)
  unfold kT
  refine lC ?_ ?_
  ·refine lC ?_ ?_
   ·exact aea _ (ih) x4 x5 q0.E (q0.E == 0) b0 b1_0 b1_2 b1_3 q0 w50101
   ·exact xL b0 b1_0 b1_2 b1_3 q0 w50101
  ·exact xL b0 b1_0 b1_2 b1_3 q0 w50101
theorem agh (p0 : aD) : Le (Option.map eQ (qC p0)) (bF SE 62 [.ptr 2000000000 0] [⟨97, (aD.avs p0)⟩] []) := by
 refine aW atf rfl ?_
 refine Le.trans ?_ (le_of_eq (T62 ..).symm)
 unfold qC
 refine lQ eX bQ (cJ _) fun r0 _ => ?_
 refine lQ eX bQ (iC _ _) fun r1 _ => ?_
 (try simp only [EN]); exact aeD fuel r1.1 0 ((aO.mk 0 [] (bE.mk [] 0))) r0.1 [] 0 r1.2 []
section
variable (Γ : Fun)  (Λ2 J : Lam)
def aAJ : aP := aR Γ
theorem aHS (p0 p1 : Int) : bG SE (aAJ Γ) Λ2 J 110 [.d (.int .i64 p0), .d (.int .i64 p1)] [] [] =
 cond (decide (p0 ≥ 0)) (
 (rB (decide (p0 ≤ p1)))) (
 (rB false)) := by kernel_rfl
end
abbrev aHG : aP := aAJ gG
theorem aEu : aHG = aR gG := rfl
theorem zY (p0 p1 : Int) : Le (Option.map aF (pB p0 p1)) (bF SE 110 [.d (.int .i64 p0), .d (.int .i64 p1)] [] []) := by
 refine aW aEu rfl ?_
 refine Le.trans ?_ (le_of_eq (aHS ..).symm)
 unfold pB
 refine lC ?_ ?_
 ·exact aJ rfl
 ·exact aJ rfl
def amt (C : aP) (Λ2 J : Lam) (a0 : List D) : Res := lab SE C Λ2 J 71 0 [1, 1, 1, 0, 0] (aV [(1, .ptr 1000000000 0)] [⟨46, (List.map AV.d a0)⟩] [] [] [])
def arT (C : aP) (Λ2 J : Lam) (a0 : List D) : Res := lab SE C Λ2 J 71 0 [1, 1, 0, 0] (aV [(1, .ptr 1000000000 0)] [⟨46, (List.map AV.d a0)⟩] [] [] [])
section
variable (Γ : Fun) (γ33 γ110 : Gm (Bool)) (Λ2 J : Lam)
def C71 : aP := bB (bB (aR Γ) 33 aF γ33) 110 aF γ110
theorem T71 (p0 : aI) : bG SE (C71 Γ γ33 γ110) Λ2 J 71 [aI.av p0] [] [] =
 γ33 [.d (.str p0.Client)] [] [] fun r0 =>
 cond (!r0) (
 (rI 11)) (
 cond (!(p0.User == ([] : Str))) (
 γ33 [.d (.str p0.User)] [] [] fun r1 =>
 cond (!r1) (
  (rI 11)) (
 arT (C71 Γ γ33 γ110) Λ2 J (aI.enc p0))) (
 arT (C71 Γ γ33 γ110) Λ2 J (aI.enc p0))) := by kernel_rfl
theorem aDP (b0 : aI) : bW SE (C71 Γ γ33 γ110) Λ2 J 71 0 [1, 1, 1, 0, 0] (aV [(1, .ptr 1000000000 0)] [⟨46, (List.map AV.d (aI.enc b0))⟩] [] [] []) =
 γ110 [.d (.int .i64 b0.Expiry), .d (.int .i64 1099511627776)] [] [] fun r2 =>
 cond (!r2) (
 (rI 1)) (
 γ110 [.d (.int .i64 b0.Until), .d (.int .i64 1099511627776)] [] [] fun r3 =>
 cond (!r3) (
 (rI 1)) (
 γ110 [.d (.int .i64 b0.Dropped), .d (.int .i64 1099511627776)] [] [] fun r4 =>
 cond (!r4) (
 (rI 1)) (
 (rI 0)))) := by kernel_rfl
theorem aCY (b0 : aI) : bW SE (C71 Γ γ33 γ110) Λ2 J 71 0 [1, 1, 0, 0] (aV [(1, .ptr 1000000000 0)] [⟨46, (List.map AV.d (aI.enc b0))⟩] [] [] []) =
 cond (!b0.Online) (
 cond (b0.Conn != 0) (
  (rI 9)) (
 cond b0.Online (
  cond (b0.Until != 0) (
  (rI 9)) (
  amt (C71 Γ γ33 γ110) Λ2 J (aI.enc b0))) (
 amt (C71 Γ γ33 γ110) Λ2 J (aI.enc b0)))) (
 cond b0.Online (
 cond (b0.Until != 0) (
  (rI 9)) (
 amt (C71 Γ γ33 γ110) Λ2 J (aI.enc b0))) (
 amt (C71 Γ γ33 γ110) Λ2 J (aI.enc b0))) := by kernel_rfl
end
abbrev X71 : aP := C71 gG (cT 33 aF) (cT 110 aF)
theorem awj : X71 = aR gG := by unfold X71 C71; repeat rw [bD fun _ h => h]
abbrev aDD := amt X71 (bV SE gG (SE.hl 71) (SE.hr 71)) (J0 SE X71)
abbrev aCX := arT X71 (bV SE gG (SE.hl 71) (SE.hr 71)) (J0 SE X71)
theorem pU (b0 : aI) : Le (Option.map aB (kK b0)) (aDD (aI.enc b0)) := by
 refine Le.trans ?_ (le_of_eq ((aZ awj).trans (aDP ..)).symm)
 unfold kK
 refine lQ eX aQ (zY _ _) fun r2 _ => ?_
 refine lC ?_ ?_
 ·exact aJ rfl
 ·refine lQ eX aQ (zY _ _) fun r3 _ => ?_
  refine lC ?_ ?_
  ·exact aJ rfl
  ·refine lQ eX aQ (zY _ _) fun r4 _ => ?_
   refine lC ?_ ?_
   ·exact aJ rfl
   ·exact aJ rfl
theorem aav (b0 : aI) : Le (Option.map aB (o9 b0)) (aCX (aI.enc b0)) := by
 refine Le.trans ?_ (le_of_eq ((aZ awj).trans (aCY ..)).symm)
 unfold o9
 refine lC ?_ ?_
 ·refine lC ?_ ?_
  ·exact aJ rfl
  ·refine lC ?_ ?_
   ·refine lC ?_ ?_
    ·exact aJ rfl
    ·exact pU b0
   ·exact pU b0
 ·refine lC ?_ ?_
  ·refine lC ?_ ?_
   ·exact aJ rfl
   ·exact pU b0
  ·exact pU b0
theorem aii (p0 : aI) : Le (Option.map aB (sW p0)) (bF SE 71 [aI.av p0] [] []) := by
 refine aW awj rfl ?_
 refine Le.trans ?_ (le_of_eq (T71 ..).symm)
 unfold sW
 refine lQ eX aQ (mU _) fun r0 _ => ?_
 refine lC ?_ ?_
 ·exact aJ rfl
 ·refine lC ?_ ?_
  ·refine lQ eX aQ (mU _) fun r1 _ => ?_
   refine lC ?_ ?_
   ·exact aJ rfl
   ·exact aav p0
  ·exact aav p0
section
variable (Γ : Fun)  (Λ2 J : Lam)
def azF : aP := aR Γ
theorem aHZ (p0 p1 : Str) : bG SE (azF Γ) Λ2 J 152 [.d (.str p0), .d (.str p1)] [] [] =
 cond (decide ((List.length p0 : Int) ≥ (List.length p1 : Int))) (
 cond (decide (0 ≤ (List.length p1 : Int)) && decide ((List.length p1 : Int) ≤ ((List.length p0) : Int))) (
  (rB ((dB p0 none (some (List.length p1 : Int))) == p1))) none) (
 (rB false)) := by kernel_rfl
end
abbrev aG0 : aP := azF gG
theorem aD9 : aG0 = aR gG := rfl
theorem vM (p0 p1 : Str) : Le (Option.map aF (nJ p0 p1)) (bF SE 152 [.d (.str p0), .d (.str p1)] [] []) := by
 refine aW aD9 rfl ?_
 refine Le.trans ?_ (le_of_eq (aHZ ..).symm)
 unfold nJ
 refine lC ?_ ?_
 ·refine lF ?_
  exact aJ rfl
 ·exact aJ rfl
def apR (C : aP) (Λ2 J : Lam) (a0 : Int) (a1 : List (List D)) : Res := lab SE C Λ2 J 151 0 [1, 1, 1, 0, 1, 0, 0, 1, 0, 0, 1, 0] (aV [(3, .row 3003), (4, .d (.int .i64 a0))] [] [] [] [(3003, ⟨[.str], 9, 16, a1⟩)])
def amv (C : aP) (Λ2 J : Lam) (a0 : Int) (a1 : List (List D)) : Res := lab SE C Λ2 J 151 0 [1, 1, 1, 0, 1, 0] (aV [(3, .row 3003), (4, .d (.int .i64 a0))] [] [] [] [(3003, ⟨[.str], 9, 16, a1⟩)])
section
variable (Γ : Fun) (γ147 : Gm (Bool)) (γ163 : Gm ((List Str))) (γ148 : Gm (Bool)) (Λ2 J : Lam)
def afW : aP := bB (bB (bB (aR Γ) 147 aF γ147) 163 eR γ163) 148 aF γ148
theorem aHE (p0 : Str) : bG SE (afW Γ γ147 γ163 γ148) Λ2 J 151 [.d (.str p0)] [] [] =
 γ147 [.d (.str p0)] [] [] fun r0 =>
 cond (!r0) (
 (rB false)) (
 γ163 [.d (.str p0)] [] [] fun r1 =>
 amv (afW Γ γ147 γ163 γ148) Λ2 J 0 (List.map cU r1)) := by kernel_rfl
theorem azA (x4 : Int) (w3003 : List Str) : bW SE (afW Γ γ147 γ163 γ148) Λ2 J 151 0 [1, 1, 1, 0, 1, 0, 0, 1, 0, 0, 1, 0] (aV [(3, .row 3003), (4, .d (.int .i64 x4))] [] [] [] [(3003, ⟨[.str], 9, 16, (List.map cU w3003)⟩)]) =
 cond (iB x4 (lM cU w3003 : Int)) (
 γ148 [.d (.str (bL (cE cU w3003 x4 0))), .d (.int .u8 35)] [] [] fun r3 =>
 cond r3 (
  cond (iB x4 (lM cU w3003 : Int)) (
  cond (!((bL (cE cU w3003 x4 0)) == ([35] : Str))) (
   (rB false)) (
  cond (x4 != (w6 ((lM cU w3003 : Int) - 1))) (
   (rB false)) (
  amv (afW Γ γ147 γ163 γ148) Λ2 J (w6 (x4 + 1)) (List.map cU w3003)))) none) (
 amv (afW Γ γ147 γ163 γ148) Λ2 J (w6 (x4 + 1)) (List.map cU w3003))) none := by kernel_rfl
theorem aAh (x4 : Int) (w3003 : List Str) : bW SE (afW Γ γ147 γ163 γ148) Λ2 J 151 0 [1, 1, 1, 0, 1, 0] (aV [(3, .row 3003), (4, .d (.int .i64 x4))] [] [] [] [(3003, ⟨[.str], 9, 16, (List.map cU w3003)⟩)]) =
 cond (decide (x4 < (lM cU w3003 : Int))) (
 cond (iB x4 (lM cU w3003 : Int)) (
  γ148 [.d (.str (bL (cE cU w3003 x4 0))), .d (.int .u8 43)] [] [] fun r2 =>
  cond r2 (
  cond (iB x4 (lM cU w3003 : Int)) (
   cond (!((bL (cE cU w3003 x4 0)) == ([43] : Str))) (
   (rB false)) (
   apR (afW Γ γ147 γ163 γ148) Λ2 J x4 (List.map cU w3003))) none) (
  apR (afW Γ γ147 γ163 γ148) Λ2 J x4 (List.map cU w3003))) none) (
 (rB true)) := by kernel_rfl
end
abbrev amJ : aP := afW gG (cT 147 aF) (cT 163 eR) (cT 148 aF)
theorem asX : amJ = aR gG := by unfold amJ afW; repeat rw [bD fun _ h => h]
abbrev az0 := apR amJ (bV SE gG (SE.hl 151) (SE.hr 151)) (J0 SE amJ)
abbrev auc := amv amJ (bV SE gG (SE.hl 151) (SE.hr 151)) (J0 SE amJ)
theorem yP (k5 : Int → (List Str) → Option (Bool)) (hk5 : ∀ (x4 : Int) (w3003 : List Str), Le (Option.map aF (k5 x4 w3003)) (auc x4 (List.map cU w3003))) (x4 : Int) (w3003 : List Str) : Le (Option.map aF (kU k5 x4 w3003)) (az0 x4 (List.map cU w3003)) := by
 refine Le.trans ?_ (le_of_eq ((aZ asX).trans (azA ..)).symm)
 unfold kU
 refine lG (by simp only [EN]) ?_
 refine lQ eX aQ (by (try simp only [EN]); exact p7 (List.getD w3003 (Int.toNat x4) default) 35) fun r3 _ => ?_
 refine lC ?_ ?_
 ·refine lG (by simp only [EN]) ?_
  refine lD (by simp only [EN]) ?_ ?_
  ·exact aJ rfl
  ·refine lD (by simp only [EN]) ?_ ?_
   ·exact aJ rfl
   ·exact hk5 (w6 (x4 + 1)) w3003
 ·exact hk5 (w6 (x4 + 1)) w3003
theorem aez : ∀ (fu : Nat) (x4 : Int) (w3003 : List Str), Le (Option.map aF (gU fu x4 w3003)) (auc x4 (List.map cU w3003)) := by
 intro fu
 induction fu with
 | zero => intros; exact le_none
 | succ fu ih =>
  intro x4 w3003
  refine Le.trans ?_ (le_of_eq ((aZ asX).trans (aAh ..)).symm)
  unfold gU
  refine lD (by simp only [EN]) ?_ ?_
  ·refine lG (by simp only [EN]) ?_
   refine lQ eX aQ (by (try simp only [EN]); exact p7 (List.getD w3003 (Int.toNat x4) default) 43) fun r2 _ => ?_
   refine lC ?_ ?_
   ·refine lG (by simp only [EN]) ?_
    refine lD (by simp only [EN]) ?_ ?_
    ·exact aJ rfl
    ·exact yP _ (ih) x4 w3003
   ·exact yP _ (ih) x4 w3003
  ·exact aJ rfl
theorem aaR (p0 : Str) : Le (Option.map aF (nS p0)) (bF SE 151 [.d (.str p0)] [] []) := by
 refine aW asX rfl ?_
 refine Le.trans ?_ (le_of_eq (aHE ..).symm)
 unfold nS
 refine lQ eX aQ (abi _) fun r0 _ => ?_
 refine lC ?_ ?_
 ·exact aJ rfl
 ·refine lQ eX aam (aaX _) fun r1 _ => ?_
  exact aez fuel 0 r1
def atN (C : aP) (Λ2 J : Lam) (a0 : Str) (a1 : Int) : Res := lab SE C Λ2 J 150 0 [1, 1, 1, 1, 1, 1, 0] (aV [(5, .d (.str a0)), (6, .d (.int .i64 a1))] [] [] [] [])
def apW (C : aP) (Λ2 J : Lam) (a0 : Str) (a1 : Int) : Res := lab SE C Λ2 J 150 0 [1, 1, 1, 1, 1, 0, 0] (aV [(5, .d (.str a0)), (6, .d (.int .i64 a1))] [] [] [] [])
def apm (C : aP) (Λ2 J : Lam) (a0 : Str) (a1 : Int) : Res := lab SE C Λ2 J 150 0 [1, 1, 1, 1, 0, 0] (aV [(5, .d (.str a0)), (6, .d (.int .i64 a1))] [] [] [] [])
section
variable (Γ : Fun) (γ152 γ33 γ151 : Gm (Bool)) (Λ2 J : Lam)
def aeb : aP := bB (bB (bB (aR Γ) 152 aF γ152) 33 aF γ33) 151 aF γ151
theorem aGj (p0 : Str) : bG SE (aeb Γ γ152 γ33 γ151) Λ2 J 150 [.d (.str p0)] [] [] =
 γ152 [.d (.str p0), .d (.str ([36, 115, 104, 97, 114, 101, 47] : Str))] [] [] fun r0 =>
 cond (!r0) (
 (some (.ret [.d (.str []), .d (.str []), .d (.bool false)] [] []))) (
 cond (decide (0 ≤ 7) && decide (7 ≤ ((List.length p0) : Int))) (
 apm (aeb Γ γ152 γ33 γ151) Λ2 J (dB p0 (some 7) none) 0) none) := by kernel_rfl
theorem aAR (x5 : Str) (x6 : Int) : bW SE (aeb Γ γ152 γ33 γ151) Λ2 J 150 0 [1, 1, 1, 1, 1, 1, 0] (aV [(5, .d (.str x5)), (6, .d (.int .i64 x6))] [] [] [] []) =
 cond (decide (0 ≤ x6) && decide (x6 ≤ ((List.length x5) : Int))) (
 cond (decide (0 ≤ (w6 (x6 + 1))) && decide ((w6 (x6 + 1)) ≤ ((List.length x5) : Int))) (
  (some (.ret [.d (.str (dB x5 none (some x6))), .d (.str (dB x5 (some (w6 (x6 + 1))) none)), .d (.bool true)] [] []))) none) none := by kernel_rfl
theorem aBc (x5 : Str) (x6 : Int) : bW SE (aeb Γ γ152 γ33 γ151) Λ2 J 150 0 [1, 1, 1, 1, 1, 0, 0] (aV [(5, .d (.str x5)), (6, .d (.int .i64 x6))] [] [] [] []) =
 cond (x6 == (List.length x5 : Int)) (
 (some (.ret [.d (.str []), .d (.str []), .d (.bool false)] [] []))) (
 cond (decide (0 ≤ x6) && decide (x6 ≤ ((List.length x5) : Int))) (
 γ33 [.d (.str (dB x5 none (some x6)))] [] [] fun r1 =>
 cond (!r1) (
  (some (.ret [.d (.str []), .d (.str []), .d (.bool false)] [] []))) (
 cond (decide (0 ≤ (w6 (x6 + 1))) && decide ((w6 (x6 + 1)) ≤ ((List.length x5) : Int))) (
  γ151 [.d (.str (dB x5 (some (w6 (x6 + 1))) none))] [] [] fun r2 =>
  cond (!r2) (
  (some (.ret [.d (.str []), .d (.str []), .d (.bool false)] [] []))) (
  cond (decide (0 ≤ (w6 (x6 + 1))) && decide ((w6 (x6 + 1)) ≤ ((List.length x5) : Int))) (
  γ152 [.d (.str (dB x5 (some (w6 (x6 + 1))) none)), .d (.str ([36, 115, 104, 97, 114, 101, 47] : Str))] [] [] fun r3 =>
  cond r3 (
   (some (.ret [.d (.str []), .d (.str []), .d (.bool false)] [] []))) (
  atN (aeb Γ γ152 γ33 γ151) Λ2 J x5 x6)) none)) none)) none) := by kernel_rfl
theorem azW (x5 : Str) (x6 : Int) : bW SE (aeb Γ γ152 γ33 γ151) Λ2 J 150 0 [1, 1, 1, 1, 0, 0] (aV [(5, .d (.str x5)), (6, .d (.int .i64 x6))] [] [] [] []) =
 cond (decide (x6 < (List.length x5 : Int))) (
 cond (iB x6 (List.length x5 : Int)) (
  cond ((UInt8.toNat (List.getD x5 (Int.toNat x6) 0) : Int) != 47) (
  apm (aeb Γ γ152 γ33 γ151) Λ2 J x5 (w6 (x6 + 1))) (
  apW (aeb Γ γ152 γ33 γ151) Λ2 J x5 x6)) none) (
 apW (aeb Γ γ152 γ33 γ151) Λ2 J x5 x6) := by kernel_rfl
end
abbrev aiv : aP := aeb gG (cT 152 aF) (cT 33 aF) (cT 151 aF)
theorem aoM : aiv = aR gG := by unfold aiv aeb; repeat rw [bD fun _ h => h]
abbrev aBu := atN aiv (bV SE gG (SE.hl 150) (SE.hr 150)) (J0 SE aiv)
abbrev aB2 := apW aiv (bV SE gG (SE.hl 150) (SE.hr 150)) (J0 SE aiv)
abbrev azS := apm aiv (bV SE gG (SE.hl 150) (SE.hr 150)) (J0 SE aiv)
theorem aes (x5 : Str) (x6 : Int) : Le (Option.map cH (qL x5 x6)) (aBu x5 x6) := by
 refine Le.trans ?_ (le_of_eq ((aZ aoM).trans (aAR ..)).symm)
 unfold qL
 refine lF ?_
 refine lF ?_
 exact aJ rfl
theorem yL (x5 : Str) (x6 : Int) : Le (Option.map cH (kV x5 x6)) (aB2 x5 x6) := by
 refine Le.trans ?_ (le_of_eq ((aZ aoM).trans (aBc ..)).symm)
 unfold kV
 refine lC ?_ ?_
 ·exact aJ rfl
 ·refine lF ?_
  refine lQ eX aQ (mU _) fun r1 _ => ?_
  refine lC ?_ ?_
  ·exact aJ rfl
  ·refine lF ?_
   refine lQ eX aQ (aaR _) fun r2 _ => ?_
   refine lC ?_ ?_
   ·exact aJ rfl
   ·refine lF ?_
    refine lQ eX aQ (vM _ _) fun r3 _ => ?_
    refine lC ?_ ?_
    ·exact aJ rfl
    ·exact aes x5 x6
theorem aeq : ∀ (fu : Nat) (x5 : Str) (x6 : Int), Le (Option.map cH (jE fu x5 x6)) (azS x5 x6) := by
 intro fu
 induction fu with
 | zero => intros; exact le_none
 | succ fu ih =>
  intro x5 x6
  refine Le.trans ?_ (le_of_eq ((aZ aoM).trans (azW ..)).symm)
  unfold jE
  refine lC ?_ ?_
  ·refine lF ?_
   refine lC ?_ ?_
   ·exact ih x5 (w6 (x6 + 1))
   ·exact yL x5 x6
  ·exact yL x5 x6
theorem aaU (p0 : Str) : Le (Option.map cH (nH p0)) (bF SE 150 [.d (.str p0)] [] []) := by
 refine aW aoM rfl ?_
 refine Le.trans ?_ (le_of_eq (aGj ..).symm)
 unfold nH
 refine lQ eX aQ (vM _ _) fun r0 _ => ?_
 refine lC ?_ ?_
 ·exact aJ rfl
 ·refine lF ?_
  exact aeq fuel (dB p0 (some 7) none) 0
section
variable (Γ : Fun) (γ150 : Gm (Str × Str × Bool)) (γ151 γ152 : Gm (Bool)) (Λ2 J : Lam)
def av3 : aP := bB (bB (bB (aR Γ) 150 cH γ150) 151 aF γ151) 152 aF γ152
theorem aGs (p0 : Str) : bG SE (av3 Γ γ150 γ151 γ152) Λ2 J 133 [.d (.str p0)] [] [] =
 γ150 [.d (.str p0)] [] [] fun r0 =>
 cond r0.2.2 (
 (rB true)) (
 γ151 [.d (.str p0)] [] [] fun r1 =>
 cond r1 (
 γ152 [.d (.str p0), .d (.str ([36, 115, 104, 97, 114, 101, 47] : Str))] [] [] fun r2 =>
 (rB (!r2))) (
 (rB false))) := by kernel_rfl
end
abbrev azK : aP := av3 gG (cT 150 cH) (cT 151 aF) (cT 152 aF)
theorem aFg : azK = aR gG := by unfold azK av3; repeat rw [bD fun _ h => h]
theorem agN (p0 : Str) : Le (Option.map aF (pV p0)) (bF SE 133 [.d (.str p0)] [] []) := by
 refine aW aFg rfl ?_
 refine Le.trans ?_ (le_of_eq (aGs ..).symm)
 unfold pV
 refine lQ eX o7 (aaU _) fun r0 _ => ?_
 refine lC ?_ ?_
 ·exact aJ rfl
 ·refine lQ eX aQ (aaR _) fun r1 _ => ?_
  refine lC ?_ ?_
  ·refine lQ eX aQ (vM _ _) fun r2 _ => ?_
   exact aJ rfl
  ·exact aJ rfl
section
variable (Γ : Fun)  (Λ2 J : Lam)
def aAx : aP := aR Γ
theorem aGi (p0 : Int) : bG SE (aAx Γ) Λ2 J 134 [.d (.int .i64 p0)] [] [] =
 cond (p0 == 0) (
 (rB true)) (
 cond (p0 == 1) (
 (rB true)) (
 (rB (p0 == 2)))) := by kernel_rfl
end
abbrev aGA : aP := aAx gG
theorem aDS : aGA = aR gG := rfl
theorem ag5 (p0 : Int) : Le (Option.map aF (rU p0)) (bF SE 134 [.d (.int .i64 p0)] [] []) := by
 refine aW aDS rfl ?_
 refine Le.trans ?_ (le_of_eq (aGi ..).symm)
 unfold rU
 refine lC ?_ ?_
 ·exact aJ rfl
 ·refine lC ?_ ?_
  ·exact aJ rfl
  ·exact aJ rfl
section
variable (Γ : Fun) (γ150 : Gm (Str × Str × Bool)) (Λ2 J : Lam)
def avG : aP := bB (aR Γ) 150 cH γ150
theorem aHL (p0 : Str) : bG SE (avG Γ γ150) Λ2 J 135 [.d (.str p0)] [] [] =
 γ150 [.d (.str p0)] [] [] fun r0 =>
 (rB r0.2.2) := by kernel_rfl
end
abbrev aA9 : aP := avG gG (cT 150 cH)
theorem aD7 : aA9 = aR gG := by unfold aA9 avG; rw [bD fun _ h => h]
theorem agO (p0 : Str) : Le (Option.map aF (uA p0)) (bF SE 135 [.d (.str p0)] [] []) := by
 refine aW aD7 rfl ?_
 refine Le.trans ?_ (le_of_eq (aHL ..).symm)
 unfold uA
 refine lQ eX o7 (aaU _) fun r0 _ => ?_
 exact aJ rfl
section
variable (Γ : Fun) (γ133 γ134 γ135 : Gm (Bool)) (Λ2 J : Lam)
def avn : aP := bB (bB (bB (aR Γ) 133 aF γ133) 134 aF γ134) 135 aF γ135
theorem aG7 (p0 : aK) : bG SE (avn Γ γ133 γ134 γ135) Λ2 J 111 [aK.av p0] [] [] =
 γ133 [.d (.str p0.Filter)] [] [] fun r0 =>
 cond (!r0) (
 (rI 13)) (
 γ134 [.d (.int .i64 p0.Level)] [] [] fun r1 =>
 cond (!r1) (
 (rI 14)) (
 cond p0.NoLocal (
 γ135 [.d (.str p0.Filter)] [] [] fun r2 =>
 cond r2 (
  (rI 28)) (
 (rI 0))) (
 (rI 0)))) := by kernel_rfl
end
abbrev aAP : aP := avn gG (cT 133 aF) (cT 134 aF) (cT 135 aF)
theorem aFb : aAP = aR gG := by unfold aAP avn; repeat rw [bD fun _ h => h]
theorem aiI (p0 : aK) : Le (Option.map aB (uC p0)) (bF SE 111 [aK.av p0] [] []) := by
 refine aW aFb rfl ?_
 refine Le.trans ?_ (le_of_eq (aG7 ..).symm)
 unfold uC
 refine lQ eX aQ (agN _) fun r0 _ => ?_
 refine lC ?_ ?_
 ·exact aJ rfl
 ·refine lQ eX aQ (ag5 _) fun r1 _ => ?_
  refine lC ?_ ?_
  ·exact aJ rfl
  ·refine lC ?_ ?_
   ·refine lQ eX aQ (agO _) fun r2 _ => ?_
    refine lC ?_ ?_
    ·exact aJ rfl
    ·exact aJ rfl
   ·exact aJ rfl
def aoK (C : aP) (Λ2 J : Lam) (a0 : List (List D)) (a1 : Int) : Res := lab SE C Λ2 J 72 0 [1, 1, 0, 1, 0] (aV [(0, .d (.sl aK.ks a0)), (3, .d (.int .i64 a1))] [] [] [] [])
section
variable (Γ : Fun) (γ111 : Gm (Int)) (Λ2 J : Lam)
def C72 : aP := bB (aR Γ) 111 aB γ111
theorem T72 (p0 : List aK) : bG SE (C72 Γ γ111) Λ2 J 72 [.d (.sl aK.ks (List.map aK.enc p0))] [] [] =
 cond (decide ((lM aK.enc p0 : Int) > 32)) (
 (rI 5)) (
 aoK (C72 Γ γ111) Λ2 J (List.map aK.enc p0) 0) := by kernel_rfl
theorem aFr (x0 : List aK) (x3 : Int) : bW SE (C72 Γ γ111) Λ2 J 72 0 [1, 1, 0, 1, 0] (aV [(0, .d (.sl aK.ks (List.map aK.enc x0))), (3, .d (.int .i64 x3))] [] [] [] []) =
 cond (decide (x3 < (lM aK.enc x0 : Int))) (
 cond (iB x3 (lM aK.enc x0 : Int)) (
  γ111 [.agg [.d (.str (bL (cE aK.enc x0 x3 0))), .d (.int .i64 (aX (cE aK.enc x0 x3 1))), .d (.bool (dU (cE aK.enc x0 x3 2)))]] [] [] fun r0 =>
  cond (r0 != 0) (
  (rI r0)) (
  cond (decide (x3 > 0)) (
  cond (iB x3 (lM aK.enc x0 : Int)) (
   cond (iB (w6 (x3 - 1)) (lM aK.enc x0 : Int)) (
   cond (Op.bytesLess (bL (cE aK.enc x0 x3 0)) (bL (cE aK.enc x0 (w6 (x3 - 1)) 0)) || (bL (cE aK.enc x0 x3 0)) == (bL (cE aK.enc x0 (w6 (x3 - 1)) 0))) (
    (rI 22)) (
   aoK (C72 Γ γ111) Λ2 J (List.map aK.enc x0) (w6 (x3 + 1)))) none) none) (
  aoK (C72 Γ γ111) Λ2 J (List.map aK.enc x0) (w6 (x3 + 1))))) none) (
 (rI 0)) := by kernel_rfl
end
abbrev X72 : aP := C72 gG (cT 111 aB)
theorem aAz : X72 = aR gG := by unfold X72 C72; rw [bD fun _ h => h]
abbrev aFn := aoK X72 (bV SE gG (SE.hl 72) (SE.hr 72)) (J0 SE X72)
theorem afC : ∀ (fu : Nat) (x0 : List aK) (x3 : Int), Le (Option.map aB (iZ fu x0 x3)) (aFn (List.map aK.enc x0) x3) := by
 intro fu
 induction fu with
 | zero => intros; exact le_none
 | succ fu ih =>
  intro x0 x3
  refine Le.trans ?_ (le_of_eq ((aZ aAz).trans (aFr ..)).symm)
  unfold iZ
  refine lD (by simp only [EN]) ?_ ?_
  ·refine lG (by simp only [EN]) ?_
   refine lQ eX aM (by (try simp only [EN]); exact aiI (List.getD x0 (Int.toNat x3) default)) fun r0 _ => ?_
   refine lC ?_ ?_
   ·exact aJ rfl
   ·refine lC ?_ ?_
    ·refine lG (by simp only [EN]) ?_
     refine lG (by simp only [EN]) ?_
     refine lD (by simp only [EN]) ?_ ?_
     ·exact aJ rfl
     ·exact ih x0 (w6 (x3 + 1))
    ·exact ih x0 (w6 (x3 + 1))
  ·exact aJ rfl
theorem aic (p0 : List aK) : Le (Option.map aB (sM p0)) (bF SE 72 [.d (.sl aK.ks (List.map aK.enc p0))] [] []) := by
 refine aW aAz rfl ?_
 refine Le.trans ?_ (le_of_eq (T72 ..).symm)
 unfold sM
 refine lD (by simp only [EN]) ?_ ?_
 ·exact aJ rfl
 ·exact afC fuel p0 0
def asP (C : aP) (Λ2 J : Lam) (a0 : List (List D)) (a1 : Int) : Res := lab SE C Λ2 J 73 0 [1, 1, 0, 1, 0] (aV [(0, .d (.sl aC.ks a0)), (3, .d (.int .i64 a1))] [] [] [] [])
section
variable (Γ : Fun) (γ106 : Gm (Int)) (Λ2 J : Lam)
def C73 : aP := bB (aR Γ) 106 aB γ106
theorem T73 (p0 : List aC) : bG SE (C73 Γ γ106) Λ2 J 73 [.d (.sl aC.ks (List.map aC.enc p0))] [] [] =
 cond (decide ((lM aC.enc p0 : Int) > 256)) (
 (rI 5)) (
 asP (C73 Γ γ106) Λ2 J (List.map aC.enc p0) 0) := by kernel_rfl
theorem aE8 (x0 : List aC) (x3 : Int) : bW SE (C73 Γ γ106) Λ2 J 73 0 [1, 1, 0, 1, 0] (aV [(0, .d (.sl aC.ks (List.map aC.enc x0))), (3, .d (.int .i64 x3))] [] [] [] []) =
 cond (decide (x3 < (lM aC.enc x0 : Int))) (
 cond (iB x3 (lM aC.enc x0 : Int)) (
  γ106 [.agg [.d (.str (bL (cE aC.enc x0 x3 0))), .d (.str (bL (cE aC.enc x0 x3 1))), .d (.int .i64 (aX (cE aC.enc x0 x3 2))), .d (.bool (dU (cE aC.enc x0 x3 3))), .d (.int .i64 (aX (cE aC.enc x0 x3 4))), .d (.int .i64 (aX (cE aC.enc x0 x3 5))), .d (.str (bL (cE aC.enc x0 x3 6))), .d (.int .i64 (aX (cE aC.enc x0 x3 7))), .d (.sl aG.ks (dSl (cE aC.enc x0 x3 8)))]] [] [] fun r0 =>
  cond (r0 != 0) (
  (rI r0)) (
  asP (C73 Γ γ106) Λ2 J (List.map aC.enc x0) (w6 (x3 + 1)))) none) (
 (rI 0)) := by kernel_rfl
end
abbrev X73 : aP := C73 gG (cT 106 aB)
theorem aBZ : X73 = aR gG := by unfold X73 C73; rw [bD fun _ h => h]
abbrev aCM := asP X73 (bV SE gG (SE.hl 73) (SE.hr 73)) (J0 SE X73)
theorem aeM : ∀ (fu : Nat) (x0 : List aC) (x3 : Int), Le (Option.map aB (jV fu x0 x3)) (aCM (List.map aC.enc x0) x3) := by
 intro fu
 induction fu with
 | zero => intros; exact le_none
 | succ fu ih =>
  intro x0 x3
  refine Le.trans ?_ (le_of_eq ((aZ aBZ).trans (aE8 ..)).symm)
  unfold jV
  refine lD (by simp only [EN]) ?_ ?_
  ·refine lG (by simp only [EN]) ?_
   refine lQ eX aM (by (try simp only [EN]); exact sB (List.getD x0 (Int.toNat x3) default)) fun r0 _ => ?_
   refine lC ?_ ?_
   ·exact aJ rfl
   ·exact ih x0 (w6 (x3 + 1))
  ·exact aJ rfl
theorem ag9 (p0 : List aC) : Le (Option.map aB (rL p0)) (bF SE 73 [.d (.sl aC.ks (List.map aC.enc p0))] [] []) := by
 refine aW aBZ rfl ?_
 refine Le.trans ?_ (le_of_eq (T73 ..).symm)
 unfold rL
 refine lD (by simp only [EN]) ?_ ?_
 ·exact aJ rfl
 ·exact aeM fuel p0 0
def alS (C : aP) (Λ2 J : Lam) (a0 : Int) (a1 : List D) : Res := lab SE C Λ2 J 112 0 [1, 1, 0, 1, 0] (aV [(1, .ptr 1000000000 0), (3, .d (.int .i64 a0))] [⟨35, (List.map AV.d a1)⟩] [] [] [])
section
variable (Γ : Fun)  (Λ2 J : Lam)
def anx : aP := aR Γ
theorem aGk (p0 : bE) : bG SE (anx Γ) Λ2 J 112 [bE.av p0] [] [] =
 cond (decide ((lM eI p0.Used : Int) > 32)) (
 (rI 5)) (
 alS (anx Γ) Λ2 J 0 (bE.enc p0)) := by kernel_rfl
theorem aA8 (x3 : Int) (b0 : bE) : bW SE (anx Γ) Λ2 J 112 0 [1, 1, 0, 1, 0] (aV [(1, .ptr 1000000000 0), (3, .d (.int .i64 x3))] [⟨35, (List.map AV.d (bE.enc b0))⟩] [] [] []) =
 cond (decide (x3 < (lM eI b0.Used : Int))) (
 cond (iB x3 (lM eI b0.Used : Int)) (
  cond (decide ((aX (cE eI b0.Used x3 0)) < 1)) (
  (rI 15)) (
  cond (iB x3 (lM eI b0.Used : Int)) (
  cond (decide ((aX (cE eI b0.Used x3 0)) > 65535)) (
   (rI 15)) (
  cond (decide (x3 > 0)) (
   cond (iB x3 (lM eI b0.Used : Int)) (
   cond (iB (w6 (x3 - 1)) (lM eI b0.Used : Int)) (
    cond (decide ((aX (cE eI b0.Used x3 0)) ≤ (aX (cE eI b0.Used (w6 (x3 - 1)) 0)))) (
    (rI 15)) (
    alS (anx Γ) Λ2 J (w6 (x3 + 1)) (bE.enc b0))) none) none) (
  alS (anx Γ) Λ2 J (w6 (x3 + 1)) (bE.enc b0)))) none)) none) (
 cond (decide (b0.Last < 0)) (
 (rI 1)) (
 cond (decide (b0.Last > 65535)) (
 (rI 1)) (
 (rI 0)))) := by kernel_rfl
end
abbrev avj : aP := anx gG
theorem aw9 : avj = aR gG := rfl
abbrev aAK := alS avj (bV SE gG (SE.hl 112) (SE.hr 112)) (J0 SE avj)
theorem aeO : ∀ (fu : Nat) (x3 : Int) (b0 : bE), Le (Option.map aB (eT fu x3 b0)) (aAK x3 (bE.enc b0)) := by
 intro fu
 induction fu with
 | zero => intros; exact le_none
 | succ fu ih =>
  intro x3 b0
  refine Le.trans ?_ (le_of_eq ((aZ aw9).trans (aA8 ..)).symm)
  unfold eT
  refine lD (by simp only [EN]) ?_ ?_
  ·refine lG (by simp only [EN]) ?_
   refine lD (by simp only [EN]) ?_ ?_
   ·exact aJ rfl
   ·refine lG (by simp only [EN]) ?_
    refine lD (by simp only [EN]) ?_ ?_
    ·exact aJ rfl
    ·refine lC ?_ ?_
     ·refine lG (by simp only [EN]) ?_
      refine lG (by simp only [EN]) ?_
      refine lD (by simp only [EN]) ?_ ?_
      ·exact aJ rfl
      ·exact ih (w6 (x3 + 1)) b0
     ·exact ih (w6 (x3 + 1)) b0
  ·refine lC ?_ ?_
   ·exact aJ rfl
   ·refine lC ?_ ?_
    ·exact aJ rfl
    ·exact aJ rfl
theorem abb (p0 : bE) : Le (Option.map aB (kD p0)) (bF SE 112 [bE.av p0] [] []) := by
 refine aW aw9 rfl ?_
 refine Le.trans ?_ (le_of_eq (aGk ..).symm)
 unfold kD
 refine lD (by simp only [EN]) ?_ ?_
 ·exact aJ rfl
 ·exact aeO fuel 0 p0
def apu (C : aP) (Λ2 J : Lam) (a0 a1 : Int) (a2 : List D) : Res := lab SE C Λ2 J 136 0 [1, 0, 1, 0] (aV [(1, .d (.int .i64 a0)), (2, .ptr 1000000000 0), (5, .d (.int .i64 a1))] [⟨35, (List.map AV.d a2)⟩] [] [] [])
section
variable (Γ : Fun)  (Λ2 J : Lam)
def aqC : aP := aR Γ
theorem aF3 (p0 : bE) (p1 : Int) : bG SE (aqC Γ) Λ2 J 136 [bE.av p0, .d (.int .i64 p1)] [] [] =
 apu (aqC Γ) Λ2 J p1 0 (bE.enc p0) := by kernel_rfl
theorem aBQ (x1 x5 : Int) (b0 : bE) : bW SE (aqC Γ) Λ2 J 136 0 [1, 0, 1, 0] (aV [(1, .d (.int .i64 x1)), (2, .ptr 1000000000 0), (5, .d (.int .i64 x5))] [⟨35, (List.map AV.d (bE.enc b0))⟩] [] [] []) =
 cond (decide (x5 < (lM eI b0.Used : Int))) (
 cond (iB x5 (lM eI b0.Used : Int)) (
  cond ((aX (cE eI b0.Used x5 0)) == x1) (
  (rB true)) (
  apu (aqC Γ) Λ2 J x1 (w6 (x5 + 1)) (bE.enc b0))) none) (
 (rB false)) := by kernel_rfl
end
abbrev avQ : aP := aqC gG
theorem axv : avQ = aR gG := rfl
abbrev aAQ := apu avQ (bV SE gG (SE.hl 136) (SE.hr 136)) (J0 SE avQ)
theorem agd : ∀ (fu : Nat) (x1 x5 : Int) (b0 : bE), Le (Option.map aF (lP fu x1 x5 b0)) (aAQ x1 x5 (bE.enc b0)) := by
 intro fu
 induction fu with
 | zero => intros; exact le_none
 | succ fu ih =>
  intro x1 x5 b0
  refine Le.trans ?_ (le_of_eq ((aZ axv).trans (aBQ ..)).symm)
  unfold lP
  refine lD (by simp only [EN]) ?_ ?_
  ·refine lG (by simp only [EN]) ?_
   refine lD (by simp only [EN]) ?_ ?_
   ·exact aJ rfl
   ·exact ih x1 (w6 (x5 + 1)) b0
  ·exact aJ rfl
theorem ajo (p0 : bE) (p1 : Int) : Le (Option.map aF (uH p0 p1)) (bF SE 136 [bE.av p0, .d (.int .i64 p1)] [] []) := by
 refine aW axv rfl ?_
 refine Le.trans ?_ (le_of_eq (aF3 ..).symm)
 unfold uH
 exact agd fuel p1 0 p0
def aqo (C : aP) (Λ2 J : Lam) (a0 : List (List D)) (a1 a2 : Int) : Res := lab SE C Λ2 J 137 0 [1, 0, 1, 0] (aV [(0, .d (.sl aE.ks a0)), (1, .d (.int .i64 a1)), (5, .d (.int .i64 a2))] [] [] [] [])
section
variable (Γ : Fun)  (Λ2 J : Lam)
def ao9 : aP := aR Γ
theorem aGo (p0 : List aE) (p1 : Int) : bG SE (ao9 Γ) Λ2 J 137 [.d (.sl aE.ks (List.map aE.enc p0)), .d (.int .i64 p1)] [] [] =
 aqo (ao9 Γ) Λ2 J (List.map aE.enc p0) p1 0 := by kernel_rfl
theorem az5 (x0 : List aE) (x1 x5 : Int) : bW SE (ao9 Γ) Λ2 J 137 0 [1, 0, 1, 0] (aV [(0, .d (.sl aE.ks (List.map aE.enc x0))), (1, .d (.int .i64 x1)), (5, .d (.int .i64 x5))] [] [] [] []) =
 cond (decide (x5 < (lM aE.enc x0 : Int))) (
 cond (iB x5 (lM aE.enc x0 : Int)) (
  cond ((aX (cE aE.enc x0 x5 0)) == x1) (
  (rI x5)) (
  aqo (ao9 Γ) Λ2 J (List.map aE.enc x0) x1 (w6 (x5 + 1)))) none) (
 (rI (-1))) := by kernel_rfl
end
abbrev awW : aP := ao9 gG
theorem axi : awW = aR gG := rfl
abbrev ay2 := aqo awW (bV SE gG (SE.hl 137) (SE.hr 137)) (J0 SE awW)
theorem ag1 : ∀ (fu : Nat) (x0 : List aE) (x1 x5 : Int), Le (Option.map aB (mJ fu x0 x1 x5)) (ay2 (List.map aE.enc x0) x1 x5) := by
 intro fu
 induction fu with
 | zero => intros; exact le_none
 | succ fu ih =>
  intro x0 x1 x5
  refine Le.trans ?_ (le_of_eq ((aZ axi).trans (az5 ..)).symm)
  unfold mJ
  refine lD (by simp only [EN]) ?_ ?_
  ·refine lG (by simp only [EN]) ?_
   refine lD (by simp only [EN]) ?_ ?_
   ·exact aJ rfl
   ·exact ih x0 x1 (w6 (x5 + 1))
  ·exact aJ rfl
theorem aj8 (p0 : List aE) (p1 : Int) : Le (Option.map aB (vE p0 p1)) (bF SE 137 [.d (.sl aE.ks (List.map aE.enc p0)), .d (.int .i64 p1)] [] []) := by
 refine aW axi rfl ?_
 refine Le.trans ?_ (le_of_eq (aGo ..).symm)
 unfold vE
 exact ag1 fuel p0 p1 0
def auG (C : aP) (Λ2 J : Lam) (a0 : List D) : Res := lab SE C Λ2 J 113 0 [1, 1, 1, 0] (aV [(5, .ptr 1000000000 0)] [⟨78, (List.map AV.d a0)⟩] [] [] [])
section
variable (Γ : Fun) (γ136 : Gm (Bool)) (γ137 γ106 : Gm (Int)) (Λ2 J : Lam)
def aqe : aP := bB (bB (bB (aR Γ) 136 aF γ136) 137 aB γ137) 106 aB γ106
theorem aF7 (p0 : aO) (p1 : Int) : bG SE (aqe Γ γ136 γ137 γ106) Λ2 J 113 [aO.av p0, .d (.int .i64 p1)] [] [] =
 cond (iB p1 (lM aE.enc p0.Items : Int)) (
 γ136 [bE.av p0.Pool, .d (.int .i64 (aX (cE aE.enc p0.Items p1 0)))] [] [] fun r0 =>
 cond (!r0) (
  (rI 15)) (
 γ137 [.d (.sl aE.ks (List.map aE.enc p0.Items)), .d (.int .i64 (aX (cE aE.enc p0.Items p1 0)))] [] [] fun r1 =>
 cond (decide (r1 < p1)) (
  (rI 15)) (
 auG (aqe Γ γ136 γ137 γ106) Λ2 J [D.int .i64 (aX (cE aE.enc p0.Items p1 0)), D.int .i64 (aX (cE aE.enc p0.Items p1 1)), D.str (bL (cE aE.enc p0.Items p1 2)), D.str (bL (cE aE.enc p0.Items p1 3)), D.int .i64 (aX (cE aE.enc p0.Items p1 4)), D.bool (dU (cE aE.enc p0.Items p1 5)), D.int .i64 (aX (cE aE.enc p0.Items p1 6)), D.int .i64 (aX (cE aE.enc p0.Items p1 7)), D.str (bL (cE aE.enc p0.Items p1 8)), D.int .i64 (aX (cE aE.enc p0.Items p1 9)), D.sl aG.ks (dSl (cE aE.enc p0.Items p1 10))]))) none := by kernel_rfl
theorem aBe (b0 : aE) : bW SE (aqe Γ γ136 γ137 γ106) Λ2 J 113 0 [1, 1, 1, 0] (aV [(5, .ptr 1000000000 0)] [⟨78, (List.map AV.d (aE.enc b0))⟩] [] [] []) =
 γ106 [aC.av b0.Message] [] [] fun r2 =>
 cond (r2 != 0) (
 (rI r2)) (
 cond (b0.Message.Level == 0) (
 (rI 14)) (
 cond (b0.State != 1) (
 cond (b0.State != 2) (
  (rI 9)) (
 cond (b0.Message.Level == 1) (
  (rI 9)) (
 (rI 0)))) (
 (rI 0)))) := by kernel_rfl
end
abbrev asR : aP := aqe gG (cT 136 aF) (cT 137 aB) (cT 106 aB)
theorem axx : asR = aR gG := by unfold asR aqe; repeat rw [bD fun _ h => h]
abbrev aAk := auG asR (bV SE gG (SE.hl 113) (SE.hr 113)) (J0 SE asR)
theorem af4 (b0 : aE) : Le (Option.map aB (tN b0)) (aAk (aE.enc b0)) := by
 refine Le.trans ?_ (le_of_eq ((aZ axx).trans (aBe ..)).symm)
 unfold tN
 refine lQ eX aM (sB _) fun r2 _ => ?_
 refine lC ?_ ?_
 ·exact aJ rfl
 ·refine lC ?_ ?_
  ·exact aJ rfl
  ·refine lC ?_ ?_
   ·refine lC ?_ ?_
    ·exact aJ rfl
    ·refine lC ?_ ?_
     ·exact aJ rfl
     ·exact aJ rfl
   ·exact aJ rfl
theorem ah5 (p0 : aO) (p1 : Int) : Le (Option.map aB (s9 p0 p1)) (bF SE 113 [aO.av p0, .d (.int .i64 p1)] [] []) := by
 refine aW axx rfl ?_
 refine Le.trans ?_ (le_of_eq (aF7 ..).symm)
 unfold s9
 refine lG (by simp only [EN]) ?_
 refine lQ eX aQ (by (try simp only [EN]); exact ajo p0.Pool ((List.getD p0.Items (Int.toNat p1) default).ID)) fun r0 _ => ?_
 refine lC ?_ ?_
 ·exact aJ rfl
 ·refine lQ eX aM (by (try simp only [EN]); exact aj8 p0.Items ((List.getD p0.Items (Int.toNat p1) default).ID)) fun r1 _ => ?_
  refine lC ?_ ?_
  ·exact aJ rfl
  ·(try simp only [EN]); exact af4 (List.getD p0.Items (Int.toNat p1) default)
def ash (C : aP) (Λ2 J : Lam) (a0 : Int) (a1 : List D) : Res := lab SE C Λ2 J 74 0 [1, 1, 1, 1, 1, 0, 1, 0] (aV [(1, .ptr 1000000000 0), (4, .d (.int .i64 a0))] [⟨37, (List.map AV.d a1)⟩] [] [] [])
def axT (C : aP) (Λ2 J : Lam) (a0 : List D) : Res := lab SE C Λ2 J 74 0 [1, 1, 0] (aV [(1, .ptr 1000000000 0)] [⟨37, (List.map AV.d a0)⟩] [] [] [])
section
variable (Γ : Fun) (γ112 γ113 : Gm (Int)) (Λ2 J : Lam)
def C74 : aP := bB (bB (aR Γ) 112 aB γ112) 113 aB γ113
theorem T74 (p0 : aO) : bG SE (C74 Γ γ112 γ113) Λ2 J 74 [aO.av p0] [] [] =
 cond (decide (p0.Limit < 0)) (
 (rI 1)) (
 cond (decide (p0.Limit > 32)) (
 (rI 1)) (
 axT (C74 Γ γ112 γ113) Λ2 J (aO.enc p0))) := by kernel_rfl
theorem aEm (x4 : Int) (b0 : aO) : bW SE (C74 Γ γ112 γ113) Λ2 J 74 0 [1, 1, 1, 1, 1, 0, 1, 0] (aV [(1, .ptr 1000000000 0), (4, .d (.int .i64 x4))] [⟨37, (List.map AV.d (aO.enc b0))⟩] [] [] []) =
 cond (decide (x4 < (lM aE.enc b0.Items : Int))) (
 γ113 [aO.av b0, .d (.int .i64 x4)] [] [] fun r1 =>
 cond (r1 != 0) (
  (rI r1)) (
 ash (C74 Γ γ112 γ113) Λ2 J (w6 (x4 + 1)) (aO.enc b0))) (
 cond (decide ((lM aE.enc b0.Items : Int) < (lM eI b0.Pool.Used : Int))) (
 (rI 15)) (
 (rI 0))) := by kernel_rfl
theorem aFm (b0 : aO) : bW SE (C74 Γ γ112 γ113) Λ2 J 74 0 [1, 1, 0] (aV [(1, .ptr 1000000000 0)] [⟨37, (List.map AV.d (aO.enc b0))⟩] [] [] []) =
 γ112 [bE.av b0.Pool] [] [] fun r0 =>
 cond (r0 != 0) (
 (rI r0)) (
 cond (decide ((lM aE.enc b0.Items : Int) > 32)) (
 (rI 5)) (
 ash (C74 Γ γ112 γ113) Λ2 J 0 (aO.enc b0))) := by kernel_rfl
end
abbrev X74 : aP := C74 gG (cT 112 aB) (cT 113 aB)
theorem avv : X74 = aR gG := by unfold X74 C74; repeat rw [bD fun _ h => h]
abbrev aCW := ash X74 (bV SE gG (SE.hl 74) (SE.hr 74)) (J0 SE X74)
abbrev aEn := axT X74 (bV SE gG (SE.hl 74) (SE.hr 74)) (J0 SE X74)
theorem aeS : ∀ (fu : Nat) (x4 : Int) (b0 : aO), Le (Option.map aB (jZ fu x4 b0)) (aCW x4 (aO.enc b0)) := by
 intro fu
 induction fu with
 | zero => intros; exact le_none
 | succ fu ih =>
  intro x4 b0
  refine Le.trans ?_ (le_of_eq ((aZ avv).trans (aEm ..)).symm)
  unfold jZ
  refine lD (by simp only [EN]) ?_ ?_
  ·refine lQ eX aM (ah5 _ _) fun r1 _ => ?_
   refine lC ?_ ?_
   ·exact aJ rfl
   ·exact ih (w6 (x4 + 1)) b0
  ·refine lD (by simp only [EN]) ?_ ?_
   ·exact aJ rfl
   ·exact aJ rfl
theorem aeR (b0 : aO) : Le (Option.map aB (sD b0)) (aEn (aO.enc b0)) := by
 refine Le.trans ?_ (le_of_eq ((aZ avv).trans (aFm ..)).symm)
 unfold sD
 refine lQ eX aM (abb _) fun r0 _ => ?_
 refine lC ?_ ?_
 ·exact aJ rfl
 ·refine lD (by simp only [EN]) ?_ ?_
  ·exact aJ rfl
  ·exact aeS fuel 0 b0
theorem ahe (p0 : aO) : Le (Option.map aB (rO p0)) (bF SE 74 [aO.av p0] [] []) := by
 refine aW avv rfl ?_
 refine Le.trans ?_ (le_of_eq (T74 ..).symm)
 unfold rO
 refine lC ?_ ?_
 ·exact aJ rfl
 ·refine lC ?_ ?_
  ·exact aJ rfl
  ·exact aeR p0
section
variable (Γ : Fun) (γ112 : Gm (Int)) (Λ2 J : Lam)
def C75 : aP := bB (aR Γ) 112 aB γ112
theorem T75 (p0 : bO) : bG SE (C75 Γ γ112) Λ2 J 75 [bO.av p0] [] [] =
 γ112 [bE.av (bE.mk p0.IDs 0)] [] [] fun r0 =>
 (rI r0) := by kernel_rfl
end
abbrev X75 : aP := C75 gG (cT 112 aB)
theorem aGx : X75 = aR gG := by unfold X75 C75; rw [bD fun _ h => h]
theorem ahu (p0 : bO) : Le (Option.map aB (rS p0)) (bF SE 75 [bO.av p0] [] []) := by
 refine aW aGx rfl ?_
 refine Le.trans ?_ (le_of_eq (T75 ..).symm)
 unfold rS
 refine lQ eX aM (abb _) fun r0 _ => ?_
 exact aJ rfl
def aql (C : aP) (Λ2 J : Lam) (a0 a1 : List (List D)) (a2 : Int) : Res := lab SE C Λ2 J 132 0 [1, 1, 0, 1, 0] (aV [(0, .d (.sl aG.ks a0)), (1, .d (.sl aG.ks a1)), (5, .d (.int .i64 a2))] [] [] [] [])
section
variable (Γ : Fun)  (Λ2 J : Lam)
def ap6 : aP := aR Γ
theorem aFM (p0 p1 : List aG) : bG SE (ap6 Γ) Λ2 J 132 [.d (.sl aG.ks (List.map aG.enc p0)), .d (.sl aG.ks (List.map aG.enc p1))] [] [] =
 cond ((lM aG.enc p0 : Int) != (lM aG.enc p1 : Int)) (
 (rB false)) (
 aql (ap6 Γ) Λ2 J (List.map aG.enc p0) (List.map aG.enc p1) 0) := by kernel_rfl
theorem aAE (x0 x1 : List aG) (x5 : Int) : bW SE (ap6 Γ) Λ2 J 132 0 [1, 1, 0, 1, 0] (aV [(0, .d (.sl aG.ks (List.map aG.enc x0))), (1, .d (.sl aG.ks (List.map aG.enc x1))), (5, .d (.int .i64 x5))] [] [] [] []) =
 cond (decide (x5 < (lM aG.enc x0 : Int))) (
 cond (iB x5 (lM aG.enc x0 : Int)) (
  cond (iB x5 (lM aG.enc x1 : Int)) (
  cond (!(((bL (cE aG.enc x0 x5 0)) == (bL (cE aG.enc x1 x5 0))) && (((bL (cE aG.enc x0 x5 1)) == (bL (cE aG.enc x1 x5 1))) && true))) (
   (rB false)) (
  aql (ap6 Γ) Λ2 J (List.map aG.enc x0) (List.map aG.enc x1) (w6 (x5 + 1)))) none) none) (
 (rB true)) := by kernel_rfl
end
abbrev awo : aP := ap6 gG
theorem axK : awo = aR gG := rfl
abbrev aAA := aql awo (bV SE gG (SE.hl 132) (SE.hr 132)) (J0 SE awo)
theorem acU : ∀ (fu : Nat) (x0 x1 : List aG) (x5 : Int), Le (Option.map aF (gO fu x0 x1 x5)) (aAA (List.map aG.enc x0) (List.map aG.enc x1) x5) := by
 intro fu
 induction fu with
 | zero => intros; exact le_none
 | succ fu ih =>
  intro x0 x1 x5
  refine Le.trans ?_ (le_of_eq ((aZ axK).trans (aAE ..)).symm)
  unfold gO
  refine lD (by simp only [EN]) ?_ ?_
  ·refine lG (by simp only [EN]) ?_
   refine lG (by simp only [EN]) ?_
   refine lD (by simp only [EN]) ?_ ?_
   ·exact aJ rfl
   ·exact ih x0 x1 (w6 (x5 + 1))
  ·exact aJ rfl
theorem aec (p0 p1 : List aG) : Le (Option.map aF (nF p0 p1)) (bF SE 132 [.d (.sl aG.ks (List.map aG.enc p0)), .d (.sl aG.ks (List.map aG.enc p1))] [] []) := by
 refine aW axK rfl ?_
 refine Le.trans ?_ (le_of_eq (aFM ..).symm)
 unfold nF
 refine lD (by simp only [EN]) ?_ ?_
 ·exact aJ rfl
 ·exact acU fuel p0 p1 0
section
variable (Γ : Fun) (γ132 : Gm (Bool)) (Λ2 J : Lam)
def awX : aP := bB (aR Γ) 132 aF γ132
theorem aFZ (p0 p1 : aC) : bG SE (awX Γ γ132) Λ2 J 107 [aC.av p0, aC.av p1] [] [] =
 cond (p0.Topic == p1.Topic) (
 cond (p0.Payload == p1.Payload) (
  cond (p0.Level == p1.Level) (
  cond (p0.Retain == p1.Retain) (
   cond (p0.Priority == p1.Priority) (
   cond (p0.Expires == p1.Expires) (
    cond (p0.From == p1.From) (
    cond (p0.Seq == p1.Seq) (
     γ132 [.d (.sl aG.ks (List.map aG.enc p0.Props)), .d (.sl aG.ks (List.map aG.enc p1.Props))] [] [] fun r0 =>
     (rB r0)) (
    (rB false))) (
    (rB false))) (
   (rB false))) (
   (rB false))) (
  (rB false))) (
  (rB false))) (
 (rB false))) (
 (rB false)) := by kernel_rfl
end
abbrev azJ : aP := awX gG (cT 132 aF)
theorem aCC : azJ = aR gG := by unfold azJ awX; rw [bD fun _ h => h]
theorem tL (p0 p1 : aC) : Le (Option.map aF (lH p0 p1)) (bF SE 107 [aC.av p0, aC.av p1] [] []) := by
 refine aW aCC rfl ?_
 refine Le.trans ?_ (le_of_eq (aFZ ..).symm)
 unfold lH
 refine lC ?_ ?_
 ·refine lC ?_ ?_
  ·refine lC ?_ ?_
   ·refine lC ?_ ?_
    ·refine lC ?_ ?_
     ·refine lC ?_ ?_
      ·refine lC ?_ ?_
       ·refine lC ?_ ?_
        ·refine lQ eX aQ (aec _ _) fun r0 _ => ?_
         exact aJ rfl
        ·exact aJ rfl
       ·exact aJ rfl
      ·exact aJ rfl
     ·exact aJ rfl
    ·exact aJ rfl
   ·exact aJ rfl
  ·exact aJ rfl
 ·exact aJ rfl
section
variable (Γ : Fun) (γ107 : Gm (Bool)) (γ106 : Gm (Int)) (Λ2 J : Lam)
def C76 : aP := bB (bB (aR Γ) 107 aF γ107) 106 aB γ106
theorem T76 (p0 : bM) : bG SE (C76 Γ γ107 γ106) Λ2 J 76 [bM.av p0] [] [] =
 cond (!p0.Set) (
 cond (p0.Delay != 0) (
  (rI 28)) (
 γ107 [aC.av p0.Message, .agg [.d (.str []), .d (.str []), .d (.int .i64 0), .d (.bool false), .d (.int .i64 0), .d (.int .i64 0), .d (.str []), .d (.int .i64 0), .d (.sl aG.ks (List.map aG.enc []))]] [] [] fun r0 =>
 cond (!r0) (
  (rI 28)) (
 (rI 0)))) (
 cond (decide (p0.Delay < 0)) (
 (rI 1)) (
 cond (decide (p0.Delay > 1099511627776)) (
 (rI 1)) (
 γ106 [aC.av p0.Message] [] [] fun r1 =>
 (rI r1)))) := by kernel_rfl
end
abbrev X76 : aP := C76 gG (cT 107 aF) (cT 106 aB)
theorem aFR : X76 = aR gG := by unfold X76 C76; repeat rw [bD fun _ h => h]
theorem ahC (p0 : bM) : Le (Option.map aB (rT p0)) (bF SE 76 [bM.av p0] [] []) := by
 refine aW aFR rfl ?_
 refine Le.trans ?_ (le_of_eq (T76 ..).symm)
 unfold rT
 refine lC ?_ ?_
 ·refine lC ?_ ?_
  ·exact aJ rfl
  ·refine lQ eX aQ (by (try simp only [EN]); exact tL p0.Message ((aC.mk [] [] 0 false 0 0 [] 0 []))) fun r0 _ => ?_
   refine lC ?_ ?_
   ·exact aJ rfl
   ·exact aJ rfl
 ·refine lC ?_ ?_
  ·exact aJ rfl
  ·refine lC ?_ ?_
   ·exact aJ rfl
   ·refine lQ eX aM (sB _) fun r1 _ => ?_
    exact aJ rfl
def ar7 (C : aP) (Λ2 J : Lam) (a0 : List (List D)) (a1 : Int) : Res := lab SE C Λ2 J 70 0 [1, 0, 1, 0] (aV [(0, .d (.sl [.int .i64] a0)), (3, .d (.int .i64 a1))] [] [] [] [])
section
variable (Γ : Fun)  (Λ2 J : Lam)
def C70 : aP := aR Γ
theorem T70 (p0 : List Int) : bG SE (C70 Γ) Λ2 J 70 [.d (.sl [.int .i64] (List.map eI p0))] [] [] =
 ar7 (C70 Γ) Λ2 J (List.map eI p0) 0 := by kernel_rfl
theorem aC8 (x0 : List Int) (x3 : Int) : bW SE (C70 Γ) Λ2 J 70 0 [1, 0, 1, 0] (aV [(0, .d (.sl [.int .i64] (List.map eI x0))), (3, .d (.int .i64 x3))] [] [] [] []) =
 cond (decide (x3 < (lM eI x0 : Int))) (
 cond (iB x3 (lM eI x0 : Int)) (
  cond ((aX (cE eI x0 x3 0)) != 0) (
  cond (iB x3 (lM eI x0 : Int)) (
   (rI (aX (cE eI x0 x3 0)))) none) (
  ar7 (C70 Γ) Λ2 J (List.map eI x0) (w6 (x3 + 1)))) none) (
 (rI 0)) := by kernel_rfl
end
abbrev X70 : aP := C70 gG
theorem aBN : X70 = aR gG := rfl
abbrev aD0 := ar7 X70 (bV SE gG (SE.hl 70) (SE.hr 70)) (J0 SE X70)
theorem aeQ : ∀ (fu : Nat) (x0 : List Int) (x3 : Int), Le (Option.map aB (jW fu x0 x3)) (aD0 (List.map eI x0) x3) := by
 intro fu
 induction fu with
 | zero => intros; exact le_none
 | succ fu ih =>
  intro x0 x3
  refine Le.trans ?_ (le_of_eq ((aZ aBN).trans (aC8 ..)).symm)
  unfold jW
  refine lD (by simp only [EN]) ?_ ?_
  ·refine lG (by simp only [EN]) ?_
   refine lD (by simp only [EN]) ?_ ?_
   ·refine lG (by simp only [EN]) ?_
    exact aJ (by first | rfl | simp only [EN, aB] <;> rfl)
   ·exact ih x0 (w6 (x3 + 1))
  ·exact aJ rfl
theorem agT (p0 : List Int) : Le (Option.map aB (rR p0)) (bF SE 70 [.d (.sl [.int .i64] (List.map eI p0))] [] []) := by
 refine aW aBN rfl ?_
 refine Le.trans ?_ (le_of_eq (T70 ..).symm)
 unfold rR
 exact aeQ fuel p0 0
end Te
end PX
