import Derived.Test.YtojlmojebnlmdaaGreatDoorTre1
set_option linter.unusedVariables false
set_option linter.unusedSimpArgs false
set_option maxRecDepth 100000
noncomputable section
namespace PX
open Go
open Md
namespace Te
def ajO (C : aP) (Λ2 J : Lam) (a0 : Int) (a1 : (List D)) (a2 : (List D)) (a3 : (List D)) (a4 : (List D)) : Res := lab SE C Λ2 J 60 0 [1, 1, 1, 1, 0, 0] (bA [(2, .ptr 1000000000 0), (3, .ptr 1000000001 0), (4, .ptr 1000000002 0), (7, .d (.int .i64 a0)), (8, .ptr 1000000003 0)] [⟨29, (List.map AV.d a1)⟩, ⟨49, (List.map AV.d a2)⟩, ⟨29, (List.map AV.d a3)⟩, ⟨122, (List.map AV.d a4)⟩] [] [] [])
section
variable (Γ : Fun) (γ109 : Gm (Int)) (γ110 : Gm (aG)) (γ111 : Gm (aG)) (γ112 : Gm (aE)) (Λ2 J : Lam)
def C60 : aP := aZ (aZ (aZ (aZ (aO Γ) 109 j2 γ109) 110 c7 γ110) 111 iP γ111) 112 eO γ112
theorem T60 (p0 : aG) (p1 : aE) : bB SE (C60 Γ γ109 γ110 γ111 γ112) Λ2 J 60 [aG.av p0, aE.av p1] [] [] =
 γ109 [.d (.sl aB.ks (List.map aB.enc p0.Items)), .d (.int .i64 p1.ID)] [] [] fun r0 =>
 cond (decide (r0 ≥ 0)) (
 cond (decide (0 ≤ r0) && decide (r0 < (List.length (List.map aB.enc p0.Items) : Int))) (
  ajO (C60 Γ γ109 γ110 γ111 γ112) Λ2 J r0 (aG.enc p0) (aE.enc p1) [D.int .i64 0, D.sl aB.ks (List.map aB.enc []), D.sl [.int .i64] (List.map (encI .i64) []), D.int .i64 0] [D.int .i64 (aL (cellAt (elemAt (List.map aB.enc p0.Items) (Int.toNat r0)) 0)), D.int .i64 (aL (cellAt (elemAt (List.map aB.enc p0.Items) (Int.toNat r0)) 1)), D.str (aV (cellAt (elemAt (List.map aB.enc p0.Items) (Int.toNat r0)) 2)), D.str (aV (cellAt (elemAt (List.map aB.enc p0.Items) (Int.toNat r0)) 3)), D.int .i64 (aL (cellAt (elemAt (List.map aB.enc p0.Items) (Int.toNat r0)) 4)), D.bool (aY (cellAt (elemAt (List.map aB.enc p0.Items) (Int.toNat r0)) 5)), D.int .i64 (aL (cellAt (elemAt (List.map aB.enc p0.Items) (Int.toNat r0)) 6)), D.int .i64 (aL (cellAt (elemAt (List.map aB.enc p0.Items) (Int.toNat r0)) 7)), D.str (aV (cellAt (elemAt (List.map aB.enc p0.Items) (Int.toNat r0)) 8)), D.int .i64 (aL (cellAt (elemAt (List.map aB.enc p0.Items) (Int.toNat r0)) 9)), D.sl aD.ks (dSl (cellAt (elemAt (List.map aB.enc p0.Items) (Int.toNat r0)) 10))]) none) (
 ajO (C60 Γ γ109 γ110 γ111 γ112) Λ2 J r0 (aG.enc p0) (aE.enc p1) [D.int .i64 0, D.sl aB.ks (List.map aB.enc []), D.sl [.int .i64] (List.map (encI .i64) []), D.int .i64 0] [D.int .i64 0, D.int .i64 0, D.str ([] : Str), D.str ([] : Str), D.int .i64 0, D.bool false, D.int .i64 0, D.int .i64 0, D.str ([] : Str), D.int .i64 0, D.sl aD.ks (List.map aD.enc [])]) := by kernel_rfl
theorem arK (x7 : Int) (b0 : aG) (b1 : aE) (b2 : aG) (b3 : aB) : cG SE (C60 Γ γ109 γ110 γ111 γ112) Λ2 J 60 0 [1, 1, 1, 1, 0, 0] (bA [(2, .ptr 1000000000 0), (3, .ptr 1000000001 0), (4, .ptr 1000000002 0), (7, .d (.int .i64 x7)), (8, .ptr 1000000003 0)] [⟨29, (List.map AV.d (aG.enc b0))⟩, ⟨49, (List.map AV.d (aE.enc b1))⟩, ⟨29, (List.map AV.d (aG.enc b2))⟩, ⟨122, (List.map AV.d (aB.enc b3))⟩] [] [] []) =
 cond (b1.Kind == 4) (
 cond (decide (x7 < 0)) (
  γ110 [aG.av b0] [] [] fun r1 =>
  (some (.ret [.agg [.d (.int .i64 r1.Limit), .row 0, .row 1, .d (.int .i64 r1.Pool.Last)], .row 2, .d (.int .i64 0)] [] [⟨aB.ks, 122, 128, (List.map aB.enc r1.Items)⟩, ⟨[.int .i64], 3, 8, (List.map (encI .i64) r1.Pool.Used)⟩, ⟨aE.ks, 49, 416, []⟩]))) (
 cond (b3.Message.Level == 1) (
  γ111 [aG.av b0, .d (.int .i64 x7)] [] [] fun r2 =>
  (some (.ret [.agg [.d (.int .i64 r2.Limit), .row 0, .row 1, .d (.int .i64 r2.Pool.Last)], .row 2, .d (.int .i64 0)] [] [⟨aB.ks, 122, 128, (List.map aB.enc r2.Items)⟩, ⟨[.int .i64], 3, 8, (List.map (encI .i64) r2.Pool.Used)⟩, ⟨aE.ks, 49, 416, []⟩]))) (
 (some (.ret [.agg [.d (.int .i64 0), .row 0, .row 1, .d (.int .i64 0)], .row 2, .d (.int .i64 23)] [] [⟨aB.ks, 122, 128, (List.map aB.enc [])⟩, ⟨[.int .i64], 3, 8, (List.map (encI .i64) [])⟩, ⟨aE.ks, 49, 416, []⟩]))))) (
 cond (b1.Kind == 5) (
 cond (decide (x7 < 0)) (
  γ110 [aG.av b0] [] [] fun r3 =>
  γ112 [.d (.int .i64 b1.ID)] [] [] fun r4 =>
  (some (.ret [.agg [.d (.int .i64 r3.Limit), .row 0, .row 1, .d (.int .i64 r3.Pool.Last)], .row 2, .d (.int .i64 0)] [] [⟨aB.ks, 122, 128, (List.map aB.enc r3.Items)⟩, ⟨[.int .i64], 3, 8, (List.map (encI .i64) r3.Pool.Used)⟩, ⟨aE.ks, 49, 416, (List.map aE.enc [r4])⟩]))) (
 cond (b3.Message.Level == 2) (
  γ110 [aG.av b0] [] [] fun r5 =>
  cond (decide (0 ≤ x7) && decide (x7 < (List.length (List.map aB.enc r5.Items) : Int))) (
  γ112 [.d (.int .i64 b1.ID)] [] [] fun r6 =>
  (some (.ret [.agg [.d (.int .i64 r5.Limit), .row 0, .row 1, .d (.int .i64 r5.Pool.Last)], .row 2, .d (.int .i64 0)] [] [⟨aB.ks, 122, 128, (gN (List.map aB.enc r5.Items) (Int.toNat x7) 1 [D.int .i64 2])⟩, ⟨[.int .i64], 3, 8, (List.map (encI .i64) r5.Pool.Used)⟩, ⟨aE.ks, 49, 416, (List.map aE.enc [r6])⟩]))) none) (
 (some (.ret [.agg [.d (.int .i64 0), .row 0, .row 1, .d (.int .i64 0)], .row 2, .d (.int .i64 23)] [] [⟨aB.ks, 122, 128, (List.map aB.enc [])⟩, ⟨[.int .i64], 3, 8, (List.map (encI .i64) [])⟩, ⟨aE.ks, 49, 416, []⟩]))))) (
 cond (b1.Kind == 7) (
 cond (decide (x7 < 0)) (
  γ110 [aG.av b0] [] [] fun r7 =>
  (some (.ret [.agg [.d (.int .i64 r7.Limit), .row 0, .row 1, .d (.int .i64 r7.Pool.Last)], .row 2, .d (.int .i64 0)] [] [⟨aB.ks, 122, 128, (List.map aB.enc r7.Items)⟩, ⟨[.int .i64], 3, 8, (List.map (encI .i64) r7.Pool.Used)⟩, ⟨aE.ks, 49, 416, []⟩]))) (
 cond (b3.State == 2) (
  γ111 [aG.av b0, .d (.int .i64 x7)] [] [] fun r8 =>
  (some (.ret [.agg [.d (.int .i64 r8.Limit), .row 0, .row 1, .d (.int .i64 r8.Pool.Last)], .row 2, .d (.int .i64 0)] [] [⟨aB.ks, 122, 128, (List.map aB.enc r8.Items)⟩, ⟨[.int .i64], 3, 8, (List.map (encI .i64) r8.Pool.Used)⟩, ⟨aE.ks, 49, 416, []⟩]))) (
 (some (.ret [.agg [.d (.int .i64 0), .row 0, .row 1, .d (.int .i64 0)], .row 2, .d (.int .i64 23)] [] [⟨aB.ks, 122, 128, (List.map aB.enc [])⟩, ⟨[.int .i64], 3, 8, (List.map (encI .i64) [])⟩, ⟨aE.ks, 49, 416, []⟩]))))) (
 (some (.ret [.agg [.d (.int .i64 0), .row 0, .row 1, .d (.int .i64 0)], .row 2, .d (.int .i64 10)] [] [⟨aB.ks, 122, 128, (List.map aB.enc [])⟩, ⟨[.int .i64], 3, 8, (List.map (encI .i64) [])⟩, ⟨aE.ks, 49, 416, []⟩]))))) := by kernel_rfl
end
abbrev X60 : aP := C60 gG (cT 109 j2) (cT 110 c7) (cT 111 iP) (cT 112 eO)
theorem aoc : X60 = aO gG := by unfold X60 C60; rw [aK fun _ h => h, aK fun _ h => h, aK fun _ h => h, aK fun _ h => h]
noncomputable abbrev arU (a0 : Int) (a1 : (List D)) (a2 : (List D)) (a3 : (List D)) (a4 : (List D)) : Res := ajO X60 (bY SE gG (SE.hl 60) (SE.hr 60)) (J0 SE X60) a0 a1 a2 a3 a4
theorem k8 (x7 : Int) (b0 : aG) (b1 : aE) (b2 : aG) (b3 : aB) : Le (Option.map eU (nN x7 b0 b1 b2 b3)) (arU x7 (aG.enc b0) (aE.enc b1) (aG.enc b2) (aB.enc b3)) := by
 refine Le.trans ?_ (le_of_eq ((bC aoc).trans (arK _ _ _ _ _ _ _  x7 b0 b1 b2 b3)).symm)
 unfold nN
 refine lC ?_ ?_
 ·refine lC ?_ ?_
  ·refine aM (good := good) eX jB (jT _) fun r1 _ => ?_
   exact aH rfl
  ·refine lC ?_ ?_
   ·refine aM (good := good) eX tR (vJ _ _) fun r2 _ => ?_
    exact aH rfl
   ·exact aH rfl
 ·refine lC ?_ ?_
  ·refine lC ?_ ?_
   ·refine aM (good := good) eX jB (jT _) fun r3 _ => ?_
    refine aM (good := good) eX pE (nL _) fun r4 _ => ?_
    exact aH rfl
   ·refine lC ?_ ?_
    ·refine aM (good := good) eX jB (jT _) fun r5 _ => ?_
     refine lG (by simp only [EN]) ?_
     refine aM (good := good) eX pE (nL _) fun r6 _ => ?_
     exact aH (by first | rfl | simp only [EN, eU] <;> rfl)
    ·exact aH rfl
  ·refine lC ?_ ?_
   ·refine lC ?_ ?_
    ·refine aM (good := good) eX jB (jT _) fun r7 _ => ?_
     exact aH rfl
    ·refine lC ?_ ?_
     ·refine aM (good := good) eX tR (vJ _ _) fun r8 _ => ?_
      exact aH rfl
     ·exact aH rfl
   ·exact aH rfl
theorem adu (p0 : aG) (p1 : aE) : Le (Option.map eU (s9 p0 p1)) (aX SE 60 [aG.av p0, aE.av p1] [] []) := by
 refine aQ aoc rfl ?_
 refine Le.trans ?_ (le_of_eq (T60 _ _ _ _ _ _ _  p0 p1).symm)
 unfold s9
 refine aM (good := good) eX ad4 (aem _ _) fun r0 _ => ?_
 refine lC ?_ ?_
 ·refine lG (by simp only [EN]) ?_
  first | (simp only [EN]; exact k8 r0 p0 p1 ((aG.mk 0 ([] : List aB) (aJ.mk ([] : List Int) 0))) (List.getD p0.Items (Int.toNat r0) default)) | exact k8 r0 p0 p1 ((aG.mk 0 ([] : List aB) (aJ.mk ([] : List Int) 0))) (List.getD p0.Items (Int.toNat r0) default)
 ·first | (simp only [EN]; exact k8 r0 p0 p1 ((aG.mk 0 ([] : List aB) (aJ.mk ([] : List Int) 0))) ((aB.mk 0 0 (aA.mk ([] : Str) ([] : Str) 0 false 0 0 ([] : Str) 0 ([] : List aD))))) | exact k8 r0 p0 p1 ((aG.mk 0 ([] : List aB) (aJ.mk ([] : List Int) 0))) ((aB.mk 0 0 (aA.mk ([] : Str) ([] : Str) 0 false 0 0 ([] : Str) 0 ([] : List aD))))
section
variable (Γ : Fun) (γ60 : Gm (aG × (List aE) × Int)) (γ50 : Gm (aC)) (γ61 : Gm (aC × (List aE))) (Λ2 J : Lam)
def C19 : aP := aZ (aZ (aZ (aO Γ) 60 eU γ60) 50 bS γ50) 61 dR γ61
theorem T19 (p0 : aC) (p1 : aE) (p2 : Int) : bB SE (C19 Γ γ60 γ50 γ61) Λ2 J 19 [aC.av p0, aE.av p1, .d (.int .i64 p2)] [] [] =
 γ60 [aG.av p0.Out, aE.av p1] [] [] fun r0 =>
 cond (r0.2.2 != 0) (
 (some (.ret [.agg [.d (.str ([] : Str)), .d (.str ([] : Str)), .d (.bool false), .d (.int .i64 0), .d (.int .i64 0), .d (.int .i64 0), .d (.int .i64 0), .d (.sl aF.ks (List.map aF.enc [])), .d (.sl aA.ks (List.map aA.enc [])), .d (.int .i64 0), .d (.sl aB.ks (List.map aB.enc [])), .d (.sl [.int .i64] (List.map (encI .i64) [])), .d (.int .i64 0), .d (.sl [.int .i64] (List.map (encI .i64) [])), .d (.bool false), .d (.int .i64 0), .d (.str ([] : Str)), .d (.str ([] : Str)), .d (.int .i64 0), .d (.bool false), .d (.int .i64 0), .d (.int .i64 0), .d (.str ([] : Str)), .d (.int .i64 0), .d (.sl aD.ks (List.map aD.enc []))], .row 0, .d (.int .i64 r0.2.2)] [] [⟨aE.ks, 49, 416, []⟩]))) (
 γ50 [aC.av p0] [] [] fun r1 =>
 cond (!p0.Online) (
 (some (.ret [aC.av (aC.mk r1.Client r1.User r1.Online r1.Conn r1.Expiry r1.Until r1.Dropped r1.Subs r1.Queue r0.1 r1.In r1.Will), .row 0, .d (.int .i64 0)] [] [⟨aE.ks, 49, 416, (List.map aE.enc r0.2.1)⟩]))) (
 γ61 [aC.av (aC.mk r1.Client r1.User r1.Online r1.Conn r1.Expiry r1.Until r1.Dropped r1.Subs r1.Queue r0.1 r1.In r1.Will), .d (.int .i64 p2), .row 2000000000] [] [⟨aE.ks, 49, 416, (List.map aE.enc r0.2.1)⟩] fun r2 =>
 (some (.ret [aC.av r2.1, .row 0, .d (.int .i64 0)] [] [⟨aE.ks, 49, 416, (List.map aE.enc r2.2)⟩])))) := by kernel_rfl
end
abbrev X19 : aP := C19 gG (cT 60 eU) (cT 50 bS) (cT 61 dR)
theorem atn : X19 = aO gG := by unfold X19 C19; rw [aK fun _ h => h, aK fun _ h => h, aK fun _ h => h]
theorem wK (p0 : aC) (p1 : aE) (p2 : Int) : Le (Option.map iZ (uG p0 p1 p2)) (aX SE 19 [aC.av p0, aE.av p1, .d (.int .i64 p2)] [] []) := by
 refine aQ atn rfl ?_
 refine Le.trans ?_ (le_of_eq (T19 _ _ _ _ _ _  p0 p1 p2).symm)
 unfold uG
 refine aM (good := good) eX acy (adu _ _) fun r0 _ => ?_
 refine lC ?_ ?_
 ·exact aH rfl
 ·refine aM (good := good) eX iD (iW _) fun r1 _ => ?_
  refine lC ?_ ?_
  ·exact aH rfl
  ·refine aM (good := good) eX rO (pI _ _ _) fun r2 _ => ?_
   exact aH rfl
section
variable (Γ : Fun)  (Λ2 J : Lam)
def C65 : aP := aO Γ
theorem T65 (p0 : aA) : bB SE (C65 Γ) Λ2 J 65 [aA.av p0] [] [] =
 (some (.ret [.d (.bool (p0.Level == 0))] [] [])) := by kernel_rfl
end
abbrev X65 : aP := C65 gG
theorem atk : X65 = aO gG := rfl
theorem l4 (p0 : aA) : Le (Option.map eA (jU p0)) (aX SE 65 [aA.av p0] [] []) := by
 refine aQ atk rfl ?_
 refine Le.trans ?_ (le_of_eq (T65 _ _ _  p0).symm)
 unfold jU
 exact aH rfl
def aiI (C : aP) (Λ2 J : Lam) (a0 : (List (List D))) (a1 : Int) (a2 : Int) : Res := lab SE C Λ2 J 123 0 [1, 0, 1, 0] (bA [(0, .d (.sl aA.ks a0)), (1, .fn 65 [] []), (7, .d (.int .i64 a1)), (8, .d (.int .i64 a2))] [] [] [] [])
section
variable (Γ : Fun) (γ65 : Gm (Bool)) (Λ2 J : Lam)
def agw : aP := aZ (aO Γ) 65 eA γ65
theorem asZ (p0 : (List aA)) : bB SE (agw Γ γ65) Λ2 J 123 [.d (.sl aA.ks (List.map aA.enc p0)), .fn 65 [] []] [] [] =
 aiI (agw Γ γ65) Λ2 J (List.map aA.enc p0) (List.length (List.map aA.enc p0) : Int) 0 := by kernel_rfl
theorem ap8 (x0 : (List aA)) (x7 : Int) (x8 : Int) : cG SE (agw Γ γ65) Λ2 J 123 0 [1, 0, 1, 0] (bA [(0, .d (.sl aA.ks (List.map aA.enc x0))), (1, .fn 65 [] []), (7, .d (.int .i64 x7)), (8, .d (.int .i64 x8))] [] [] [] []) =
 cond (decide (x8 < x7)) (
 cond (decide (0 ≤ x8) && decide (x8 < (List.length (List.map aA.enc x0) : Int))) (
  γ65 [.agg [.d (.str (aV (cellAt (elemAt (List.map aA.enc x0) (Int.toNat x8)) 0))), .d (.str (aV (cellAt (elemAt (List.map aA.enc x0) (Int.toNat x8)) 1))), .d (.int .i64 (aL (cellAt (elemAt (List.map aA.enc x0) (Int.toNat x8)) 2))), .d (.bool (aY (cellAt (elemAt (List.map aA.enc x0) (Int.toNat x8)) 3))), .d (.int .i64 (aL (cellAt (elemAt (List.map aA.enc x0) (Int.toNat x8)) 4))), .d (.int .i64 (aL (cellAt (elemAt (List.map aA.enc x0) (Int.toNat x8)) 5))), .d (.str (aV (cellAt (elemAt (List.map aA.enc x0) (Int.toNat x8)) 6))), .d (.int .i64 (aL (cellAt (elemAt (List.map aA.enc x0) (Int.toNat x8)) 7))), .d (.sl aD.ks (dSl (cellAt (elemAt (List.map aA.enc x0) (Int.toNat x8)) 8)))]] [] [] fun r0 =>
  cond r0 (
  (some (.ret [.d (.int .i64 x8)] [] []))) (
  aiI (agw Γ γ65) Λ2 J (List.map aA.enc x0) x7 (IntKind.wrap .i64 (x8 + 1)))) none) (
 (some (.ret [.d (.int .i64 (-1))] [] []))) := by kernel_rfl
end
abbrev ajR : aP := agw gG (cT 65 eA)
theorem ane : ajR = aO gG := by unfold ajR agw; rw [aK fun _ h => h]
noncomputable abbrev apu (a0 : (List (List D))) (a1 : Int) (a2 : Int) : Res := aiI ajR (bY SE gG (SE.hl 123) (SE.hr 123)) (J0 SE ajR) a0 a1 a2
theorem gZ : ∀ (fu : Nat) (x0 : (List aA)) (x7 : Int) (x8 : Int), Le (Option.map bJ (bK fu x0 x7 x8)) (apu (List.map aA.enc x0) x7 x8) := by
 intro fu
 induction fu with
 | zero => intros; exact le_none
 | succ fu ih =>
  intro x0 x7 x8
  refine Le.trans ?_ (le_of_eq ((bC ane).trans (ap8 _ _ _ _  x0 x7 x8)).symm)
  unfold bK
  refine lC ?_ ?_
  ·refine lG (by simp only [EN]) ?_
   refine aM (good := good) eX sF (by first | (simp only [EN]; exact l4 (List.getD x0 (Int.toNat x8) default)) | exact l4 (List.getD x0 (Int.toNat x8) default)) fun r0 _ => ?_
   refine lC ?_ ?_
   ·exact aH rfl
   ·exact ih x0 x7 (IntKind.wrap .i64 (x8 + 1))
  ·exact aH rfl
theorem m5 (p0 : (List aA)) : Le (Option.map bJ (cF p0)) (aX SE 123 [.d (.sl aA.ks (List.map aA.enc p0)), .fn 65 [] []] [] []) := by
 refine aQ ane rfl ?_
 refine Le.trans ?_ (le_of_eq (asZ _ _ _ _  p0).symm)
 unfold cF
 first | (simp only [EN]; exact gZ fuel p0 (List.length p0 : Int) 0) | exact gZ fuel p0 (List.length p0 : Int) 0
def ahJ (C : aP) (Λ2 J : Lam) (a0 : Int) (a1 : Int) (a2 : (List (List D))) : Res := lab SE C Λ2 J 64 0 [1, 1, 1, 0, 1, 0] (bA [(0, .row 3000), (1, .fn 65 [] []), (5, .d (.int .i64 a0)), (6, .d (.int .i64 a1))] [] [] [] [(3000, ⟨aA.ks, 34, 112, a2⟩)])
section
variable (Γ : Fun) (γ123 : Gm (Int)) (γ65 : Gm (Bool)) (Λ2 J : Lam)
def C64 : aP := aZ (aZ (aO Γ) 123 bJ γ123) 65 eA γ65
theorem T64 (p0 : (List aA)) : bB SE (C64 Γ γ123 γ65) Λ2 J 64 [.row 2000000000, .fn 65 [] []] [] [⟨aA.ks, 34, 112, (List.map aA.enc p0)⟩] =
 γ123 [.d (.sl aA.ks (List.map aA.enc p0)), .fn 65 [] []] [] [] fun r0 =>
 cond (r0 == (-1)) (
 (some (.ret [.row 0] [] [⟨aA.ks, 34, 112, (List.map aA.enc p0)⟩]))) (
 ahJ (C64 Γ γ123 γ65) Λ2 J r0 (IntKind.wrap .i64 (r0 + 1)) (List.map aA.enc p0)) := by kernel_rfl
theorem aq0 (x5 : Int) (x6 : Int) (w3000 : (List aA)) : cG SE (C64 Γ γ123 γ65) Λ2 J 64 0 [1, 1, 1, 0, 1, 0] (bA [(0, .row 3000), (1, .fn 65 [] []), (5, .d (.int .i64 x5)), (6, .d (.int .i64 x6))] [] [] [] [(3000, ⟨aA.ks, 34, 112, (List.map aA.enc w3000)⟩)]) =
 cond (decide (x6 < (List.length (List.map aA.enc w3000) : Int))) (
 cond (decide (0 ≤ x6) && decide (x6 < (List.length (List.map aA.enc w3000) : Int))) (
  γ65 [.agg [.d (.str (aV (cellAt (elemAt (List.map aA.enc w3000) (Int.toNat x6)) 0))), .d (.str (aV (cellAt (elemAt (List.map aA.enc w3000) (Int.toNat x6)) 1))), .d (.int .i64 (aL (cellAt (elemAt (List.map aA.enc w3000) (Int.toNat x6)) 2))), .d (.bool (aY (cellAt (elemAt (List.map aA.enc w3000) (Int.toNat x6)) 3))), .d (.int .i64 (aL (cellAt (elemAt (List.map aA.enc w3000) (Int.toNat x6)) 4))), .d (.int .i64 (aL (cellAt (elemAt (List.map aA.enc w3000) (Int.toNat x6)) 5))), .d (.str (aV (cellAt (elemAt (List.map aA.enc w3000) (Int.toNat x6)) 6))), .d (.int .i64 (aL (cellAt (elemAt (List.map aA.enc w3000) (Int.toNat x6)) 7))), .d (.sl aD.ks (dSl (cellAt (elemAt (List.map aA.enc w3000) (Int.toNat x6)) 8)))]] [] [] fun r1 =>
  cond (!r1) (
  cond (decide (0 ≤ x5) && decide (x5 < (List.length (List.map aA.enc w3000) : Int))) (
   ahJ (C64 Γ γ123 γ65) Λ2 J (IntKind.wrap .i64 (x5 + 1)) (IntKind.wrap .i64 (x6 + 1)) ((gN (List.map aA.enc w3000) (Int.toNat x5) 0 [D.str (aV (cellAt (elemAt (List.map aA.enc w3000) (Int.toNat x6)) 0)), D.str (aV (cellAt (elemAt (List.map aA.enc w3000) (Int.toNat x6)) 1)), D.int .i64 (aL (cellAt (elemAt (List.map aA.enc w3000) (Int.toNat x6)) 2)), D.bool (aY (cellAt (elemAt (List.map aA.enc w3000) (Int.toNat x6)) 3)), D.int .i64 (aL (cellAt (elemAt (List.map aA.enc w3000) (Int.toNat x6)) 4)), D.int .i64 (aL (cellAt (elemAt (List.map aA.enc w3000) (Int.toNat x6)) 5)), D.str (aV (cellAt (elemAt (List.map aA.enc w3000) (Int.toNat x6)) 6)), D.int .i64 (aL (cellAt (elemAt (List.map aA.enc w3000) (Int.toNat x6)) 7)), D.sl aD.ks (dSl (cellAt (elemAt (List.map aA.enc w3000) (Int.toNat x6)) 8))]))) none) (
  ahJ (C64 Γ γ123 γ65) Λ2 J x5 (IntKind.wrap .i64 (x6 + 1)) (List.map aA.enc w3000))) none) (
 cond (decide (0 ≤ x5) && decide (x5 ≤ ((List.length (List.map aA.enc w3000)) : Int))) (
 cond (decide (0 ≤ x5) && decide (x5 ≤ (List.length (List.take (Int.toNat x5) (List.map aA.enc w3000) ++ List.replicate ((List.length (List.map aA.enc w3000)) - (Int.toNat x5)) [D.str ([] : Str), D.str ([] : Str), D.int .i64 0, D.bool false, D.int .i64 0, D.int .i64 0, D.str ([] : Str), D.int .i64 0, D.sl aD.ks (List.map aD.enc [])] ++ List.drop ((Int.toNat x5) + ((List.length (List.map aA.enc w3000)) - (Int.toNat x5))) (List.map aA.enc w3000)) : Int))) (
  (some (.ret [.row 0] [] [⟨aA.ks, 34, 112, (List.take (Int.toNat x5) (List.take (Int.toNat x5) (List.map aA.enc w3000) ++ List.replicate ((List.length (List.map aA.enc w3000)) - (Int.toNat x5)) [D.str ([] : Str), D.str ([] : Str), D.int .i64 0, D.bool false, D.int .i64 0, D.int .i64 0, D.str ([] : Str), D.int .i64 0, D.sl aD.ks (List.map aD.enc [])] ++ List.drop ((Int.toNat x5) + ((List.length (List.map aA.enc w3000)) - (Int.toNat x5))) (List.map aA.enc w3000)))⟩]))) none) none) := by kernel_rfl
end
abbrev X64 : aP := C64 gG (cT 123 bJ) (cT 65 eA)
theorem apo : X64 = aO gG := by unfold X64 C64; rw [aK fun _ h => h, aK fun _ h => h]
noncomputable abbrev arv (a0 : Int) (a1 : Int) (a2 : (List (List D))) : Res := ahJ X64 (bY SE gG (SE.hl 64) (SE.hr 64)) (J0 SE X64) a0 a1 a2
theorem l5 : ∀ (fu : Nat) (x5 : Int) (x6 : Int) (w3000 : (List aA)), Le (Option.map bG (bI fu x5 x6 w3000)) (arv x5 x6 (List.map aA.enc w3000)) := by
 intro fu
 induction fu with
 | zero => intros; exact le_none
 | succ fu ih =>
  intro x5 x6 w3000
  refine Le.trans ?_ (le_of_eq ((bC apo).trans (aq0 _ _ _ _ _  x5 x6 w3000)).symm)
  unfold bI
  refine lD (by simp only [EN]) ?_ ?_
  ·refine lG (by simp only [EN]) ?_
   refine aM (good := good) eX sF (by first | (simp only [EN]; exact l4 (List.getD w3000 (Int.toNat x6) default)) | exact l4 (List.getD w3000 (Int.toNat x6) default)) fun r1 _ => ?_
   refine lC ?_ ?_
   ·refine lG (by simp only [EN]) ?_
    first | (simp only [EN]; exact ih (IntKind.wrap .i64 (x5 + 1)) (IntKind.wrap .i64 (x6 + 1)) ((List.set w3000 (Int.toNat x5) (List.getD w3000 (Int.toNat x6) default)))) | exact ih (IntKind.wrap .i64 (x5 + 1)) (IntKind.wrap .i64 (x6 + 1)) ((List.set w3000 (Int.toNat x5) (List.getD w3000 (Int.toNat x6) default)))
   ·exact ih x5 (IntKind.wrap .i64 (x6 + 1)) w3000
  ·refine lG (by simp only [EN]) ?_
   refine lG (by simp only [EN]) ?_
   exact aH (by first | rfl | simp only [EN, bG] <;> rfl)
theorem mZ (p0 : (List aA)) : Le (Option.map bG (cA p0)) (aX SE 64 [.row 2000000000, .fn 65 [] []] [] [⟨aA.ks, 34, 112, (List.map aA.enc p0)⟩]) := by
 refine aQ apo rfl ?_
 refine Le.trans ?_ (le_of_eq (T64 _ _ _ _ _  p0).symm)
 unfold cA
 refine aM (good := good) eX m0 (m5 _) fun r0 _ => ?_
 refine lC ?_ ?_
 ·exact aH rfl
 ·exact l5 fuel r0 (IntKind.wrap .i64 (r0 + 1)) p0
section
variable (Γ : Fun) (γ50 : Gm (aC)) (γ64 : Gm ((List aA))) (γ51 : Gm (aC)) (Λ2 J : Lam)
def C23 : aP := aZ (aZ (aZ (aO Γ) 50 bS γ50) 64 bG γ64) 51 dB γ51
theorem T23 (p0 : aC) (p1 : Int) : bB SE (C23 Γ γ50 γ64 γ51) Λ2 J 23 [aC.av p0, .d (.int .i64 p1)] [] [] =
 γ50 [aC.av p0] [] [] fun r0 =>
 γ64 [.row 2000000000, .fn 65 [] []] [] [⟨aA.ks, 34, 112, (List.map aA.enc r0.Queue)⟩] fun r1 =>
 γ51 [aC.av (aC.mk r0.Client r0.User false 0 r0.Expiry (if 1099511627776 < (IntKind.wrap .i64 (p1 + p0.Expiry)) then 1099511627776 else (IntKind.wrap .i64 (p1 + p0.Expiry))) r0.Dropped r0.Subs r1 r0.Out r0.In r0.Will), .d (.int .i64 (IntKind.wrap .i64 ((List.length (List.map aA.enc r0.Queue) : Int) - (List.length (List.map aA.enc r1) : Int))))] [] [] fun r2 =>
 (some (.ret [aC.av r2] [] [])) := by kernel_rfl
end
abbrev X23 : aP := C23 gG (cT 50 bS) (cT 64 bG) (cT 51 dB)
theorem at5 : X23 = aO gG := by unfold X23 C23; rw [aK fun _ h => h, aK fun _ h => h, aK fun _ h => h]
theorem vH (p0 : aC) (p1 : Int) : Le (Option.map eS (kW p0 p1)) (aX SE 23 [aC.av p0, .d (.int .i64 p1)] [] []) := by
 refine aQ at5 rfl ?_
 refine Le.trans ?_ (le_of_eq (T23 _ _ _ _ _ _  p0 p1).symm)
 unfold kW
 refine aM (good := good) eX iD (iW _) fun r0 _ => ?_
 refine aM (good := good) eX mJ (mZ _) fun r1 _ => ?_
 refine aM (good := good) eX mU (by first | (simp only [EN]; exact jA ((aC.mk r0.Client r0.User false 0 r0.Expiry (if 1099511627776 < (IntKind.wrap .i64 (p1 + p0.Expiry)) then 1099511627776 else (IntKind.wrap .i64 (p1 + p0.Expiry))) r0.Dropped r0.Subs r1 r0.Out r0.In r0.Will)) ((IntKind.wrap .i64 ((List.length r0.Queue : Int) - (List.length r1 : Int))))) | exact jA ((aC.mk r0.Client r0.User false 0 r0.Expiry (if 1099511627776 < (IntKind.wrap .i64 (p1 + p0.Expiry)) then 1099511627776 else (IntKind.wrap .i64 (p1 + p0.Expiry))) r0.Dropped r0.Subs r1 r0.Out r0.In r0.Will)) ((IntKind.wrap .i64 ((List.length r0.Queue : Int) - (List.length r1 : Int))))) fun r2 _ => ?_
 exact aH rfl
def ahu (C : aP) (Λ2 J : Lam) (a0 : Int) (a1 : Int) (a2 : (List D)) (a3 : (List (List D))) : Res := lab SE C Λ2 J 91 0 [1, 1, 0, 1, 0] (bA [(1, .ptr 1000000000 0), (3, .row 3003), (9, .d (.int .i64 a0)), (10, .d (.int .i64 a1))] [⟨29, (List.map AV.d a2)⟩] [] [] [(3003, ⟨aE.ks, 49, 416, a3⟩)])
section
variable (Γ : Fun) (γ112 : Gm (aE)) (γ147 : Gm (aE)) (Λ2 J : Lam)
def C91 : aP := aZ (aZ (aO Γ) 112 eO γ112) 147 eI γ147
theorem T91 (p0 : aG) : bB SE (C91 Γ γ112 γ147) Λ2 J 91 [aG.av p0] [] [] =
 ahu (C91 Γ γ112 γ147) Λ2 J (List.length (List.map aB.enc p0.Items) : Int) 0 (aG.enc p0) (List.map aE.enc []) := by kernel_rfl
theorem arC (x9 : Int) (x10 : Int) (b0 : aG) (w3003 : (List aE)) : cG SE (C91 Γ γ112 γ147) Λ2 J 91 0 [1, 1, 0, 1, 0] (bA [(1, .ptr 1000000000 0), (3, .row 3003), (9, .d (.int .i64 x9)), (10, .d (.int .i64 x10))] [⟨29, (List.map AV.d (aG.enc b0))⟩] [] [] [(3003, ⟨aE.ks, 49, 416, (List.map aE.enc w3003)⟩)]) =
 cond (decide (x10 < x9)) (
 cond (decide (0 ≤ x10) && decide (x10 < (List.length (List.map aB.enc b0.Items) : Int))) (
  cond ((aL (cellAt (elemAt (List.map aB.enc b0.Items) (Int.toNat x10)) 1)) == 2) (
  γ112 [.d (.int .i64 (aL (cellAt (elemAt (List.map aB.enc b0.Items) (Int.toNat x10)) 0)))] [] [] fun r0 =>
  cond (decide ((List.length (List.map aE.enc w3003) + List.length (List.map aE.enc [r0])) * 416 ≤ 140737488355328)) (
   ahu (C91 Γ γ112 γ147) Λ2 J x9 (IntKind.wrap .i64 (x10 + 1)) (aG.enc b0) (((List.map aE.enc w3003) ++ (List.map aE.enc [r0])))) none) (
  γ147 [.agg [.d (.int .i64 (aL (cellAt (elemAt (List.map aB.enc b0.Items) (Int.toNat x10)) 0))), .d (.int .i64 (aL (cellAt (elemAt (List.map aB.enc b0.Items) (Int.toNat x10)) 1))), .d (.str (aV (cellAt (elemAt (List.map aB.enc b0.Items) (Int.toNat x10)) 2))), .d (.str (aV (cellAt (elemAt (List.map aB.enc b0.Items) (Int.toNat x10)) 3))), .d (.int .i64 (aL (cellAt (elemAt (List.map aB.enc b0.Items) (Int.toNat x10)) 4))), .d (.bool (aY (cellAt (elemAt (List.map aB.enc b0.Items) (Int.toNat x10)) 5))), .d (.int .i64 (aL (cellAt (elemAt (List.map aB.enc b0.Items) (Int.toNat x10)) 6))), .d (.int .i64 (aL (cellAt (elemAt (List.map aB.enc b0.Items) (Int.toNat x10)) 7))), .d (.str (aV (cellAt (elemAt (List.map aB.enc b0.Items) (Int.toNat x10)) 8))), .d (.int .i64 (aL (cellAt (elemAt (List.map aB.enc b0.Items) (Int.toNat x10)) 9))), .d (.sl aD.ks (dSl (cellAt (elemAt (List.map aB.enc b0.Items) (Int.toNat x10)) 10)))]] [] [] fun r1 =>
  cond (decide ((List.length (List.map aE.enc w3003) + List.length (List.map aE.enc [(aE.mk r1.Kind r1.ID true r1.Message r1.Client r1.User r1.Clean r1.Keep r1.Expiry r1.Window r1.Will r1.Present r1.Code r1.Subs r1.Filters r1.Codes)])) * 416 ≤ 140737488355328)) (
  ahu (C91 Γ γ112 γ147) Λ2 J x9 (IntKind.wrap .i64 (x10 + 1)) (aG.enc b0) (((List.map aE.enc w3003) ++ (List.map aE.enc [(aE.mk r1.Kind r1.ID true r1.Message r1.Client r1.User r1.Clean r1.Keep r1.Expiry r1.Window r1.Will r1.Present r1.Code r1.Subs r1.Filters r1.Codes)])))) none)) none) (
 (some (.ret [.row 0] [] [⟨aE.ks, 49, 416, (List.map aE.enc w3003)⟩]))) := by kernel_rfl
end
abbrev X91 : aP := C91 gG (cT 112 eO) (cT 147 eI)
theorem ao3 : X91 = aO gG := by unfold X91 C91; rw [aK fun _ h => h, aK fun _ h => h]
noncomputable abbrev arl (a0 : Int) (a1 : Int) (a2 : (List D)) (a3 : (List (List D))) : Res := ahu X91 (bY SE gG (SE.hl 91) (SE.hr 91)) (J0 SE X91) a0 a1 a2 a3
theorem rX : ∀ (fu : Nat) (x9 : Int) (x10 : Int) (b0 : aG) (w3003 : (List aE)), Le (Option.map gH (kS fu x9 x10 b0 w3003)) (arl x9 x10 (aG.enc b0) (List.map aE.enc w3003)) := by
 intro fu
 induction fu with
 | zero => intros; exact le_none
 | succ fu ih =>
  intro x9 x10 b0 w3003
  refine Le.trans ?_ (le_of_eq ((bC ao3).trans (arC _ _ _ _ _  x9 x10 b0 w3003)).symm)
  unfold kS
  refine lC ?_ ?_
  ·refine lG (by simp only [EN]) ?_
   refine lD (by simp only [EN]) ?_ ?_
   ·refine aM (good := good) eX pE (by first | (simp only [EN]; exact nL ((List.getD b0.Items (Int.toNat x10) default).ID)) | exact nL ((List.getD b0.Items (Int.toNat x10) default).ID)) fun r0 _ => ?_
    refine lG (by simp only [EN]) ?_
    first | (simp only [EN]; exact ih x9 (IntKind.wrap .i64 (x10 + 1)) b0 (w3003 ++ [r0])) | exact ih x9 (IntKind.wrap .i64 (x10 + 1)) b0 (w3003 ++ [r0])
   ·refine aM (good := good) eX tK (by first | (simp only [EN]; exact pC (List.getD b0.Items (Int.toNat x10) default)) | exact pC (List.getD b0.Items (Int.toNat x10) default)) fun r1 _ => ?_
    refine lG (by simp only [EN]) ?_
    first | (simp only [EN]; exact ih x9 (IntKind.wrap .i64 (x10 + 1)) b0 (w3003 ++ [(aE.mk r1.Kind r1.ID true r1.Message r1.Client r1.User r1.Clean r1.Keep r1.Expiry r1.Window r1.Will r1.Present r1.Code r1.Subs r1.Filters r1.Codes)])) | exact ih x9 (IntKind.wrap .i64 (x10 + 1)) b0 (w3003 ++ [(aE.mk r1.Kind r1.ID true r1.Message r1.Client r1.User r1.Clean r1.Keep r1.Expiry r1.Window r1.Will r1.Present r1.Code r1.Subs r1.Filters r1.Codes)])
  ·exact aH rfl
theorem adm (p0 : aG) : Le (Option.map gH (tM p0)) (aX SE 91 [aG.av p0] [] []) := by
 refine aQ ao3 rfl ?_
 refine Le.trans ?_ (le_of_eq (T91 _ _ _ _ _  p0).symm)
 unfold tM
 first | (simp only [EN]; exact rX fuel (List.length p0.Items : Int) 0 p0 ([] : List aE)) | exact rX fuel (List.length p0.Items : Int) 0 p0 ([] : List aE)
section
variable (Γ : Fun) (γ50 : Gm (aC)) (γ80 : Gm (aA)) (γ91 : Gm ((List aE))) (γ61 : Gm (aC × (List aE))) (Λ2 J : Lam)
def C36 : aP := aZ (aZ (aZ (aZ (aO Γ) 50 bS γ50) 80 cQ γ80) 91 gH γ91) 61 dR γ61
theorem T36 (p0 : aC) (p1 : aE) (p2 : Int) (p3 : Int) : bB SE (C36 Γ γ50 γ80 γ91 γ61) Λ2 J 36 [aC.av p0, aE.av p1, .d (.int .i64 p2), .d (.int .i64 p3)] [] [] =
 γ50 [aC.av p0] [] [] fun r0 =>
 γ80 [aA.av p1.Will.Message] [] [] fun r1 =>
 γ91 [aG.av (aG.mk p1.Window r0.Out.Items r0.Out.Pool)] [] [] fun r2 =>
 γ61 [aC.av (aC.mk r0.Client p1.User true p2 p1.Expiry 0 r0.Dropped r0.Subs r0.Queue (aG.mk p1.Window r0.Out.Items r0.Out.Pool) r0.In (aN.mk p1.Will.Set p1.Will.Delay r1)), .d (.int .i64 p3), .row 2000000000] [] [⟨aE.ks, 49, 416, (List.map aE.enc r2)⟩] fun r3 =>
 (some (.ret [aC.av r3.1, .row 0] [] [⟨aE.ks, 49, 416, (List.map aE.enc r3.2)⟩])) := by kernel_rfl
end
abbrev X36 : aP := C36 gG (cT 50 bS) (cT 80 cQ) (cT 91 gH) (cT 61 dR)
theorem asO : X36 = aO gG := by unfold X36 C36; rw [aK fun _ h => h, aK fun _ h => h, aK fun _ h => h, aK fun _ h => h]
theorem wI (p0 : aC) (p1 : aE) (p2 : Int) (p3 : Int) : Le (Option.map jM (uN p0 p1 p2 p3)) (aX SE 36 [aC.av p0, aE.av p1, .d (.int .i64 p2), .d (.int .i64 p3)] [] []) := by
 refine aQ asO rfl ?_
 refine Le.trans ?_ (le_of_eq (T36 _ _ _ _ _ _ _  p0 p1 p2 p3).symm)
 unfold uN
 refine aM (good := good) eX iD (iW _) fun r0 _ => ?_
 refine aM (good := good) eX jF (eV _) fun r1 _ => ?_
 refine aM (good := good) eX acH (adm _) fun r2 _ => ?_
 refine aM (good := good) eX rO (pI _ _ _) fun r3 _ => ?_
 exact aH rfl
section
variable (Γ : Fun)  (Λ2 J : Lam)
def C24 : aP := aO Γ
theorem T24 (p0 : aC) (p1 : Int) : bB SE (C24 Γ) Λ2 J 24 [aC.av p0, .d (.int .i64 p1)] [] [] =
 cond (!p0.Online) (
 (some (.ret [.d (.bool (decide (p1 ≥ p0.Until)))] [] []))) (
 (some (.ret [.d (.bool false)] [] []))) := by kernel_rfl
end
abbrev X24 : aP := C24 gG
theorem asT : X24 = aO gG := rfl
theorem m7 (p0 : aC) (p1 : Int) : Le (Option.map eQ (iK p0 p1)) (aX SE 24 [aC.av p0, .d (.int .i64 p1)] [] []) := by
 refine aQ asT rfl ?_
 refine Le.trans ?_ (le_of_eq (T24 _ _ _  p0 p1).symm)
 unfold iK
 refine lC ?_ ?_
 ·exact aH rfl
 ·exact aH rfl
section
variable (Γ : Fun) (γ31 : Gm (aC)) (γ26 : Gm (aC × Bool × Int)) (γ15 : Gm (aC × Bool)) (γ34 : Gm (aC × (List aE))) (γ19 : Gm (aC × (List aE) × Int)) (γ23 : Gm (aC)) (γ36 : Gm (aC × (List aE))) (γ24 : Gm (Bool)) (Λ2 J : Lam)
def C14 : aP := aZ (aZ (aZ (aZ (aZ (aZ (aZ (aZ (aO Γ) 31 lA γ31) 26 dU γ26) 15 iH γ15) 34 kH γ34) 19 iZ γ19) 23 eS γ23) 36 jM γ36) 24 eQ γ24
theorem T14 : bB SE (C14 Γ γ31 γ26 γ15 γ34 γ19 γ23 γ36 γ24) Λ2 J 14 [] [] [] =
 γ31 [.agg [.d (.int .i64 1), .d (.int .i64 0), .d (.bool false), .d (.str ([] : Str)), .d (.str ([] : Str)), .d (.int .i64 0), .d (.bool false), .d (.int .i64 0), .d (.int .i64 0), .d (.str ([] : Str)), .d (.int .i64 0), .d (.sl aD.ks (List.map aD.enc [])), .d (.str ([99] : Str)), .d (.str ([] : Str)), .d (.bool false), .d (.int .i64 0), .d (.int .i64 5), .d (.int .i64 1), .d (.bool false), .d (.int .i64 0), .d (.str ([] : Str)), .d (.str ([] : Str)), .d (.int .i64 0), .d (.bool false), .d (.int .i64 0), .d (.int .i64 0), .d (.str ([] : Str)), .d (.int .i64 0), .d (.sl aD.ks (List.map aD.enc [])), .d (.bool false), .d (.int .i64 0), .d (.sl aF.ks (List.map aF.enc [])), .d (.sl [.str] (List.map bF [])), .d (.sl [.int .i64] (List.map (encI .i64) []))], .d (.int .i64 3)] [] [] fun r0 =>
 γ26 [aC.av r0, aF.av (aF.mk ([116] : Str) 0 false)] [] [] fun r1 =>
 γ15 [aC.av r1.1, .agg [.d (.str ([116] : Str)), .d (.str ([] : Str)), .d (.int .i64 1), .d (.bool false), .d (.int .i64 0), .d (.int .i64 0), .d (.str ([] : Str)), .d (.int .i64 1), .d (.sl aD.ks (List.map aD.enc []))], .d (.int .i64 9), .d (.int .i64 2)] [] [] fun r2 =>
 γ15 [aC.av r2.1, .agg [.d (.str ([116] : Str)), .d (.str ([] : Str)), .d (.int .i64 1), .d (.bool false), .d (.int .i64 0), .d (.int .i64 0), .d (.str ([] : Str)), .d (.int .i64 2), .d (.sl aD.ks (List.map aD.enc []))], .d (.int .i64 9), .d (.int .i64 2)] [] [] fun r3 =>
 γ34 [aC.av r3.1, .d (.int .i64 0)] [] [] fun r4 =>
 γ19 [aC.av r4.1, .agg [.d (.int .i64 4), .d (.int .i64 1), .d (.bool false), .d (.str ([] : Str)), .d (.str ([] : Str)), .d (.int .i64 0), .d (.bool false), .d (.int .i64 0), .d (.int .i64 0), .d (.str ([] : Str)), .d (.int .i64 0), .d (.sl aD.ks (List.map aD.enc [])), .d (.str ([] : Str)), .d (.str ([] : Str)), .d (.bool false), .d (.int .i64 0), .d (.int .i64 0), .d (.int .i64 0), .d (.bool false), .d (.int .i64 0), .d (.str ([] : Str)), .d (.str ([] : Str)), .d (.int .i64 0), .d (.bool false), .d (.int .i64 0), .d (.int .i64 0), .d (.str ([] : Str)), .d (.int .i64 0), .d (.sl aD.ks (List.map aD.enc [])), .d (.bool false), .d (.int .i64 0), .d (.sl aF.ks (List.map aF.enc [])), .d (.sl [.str] (List.map bF [])), .d (.sl [.int .i64] (List.map (encI .i64) []))], .d (.int .i64 0)] [] [] fun r5 =>
 γ23 [aC.av r5.1, .d (.int .i64 10)] [] [] fun r6 =>
 γ36 [aC.av r6, .agg [.d (.int .i64 1), .d (.int .i64 0), .d (.bool false), .d (.str ([] : Str)), .d (.str ([] : Str)), .d (.int .i64 0), .d (.bool false), .d (.int .i64 0), .d (.int .i64 0), .d (.str ([] : Str)), .d (.int .i64 0), .d (.sl aD.ks (List.map aD.enc [])), .d (.str ([99] : Str)), .d (.str ([] : Str)), .d (.bool false), .d (.int .i64 0), .d (.int .i64 0), .d (.int .i64 1), .d (.bool false), .d (.int .i64 0), .d (.str ([] : Str)), .d (.str ([] : Str)), .d (.int .i64 0), .d (.bool false), .d (.int .i64 0), .d (.int .i64 0), .d (.str ([] : Str)), .d (.int .i64 0), .d (.sl aD.ks (List.map aD.enc [])), .d (.bool false), .d (.int .i64 0), .d (.sl aF.ks (List.map aF.enc [])), .d (.sl [.str] (List.map bF [])), .d (.sl [.int .i64] (List.map (encI .i64) []))], .d (.int .i64 4), .d (.int .i64 12)] [] [] fun r7 =>
 cond (!r1.2.1) (
 cond (r1.2.2 == 0) (
  cond (!r2.2) (
  cond ((List.length (List.map aE.enc r4.2) : Int) == 1) (
   cond (decide (0 ≤ 0) && decide (0 < (List.length (List.map aE.enc r4.2) : Int))) (
   cond ((aL (cellAt (elemAt (List.map aE.enc r4.2) (Int.toNat 0)) 1)) == 1) (
    cond (decide (0 ≤ 0) && decide (0 < (List.length (List.map aE.enc r4.2) : Int))) (
    cond ((aL (cellAt (elemAt (List.map aE.enc r4.2) (Int.toNat 0)) 10)) == 1) (
     cond ((List.length (List.map aE.enc r5.2.1) : Int) == 1) (
     cond (decide (0 ≤ 0) && decide (0 < (List.length (List.map aE.enc r5.2.1) : Int))) (
      cond ((aL (cellAt (elemAt (List.map aE.enc r5.2.1) (Int.toNat 0)) 1)) == 2) (
      cond (r5.2.2 == 0) (
       cond (r6.Until == 15) (
       γ24 [aC.av r6, .d (.int .i64 14)] [] [] fun r8 =>
       cond (!r8) (
        γ24 [aC.av r6, .d (.int .i64 15)] [] [] fun r9 =>
        cond r9 (
        cond r7.1.Online (
         cond (r7.1.Conn == 4) (
         cond ((List.length (List.map aE.enc r7.2) : Int) == 1) (
          cond (decide (0 ≤ 0) && decide (0 < (List.length (List.map aE.enc r7.2) : Int))) (
          cond (aY (cellAt (elemAt (List.map aE.enc r7.2) (Int.toNat 0)) 2)) (
           cond (decide (0 ≤ 0) && decide (0 < (List.length (List.map aE.enc r7.2) : Int))) (
           (some (.ret [.d (.bool ((aL (cellAt (elemAt (List.map aE.enc r7.2) (Int.toNat 0)) 1)) == 2))] [] []))) none) (
          (some (.ret [.d (.bool false)] [] [])))) none) (
         (some (.ret [.d (.bool false)] [] [])))) (
         (some (.ret [.d (.bool false)] [] [])))) (
        (some (.ret [.d (.bool false)] [] [])))) (
        (some (.ret [.d (.bool false)] [] [])))) (
       (some (.ret [.d (.bool false)] [] [])))) (
       (some (.ret [.d (.bool false)] [] [])))) (
      (some (.ret [.d (.bool false)] [] [])))) (
      (some (.ret [.d (.bool false)] [] [])))) none) (
     (some (.ret [.d (.bool false)] [] [])))) (
    (some (.ret [.d (.bool false)] [] [])))) none) (
   (some (.ret [.d (.bool false)] [] [])))) none) (
  (some (.ret [.d (.bool false)] [] [])))) (
  (some (.ret [.d (.bool false)] [] [])))) (
 (some (.ret [.d (.bool false)] [] [])))) (
 (some (.ret [.d (.bool false)] [] []))) := by kernel_rfl
end
abbrev X14 : aP := C14 gG (cT 31 lA) (cT 26 dU) (cT 15 iH) (cT 34 kH) (cT 19 iZ) (cT 23 eS) (cT 36 jM) (cT 24 eQ)
theorem atY : X14 = aO gG := by unfold X14 C14; rw [aK fun _ h => h, aK fun _ h => h, aK fun _ h => h, aK fun _ h => h, aK fun _ h => h, aK fun _ h => h, aK fun _ h => h, aK fun _ h => h]
theorem oU : Le (Option.map eZ (jW)) (aX SE 14 [] [] []) := by
 refine aQ atY rfl ?_
 refine Le.trans ?_ (le_of_eq (T14 _ _ _ _ _ _ _ _ _ _ _ ).symm)
 unfold jW
 refine aM (good := good) eX aff (by first | (simp only [EN]; exact aaz ((aE.mk 1 0 false (aA.mk ([] : Str) ([] : Str) 0 false 0 0 ([] : Str) 0 ([] : List aD)) ([99] : Str) ([] : Str) false 0 5 1 (aN.mk false 0 (aA.mk ([] : Str) ([] : Str) 0 false 0 0 ([] : Str) 0 ([] : List aD))) false 0 ([] : List aF) ([] : List Str) ([] : List Int))) 3) | exact aaz ((aE.mk 1 0 false (aA.mk ([] : Str) ([] : Str) 0 false 0 0 ([] : Str) 0 ([] : List aD)) ([99] : Str) ([] : Str) false 0 5 1 (aN.mk false 0 (aA.mk ([] : Str) ([] : Str) 0 false 0 0 ([] : Str) 0 ([] : List aD))) false 0 ([] : List aF) ([] : List Str) ([] : List Int))) 3) fun r0 _ => ?_
 refine aM (good := good) eX aaT (aby _ _) fun r1 _ => ?_
 refine aM (good := good) eX wJ (by first | (simp only [EN]; exact oV r1.1 ((aA.mk ([116] : Str) ([] : Str) 1 false 0 0 ([] : Str) 1 ([] : List aD))) 9 2) | exact oV r1.1 ((aA.mk ([116] : Str) ([] : Str) 1 false 0 0 ([] : Str) 1 ([] : List aD))) 9 2) fun r2 _ => ?_
 refine aM (good := good) eX wJ (by first | (simp only [EN]; exact oV r2.1 ((aA.mk ([116] : Str) ([] : Str) 1 false 0 0 ([] : Str) 2 ([] : List aD))) 9 2) | exact oV r2.1 ((aA.mk ([116] : Str) ([] : Str) 1 false 0 0 ([] : Str) 2 ([] : List aD))) 9 2) fun r3 _ => ?_
 refine aM (good := good) eX aeq (afH _ _) fun r4 _ => ?_
 refine aM (good := good) eX acK (by first | (simp only [EN]; exact wK r4.1 ((aE.mk 4 1 false (aA.mk ([] : Str) ([] : Str) 0 false 0 0 ([] : Str) 0 ([] : List aD)) ([] : Str) ([] : Str) false 0 0 0 (aN.mk false 0 (aA.mk ([] : Str) ([] : Str) 0 false 0 0 ([] : Str) 0 ([] : List aD))) false 0 ([] : List aF) ([] : List Str) ([] : List Int))) 0) | exact wK r4.1 ((aE.mk 4 1 false (aA.mk ([] : Str) ([] : Str) 0 false 0 0 ([] : Str) 0 ([] : List aD)) ([] : Str) ([] : Str) false 0 0 0 (aN.mk false 0 (aA.mk ([] : Str) ([] : Str) 0 false 0 0 ([] : Str) 0 ([] : List aD))) false 0 ([] : List aF) ([] : List Str) ([] : List Int))) 0) fun r5 _ => ?_
 refine aM (good := good) eX tP (vH _ _) fun r6 _ => ?_
 refine aM (good := good) eX adg (by first | (simp only [EN]; exact wI r6 ((aE.mk 1 0 false (aA.mk ([] : Str) ([] : Str) 0 false 0 0 ([] : Str) 0 ([] : List aD)) ([99] : Str) ([] : Str) false 0 0 1 (aN.mk false 0 (aA.mk ([] : Str) ([] : Str) 0 false 0 0 ([] : Str) 0 ([] : List aD))) false 0 ([] : List aF) ([] : List Str) ([] : List Int))) 4 12) | exact wI r6 ((aE.mk 1 0 false (aA.mk ([] : Str) ([] : Str) 0 false 0 0 ([] : Str) 0 ([] : List aD)) ([99] : Str) ([] : Str) false 0 0 1 (aN.mk false 0 (aA.mk ([] : Str) ([] : Str) 0 false 0 0 ([] : Str) 0 ([] : List aD))) false 0 ([] : List aF) ([] : List Str) ([] : List Int))) 4 12) fun r7 _ => ?_
 refine lC ?_ ?_
 ·refine lC ?_ ?_
  ·refine lC ?_ ?_
   ·refine lD (by simp only [EN]) ?_ ?_
    ·refine lG (by simp only [EN]) ?_
     refine lD (by simp only [EN]) ?_ ?_
     ·refine lG (by simp only [EN]) ?_
      refine lD (by simp only [EN]) ?_ ?_
      ·refine lD (by simp only [EN]) ?_ ?_
       ·refine lG (by simp only [EN]) ?_
        refine lD (by simp only [EN]) ?_ ?_
        ·refine lC ?_ ?_
         ·refine lC ?_ ?_
          ·refine aM (good := good) eX mS (m7 _ _) fun r8 _ => ?_
           refine lC ?_ ?_
           ·refine aM (good := good) eX mS (m7 _ _) fun r9 _ => ?_
            refine lC ?_ ?_
            ·refine lC ?_ ?_
             ·refine lC ?_ ?_
              ·refine lD (by simp only [EN]) ?_ ?_
               ·refine lG (by simp only [EN]) ?_
                refine lD (by simp only [EN]) ?_ ?_
                ·refine lG (by simp only [EN]) ?_
                 exact aH (by first | rfl | simp only [EN, eZ] <;> rfl)
                ·exact aH rfl
               ·exact aH rfl
              ·exact aH rfl
             ·exact aH rfl
            ·exact aH rfl
           ·exact aH rfl
          ·exact aH rfl
         ·exact aH rfl
        ·exact aH rfl
       ·exact aH rfl
      ·exact aH rfl
     ·exact aH rfl
    ·exact aH rfl
   ·exact aH rfl
  ·exact aH rfl
 ·exact aH rfl
section
variable (Γ : Fun)  (Λ2 J : Lam)
def C25 : aP := aO Γ
theorem T25 (p0 : aC) (p1 : Int) : bB SE (C25 Γ) Λ2 J 25 [aC.av p0, .d (.int .i64 p1)] [] [] =
 cond (!p0.Online) (
 (some (.ret [.d (.bool (decide (p1 ≥ p0.Until)))] [] []))) (
 (some (.ret [.d (.bool false)] [] []))) := by kernel_rfl
end
abbrev X25 : aP := C25 gG
theorem at1 : X25 = aO gG := rfl
theorem aae (p0 : aC) (p1 : Int) : Le (Option.map fG (iO p0 p1)) (aX SE 25 [aC.av p0, .d (.int .i64 p1)] [] []) := by
 refine aQ at1 rfl ?_
 refine Le.trans ?_ (le_of_eq (T25 _ _ _  p0 p1).symm)
 unfold iO
 refine lC ?_ ?_
 ·exact aH rfl
 ·exact aH rfl
def ao4 (C : aP) (Λ2 J : Lam) (a0 : Int) (a1 : Int) (a2 : (List D)) : Res := lab SE C Λ2 J 5 0 [1, 1, 0] (bA [(1, .d (.int .i64 a0)), (2, .d (.int .i64 a1)), (3, .ptr 1000000000 0)] [⟨38, (List.map AV.d a2)⟩] [] [] [])
section
variable (Γ : Fun) (γ18 : Gm (Bool)) (γ14 : Gm (Bool)) (γ22 : Gm (Bool)) (γ23 : Gm (aC)) (γ24 : Gm (Bool)) (γ25 : Gm (Bool)) (Λ2 J : Lam)
def C5 : aP := aZ (aZ (aZ (aZ (aZ (aZ (aO Γ) 18 gV γ18) 14 eZ γ14) 22 dD γ22) 23 eS γ23) 24 eQ γ24) 25 fG γ25
theorem T5 (p0 : aC) (p1 : Int) (p2 : Int) : bB SE (C5 Γ γ18 γ14 γ22 γ23 γ24 γ25) Λ2 J 5 [aC.av p0, .d (.int .i64 p1), .d (.int .i64 p2)] [] [] =
 γ18 [aC.av p0, .d (.int .i64 p1)] [] [] fun r0 =>
 cond (!r0) (
 γ14 [] [] [] fun r1 =>
 (some (.ret [.d (.bool r1)] [] []))) (
 γ22 [.d (.int .i64 p2)] [] [] fun r2 =>
 cond (!r2) (
 γ14 [] [] [] fun r3 =>
 (some (.ret [.d (.bool r3)] [] []))) (
 ao4 (C5 Γ γ18 γ14 γ22 γ23 γ24 γ25) Λ2 J p1 p2 (aC.enc p0))) := by kernel_rfl
theorem aty (x1 : Int) (x2 : Int) (b0 : aC) : cG SE (C5 Γ γ18 γ14 γ22 γ23 γ24 γ25) Λ2 J 5 0 [1, 1, 0] (bA [(1, .d (.int .i64 x1)), (2, .d (.int .i64 x2)), (3, .ptr 1000000000 0)] [⟨38, (List.map AV.d (aC.enc b0))⟩] [] [] []) =
 γ23 [aC.av b0, .d (.int .i64 x1)] [] [] fun r4 =>
 γ14 [] [] [] fun r5 =>
 cond r5 (
 γ24 [aC.av b0, .d (.int .i64 x2)] [] [] fun r6 =>
 γ25 [aC.av b0, .d (.int .i64 x2)] [] [] fun r7 =>
 cond (r6 == r7) (
  γ24 [aC.av r4, .d (.int .i64 x2)] [] [] fun r8 =>
  (some (.ret [.d (.bool (r8 == (decide (x2 ≥ (if 1099511627776 < (IntKind.wrap .i64 (x1 + b0.Expiry)) then 1099511627776 else (IntKind.wrap .i64 (x1 + b0.Expiry)))))))] [] []))) (
 (some (.ret [.d (.bool false)] [] [])))) (
 (some (.ret [.d (.bool false)] [] []))) := by kernel_rfl
end
abbrev X5 : aP := C5 gG (cT 18 gV) (cT 14 eZ) (cT 22 dD) (cT 23 eS) (cT 24 eQ) (cT 25 fG)
theorem Cr5 : X5 = aO gG := by unfold X5 C5; rw [aK fun _ h => h, aK fun _ h => h, aK fun _ h => h, aK fun _ h => h, aK fun _ h => h, aK fun _ h => h]
noncomputable abbrev ata (a0 : Int) (a1 : Int) (a2 : (List D)) : Res := ao4 X5 (bY SE gG (SE.hl 5) (SE.hr 5)) (J0 SE X5) a0 a1 a2
theorem rS (x1 : Int) (x2 : Int) (b0 : aC) : Le (Option.map jP (g8 x1 x2 b0)) (ata x1 x2 (aC.enc b0)) := by
 refine Le.trans ?_ (le_of_eq ((bC Cr5).trans (aty _ _ _ _ _ _ _ _ _  x1 x2 b0)).symm)
 unfold g8
 refine aM (good := good) eX tP (vH _ _) fun r4 _ => ?_
 refine aM (good := good) eX n8 (oU) fun r5 _ => ?_
 refine lC ?_ ?_
 ·refine aM (good := good) eX mS (m7 _ _) fun r6 _ => ?_
  refine aM (good := good) eX zC (aae _ _) fun r7 _ => ?_
  refine lC ?_ ?_
  ·refine aM (good := good) eX mS (m7 _ _) fun r8 _ => ?_
   exact aH rfl
  ·exact aH rfl
 ·exact aH rfl
theorem tN (p0 : aC) (p1 : Int) (p2 : Int) : Le (Option.map jP (iT p0 p1 p2)) (aX SE 5 [aC.av p0, .d (.int .i64 p1), .d (.int .i64 p2)] [] []) := by
 refine aQ Cr5 rfl ?_
 refine Le.trans ?_ (le_of_eq (T5 _ _ _ _ _ _ _ _ _  p0 p1 p2).symm)
 unfold iT
 refine aM (good := good) eX aaY (abW _ _) fun r0 _ => ?_
 refine lC ?_ ?_
 ·refine aM (good := good) eX n8 (oU) fun r1 _ => ?_
  exact aH rfl
 ·refine aM (good := good) eX qO (qZ _) fun r2 _ => ?_
  refine lC ?_ ?_
  ·refine aM (good := good) eX n8 (oU) fun r3 _ => ?_
   exact aH rfl
  ·exact rS p1 p2 p0
end Te
end PX
