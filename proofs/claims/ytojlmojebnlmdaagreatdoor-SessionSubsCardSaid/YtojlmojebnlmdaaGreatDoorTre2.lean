import Derived.Test.YtojlmojebnlmdaaGreatDoorTre1
set_option linter.unusedVariables false
set_option linter.unusedSimpArgs false
set_option maxRecDepth 100000
noncomputable section
namespace PX
open Go
open Md
namespace Te
def alF (C : aP) (Λ2 J : Lam) (a0 : Int) (a1 : (List D)) (a2 : (List D)) (a3 : (List D)) (a4 : (List D)) : Res := lab SE C Λ2 J 60 0 [1, 1, 1, 1, 0, 0] (bB [(2, .ptr 1000000000 0), (3, .ptr 1000000001 0), (4, .ptr 1000000002 0), (7, .d (.int .i64 a0)), (8, .ptr 1000000003 0)] [⟨29, (List.map AV.d a1)⟩, ⟨49, (List.map AV.d a2)⟩, ⟨29, (List.map AV.d a3)⟩, ⟨122, (List.map AV.d a4)⟩] [] [] [])
section
variable (Γ : Fun) (γ109 : Gm (Int)) (γ110 : Gm (aG)) (γ111 : Gm (aG)) (γ112 : Gm (aF)) (Λ2 J : Lam)
def C60 : aP := bA (bA (bA (bA (aQ Γ) 109 kS γ109) 110 dF γ110) 111 jN γ111) 112 fG γ112
theorem T60 (p0 : aG) (p1 : aF) : bD SE (C60 Γ γ109 γ110 γ111 γ112) Λ2 J 60 [aG.av p0, aF.av p1] [] [] =
 γ109 [.d (.sl aC.ks (List.map aC.enc p0.Items)), .d (.int .i64 p1.ID)] [] [] fun r0 =>
 cond (decide (r0 ≥ 0)) (
 cond (decide (0 ≤ r0) && decide (r0 < (List.length (List.map aC.enc p0.Items) : Int))) (
  alF (C60 Γ γ109 γ110 γ111 γ112) Λ2 J r0 (aG.enc p0) (aF.enc p1) [D.int .i64 0, D.sl aC.ks (List.map aC.enc []), D.sl [.int .i64] (List.map (encI .i64) []), D.int .i64 0] [D.int .i64 (aL (cellAt (elemAt (List.map aC.enc p0.Items) (Int.toNat r0)) 0)), D.int .i64 (aL (cellAt (elemAt (List.map aC.enc p0.Items) (Int.toNat r0)) 1)), D.str (aU (cellAt (elemAt (List.map aC.enc p0.Items) (Int.toNat r0)) 2)), D.str (aU (cellAt (elemAt (List.map aC.enc p0.Items) (Int.toNat r0)) 3)), D.int .i64 (aL (cellAt (elemAt (List.map aC.enc p0.Items) (Int.toNat r0)) 4)), D.bool (aY (cellAt (elemAt (List.map aC.enc p0.Items) (Int.toNat r0)) 5)), D.int .i64 (aL (cellAt (elemAt (List.map aC.enc p0.Items) (Int.toNat r0)) 6)), D.int .i64 (aL (cellAt (elemAt (List.map aC.enc p0.Items) (Int.toNat r0)) 7)), D.str (aU (cellAt (elemAt (List.map aC.enc p0.Items) (Int.toNat r0)) 8)), D.int .i64 (aL (cellAt (elemAt (List.map aC.enc p0.Items) (Int.toNat r0)) 9)), D.sl aE.ks (dSl (cellAt (elemAt (List.map aC.enc p0.Items) (Int.toNat r0)) 10))]) none) (
 alF (C60 Γ γ109 γ110 γ111 γ112) Λ2 J r0 (aG.enc p0) (aF.enc p1) [D.int .i64 0, D.sl aC.ks (List.map aC.enc []), D.sl [.int .i64] (List.map (encI .i64) []), D.int .i64 0] [D.int .i64 0, D.int .i64 0, D.str ([] : Str), D.str ([] : Str), D.int .i64 0, D.bool false, D.int .i64 0, D.int .i64 0, D.str ([] : Str), D.int .i64 0, D.sl aE.ks (List.map aE.enc [])]) := by kernel_rfl
theorem atl (x7 : Int) (b0 : aG) (b1 : aF) (b2 : aG) (b3 : aC) : cB SE (C60 Γ γ109 γ110 γ111 γ112) Λ2 J 60 0 [1, 1, 1, 1, 0, 0] (bB [(2, .ptr 1000000000 0), (3, .ptr 1000000001 0), (4, .ptr 1000000002 0), (7, .d (.int .i64 x7)), (8, .ptr 1000000003 0)] [⟨29, (List.map AV.d (aG.enc b0))⟩, ⟨49, (List.map AV.d (aF.enc b1))⟩, ⟨29, (List.map AV.d (aG.enc b2))⟩, ⟨122, (List.map AV.d (aC.enc b3))⟩] [] [] []) =
 cond (b1.Kind == 4) (
 cond (decide (x7 < 0)) (
  γ110 [aG.av b0] [] [] fun r1 =>
  (some (.ret [.agg [.d (.int .i64 r1.Limit), .row 0, .row 1, .d (.int .i64 r1.Pool.Last)], .row 2, .d (.int .i64 0)] [] [⟨aC.ks, 122, 128, (List.map aC.enc r1.Items)⟩, ⟨[.int .i64], 3, 8, (List.map (encI .i64) r1.Pool.Used)⟩, ⟨aF.ks, 49, 416, []⟩]))) (
 cond (b3.Message.Level == 1) (
  γ111 [aG.av b0, .d (.int .i64 x7)] [] [] fun r2 =>
  (some (.ret [.agg [.d (.int .i64 r2.Limit), .row 0, .row 1, .d (.int .i64 r2.Pool.Last)], .row 2, .d (.int .i64 0)] [] [⟨aC.ks, 122, 128, (List.map aC.enc r2.Items)⟩, ⟨[.int .i64], 3, 8, (List.map (encI .i64) r2.Pool.Used)⟩, ⟨aF.ks, 49, 416, []⟩]))) (
 (some (.ret [.agg [.d (.int .i64 0), .row 0, .row 1, .d (.int .i64 0)], .row 2, .d (.int .i64 23)] [] [⟨aC.ks, 122, 128, (List.map aC.enc [])⟩, ⟨[.int .i64], 3, 8, (List.map (encI .i64) [])⟩, ⟨aF.ks, 49, 416, []⟩]))))) (
 cond (b1.Kind == 5) (
 cond (decide (x7 < 0)) (
  γ110 [aG.av b0] [] [] fun r3 =>
  γ112 [.d (.int .i64 b1.ID)] [] [] fun r4 =>
  (some (.ret [.agg [.d (.int .i64 r3.Limit), .row 0, .row 1, .d (.int .i64 r3.Pool.Last)], .row 2, .d (.int .i64 0)] [] [⟨aC.ks, 122, 128, (List.map aC.enc r3.Items)⟩, ⟨[.int .i64], 3, 8, (List.map (encI .i64) r3.Pool.Used)⟩, ⟨aF.ks, 49, 416, (List.map aF.enc [r4])⟩]))) (
 cond (b3.Message.Level == 2) (
  γ110 [aG.av b0] [] [] fun r5 =>
  cond (decide (0 ≤ x7) && decide (x7 < (List.length (List.map aC.enc r5.Items) : Int))) (
  γ112 [.d (.int .i64 b1.ID)] [] [] fun r6 =>
  (some (.ret [.agg [.d (.int .i64 r5.Limit), .row 0, .row 1, .d (.int .i64 r5.Pool.Last)], .row 2, .d (.int .i64 0)] [] [⟨aC.ks, 122, 128, (hI (List.map aC.enc r5.Items) (Int.toNat x7) 1 [D.int .i64 2])⟩, ⟨[.int .i64], 3, 8, (List.map (encI .i64) r5.Pool.Used)⟩, ⟨aF.ks, 49, 416, (List.map aF.enc [r6])⟩]))) none) (
 (some (.ret [.agg [.d (.int .i64 0), .row 0, .row 1, .d (.int .i64 0)], .row 2, .d (.int .i64 23)] [] [⟨aC.ks, 122, 128, (List.map aC.enc [])⟩, ⟨[.int .i64], 3, 8, (List.map (encI .i64) [])⟩, ⟨aF.ks, 49, 416, []⟩]))))) (
 cond (b1.Kind == 7) (
 cond (decide (x7 < 0)) (
  γ110 [aG.av b0] [] [] fun r7 =>
  (some (.ret [.agg [.d (.int .i64 r7.Limit), .row 0, .row 1, .d (.int .i64 r7.Pool.Last)], .row 2, .d (.int .i64 0)] [] [⟨aC.ks, 122, 128, (List.map aC.enc r7.Items)⟩, ⟨[.int .i64], 3, 8, (List.map (encI .i64) r7.Pool.Used)⟩, ⟨aF.ks, 49, 416, []⟩]))) (
 cond (b3.State == 2) (
  γ111 [aG.av b0, .d (.int .i64 x7)] [] [] fun r8 =>
  (some (.ret [.agg [.d (.int .i64 r8.Limit), .row 0, .row 1, .d (.int .i64 r8.Pool.Last)], .row 2, .d (.int .i64 0)] [] [⟨aC.ks, 122, 128, (List.map aC.enc r8.Items)⟩, ⟨[.int .i64], 3, 8, (List.map (encI .i64) r8.Pool.Used)⟩, ⟨aF.ks, 49, 416, []⟩]))) (
 (some (.ret [.agg [.d (.int .i64 0), .row 0, .row 1, .d (.int .i64 0)], .row 2, .d (.int .i64 23)] [] [⟨aC.ks, 122, 128, (List.map aC.enc [])⟩, ⟨[.int .i64], 3, 8, (List.map (encI .i64) [])⟩, ⟨aF.ks, 49, 416, []⟩]))))) (
 (some (.ret [.agg [.d (.int .i64 0), .row 0, .row 1, .d (.int .i64 0)], .row 2, .d (.int .i64 10)] [] [⟨aC.ks, 122, 128, (List.map aC.enc [])⟩, ⟨[.int .i64], 3, 8, (List.map (encI .i64) [])⟩, ⟨aF.ks, 49, 416, []⟩]))))) := by kernel_rfl
end
abbrev X60 : aP := C60 gG (cT 109 kS) (cT 110 dF) (cT 111 jN) (cT 112 fG)
theorem aqZ : X60 = aQ gG := by unfold X60 C60; rw [aK fun _ h => h, aK fun _ h => h, aK fun _ h => h, aK fun _ h => h]
noncomputable abbrev atD (a0 : Int) (a1 : (List D)) (a2 : (List D)) (a3 : (List D)) (a4 : (List D)) : Res := alF X60 (bV SE gG (SE.hl 60) (SE.hr 60)) (J0 SE X60) a0 a1 a2 a3 a4
theorem mC (x7 : Int) (b0 : aG) (b1 : aF) (b2 : aG) (b3 : aC) : Le (Option.map fF (oJ x7 b0 b1 b2 b3)) (atD x7 (aG.enc b0) (aF.enc b1) (aG.enc b2) (aC.enc b3)) := by
 refine Le.trans ?_ (le_of_eq ((bC aqZ).trans (atl _ _ _ _ _ _ _  x7 b0 b1 b2 b3)).symm)
 unfold oJ
 refine lC ?_ ?_
 ·refine lC ?_ ?_
  ·refine aM (good := good) eX j2 (kY _) fun r1 _ => ?_
   exact aI rfl
  ·refine lC ?_ ?_
   ·refine aM (good := good) eX v7 (xN _ _) fun r2 _ => ?_
    exact aI rfl
   ·exact aI rfl
 ·refine lC ?_ ?_
  ·refine lC ?_ ?_
   ·refine aM (good := good) eX j2 (kY _) fun r3 _ => ?_
    refine aM (good := good) eX rA (oY _) fun r4 _ => ?_
    exact aI rfl
   ·refine lC ?_ ?_
    ·refine aM (good := good) eX j2 (kY _) fun r5 _ => ?_
     refine lG (by simp only [EN]) ?_
     refine aM (good := good) eX rA (oY _) fun r6 _ => ?_
     exact aI (by first | rfl | simp only [EN, fF] <;> rfl)
    ·exact aI rfl
  ·refine lC ?_ ?_
   ·refine lC ?_ ?_
    ·refine aM (good := good) eX j2 (kY _) fun r7 _ => ?_
     exact aI rfl
    ·refine lC ?_ ?_
     ·refine aM (good := good) eX v7 (xN _ _) fun r8 _ => ?_
      exact aI rfl
     ·exact aI rfl
   ·exact aI rfl
theorem aeZ (p0 : aG) (p1 : aF) : Le (Option.map fF (vG p0 p1)) (aZ SE 60 [aG.av p0, aF.av p1] [] []) := by
 refine aS aqZ rfl ?_
 refine Le.trans ?_ (le_of_eq (T60 _ _ _ _ _ _ _  p0 p1).symm)
 unfold vG
 refine aM (good := good) eX afy (aga _ _) fun r0 _ => ?_
 refine lC ?_ ?_
 ·refine lG (by simp only [EN]) ?_
  first | (simp only [EN]; exact mC r0 p0 p1 ((aG.mk 0 ([] : List aC) (aJ.mk ([] : List Int) 0))) (List.getD p0.Items (Int.toNat r0) default)) | exact mC r0 p0 p1 ((aG.mk 0 ([] : List aC) (aJ.mk ([] : List Int) 0))) (List.getD p0.Items (Int.toNat r0) default)
 ·first | (simp only [EN]; exact mC r0 p0 p1 ((aG.mk 0 ([] : List aC) (aJ.mk ([] : List Int) 0))) ((aC.mk 0 0 (aA.mk ([] : Str) ([] : Str) 0 false 0 0 ([] : Str) 0 ([] : List aE))))) | exact mC r0 p0 p1 ((aG.mk 0 ([] : List aC) (aJ.mk ([] : List Int) 0))) ((aC.mk 0 0 (aA.mk ([] : Str) ([] : Str) 0 false 0 0 ([] : Str) 0 ([] : List aE))))
section
variable (Γ : Fun) (γ60 : Gm (aG × (List aF) × Int)) (γ50 : Gm (aB)) (γ61 : Gm (aB × (List aF))) (Λ2 J : Lam)
def C19 : aP := bA (bA (bA (aQ Γ) 60 fF γ60) 50 bM γ50) 61 dX γ61
theorem T19 (p0 : aB) (p1 : aF) (p2 : Int) : bD SE (C19 Γ γ60 γ50 γ61) Λ2 J 19 [aB.av p0, aF.av p1, .d (.int .i64 p2)] [] [] =
 γ60 [aG.av p0.Out, aF.av p1] [] [] fun r0 =>
 cond (r0.2.2 != 0) (
 (some (.ret [.agg [.d (.str ([] : Str)), .d (.str ([] : Str)), .d (.bool false), .d (.int .i64 0), .d (.int .i64 0), .d (.int .i64 0), .d (.int .i64 0), .d (.sl aD.ks (List.map aD.enc [])), .d (.sl aA.ks (List.map aA.enc [])), .d (.int .i64 0), .d (.sl aC.ks (List.map aC.enc [])), .d (.sl [.int .i64] (List.map (encI .i64) [])), .d (.int .i64 0), .d (.sl [.int .i64] (List.map (encI .i64) [])), .d (.bool false), .d (.int .i64 0), .d (.str ([] : Str)), .d (.str ([] : Str)), .d (.int .i64 0), .d (.bool false), .d (.int .i64 0), .d (.int .i64 0), .d (.str ([] : Str)), .d (.int .i64 0), .d (.sl aE.ks (List.map aE.enc []))], .row 0, .d (.int .i64 r0.2.2)] [] [⟨aF.ks, 49, 416, []⟩]))) (
 γ50 [aB.av p0] [] [] fun r1 =>
 cond (!p0.Online) (
 (some (.ret [aB.av (aB.mk r1.Client r1.User r1.Online r1.Conn r1.Expiry r1.Until r1.Dropped r1.Subs r1.Queue r0.1 r1.In r1.Will), .row 0, .d (.int .i64 0)] [] [⟨aF.ks, 49, 416, (List.map aF.enc r0.2.1)⟩]))) (
 γ61 [aB.av (aB.mk r1.Client r1.User r1.Online r1.Conn r1.Expiry r1.Until r1.Dropped r1.Subs r1.Queue r0.1 r1.In r1.Will), .d (.int .i64 p2), .row 2000000000] [] [⟨aF.ks, 49, 416, (List.map aF.enc r0.2.1)⟩] fun r2 =>
 (some (.ret [aB.av r2.1, .row 0, .d (.int .i64 0)] [] [⟨aF.ks, 49, 416, (List.map aF.enc r2.2)⟩])))) := by kernel_rfl
end
abbrev X19 : aP := C19 gG (cT 60 fF) (cT 50 bM) (cT 61 dX)
theorem avS : X19 = aQ gG := by unfold X19 C19; rw [aK fun _ h => h, aK fun _ h => h, aK fun _ h => h]
theorem yM (p0 : aB) (p1 : aF) (p2 : Int) : Le (Option.map kG (wD p0 p1 p2)) (aZ SE 19 [aB.av p0, aF.av p1, .d (.int .i64 p2)] [] []) := by
 refine aS avS rfl ?_
 refine Le.trans ?_ (le_of_eq (T19 _ _ _ _ _ _  p0 p1 p2).symm)
 unfold wD
 refine aM (good := good) eX adT (aeZ _ _) fun r0 _ => ?_
 refine lC ?_ ?_
 ·exact aI rfl
 ·refine aM (good := good) eX gP (iK _) fun r1 _ => ?_
  refine lC ?_ ?_
  ·exact aI rfl
  ·refine aM (good := good) eX tY (rE _ _ _) fun r2 _ => ?_
   exact aI rfl
section
variable (Γ : Fun)  (Λ2 J : Lam)
def C65 : aP := aQ Γ
theorem T65 (p0 : aA) : bD SE (C65 Γ) Λ2 J 65 [aA.av p0] [] [] =
 (some (.ret [.d (.bool (p0.Level == 0))] [] [])) := by kernel_rfl
end
abbrev X65 : aP := C65 gG
theorem awe : X65 = aQ gG := rfl
theorem nF (p0 : aA) : Le (Option.map eB (pG p0)) (aZ SE 65 [aA.av p0] [] []) := by
 refine aS awe rfl ?_
 refine Le.trans ?_ (le_of_eq (T65 _ _ _  p0).symm)
 unfold pG
 exact aI rfl
def ako (C : aP) (Λ2 J : Lam) (a0 : (List (List D))) (a1 : Int) (a2 : Int) : Res := lab SE C Λ2 J 123 0 [1, 0, 1, 0] (bB [(0, .d (.sl aA.ks a0)), (1, .fn 65 [] []), (7, .d (.int .i64 a1)), (8, .d (.int .i64 a2))] [] [] [] [])
section
variable (Γ : Fun) (γ65 : Gm (Bool)) (Λ2 J : Lam)
def ah7 : aP := bA (aQ Γ) 65 eB γ65
theorem awT (p0 : (List aA)) : bD SE (ah7 Γ γ65) Λ2 J 123 [.d (.sl aA.ks (List.map aA.enc p0)), .fn 65 [] []] [] [] =
 ako (ah7 Γ γ65) Λ2 J (List.map aA.enc p0) (List.length (List.map aA.enc p0) : Int) 0 := by kernel_rfl
theorem arF (x0 : (List aA)) (x7 : Int) (x8 : Int) : cB SE (ah7 Γ γ65) Λ2 J 123 0 [1, 0, 1, 0] (bB [(0, .d (.sl aA.ks (List.map aA.enc x0))), (1, .fn 65 [] []), (7, .d (.int .i64 x7)), (8, .d (.int .i64 x8))] [] [] [] []) =
 cond (decide (x8 < x7)) (
 cond (decide (0 ≤ x8) && decide (x8 < (List.length (List.map aA.enc x0) : Int))) (
  γ65 [.agg [.d (.str (aU (cellAt (elemAt (List.map aA.enc x0) (Int.toNat x8)) 0))), .d (.str (aU (cellAt (elemAt (List.map aA.enc x0) (Int.toNat x8)) 1))), .d (.int .i64 (aL (cellAt (elemAt (List.map aA.enc x0) (Int.toNat x8)) 2))), .d (.bool (aY (cellAt (elemAt (List.map aA.enc x0) (Int.toNat x8)) 3))), .d (.int .i64 (aL (cellAt (elemAt (List.map aA.enc x0) (Int.toNat x8)) 4))), .d (.int .i64 (aL (cellAt (elemAt (List.map aA.enc x0) (Int.toNat x8)) 5))), .d (.str (aU (cellAt (elemAt (List.map aA.enc x0) (Int.toNat x8)) 6))), .d (.int .i64 (aL (cellAt (elemAt (List.map aA.enc x0) (Int.toNat x8)) 7))), .d (.sl aE.ks (dSl (cellAt (elemAt (List.map aA.enc x0) (Int.toNat x8)) 8)))]] [] [] fun r0 =>
  cond r0 (
  (some (.ret [.d (.int .i64 x8)] [] []))) (
  ako (ah7 Γ γ65) Λ2 J (List.map aA.enc x0) x7 (IntKind.wrap .i64 (x8 + 1)))) none) (
 (some (.ret [.d (.int .i64 (-1))] [] []))) := by kernel_rfl
end
abbrev alv : aP := ah7 gG (cT 65 eB)
theorem apb : alv = aQ gG := by unfold alv ah7; rw [aK fun _ h => h]
noncomputable abbrev arC (a0 : (List (List D))) (a1 : Int) (a2 : Int) : Res := ako alv (bV SE gG (SE.hl 123) (SE.hr 123)) (J0 SE alv) a0 a1 a2
theorem hR : ∀ (fu : Nat) (x0 : (List aA)) (x7 : Int) (x8 : Int), Le (Option.map bJ (cZ fu x0 x7 x8)) (arC (List.map aA.enc x0) x7 x8) := by
 intro fu
 induction fu with
 | zero => intros; exact le_none
 | succ fu ih =>
  intro x0 x7 x8
  refine Le.trans ?_ (le_of_eq ((bC apb).trans (arF _ _ _ _  x0 x7 x8)).symm)
  unfold cZ
  refine lC ?_ ?_
  ·refine lG (by simp only [EN]) ?_
   refine aM (good := good) eX uB (by first | (simp only [EN]; exact nF (List.getD x0 (Int.toNat x8) default)) | exact nF (List.getD x0 (Int.toNat x8) default)) fun r0 _ => ?_
   refine lC ?_ ?_
   ·exact aI rfl
   ·exact ih x0 x7 (IntKind.wrap .i64 (x8 + 1))
  ·exact aI rfl
theorem oH (p0 : (List aA)) : Le (Option.map bJ (fC p0)) (aZ SE 123 [.d (.sl aA.ks (List.map aA.enc p0)), .fn 65 [] []] [] []) := by
 refine aS apb rfl ?_
 refine Le.trans ?_ (le_of_eq (awT _ _ _ _  p0).symm)
 unfold fC
 first | (simp only [EN]; exact hR fuel p0 (List.length p0 : Int) 0) | exact hR fuel p0 (List.length p0 : Int) 0
def ajc (C : aP) (Λ2 J : Lam) (a0 : Int) (a1 : Int) (a2 : (List (List D))) : Res := lab SE C Λ2 J 64 0 [1, 1, 1, 0, 1, 0] (bB [(0, .row 3000), (1, .fn 65 [] []), (5, .d (.int .i64 a0)), (6, .d (.int .i64 a1))] [] [] [] [(3000, ⟨aA.ks, 34, 112, a2⟩)])
section
variable (Γ : Fun) (γ123 : Gm (Int)) (γ65 : Gm (Bool)) (Λ2 J : Lam)
def C64 : aP := bA (bA (aQ Γ) 123 bJ γ123) 65 eB γ65
theorem T64 (p0 : (List aA)) : bD SE (C64 Γ γ123 γ65) Λ2 J 64 [.row 2000000000, .fn 65 [] []] [] [⟨aA.ks, 34, 112, (List.map aA.enc p0)⟩] =
 γ123 [.d (.sl aA.ks (List.map aA.enc p0)), .fn 65 [] []] [] [] fun r0 =>
 cond (r0 == (-1)) (
 (some (.ret [.row 0] [] [⟨aA.ks, 34, 112, (List.map aA.enc p0)⟩]))) (
 ajc (C64 Γ γ123 γ65) Λ2 J r0 (IntKind.wrap .i64 (r0 + 1)) (List.map aA.enc p0)) := by kernel_rfl
theorem auk (x5 : Int) (x6 : Int) (w3000 : (List aA)) : cB SE (C64 Γ γ123 γ65) Λ2 J 64 0 [1, 1, 1, 0, 1, 0] (bB [(0, .row 3000), (1, .fn 65 [] []), (5, .d (.int .i64 x5)), (6, .d (.int .i64 x6))] [] [] [] [(3000, ⟨aA.ks, 34, 112, (List.map aA.enc w3000)⟩)]) =
 cond (decide (x6 < (List.length (List.map aA.enc w3000) : Int))) (
 cond (decide (0 ≤ x6) && decide (x6 < (List.length (List.map aA.enc w3000) : Int))) (
  γ65 [.agg [.d (.str (aU (cellAt (elemAt (List.map aA.enc w3000) (Int.toNat x6)) 0))), .d (.str (aU (cellAt (elemAt (List.map aA.enc w3000) (Int.toNat x6)) 1))), .d (.int .i64 (aL (cellAt (elemAt (List.map aA.enc w3000) (Int.toNat x6)) 2))), .d (.bool (aY (cellAt (elemAt (List.map aA.enc w3000) (Int.toNat x6)) 3))), .d (.int .i64 (aL (cellAt (elemAt (List.map aA.enc w3000) (Int.toNat x6)) 4))), .d (.int .i64 (aL (cellAt (elemAt (List.map aA.enc w3000) (Int.toNat x6)) 5))), .d (.str (aU (cellAt (elemAt (List.map aA.enc w3000) (Int.toNat x6)) 6))), .d (.int .i64 (aL (cellAt (elemAt (List.map aA.enc w3000) (Int.toNat x6)) 7))), .d (.sl aE.ks (dSl (cellAt (elemAt (List.map aA.enc w3000) (Int.toNat x6)) 8)))]] [] [] fun r1 =>
  cond (!r1) (
  cond (decide (0 ≤ x5) && decide (x5 < (List.length (List.map aA.enc w3000) : Int))) (
   ajc (C64 Γ γ123 γ65) Λ2 J (IntKind.wrap .i64 (x5 + 1)) (IntKind.wrap .i64 (x6 + 1)) ((hI (List.map aA.enc w3000) (Int.toNat x5) 0 [D.str (aU (cellAt (elemAt (List.map aA.enc w3000) (Int.toNat x6)) 0)), D.str (aU (cellAt (elemAt (List.map aA.enc w3000) (Int.toNat x6)) 1)), D.int .i64 (aL (cellAt (elemAt (List.map aA.enc w3000) (Int.toNat x6)) 2)), D.bool (aY (cellAt (elemAt (List.map aA.enc w3000) (Int.toNat x6)) 3)), D.int .i64 (aL (cellAt (elemAt (List.map aA.enc w3000) (Int.toNat x6)) 4)), D.int .i64 (aL (cellAt (elemAt (List.map aA.enc w3000) (Int.toNat x6)) 5)), D.str (aU (cellAt (elemAt (List.map aA.enc w3000) (Int.toNat x6)) 6)), D.int .i64 (aL (cellAt (elemAt (List.map aA.enc w3000) (Int.toNat x6)) 7)), D.sl aE.ks (dSl (cellAt (elemAt (List.map aA.enc w3000) (Int.toNat x6)) 8))]))) none) (
  ajc (C64 Γ γ123 γ65) Λ2 J x5 (IntKind.wrap .i64 (x6 + 1)) (List.map aA.enc w3000))) none) (
 cond (decide (0 ≤ x5) && decide (x5 ≤ ((List.length (List.map aA.enc w3000)) : Int))) (
 cond (decide (0 ≤ x5) && decide (x5 ≤ (List.length (List.take (Int.toNat x5) (List.map aA.enc w3000) ++ List.replicate ((List.length (List.map aA.enc w3000)) - (Int.toNat x5)) [D.str ([] : Str), D.str ([] : Str), D.int .i64 0, D.bool false, D.int .i64 0, D.int .i64 0, D.str ([] : Str), D.int .i64 0, D.sl aE.ks (List.map aE.enc [])] ++ List.drop ((Int.toNat x5) + ((List.length (List.map aA.enc w3000)) - (Int.toNat x5))) (List.map aA.enc w3000)) : Int))) (
  (some (.ret [.row 0] [] [⟨aA.ks, 34, 112, (List.take (Int.toNat x5) (List.take (Int.toNat x5) (List.map aA.enc w3000) ++ List.replicate ((List.length (List.map aA.enc w3000)) - (Int.toNat x5)) [D.str ([] : Str), D.str ([] : Str), D.int .i64 0, D.bool false, D.int .i64 0, D.int .i64 0, D.str ([] : Str), D.int .i64 0, D.sl aE.ks (List.map aE.enc [])] ++ List.drop ((Int.toNat x5) + ((List.length (List.map aA.enc w3000)) - (Int.toNat x5))) (List.map aA.enc w3000)))⟩]))) none) none) := by kernel_rfl
end
abbrev X64 : aP := C64 gG (cT 123 bJ) (cT 65 eB)
theorem arI : X64 = aQ gG := by unfold X64 C64; rw [aK fun _ h => h, aK fun _ h => h]
noncomputable abbrev aur (a0 : Int) (a1 : Int) (a2 : (List (List D))) : Res := ajc X64 (bV SE gG (SE.hl 64) (SE.hr 64)) (J0 SE X64) a0 a1 a2
theorem nI : ∀ (fu : Nat) (x5 : Int) (x6 : Int) (w3000 : (List aA)), Le (Option.map bH (cC fu x5 x6 w3000)) (aur x5 x6 (List.map aA.enc w3000)) := by
 intro fu
 induction fu with
 | zero => intros; exact le_none
 | succ fu ih =>
  intro x5 x6 w3000
  refine Le.trans ?_ (le_of_eq ((bC arI).trans (auk _ _ _ _ _  x5 x6 w3000)).symm)
  unfold cC
  refine lD (by simp only [EN]) ?_ ?_
  ·refine lG (by simp only [EN]) ?_
   refine aM (good := good) eX uB (by first | (simp only [EN]; exact nF (List.getD w3000 (Int.toNat x6) default)) | exact nF (List.getD w3000 (Int.toNat x6) default)) fun r1 _ => ?_
   refine lC ?_ ?_
   ·refine lG (by simp only [EN]) ?_
    first | (simp only [EN]; exact ih (IntKind.wrap .i64 (x5 + 1)) (IntKind.wrap .i64 (x6 + 1)) ((List.set w3000 (Int.toNat x5) (List.getD w3000 (Int.toNat x6) default)))) | exact ih (IntKind.wrap .i64 (x5 + 1)) (IntKind.wrap .i64 (x6 + 1)) ((List.set w3000 (Int.toNat x5) (List.getD w3000 (Int.toNat x6) default)))
   ·exact ih x5 (IntKind.wrap .i64 (x6 + 1)) w3000
  ·refine lG (by simp only [EN]) ?_
   refine lG (by simp only [EN]) ?_
   exact aI (by first | rfl | simp only [EN, bH] <;> rfl)
theorem oF (p0 : (List aA)) : Le (Option.map bH (eV p0)) (aZ SE 64 [.row 2000000000, .fn 65 [] []] [] [⟨aA.ks, 34, 112, (List.map aA.enc p0)⟩]) := by
 refine aS arI rfl ?_
 refine Le.trans ?_ (le_of_eq (T64 _ _ _ _ _  p0).symm)
 unfold eV
 refine aM (good := good) eX oG (oH _) fun r0 _ => ?_
 refine lC ?_ ?_
 ·exact aI rfl
 ·exact nI fuel r0 (IntKind.wrap .i64 (r0 + 1)) p0
section
variable (Γ : Fun) (γ50 : Gm (aB)) (γ64 : Gm ((List aA))) (γ51 : Gm (aB)) (Λ2 J : Lam)
def C23 : aP := bA (bA (bA (aQ Γ) 50 bM γ50) 64 bH γ64) 51 dI γ51
theorem T23 (p0 : aB) (p1 : Int) : bD SE (C23 Γ γ50 γ64 γ51) Λ2 J 23 [aB.av p0, .d (.int .i64 p1)] [] [] =
 γ50 [aB.av p0] [] [] fun r0 =>
 γ64 [.row 2000000000, .fn 65 [] []] [] [⟨aA.ks, 34, 112, (List.map aA.enc r0.Queue)⟩] fun r1 =>
 γ51 [aB.av (aB.mk r0.Client r0.User false 0 r0.Expiry (if 1099511627776 < (IntKind.wrap .i64 (p1 + p0.Expiry)) then 1099511627776 else (IntKind.wrap .i64 (p1 + p0.Expiry))) r0.Dropped r0.Subs r1 r0.Out r0.In r0.Will), .d (.int .i64 (IntKind.wrap .i64 ((List.length (List.map aA.enc r0.Queue) : Int) - (List.length (List.map aA.enc r1) : Int))))] [] [] fun r2 =>
 (some (.ret [aB.av r2] [] [])) := by kernel_rfl
end
abbrev X23 : aP := C23 gG (cT 50 bM) (cT 64 bH) (cT 51 dI)
theorem awV : X23 = aQ gG := by unfold X23 C23; rw [aK fun _ h => h, aK fun _ h => h, aK fun _ h => h]
theorem aed (p0 : aB) (p1 : Int) : Le (Option.map jM (vI p0 p1)) (aZ SE 23 [aB.av p0, .d (.int .i64 p1)] [] []) := by
 refine aS awV rfl ?_
 refine Le.trans ?_ (le_of_eq (T23 _ _ _ _ _ _  p0 p1).symm)
 unfold vI
 refine aM (good := good) eX gP (iK _) fun r0 _ => ?_
 refine aM (good := good) eX nW (oF _) fun r1 _ => ?_
 refine aM (good := good) eX n9 (by first | (simp only [EN]; exact j4 ((aB.mk r0.Client r0.User false 0 r0.Expiry (if 1099511627776 < (IntKind.wrap .i64 (p1 + p0.Expiry)) then 1099511627776 else (IntKind.wrap .i64 (p1 + p0.Expiry))) r0.Dropped r0.Subs r1 r0.Out r0.In r0.Will)) ((IntKind.wrap .i64 ((List.length r0.Queue : Int) - (List.length r1 : Int))))) | exact j4 ((aB.mk r0.Client r0.User false 0 r0.Expiry (if 1099511627776 < (IntKind.wrap .i64 (p1 + p0.Expiry)) then 1099511627776 else (IntKind.wrap .i64 (p1 + p0.Expiry))) r0.Dropped r0.Subs r1 r0.Out r0.In r0.Will)) ((IntKind.wrap .i64 ((List.length r0.Queue : Int) - (List.length r1 : Int))))) fun r2 _ => ?_
 exact aI rfl
def ai6 (C : aP) (Λ2 J : Lam) (a0 : Int) (a1 : Int) (a2 : (List D)) (a3 : (List (List D))) : Res := lab SE C Λ2 J 91 0 [1, 1, 0, 1, 0] (bB [(1, .ptr 1000000000 0), (3, .row 3003), (9, .d (.int .i64 a0)), (10, .d (.int .i64 a1))] [⟨29, (List.map AV.d a2)⟩] [] [] [(3003, ⟨aF.ks, 49, 416, a3⟩)])
section
variable (Γ : Fun) (γ112 : Gm (aF)) (γ147 : Gm (aF)) (Λ2 J : Lam)
def C91 : aP := bA (bA (aQ Γ) 112 fG γ112) 147 eS γ147
theorem T91 (p0 : aG) : bD SE (C91 Γ γ112 γ147) Λ2 J 91 [aG.av p0] [] [] =
 ai6 (C91 Γ γ112 γ147) Λ2 J (List.length (List.map aC.enc p0.Items) : Int) 0 (aG.enc p0) (List.map aF.enc []) := by kernel_rfl
theorem at7 (x9 : Int) (x10 : Int) (b0 : aG) (w3003 : (List aF)) : cB SE (C91 Γ γ112 γ147) Λ2 J 91 0 [1, 1, 0, 1, 0] (bB [(1, .ptr 1000000000 0), (3, .row 3003), (9, .d (.int .i64 x9)), (10, .d (.int .i64 x10))] [⟨29, (List.map AV.d (aG.enc b0))⟩] [] [] [(3003, ⟨aF.ks, 49, 416, (List.map aF.enc w3003)⟩)]) =
 cond (decide (x10 < x9)) (
 cond (decide (0 ≤ x10) && decide (x10 < (List.length (List.map aC.enc b0.Items) : Int))) (
  cond ((aL (cellAt (elemAt (List.map aC.enc b0.Items) (Int.toNat x10)) 1)) == 2) (
  γ112 [.d (.int .i64 (aL (cellAt (elemAt (List.map aC.enc b0.Items) (Int.toNat x10)) 0)))] [] [] fun r0 =>
  cond (decide ((List.length (List.map aF.enc w3003) + List.length (List.map aF.enc [r0])) * 416 ≤ 140737488355328)) (
   ai6 (C91 Γ γ112 γ147) Λ2 J x9 (IntKind.wrap .i64 (x10 + 1)) (aG.enc b0) (((List.map aF.enc w3003) ++ (List.map aF.enc [r0])))) none) (
  γ147 [.agg [.d (.int .i64 (aL (cellAt (elemAt (List.map aC.enc b0.Items) (Int.toNat x10)) 0))), .d (.int .i64 (aL (cellAt (elemAt (List.map aC.enc b0.Items) (Int.toNat x10)) 1))), .d (.str (aU (cellAt (elemAt (List.map aC.enc b0.Items) (Int.toNat x10)) 2))), .d (.str (aU (cellAt (elemAt (List.map aC.enc b0.Items) (Int.toNat x10)) 3))), .d (.int .i64 (aL (cellAt (elemAt (List.map aC.enc b0.Items) (Int.toNat x10)) 4))), .d (.bool (aY (cellAt (elemAt (List.map aC.enc b0.Items) (Int.toNat x10)) 5))), .d (.int .i64 (aL (cellAt (elemAt (List.map aC.enc b0.Items) (Int.toNat x10)) 6))), .d (.int .i64 (aL (cellAt (elemAt (List.map aC.enc b0.Items) (Int.toNat x10)) 7))), .d (.str (aU (cellAt (elemAt (List.map aC.enc b0.Items) (Int.toNat x10)) 8))), .d (.int .i64 (aL (cellAt (elemAt (List.map aC.enc b0.Items) (Int.toNat x10)) 9))), .d (.sl aE.ks (dSl (cellAt (elemAt (List.map aC.enc b0.Items) (Int.toNat x10)) 10)))]] [] [] fun r1 =>
  cond (decide ((List.length (List.map aF.enc w3003) + List.length (List.map aF.enc [(aF.mk r1.Kind r1.ID true r1.Message r1.Client r1.User r1.Clean r1.Keep r1.Expiry r1.Window r1.Will r1.Present r1.Code r1.Subs r1.Filters r1.Codes)])) * 416 ≤ 140737488355328)) (
  ai6 (C91 Γ γ112 γ147) Λ2 J x9 (IntKind.wrap .i64 (x10 + 1)) (aG.enc b0) (((List.map aF.enc w3003) ++ (List.map aF.enc [(aF.mk r1.Kind r1.ID true r1.Message r1.Client r1.User r1.Clean r1.Keep r1.Expiry r1.Window r1.Will r1.Present r1.Code r1.Subs r1.Filters r1.Codes)])))) none)) none) (
 (some (.ret [.row 0] [] [⟨aF.ks, 49, 416, (List.map aF.enc w3003)⟩]))) := by kernel_rfl
end
abbrev X91 : aP := C91 gG (cT 112 fG) (cT 147 eS)
theorem aso : X91 = aQ gG := by unfold X91 C91; rw [aK fun _ h => h, aK fun _ h => h]
noncomputable abbrev atd (a0 : Int) (a1 : Int) (a2 : (List D)) (a3 : (List (List D))) : Res := ai6 X91 (bV SE gG (SE.hl 91) (SE.hr 91)) (J0 SE X91) a0 a1 a2 a3
theorem uR : ∀ (fu : Nat) (x9 : Int) (x10 : Int) (b0 : aG) (w3003 : (List aF)), Le (Option.map g6 (l5 fu x9 x10 b0 w3003)) (atd x9 x10 (aG.enc b0) (List.map aF.enc w3003)) := by
 intro fu
 induction fu with
 | zero => intros; exact le_none
 | succ fu ih =>
  intro x9 x10 b0 w3003
  refine Le.trans ?_ (le_of_eq ((bC aso).trans (at7 _ _ _ _ _  x9 x10 b0 w3003)).symm)
  unfold l5
  refine lC ?_ ?_
  ·refine lG (by simp only [EN]) ?_
   refine lD (by simp only [EN]) ?_ ?_
   ·refine aM (good := good) eX rA (by first | (simp only [EN]; exact oY ((List.getD b0.Items (Int.toNat x10) default).ID)) | exact oY ((List.getD b0.Items (Int.toNat x10) default).ID)) fun r0 _ => ?_
    refine lG (by simp only [EN]) ?_
    first | (simp only [EN]; exact ih x9 (IntKind.wrap .i64 (x10 + 1)) b0 (w3003 ++ [r0])) | exact ih x9 (IntKind.wrap .i64 (x10 + 1)) b0 (w3003 ++ [r0])
   ·refine aM (good := good) eX vF (by first | (simp only [EN]; exact rB (List.getD b0.Items (Int.toNat x10) default)) | exact rB (List.getD b0.Items (Int.toNat x10) default)) fun r1 _ => ?_
    refine lG (by simp only [EN]) ?_
    first | (simp only [EN]; exact ih x9 (IntKind.wrap .i64 (x10 + 1)) b0 (w3003 ++ [(aF.mk r1.Kind r1.ID true r1.Message r1.Client r1.User r1.Clean r1.Keep r1.Expiry r1.Window r1.Will r1.Present r1.Code r1.Subs r1.Filters r1.Codes)])) | exact ih x9 (IntKind.wrap .i64 (x10 + 1)) b0 (w3003 ++ [(aF.mk r1.Kind r1.ID true r1.Message r1.Client r1.User r1.Clean r1.Keep r1.Expiry r1.Window r1.Will r1.Present r1.Code r1.Subs r1.Filters r1.Codes)])
  ·exact aI rfl
theorem aeD (p0 : aG) : Le (Option.map g6 (uS p0)) (aZ SE 91 [aG.av p0] [] []) := by
 refine aS aso rfl ?_
 refine Le.trans ?_ (le_of_eq (T91 _ _ _ _ _  p0).symm)
 unfold uS
 first | (simp only [EN]; exact uR fuel (List.length p0.Items : Int) 0 p0 ([] : List aF)) | exact uR fuel (List.length p0.Items : Int) 0 p0 ([] : List aF)
section
variable (Γ : Fun) (γ50 : Gm (aB)) (γ80 : Gm (aA)) (γ91 : Gm ((List aF))) (γ61 : Gm (aB × (List aF))) (Λ2 J : Lam)
def C36 : aP := bA (bA (bA (bA (aQ Γ) 50 bM γ50) 80 cW γ80) 91 g6 γ91) 61 dX γ61
theorem T36 (p0 : aB) (p1 : aF) (p2 : Int) (p3 : Int) : bD SE (C36 Γ γ50 γ80 γ91 γ61) Λ2 J 36 [aB.av p0, aF.av p1, .d (.int .i64 p2), .d (.int .i64 p3)] [] [] =
 γ50 [aB.av p0] [] [] fun r0 =>
 γ80 [aA.av p1.Will.Message] [] [] fun r1 =>
 γ91 [aG.av (aG.mk p1.Window r0.Out.Items r0.Out.Pool)] [] [] fun r2 =>
 γ61 [aB.av (aB.mk r0.Client p1.User true p2 p1.Expiry 0 r0.Dropped r0.Subs r0.Queue (aG.mk p1.Window r0.Out.Items r0.Out.Pool) r0.In (aN.mk p1.Will.Set p1.Will.Delay r1)), .d (.int .i64 p3), .row 2000000000] [] [⟨aF.ks, 49, 416, (List.map aF.enc r2)⟩] fun r3 =>
 (some (.ret [aB.av r3.1, .row 0] [] [⟨aF.ks, 49, 416, (List.map aF.enc r3.2)⟩])) := by kernel_rfl
end
abbrev X36 : aP := C36 gG (cT 50 bM) (cT 80 cW) (cT 91 g6) (cT 61 dX)
theorem avJ : X36 = aQ gG := by unfold X36 C36; rw [aK fun _ h => h, aK fun _ h => h, aK fun _ h => h, aK fun _ h => h]
theorem yN (p0 : aB) (p1 : aF) (p2 : Int) (p3 : Int) : Le (Option.map kA (wP p0 p1 p2 p3)) (aZ SE 36 [aB.av p0, aF.av p1, .d (.int .i64 p2), .d (.int .i64 p3)] [] []) := by
 refine aS avJ rfl ?_
 refine Le.trans ?_ (le_of_eq (T36 _ _ _ _ _ _ _  p0 p1 p2 p3).symm)
 unfold wP
 refine aM (good := good) eX gP (iK _) fun r0 _ => ?_
 refine aM (good := good) eX j7 (fK _) fun r1 _ => ?_
 refine aM (good := good) eX adY (aeD _) fun r2 _ => ?_
 refine aM (good := good) eX tY (rE _ _ _) fun r3 _ => ?_
 exact aI rfl
section
variable (Γ : Fun)  (Λ2 J : Lam)
def C24 : aP := aQ Γ
theorem T24 (p0 : aB) (p1 : Int) : bD SE (C24 Γ) Λ2 J 24 [aB.av p0, .d (.int .i64 p1)] [] [] =
 cond (!p0.Online) (
 (some (.ret [.d (.bool (decide (p1 ≥ p0.Until)))] [] []))) (
 (some (.ret [.d (.bool false)] [] []))) := by kernel_rfl
end
abbrev X24 : aP := C24 gG
theorem avk : X24 = aQ gG := rfl
theorem xS (p0 : aB) (p1 : Int) : Le (Option.map jT (rG p0 p1)) (aZ SE 24 [aB.av p0, .d (.int .i64 p1)] [] []) := by
 refine aS avk rfl ?_
 refine Le.trans ?_ (le_of_eq (T24 _ _ _  p0 p1).symm)
 unfold rG
 refine lC ?_ ?_
 ·exact aI rfl
 ·exact aI rfl
section
variable (Γ : Fun) (γ31 : Gm (aB)) (γ26 : Gm (aB × Bool × Int)) (γ15 : Gm (aB × Bool)) (γ34 : Gm (aB × (List aF))) (γ19 : Gm (aB × (List aF) × Int)) (γ23 : Gm (aB)) (γ36 : Gm (aB × (List aF))) (γ24 : Gm (Bool)) (Λ2 J : Lam)
def C14 : aP := bA (bA (bA (bA (bA (bA (bA (bA (aQ Γ) 31 mE γ31) 26 cY γ26) 15 jG γ15) 34 lQ γ34) 19 kG γ19) 23 jM γ23) 36 kA γ36) 24 jT γ24
theorem T14 : bD SE (C14 Γ γ31 γ26 γ15 γ34 γ19 γ23 γ36 γ24) Λ2 J 14 [] [] [] =
 γ31 [.agg [.d (.int .i64 1), .d (.int .i64 0), .d (.bool false), .d (.str ([] : Str)), .d (.str ([] : Str)), .d (.int .i64 0), .d (.bool false), .d (.int .i64 0), .d (.int .i64 0), .d (.str ([] : Str)), .d (.int .i64 0), .d (.sl aE.ks (List.map aE.enc [])), .d (.str ([99] : Str)), .d (.str ([] : Str)), .d (.bool false), .d (.int .i64 0), .d (.int .i64 5), .d (.int .i64 1), .d (.bool false), .d (.int .i64 0), .d (.str ([] : Str)), .d (.str ([] : Str)), .d (.int .i64 0), .d (.bool false), .d (.int .i64 0), .d (.int .i64 0), .d (.str ([] : Str)), .d (.int .i64 0), .d (.sl aE.ks (List.map aE.enc [])), .d (.bool false), .d (.int .i64 0), .d (.sl aD.ks (List.map aD.enc [])), .d (.sl [.str] (List.map bG [])), .d (.sl [.int .i64] (List.map (encI .i64) []))], .d (.int .i64 3)] [] [] fun r0 =>
 γ26 [aB.av r0, aD.av (aD.mk ([116] : Str) 0 false)] [] [] fun r1 =>
 γ15 [aB.av r1.1, .agg [.d (.str ([116] : Str)), .d (.str ([] : Str)), .d (.int .i64 1), .d (.bool false), .d (.int .i64 0), .d (.int .i64 0), .d (.str ([] : Str)), .d (.int .i64 1), .d (.sl aE.ks (List.map aE.enc []))], .d (.int .i64 9), .d (.int .i64 2)] [] [] fun r2 =>
 γ15 [aB.av r2.1, .agg [.d (.str ([116] : Str)), .d (.str ([] : Str)), .d (.int .i64 1), .d (.bool false), .d (.int .i64 0), .d (.int .i64 0), .d (.str ([] : Str)), .d (.int .i64 2), .d (.sl aE.ks (List.map aE.enc []))], .d (.int .i64 9), .d (.int .i64 2)] [] [] fun r3 =>
 γ34 [aB.av r3.1, .d (.int .i64 0)] [] [] fun r4 =>
 γ19 [aB.av r4.1, .agg [.d (.int .i64 4), .d (.int .i64 1), .d (.bool false), .d (.str ([] : Str)), .d (.str ([] : Str)), .d (.int .i64 0), .d (.bool false), .d (.int .i64 0), .d (.int .i64 0), .d (.str ([] : Str)), .d (.int .i64 0), .d (.sl aE.ks (List.map aE.enc [])), .d (.str ([] : Str)), .d (.str ([] : Str)), .d (.bool false), .d (.int .i64 0), .d (.int .i64 0), .d (.int .i64 0), .d (.bool false), .d (.int .i64 0), .d (.str ([] : Str)), .d (.str ([] : Str)), .d (.int .i64 0), .d (.bool false), .d (.int .i64 0), .d (.int .i64 0), .d (.str ([] : Str)), .d (.int .i64 0), .d (.sl aE.ks (List.map aE.enc [])), .d (.bool false), .d (.int .i64 0), .d (.sl aD.ks (List.map aD.enc [])), .d (.sl [.str] (List.map bG [])), .d (.sl [.int .i64] (List.map (encI .i64) []))], .d (.int .i64 0)] [] [] fun r5 =>
 γ23 [aB.av r5.1, .d (.int .i64 10)] [] [] fun r6 =>
 γ36 [aB.av r6, .agg [.d (.int .i64 1), .d (.int .i64 0), .d (.bool false), .d (.str ([] : Str)), .d (.str ([] : Str)), .d (.int .i64 0), .d (.bool false), .d (.int .i64 0), .d (.int .i64 0), .d (.str ([] : Str)), .d (.int .i64 0), .d (.sl aE.ks (List.map aE.enc [])), .d (.str ([99] : Str)), .d (.str ([] : Str)), .d (.bool false), .d (.int .i64 0), .d (.int .i64 0), .d (.int .i64 1), .d (.bool false), .d (.int .i64 0), .d (.str ([] : Str)), .d (.str ([] : Str)), .d (.int .i64 0), .d (.bool false), .d (.int .i64 0), .d (.int .i64 0), .d (.str ([] : Str)), .d (.int .i64 0), .d (.sl aE.ks (List.map aE.enc [])), .d (.bool false), .d (.int .i64 0), .d (.sl aD.ks (List.map aD.enc [])), .d (.sl [.str] (List.map bG [])), .d (.sl [.int .i64] (List.map (encI .i64) []))], .d (.int .i64 4), .d (.int .i64 12)] [] [] fun r7 =>
 cond (!r1.2.1) (
 cond (r1.2.2 == 0) (
  cond (!r2.2) (
  cond ((List.length (List.map aF.enc r4.2) : Int) == 1) (
   cond (decide (0 ≤ 0) && decide (0 < (List.length (List.map aF.enc r4.2) : Int))) (
   cond ((aL (cellAt (elemAt (List.map aF.enc r4.2) (Int.toNat 0)) 1)) == 1) (
    cond (decide (0 ≤ 0) && decide (0 < (List.length (List.map aF.enc r4.2) : Int))) (
    cond ((aL (cellAt (elemAt (List.map aF.enc r4.2) (Int.toNat 0)) 10)) == 1) (
     cond ((List.length (List.map aF.enc r5.2.1) : Int) == 1) (
     cond (decide (0 ≤ 0) && decide (0 < (List.length (List.map aF.enc r5.2.1) : Int))) (
      cond ((aL (cellAt (elemAt (List.map aF.enc r5.2.1) (Int.toNat 0)) 1)) == 2) (
      cond (r5.2.2 == 0) (
       cond (r6.Until == 15) (
       γ24 [aB.av r6, .d (.int .i64 14)] [] [] fun r8 =>
       cond (!r8) (
        γ24 [aB.av r6, .d (.int .i64 15)] [] [] fun r9 =>
        cond r9 (
        cond r7.1.Online (
         cond (r7.1.Conn == 4) (
         cond ((List.length (List.map aF.enc r7.2) : Int) == 1) (
          cond (decide (0 ≤ 0) && decide (0 < (List.length (List.map aF.enc r7.2) : Int))) (
          cond (aY (cellAt (elemAt (List.map aF.enc r7.2) (Int.toNat 0)) 2)) (
           cond (decide (0 ≤ 0) && decide (0 < (List.length (List.map aF.enc r7.2) : Int))) (
           (some (.ret [.d (.bool ((aL (cellAt (elemAt (List.map aF.enc r7.2) (Int.toNat 0)) 1)) == 2))] [] []))) none) (
          (some (.ret [.d (.bool false)] [] [])))) none) (
         (some (.ret [.d (.bool false)] [] [])))) (
         (some (.ret [.d (.bool false)] [] [])))) (
        (some (.ret [.d (.bool false)] [] [])))) (
        (some (.ret [.d (.bool false)] [] [])))) (
       (some (.ret [.d (.bool false)] [] [])))) (
       (some (.ret [.d (.bool false)] [] [])))) (
      (some (.ret [.d (.bool false)] [] [])))) (
      (some (.ret [.d (.bool false)] [] [])))) none) (
     (some (.ret [.d (.bool false)] [] [])))) (
    (some (.ret [.d (.bool false)] [] [])))) none) (
   (some (.ret [.d (.bool false)] [] [])))) none) (
  (some (.ret [.d (.bool false)] [] [])))) (
  (some (.ret [.d (.bool false)] [] [])))) (
 (some (.ret [.d (.bool false)] [] [])))) (
 (some (.ret [.d (.bool false)] [] []))) := by kernel_rfl
end
abbrev X14 : aP := C14 gG (cT 31 mE) (cT 26 cY) (cT 15 jG) (cT 34 lQ) (cT 19 kG) (cT 23 jM) (cT 36 kA) (cT 24 jT)
theorem awn : X14 = aQ gG := by unfold X14 C14; rw [aK fun _ h => h, aK fun _ h => h, aK fun _ h => h, aK fun _ h => h, aK fun _ h => h, aK fun _ h => h, aK fun _ h => h, aK fun _ h => h]
theorem uU : Le (Option.map fN (m6)) (aZ SE 14 [] [] []) := by
 refine aS awn rfl ?_
 refine Le.trans ?_ (le_of_eq (T14 _ _ _ _ _ _ _ _ _ _ _ ).symm)
 unfold m6
 refine aM (good := good) eX ahf (by first | (simp only [EN]; exact aco ((aF.mk 1 0 false (aA.mk ([] : Str) ([] : Str) 0 false 0 0 ([] : Str) 0 ([] : List aE)) ([99] : Str) ([] : Str) false 0 5 1 (aN.mk false 0 (aA.mk ([] : Str) ([] : Str) 0 false 0 0 ([] : Str) 0 ([] : List aE))) false 0 ([] : List aD) ([] : List Str) ([] : List Int))) 3) | exact aco ((aF.mk 1 0 false (aA.mk ([] : Str) ([] : Str) 0 false 0 0 ([] : Str) 0 ([] : List aE)) ([99] : Str) ([] : Str) false 0 5 1 (aN.mk false 0 (aA.mk ([] : Str) ([] : Str) 0 false 0 0 ([] : Str) 0 ([] : List aE))) false 0 ([] : List aD) ([] : List Str) ([] : List Int))) 3) fun r0 _ => ?_
 refine aM (good := good) eX uH (vE _ _) fun r1 _ => ?_
 refine aM (good := good) eX yQ (by first | (simp only [EN]; exact qM r1.1 ((aA.mk ([116] : Str) ([] : Str) 1 false 0 0 ([] : Str) 1 ([] : List aE))) 9 2) | exact qM r1.1 ((aA.mk ([116] : Str) ([] : Str) 1 false 0 0 ([] : Str) 1 ([] : List aE))) 9 2) fun r2 _ => ?_
 refine aM (good := good) eX yQ (by first | (simp only [EN]; exact qM r2.1 ((aA.mk ([116] : Str) ([] : Str) 1 false 0 0 ([] : Str) 2 ([] : List aE))) 9 2) | exact qM r2.1 ((aA.mk ([116] : Str) ([] : Str) 1 false 0 0 ([] : Str) 2 ([] : List aE))) 9 2) fun r3 _ => ?_
 refine aM (good := good) eX agd (agE _ _) fun r4 _ => ?_
 refine aM (good := good) eX aeT (by first | (simp only [EN]; exact yM r4.1 ((aF.mk 4 1 false (aA.mk ([] : Str) ([] : Str) 0 false 0 0 ([] : Str) 0 ([] : List aE)) ([] : Str) ([] : Str) false 0 0 0 (aN.mk false 0 (aA.mk ([] : Str) ([] : Str) 0 false 0 0 ([] : Str) 0 ([] : List aE))) false 0 ([] : List aD) ([] : List Str) ([] : List Int))) 0) | exact yM r4.1 ((aF.mk 4 1 false (aA.mk ([] : Str) ([] : Str) 0 false 0 0 ([] : Str) 0 ([] : List aE)) ([] : Str) ([] : Str) false 0 0 0 (aN.mk false 0 (aA.mk ([] : Str) ([] : Str) 0 false 0 0 ([] : Str) 0 ([] : List aE))) false 0 ([] : List aD) ([] : List Str) ([] : List Int))) 0) fun r5 _ => ?_
 refine aM (good := good) eX adS (aed _ _) fun r6 _ => ?_
 refine aM (good := good) eX aek (by first | (simp only [EN]; exact yN r6 ((aF.mk 1 0 false (aA.mk ([] : Str) ([] : Str) 0 false 0 0 ([] : Str) 0 ([] : List aE)) ([99] : Str) ([] : Str) false 0 0 1 (aN.mk false 0 (aA.mk ([] : Str) ([] : Str) 0 false 0 0 ([] : Str) 0 ([] : List aE))) false 0 ([] : List aD) ([] : List Str) ([] : List Int))) 4 12) | exact yN r6 ((aF.mk 1 0 false (aA.mk ([] : Str) ([] : Str) 0 false 0 0 ([] : Str) 0 ([] : List aE)) ([99] : Str) ([] : Str) false 0 0 1 (aN.mk false 0 (aA.mk ([] : Str) ([] : Str) 0 false 0 0 ([] : Str) 0 ([] : List aE))) false 0 ([] : List aD) ([] : List Str) ([] : List Int))) 4 12) fun r7 _ => ?_
 refine lC ?_ ?_
 ·refine lC ?_ ?_
  ·refine lC ?_ ?_
   ·refine lD (by simp only [EN]) ?_ ?_
    ·refine lG (by simp only [EN]) ?_
     refine lD (by simp only [EN]) ?_ ?_
     ·refine lG (by simp only [EN]) ?_
      refine lD (by simp only [EN]) ?_ ?_
      ·refine lD (by simp only [EN]) ?_ ?_
       ·refine lG (by simp only [EN]) ?_
        refine lD (by simp only [EN]) ?_ ?_
        ·refine lC ?_ ?_
         ·refine lC ?_ ?_
          ·refine aM (good := good) eX vZ (xS _ _) fun r8 _ => ?_
           refine lC ?_ ?_
           ·refine aM (good := good) eX vZ (xS _ _) fun r9 _ => ?_
            refine lC ?_ ?_
            ·refine lC ?_ ?_
             ·refine lC ?_ ?_
              ·refine lD (by simp only [EN]) ?_ ?_
               ·refine lG (by simp only [EN]) ?_
                refine lD (by simp only [EN]) ?_ ?_
                ·refine lG (by simp only [EN]) ?_
                 exact aI (by first | rfl | simp only [EN, fN] <;> rfl)
                ·exact aI rfl
               ·exact aI rfl
              ·exact aI rfl
             ·exact aI rfl
            ·exact aI rfl
           ·exact aI rfl
          ·exact aI rfl
         ·exact aI rfl
        ·exact aI rfl
       ·exact aI rfl
      ·exact aI rfl
     ·exact aI rfl
    ·exact aI rfl
   ·exact aI rfl
  ·exact aI rfl
 ·exact aI rfl
def alo (C : aP) (Λ2 J : Lam) (a0 : (List (List D))) (a1 : Str) (a2 : Int) : Res := lab SE C Λ2 J 70 0 [1, 0, 1, 0] (bB [(0, .d (.sl aD.ks a0)), (1, .d (.str a1)), (5, .d (.int .i64 a2))] [] [] [] [])
section
variable (Γ : Fun)  (Λ2 J : Lam)
def C70 : aP := aQ Γ
theorem T70 (p0 : (List aD)) (p1 : Str) : bD SE (C70 Γ) Λ2 J 70 [.d (.sl aD.ks (List.map aD.enc p0)), .d (.str p1)] [] [] =
 alo (C70 Γ) Λ2 J (List.map aD.enc p0) p1 0 := by kernel_rfl
theorem ati (x0 : (List aD)) (x1 : Str) (x5 : Int) : cB SE (C70 Γ) Λ2 J 70 0 [1, 0, 1, 0] (bB [(0, .d (.sl aD.ks (List.map aD.enc x0))), (1, .d (.str x1)), (5, .d (.int .i64 x5))] [] [] [] []) =
 cond (decide (x5 < (List.length (List.map aD.enc x0) : Int))) (
 cond (decide (0 ≤ x5) && decide (x5 < (List.length (List.map aD.enc x0) : Int))) (
  cond ((aU (cellAt (elemAt (List.map aD.enc x0) (Int.toNat x5)) 0)) == x1) (
  (some (.ret [.d (.int .i64 x5)] [] []))) (
  alo (C70 Γ) Λ2 J (List.map aD.enc x0) x1 (IntKind.wrap .i64 (x5 + 1)))) none) (
 (some (.ret [.d (.int .i64 (-1))] [] []))) := by kernel_rfl
end
abbrev X70 : aP := C70 gG
theorem aqw : X70 = aQ gG := rfl
noncomputable abbrev auv (a0 : (List (List D))) (a1 : Str) (a2 : Int) : Res := alo X70 (bV SE gG (SE.hl 70) (SE.hr 70)) (J0 SE X70) a0 a1 a2
theorem acE : ∀ (fu : Nat) (x0 : (List aD)) (x1 : Str) (x5 : Int), Le (Option.map eP (eM fu x0 x1 x5)) (auv (List.map aD.enc x0) x1 x5) := by
 intro fu
 induction fu with
 | zero => intros; exact le_none
 | succ fu ih =>
  intro x0 x1 x5
  refine Le.trans ?_ (le_of_eq ((bC aqw).trans (ati _ _ _  x0 x1 x5)).symm)
  unfold eM
  refine lD (by simp only [EN]) ?_ ?_
  ·refine lG (by simp only [EN]) ?_
   refine lD (by simp only [EN]) ?_ ?_
   ·exact aI rfl
   ·exact ih x0 x1 (IntKind.wrap .i64 (x5 + 1))
  ·exact aI rfl
theorem yS (p0 : (List aD)) (p1 : Str) : Le (Option.map eP (nR p0 p1)) (aZ SE 70 [.d (.sl aD.ks (List.map aD.enc p0)), .d (.str p1)] [] []) := by
 refine aS aqw rfl ?_
 refine Le.trans ?_ (le_of_eq (T70 _ _ _  p0 p1).symm)
 unfold nR
 exact acE fuel p0 p1 0
def ajd (C : aP) (Λ2 J : Lam) (a0 : (List (List D))) (a1 : Str) (a2 : Int) (a3 : (List (List D))) : Res := lab SE C Λ2 J 71 0 [1, 1, 0, 1, 0] (bB [(0, .d (.sl aD.ks a0)), (1, .d (.str a1)), (5, .row 3005), (6, .d (.int .i64 a2))] [] [] [] [(3005, ⟨aD.ks, 60, 32, a3⟩)])
section
variable (Γ : Fun)  (Λ2 J : Lam)
def C71 : aP := aQ Γ
theorem T71 (p0 : (List aD)) (p1 : Str) : bD SE (C71 Γ) Λ2 J 71 [.d (.sl aD.ks (List.map aD.enc p0)), .d (.str p1)] [] [] =
 ajd (C71 Γ) Λ2 J (List.map aD.enc p0) p1 0 (List.map aD.enc []) := by kernel_rfl
theorem auy (x0 : (List aD)) (x1 : Str) (x6 : Int) (w3005 : (List aD)) : cB SE (C71 Γ) Λ2 J 71 0 [1, 1, 0, 1, 0] (bB [(0, .d (.sl aD.ks (List.map aD.enc x0))), (1, .d (.str x1)), (5, .row 3005), (6, .d (.int .i64 x6))] [] [] [] [(3005, ⟨aD.ks, 60, 32, (List.map aD.enc w3005)⟩)]) =
 cond (decide (x6 < (List.length (List.map aD.enc x0) : Int))) (
 cond (decide (0 ≤ x6) && decide (x6 < (List.length (List.map aD.enc x0) : Int))) (
  cond (!((aU (cellAt (elemAt (List.map aD.enc x0) (Int.toNat x6)) 0)) == x1)) (
  cond (decide (0 ≤ x6) && decide (x6 < (List.length (List.map aD.enc x0) : Int))) (
   cond (decide ((List.length (List.map aD.enc w3005) + List.length [[D.str (aU (cellAt (elemAt (List.map aD.enc x0) (Int.toNat x6)) 0)), D.int .i64 (aL (cellAt (elemAt (List.map aD.enc x0) (Int.toNat x6)) 1)), D.bool (aY (cellAt (elemAt (List.map aD.enc x0) (Int.toNat x6)) 2))]]) * 32 ≤ 140737488355328)) (
   ajd (C71 Γ) Λ2 J (List.map aD.enc x0) x1 (IntKind.wrap .i64 (x6 + 1)) (((List.map aD.enc w3005) ++ [[D.str (aU (cellAt (elemAt (List.map aD.enc x0) (Int.toNat x6)) 0)), D.int .i64 (aL (cellAt (elemAt (List.map aD.enc x0) (Int.toNat x6)) 1)), D.bool (aY (cellAt (elemAt (List.map aD.enc x0) (Int.toNat x6)) 2))]]))) none) none) (
  ajd (C71 Γ) Λ2 J (List.map aD.enc x0) x1 (IntKind.wrap .i64 (x6 + 1)) (List.map aD.enc w3005))) none) (
 (some (.ret [.row 0] [] [⟨aD.ks, 60, 32, (List.map aD.enc w3005)⟩]))) := by kernel_rfl
end
abbrev X71 : aP := C71 gG
theorem arG : X71 = aQ gG := rfl
noncomputable abbrev atA (a0 : (List (List D))) (a1 : Str) (a2 : Int) (a3 : (List (List D))) : Res := ajd X71 (bV SE gG (SE.hl 71) (SE.hr 71)) (J0 SE X71) a0 a1 a2 a3
theorem rI : ∀ (fu : Nat) (x0 : (List aD)) (x1 : Str) (x6 : Int) (w3005 : (List aD)), Le (Option.map c7 (dP fu x0 x1 x6 w3005)) (atA (List.map aD.enc x0) x1 x6 (List.map aD.enc w3005)) := by
 intro fu
 induction fu with
 | zero => intros; exact le_none
 | succ fu ih =>
  intro x0 x1 x6 w3005
  refine Le.trans ?_ (le_of_eq ((bC arG).trans (auy _ _ _  x0 x1 x6 w3005)).symm)
  unfold dP
  refine lD (by simp only [EN]) ?_ ?_
  ·refine lG (by simp only [EN]) ?_
   refine lD (by simp only [EN]) ?_ ?_
   ·refine lG (by simp only [EN]) ?_
    refine lG (by simp only [EN]) ?_
    first | (simp only [EN]; exact ih x0 x1 (IntKind.wrap .i64 (x6 + 1)) (w3005 ++ [(List.getD x0 (Int.toNat x6) default)])) | exact ih x0 x1 (IntKind.wrap .i64 (x6 + 1)) (w3005 ++ [(List.getD x0 (Int.toNat x6) default)])
   ·exact ih x0 x1 (IntKind.wrap .i64 (x6 + 1)) w3005
  ·exact aI rfl
theorem tD (p0 : (List aD)) (p1 : Str) : Le (Option.map c7 (jP p0 p1)) (aZ SE 71 [.d (.sl aD.ks (List.map aD.enc p0)), .d (.str p1)] [] []) := by
 refine aS arG rfl ?_
 refine Le.trans ?_ (le_of_eq (T71 _ _ _  p0 p1).symm)
 unfold jP
 first | (simp only [EN]; exact rI fuel p0 p1 0 ([] : List aD)) | exact rI fuel p0 p1 0 ([] : List aD)
def ani (C : aP) (Λ2 J : Lam) (a0 : Bool) (a1 : Int) (a2 : Int) (a3 : Str) (a4 : Str) (a5 : Bool) (a6 : (List D)) (a7 : (List D)) (a8 : (List D)) (a9 : (List (List D))) (a10 : (List (List D))) : Res := lab SE C Λ2 J 27 0 [1, 1, 1, 1, 1, 1, 1, 1, 0, 0, 0, 1, 0, 0] (bB [(2, .ptr 1000000000 0), (3, .ptr 1000000001 0), (4, .ptr 1000000002 0), (8, .d (.bool a0)), (9, .row 3009), (10, .row 3010), (11, .d (.int .i64 a1)), (43, .row 3009), (44, .d (.int .i64 a2)), (47, .d (.str a3)), (48, .ptr 1000000001 0), (49, .d (.str a4)), (50, .d (.bool a5))] [⟨38, (List.map AV.d a6)⟩, ⟨60, (List.map AV.d a7)⟩, ⟨38, (List.map AV.d a8)⟩] [] [] [(3009, ⟨aD.ks, 60, 32, a9⟩), (3010, ⟨aD.ks, 60, 32, a10⟩), (3009, ⟨aD.ks, 60, 32, a9⟩)])
def ajW (C : aP) (Λ2 J : Lam) (a0 : Bool) (a1 : Int) (a2 : (List D)) (a3 : (List D)) (a4 : (List D)) (a5 : (List (List D))) (a6 : (List (List D))) : Res := lab SE C Λ2 J 27 0 [1, 1, 1, 1, 1, 1, 1, 1, 1, 0] (bB [(2, .ptr 1000000000 0), (3, .ptr 1000000001 0), (4, .ptr 1000000002 0), (8, .d (.bool a0)), (9, .row 3009), (10, .row 3010), (11, .d (.int .i64 a1))] [⟨38, (List.map AV.d a2)⟩, ⟨60, (List.map AV.d a3)⟩, ⟨38, (List.map AV.d a4)⟩] [] [] [(3009, ⟨aD.ks, 60, 32, a5⟩), (3010, ⟨aD.ks, 60, 32, a6⟩)])
def aj6 (C : aP) (Λ2 J : Lam) (a0 : Bool) (a1 : Int) (a2 : (List D)) (a3 : (List D)) (a4 : (List D)) (a5 : (List (List D))) (a6 : (List (List D))) : Res := lab SE C Λ2 J 27 0 [1, 1, 1, 1, 1, 1, 1, 1, 0, 0] (bB [(2, .ptr 1000000000 0), (3, .ptr 1000000001 0), (4, .ptr 1000000002 0), (8, .d (.bool a0)), (9, .row 3009), (10, .row 3010), (11, .d (.int .i64 a1))] [⟨38, (List.map AV.d a2)⟩, ⟨60, (List.map AV.d a3)⟩, ⟨38, (List.map AV.d a4)⟩] [] [] [(3009, ⟨aD.ks, 60, 32, a5⟩), (3010, ⟨aD.ks, 60, 32, a6⟩)])
def ams (C : aP) (Λ2 J : Lam) (a0 : Bool) (a1 : (List D)) (a2 : (List D)) (a3 : (List D)) : Res := lab SE C Λ2 J 27 0 [1, 1, 1, 1, 1, 0] (bB [(2, .ptr 1000000000 0), (3, .ptr 1000000001 0), (4, .ptr 1000000002 0), (8, .d (.bool a0))] [⟨38, (List.map AV.d a1)⟩, ⟨60, (List.map AV.d a2)⟩, ⟨38, (List.map AV.d a3)⟩] [] [] [])
section
variable (Γ : Fun) (γ69 : Gm (Int)) (γ70 : Gm (Int)) (γ71 : Gm ((List aD))) (Λ2 J : Lam)
def C27 : aP := bA (bA (bA (aQ Γ) 69 fJ γ69) 70 eP γ70) 71 c7 γ71
theorem T27 (p0 : aB) (p1 : aD) : bD SE (C27 Γ γ69 γ70 γ71) Λ2 J 27 [aB.av p0, aD.av p1] [] [] =
 γ69 [aD.av p1] [] [] fun r0 =>
 cond (r0 != 0) (
 (some (.ret [.agg [.d (.str ([] : Str)), .d (.str ([] : Str)), .d (.bool false), .d (.int .i64 0), .d (.int .i64 0), .d (.int .i64 0), .d (.int .i64 0), .row 0, .d (.sl aA.ks (List.map aA.enc [])), .d (.int .i64 0), .d (.sl aC.ks (List.map aC.enc [])), .d (.sl [.int .i64] (List.map (encI .i64) [])), .d (.int .i64 0), .d (.sl [.int .i64] (List.map (encI .i64) [])), .d (.bool false), .d (.int .i64 0), .d (.str ([] : Str)), .d (.str ([] : Str)), .d (.int .i64 0), .d (.bool false), .d (.int .i64 0), .d (.int .i64 0), .d (.str ([] : Str)), .d (.int .i64 0), .d (.sl aE.ks (List.map aE.enc []))], .d (.bool false), .d (.int .i64 r0)] [] [⟨aD.ks, 60, 32, (List.map aD.enc [])⟩]))) (
 γ70 [.d (.sl aD.ks (List.map aD.enc p0.Subs)), .d (.str p1.Filter)] [] [] fun r1 =>
 cond (!(decide (r1 ≥ 0))) (
 cond (decide ((List.length (List.map aD.enc p0.Subs) : Int) ≥ 32)) (
  (some (.ret [.agg [.d (.str ([] : Str)), .d (.str ([] : Str)), .d (.bool false), .d (.int .i64 0), .d (.int .i64 0), .d (.int .i64 0), .d (.int .i64 0), .row 0, .d (.sl aA.ks (List.map aA.enc [])), .d (.int .i64 0), .d (.sl aC.ks (List.map aC.enc [])), .d (.sl [.int .i64] (List.map (encI .i64) [])), .d (.int .i64 0), .d (.sl [.int .i64] (List.map (encI .i64) [])), .d (.bool false), .d (.int .i64 0), .d (.str ([] : Str)), .d (.str ([] : Str)), .d (.int .i64 0), .d (.bool false), .d (.int .i64 0), .d (.int .i64 0), .d (.str ([] : Str)), .d (.int .i64 0), .d (.sl aE.ks (List.map aE.enc []))], .d (.bool false), .d (.int .i64 6)] [] [⟨aD.ks, 60, 32, (List.map aD.enc [])⟩]))) (
 ams (C27 Γ γ69 γ70 γ71) Λ2 J (decide (r1 ≥ 0)) (aB.enc p0) (aD.enc p1) [D.str ([] : Str), D.str ([] : Str), D.bool false, D.int .i64 0, D.int .i64 0, D.int .i64 0, D.int .i64 0, D.sl aD.ks (List.map aD.enc []), D.sl aA.ks (List.map aA.enc []), D.int .i64 0, D.sl aC.ks (List.map aC.enc []), D.sl [.int .i64] (List.map (encI .i64) []), D.int .i64 0, D.sl [.int .i64] (List.map (encI .i64) []), D.bool false, D.int .i64 0, D.str ([] : Str), D.str ([] : Str), D.int .i64 0, D.bool false, D.int .i64 0, D.int .i64 0, D.str ([] : Str), D.int .i64 0, D.sl aE.ks (List.map aE.enc [])])) (
 ams (C27 Γ γ69 γ70 γ71) Λ2 J (decide (r1 ≥ 0)) (aB.enc p0) (aD.enc p1) [D.str ([] : Str), D.str ([] : Str), D.bool false, D.int .i64 0, D.int .i64 0, D.int .i64 0, D.int .i64 0, D.sl aD.ks (List.map aD.enc []), D.sl aA.ks (List.map aA.enc []), D.int .i64 0, D.sl aC.ks (List.map aC.enc []), D.sl [.int .i64] (List.map (encI .i64) []), D.int .i64 0, D.sl [.int .i64] (List.map (encI .i64) []), D.bool false, D.int .i64 0, D.str ([] : Str), D.str ([] : Str), D.int .i64 0, D.bool false, D.int .i64 0, D.int .i64 0, D.str ([] : Str), D.int .i64 0, D.sl aE.ks (List.map aE.enc [])])) := by kernel_rfl
theorem asr (x8 : Bool) (x11 : Int) (x44 : Int) (x47 : Str) (x49 : Str) (x50 : Bool) (b0 : aB) (b1 : aD) (b2 : aB) (w3009 : (List aD)) (w3010 : (List aD)) : cB SE (C27 Γ γ69 γ70 γ71) Λ2 J 27 0 [1, 1, 1, 1, 1, 1, 1, 1, 0, 0, 0, 1, 0, 0] (bB [(2, .ptr 1000000000 0), (3, .ptr 1000000001 0), (4, .ptr 1000000002 0), (8, .d (.bool x8)), (9, .row 3009), (10, .row 3010), (11, .d (.int .i64 x11)), (43, .row 3009), (44, .d (.int .i64 x44)), (47, .d (.str x47)), (48, .ptr 1000000001 0), (49, .d (.str x49)), (50, .d (.bool x50))] [⟨38, (List.map AV.d (aB.enc b0))⟩, ⟨60, (List.map AV.d (aD.enc b1))⟩, ⟨38, (List.map AV.d (aB.enc b2))⟩] [] [] [(3009, ⟨aD.ks, 60, 32, (List.map aD.enc w3009)⟩), (3010, ⟨aD.ks, 60, 32, (List.map aD.enc w3010)⟩), (3009, ⟨aD.ks, 60, 32, (List.map aD.enc w3009)⟩)]) =
 cond (decide (0 ≤ x11) && decide (x11 < (List.length (List.map aD.enc w3009) : Int))) (
 cond (decide ((List.length (List.map aD.enc w3010) + List.length [[D.str (aU (cellAt (elemAt (List.map aD.enc w3009) (Int.toNat x11)) 0)), D.int .i64 (aL (cellAt (elemAt (List.map aD.enc w3009) (Int.toNat x11)) 1)), D.bool (aY (cellAt (elemAt (List.map aD.enc w3009) (Int.toNat x11)) 2))]]) * 32 ≤ 140737488355328)) (
  aj6 (C27 Γ γ69 γ70 γ71) Λ2 J x8 (IntKind.wrap .i64 (x11 + 1)) (aB.enc b0) (aD.enc b1) (aB.enc b2) (List.map aD.enc w3009) (((List.map aD.enc w3010) ++ [[D.str (aU (cellAt (elemAt (List.map aD.enc w3009) (Int.toNat x11)) 0)), D.int .i64 (aL (cellAt (elemAt (List.map aD.enc w3009) (Int.toNat x11)) 1)), D.bool (aY (cellAt (elemAt (List.map aD.enc w3009) (Int.toNat x11)) 2))]]))) none) none := by kernel_rfl
theorem aqs (x8 : Bool) (x11 : Int) (b0 : aB) (b1 : aD) (b2 : aB) (w3009 : (List aD)) (w3010 : (List aD)) : cB SE (C27 Γ γ69 γ70 γ71) Λ2 J 27 0 [1, 1, 1, 1, 1, 1, 1, 1, 1, 0] (bB [(2, .ptr 1000000000 0), (3, .ptr 1000000001 0), (4, .ptr 1000000002 0), (8, .d (.bool x8)), (9, .row 3009), (10, .row 3010), (11, .d (.int .i64 x11))] [⟨38, (List.map AV.d (aB.enc b0))⟩, ⟨60, (List.map AV.d (aD.enc b1))⟩, ⟨38, (List.map AV.d (aB.enc b2))⟩] [] [] [(3009, ⟨aD.ks, 60, 32, (List.map aD.enc w3009)⟩), (3010, ⟨aD.ks, 60, 32, (List.map aD.enc w3010)⟩)]) =
 cond (decide ((List.length (List.map aD.enc w3010) + List.length (List.map aD.enc [b1])) * 32 ≤ 140737488355328)) (
 cond (decide (0 ≤ x11) && decide (x11 ≤ ((List.length (List.map aD.enc w3009)) : Int))) (
  cond (decide ((List.length ((List.map aD.enc w3010) ++ (List.map aD.enc [b1])) + List.length (List.take ((List.length (List.map aD.enc w3009)) - (Int.toNat x11)) (List.drop (Int.toNat x11) (List.map aD.enc w3009)))) * 32 ≤ 140737488355328)) (
  (some (.ret [.agg [.d (.str b0.Client), .d (.str b0.User), .d (.bool b0.Online), .d (.int .i64 b0.Conn), .d (.int .i64 b0.Expiry), .d (.int .i64 b0.Until), .d (.int .i64 b0.Dropped), .row 0, .d (.sl aA.ks (List.map aA.enc b0.Queue)), .d (.int .i64 b0.Out.Limit), .d (.sl aC.ks (List.map aC.enc b0.Out.Items)), .d (.sl [.int .i64] (List.map (encI .i64) b0.Out.Pool.Used)), .d (.int .i64 b0.Out.Pool.Last), .d (.sl [.int .i64] (List.map (encI .i64) b0.In.IDs)), .d (.bool b0.Will.Set), .d (.int .i64 b0.Will.Delay), .d (.str b0.Will.Message.Topic), .d (.str b0.Will.Message.Payload), .d (.int .i64 b0.Will.Message.Level), .d (.bool b0.Will.Message.Retain), .d (.int .i64 b0.Will.Message.Priority), .d (.int .i64 b0.Will.Message.Expires), .d (.str b0.Will.Message.From), .d (.int .i64 b0.Will.Message.Seq), .d (.sl aE.ks (List.map aE.enc b0.Will.Message.Props))], .d (.bool x8), .d (.int .i64 0)] [] [⟨aD.ks, 60, 32, (((List.map aD.enc w3010) ++ (List.map aD.enc [b1])) ++ (List.take ((List.length (List.map aD.enc w3009)) - (Int.toNat x11)) (List.drop (Int.toNat x11) (List.map aD.enc w3009))))⟩]))) none) none) none := by kernel_rfl
theorem aqo (x8 : Bool) (x11 : Int) (b0 : aB) (b1 : aD) (b2 : aB) (w3009 : (List aD)) (w3010 : (List aD)) : cB SE (C27 Γ γ69 γ70 γ71) Λ2 J 27 0 [1, 1, 1, 1, 1, 1, 1, 1, 0, 0] (bB [(2, .ptr 1000000000 0), (3, .ptr 1000000001 0), (4, .ptr 1000000002 0), (8, .d (.bool x8)), (9, .row 3009), (10, .row 3010), (11, .d (.int .i64 x11))] [⟨38, (List.map AV.d (aB.enc b0))⟩, ⟨60, (List.map AV.d (aD.enc b1))⟩, ⟨38, (List.map AV.d (aB.enc b2))⟩] [] [] [(3009, ⟨aD.ks, 60, 32, (List.map aD.enc w3009)⟩), (3010, ⟨aD.ks, 60, 32, (List.map aD.enc w3010)⟩)]) =
 cond (decide (x11 < (List.length (List.map aD.enc w3009) : Int))) (
 cond (decide (0 ≤ x11) && decide (x11 < (List.length (List.map aD.enc w3009) : Int))) (
  cond (Op.bytesLess (aU (cellAt (elemAt (List.map aD.enc w3009) (Int.toNat x11)) 0)) b1.Filter) (
  ani (C27 Γ γ69 γ70 γ71) Λ2 J x8 x11 x11 ((aU (cellAt (elemAt (List.map aD.enc w3009) (Int.toNat x11)) 0))) b1.Filter ((Op.bytesLess (aU (cellAt (elemAt (List.map aD.enc w3009) (Int.toNat x11)) 0)) b1.Filter)) (aB.enc b0) (aD.enc b1) (aB.enc b2) (List.map aD.enc w3009) (List.map aD.enc w3010)) (
  ajW (C27 Γ γ69 γ70 γ71) Λ2 J x8 x11 (aB.enc b0) (aD.enc b1) (aB.enc b2) (List.map aD.enc w3009) (List.map aD.enc w3010))) none) (
 ajW (C27 Γ γ69 γ70 γ71) Λ2 J x8 x11 (aB.enc b0) (aD.enc b1) (aB.enc b2) (List.map aD.enc w3009) (List.map aD.enc w3010)) := by kernel_rfl
theorem au2 (x8 : Bool) (b0 : aB) (b1 : aD) (b2 : aB) : cB SE (C27 Γ γ69 γ70 γ71) Λ2 J 27 0 [1, 1, 1, 1, 1, 0] (bB [(2, .ptr 1000000000 0), (3, .ptr 1000000001 0), (4, .ptr 1000000002 0), (8, .d (.bool x8))] [⟨38, (List.map AV.d (aB.enc b0))⟩, ⟨60, (List.map AV.d (aD.enc b1))⟩, ⟨38, (List.map AV.d (aB.enc b2))⟩] [] [] []) =
 γ71 [.d (.sl aD.ks (List.map aD.enc b0.Subs)), .d (.str b1.Filter)] [] [] fun r2 =>
 aj6 (C27 Γ γ69 γ70 γ71) Λ2 J x8 0 (aB.enc b0) (aD.enc b1) (aB.enc b2) (List.map aD.enc r2) (List.map aD.enc []) := by kernel_rfl
end
abbrev X27 : aP := C27 gG (cT 69 fJ) (cT 70 eP) (cT 71 c7)
theorem aj1 : X27 = aQ gG := by unfold X27 C27; rw [aK fun _ h => h, aK fun _ h => h, aK fun _ h => h]
noncomputable abbrev arq (a0 : Bool) (a1 : Int) (a2 : Int) (a3 : Str) (a4 : Str) (a5 : Bool) (a6 : (List D)) (a7 : (List D)) (a8 : (List D)) (a9 : (List (List D))) (a10 : (List (List D))) : Res := ani X27 (bV SE gG (SE.hl 27) (SE.hr 27)) (J0 SE X27) a0 a1 a2 a3 a4 a5 a6 a7 a8 a9 a10
noncomputable abbrev ast (a0 : Bool) (a1 : Int) (a2 : (List D)) (a3 : (List D)) (a4 : (List D)) (a5 : (List (List D))) (a6 : (List (List D))) : Res := ajW X27 (bV SE gG (SE.hl 27) (SE.hr 27)) (J0 SE X27) a0 a1 a2 a3 a4 a5 a6
noncomputable abbrev amX (a0 : Bool) (a1 : Int) (a2 : (List D)) (a3 : (List D)) (a4 : (List D)) (a5 : (List (List D))) (a6 : (List (List D))) : Res := aj6 X27 (bV SE gG (SE.hl 27) (SE.hr 27)) (J0 SE X27) a0 a1 a2 a3 a4 a5 a6
noncomputable abbrev ats (a0 : Bool) (a1 : (List D)) (a2 : (List D)) (a3 : (List D)) : Res := ams X27 (bV SE gG (SE.hl 27) (SE.hr 27)) (J0 SE X27) a0 a1 a2 a3
theorem pX (k10 : Bool → Int → aB → aD → aB → (List aD) → (List aD) → Option (aB × Bool × Int)) (hk10 : ∀ (x8 : Bool) (x11 : Int) (b0 : aB) (b1 : aD) (b2 : aB) (w3009 : (List aD)) (w3010 : (List aD)), Le (Option.map bT (k10 x8 x11 b0 b1 b2 w3009 w3010)) (amX x8 x11 (aB.enc b0) (aD.enc b1) (aB.enc b2) (List.map aD.enc w3009) (List.map aD.enc w3010))) (x8 : Bool) (x11 : Int) (x44 : Int) (x47 : Str) (x49 : Str) (x50 : Bool) (b0 : aB) (b1 : aD) (b2 : aB) (w3009 : (List aD)) (w3010 : (List aD)) : Le (Option.map bT (kK k10 x8 x11 x44 x47 x49 x50 b0 b1 b2 w3009 w3010)) (arq x8 x11 x44 x47 x49 x50 (aB.enc b0) (aD.enc b1) (aB.enc b2) (List.map aD.enc w3009) (List.map aD.enc w3010)) := by
 refine Le.trans ?_ (le_of_eq ((bC aj1).trans (asr _ _ _ _ _ _  x8 x11 x44 x47 x49 x50 b0 b1 b2 w3009 w3010)).symm)
 unfold kK
 refine lG (by simp only [EN]) ?_
 refine lG (by simp only [EN]) ?_
 first | (simp only [EN]; exact hk10 x8 (IntKind.wrap .i64 (x11 + 1)) b0 b1 b2 w3009 (w3010 ++ [(List.getD w3009 (Int.toNat x11) default)])) | exact hk10 x8 (IntKind.wrap .i64 (x11 + 1)) b0 b1 b2 w3009 (w3010 ++ [(List.getD w3009 (Int.toNat x11) default)])
theorem pN (x8 : Bool) (x11 : Int) (b0 : aB) (b1 : aD) (b2 : aB) (w3009 : (List aD)) (w3010 : (List aD)) : Le (Option.map bT (fA x8 x11 b0 b1 b2 w3009 w3010)) (ast x8 x11 (aB.enc b0) (aD.enc b1) (aB.enc b2) (List.map aD.enc w3009) (List.map aD.enc w3010)) := by
 refine Le.trans ?_ (le_of_eq ((bC aj1).trans (aqs _ _ _ _ _ _  x8 x11 b0 b1 b2 w3009 w3010)).symm)
 unfold fA
 refine lG (by simp only [EN]) ?_
 refine lG (by simp only [EN]) ?_
 refine lG (by simp only [EN]) ?_
 exact aI (by first | rfl | simp only [EN, bT] <;> rfl)
theorem pO : ∀ (fu : Nat) (x8 : Bool) (x11 : Int) (b0 : aB) (b1 : aD) (b2 : aB) (w3009 : (List aD)) (w3010 : (List aD)), Le (Option.map bT (dB fu x8 x11 b0 b1 b2 w3009 w3010)) (amX x8 x11 (aB.enc b0) (aD.enc b1) (aB.enc b2) (List.map aD.enc w3009) (List.map aD.enc w3010)) := by
 intro fu
 induction fu with
 | zero => intros; exact le_none
 | succ fu ih =>
  intro x8 x11 b0 b1 b2 w3009 w3010
  refine Le.trans ?_ (le_of_eq ((bC aj1).trans (aqo _ _ _ _ _ _  x8 x11 b0 b1 b2 w3009 w3010)).symm)
  unfold dB
  refine lD (by simp only [EN]) ?_ ?_
  ·refine lG (by simp only [EN]) ?_
   refine lD (by simp only [EN]) ?_ ?_
   ·first | (simp only [EN]; exact pX _ (ih) x8 x11 x11 ((List.getD w3009 (Int.toNat x11) default).Filter) b1.Filter (Op.bytesLess (List.getD w3009 (Int.toNat x11) default).Filter b1.Filter) b0 b1 b2 w3009 w3010) | exact pX _ (ih) x8 x11 x11 ((List.getD w3009 (Int.toNat x11) default).Filter) b1.Filter (Op.bytesLess (List.getD w3009 (Int.toNat x11) default).Filter b1.Filter) b0 b1 b2 w3009 w3010
   ·exact pN x8 x11 b0 b1 b2 w3009 w3010
  ·exact pN x8 x11 b0 b1 b2 w3009 w3010
theorem jJ (x8 : Bool) (b0 : aB) (b1 : aD) (b2 : aB) : Le (Option.map bT (iI x8 b0 b1 b2)) (ats x8 (aB.enc b0) (aD.enc b1) (aB.enc b2)) := by
 refine Le.trans ?_ (le_of_eq ((bC aj1).trans (au2 _ _ _ _ _ _  x8 b0 b1 b2)).symm)
 unfold iI
 refine aM (good := good) eX sY (tD _ _) fun r2 _ => ?_
 first | (simp only [EN]; exact pO fuel x8 0 b0 b1 b2 r2 ([] : List aD)) | exact pO fuel x8 0 b0 b1 b2 r2 ([] : List aD)
theorem aad (p0 : aB) (p1 : aD) : Le (Option.map bT (kJ p0 p1)) (aZ SE 27 [aB.av p0, aD.av p1] [] []) := by
 refine aS aj1 rfl ?_
 refine Le.trans ?_ (le_of_eq (T27 _ _ _ _ _ _  p0 p1).symm)
 unfold kJ
 refine aM (good := good) eX vW (rW _) fun r0 _ => ?_
 refine lC ?_ ?_
 ·exact aI rfl
 ·refine aM (good := good) eX xL (yS _ _) fun r1 _ => ?_
  refine lC ?_ ?_
  ·refine lD (by simp only [EN]) ?_ ?_
   ·exact aI rfl
   ·first | (simp only [EN]; exact jJ (decide (r1 ≥ 0)) p0 p1 ((aB.mk ([] : Str) ([] : Str) false 0 0 0 0 ([] : List aD) ([] : List aA) (aG.mk 0 ([] : List aC) (aJ.mk ([] : List Int) 0)) (aR.mk ([] : List Int)) (aN.mk false 0 (aA.mk ([] : Str) ([] : Str) 0 false 0 0 ([] : Str) 0 ([] : List aE)))))) | exact jJ (decide (r1 ≥ 0)) p0 p1 ((aB.mk ([] : Str) ([] : Str) false 0 0 0 0 ([] : List aD) ([] : List aA) (aG.mk 0 ([] : List aC) (aJ.mk ([] : List Int) 0)) (aR.mk ([] : List Int)) (aN.mk false 0 (aA.mk ([] : Str) ([] : Str) 0 false 0 0 ([] : Str) 0 ([] : List aE)))))
  ·first | (simp only [EN]; exact jJ (decide (r1 ≥ 0)) p0 p1 ((aB.mk ([] : Str) ([] : Str) false 0 0 0 0 ([] : List aD) ([] : List aA) (aG.mk 0 ([] : List aC) (aJ.mk ([] : List Int) 0)) (aR.mk ([] : List Int)) (aN.mk false 0 (aA.mk ([] : Str) ([] : Str) 0 false 0 0 ([] : Str) 0 ([] : List aE)))))) | exact jJ (decide (r1 ≥ 0)) p0 p1 ((aB.mk ([] : Str) ([] : Str) false 0 0 0 0 ([] : List aD) ([] : List aA) (aG.mk 0 ([] : List aC) (aJ.mk ([] : List Int) 0)) (aR.mk ([] : List Int)) (aN.mk false 0 (aA.mk ([] : Str) ([] : Str) 0 false 0 0 ([] : Str) 0 ([] : List aE)))))
theorem sR (p0 : (List aD)) (p1 : Int) (p2 : Int) : Le (Option.map cL (jY p0 p1 p2)) (aZ SE 72 [.row 2000000000, .d (.int .i64 p1), .d (.int .i64 p2)] [] [⟨aD.ks, 60, 32, (List.map aD.enc p0)⟩]) := aeL (f := 72) (enc := aD.enc) rfl rfl p0 p1 p2
section
variable (Γ : Fun) (γ67 : Gm (Int × Bool)) (γ50 : Gm (aB)) (γ72 : Gm ((List aD))) (Λ2 J : Lam)
def C28 : aP := bA (bA (bA (aQ Γ) 67 iM γ67) 50 bM γ50) 72 cL γ72
theorem T28 (p0 : aB) (p1 : Str) : bD SE (C28 Γ γ67 γ50 γ72) Λ2 J 28 [aB.av p0, .d (.str p1)] [] [] =
 γ67 [.d (.sl aD.ks (List.map aD.enc p0.Subs)), .d (.str p1)] [] [] fun r0 =>
 cond (!r0.2) (
 (some (.ret [.agg [.d (.str ([] : Str)), .d (.str ([] : Str)), .d (.bool false), .d (.int .i64 0), .d (.int .i64 0), .d (.int .i64 0), .d (.int .i64 0), .row 0, .row 1, .d (.int .i64 0), .row 2, .row 3, .d (.int .i64 0), .row 4, .d (.bool false), .d (.int .i64 0), .d (.str ([] : Str)), .d (.str ([] : Str)), .d (.int .i64 0), .d (.bool false), .d (.int .i64 0), .d (.int .i64 0), .d (.str ([] : Str)), .d (.int .i64 0), .row 5], .d (.int .i64 8)] [] [⟨aD.ks, 60, 32, (List.map aD.enc [])⟩, ⟨aA.ks, 34, 112, (List.map aA.enc [])⟩, ⟨aC.ks, 122, 128, (List.map aC.enc [])⟩, ⟨[.int .i64], 3, 8, (List.map (encI .i64) [])⟩, ⟨[.int .i64], 3, 8, (List.map (encI .i64) [])⟩, ⟨aE.ks, 130, 32, (List.map aE.enc [])⟩]))) (
 γ50 [aB.av p0] [] [] fun r1 =>
 γ72 [.row 2000000000, .d (.int .i64 r0.1), .d (.int .i64 (IntKind.wrap .i64 (r0.1 + 1)))] [] [⟨aD.ks, 60, 32, (List.map aD.enc r1.Subs)⟩] fun r2 =>
 (some (.ret [.agg [.d (.str r1.Client), .d (.str r1.User), .d (.bool r1.Online), .d (.int .i64 r1.Conn), .d (.int .i64 r1.Expiry), .d (.int .i64 r1.Until), .d (.int .i64 r1.Dropped), .row 0, .row 1, .d (.int .i64 r1.Out.Limit), .row 2, .row 3, .d (.int .i64 r1.Out.Pool.Last), .row 4, .d (.bool r1.Will.Set), .d (.int .i64 r1.Will.Delay), .d (.str r1.Will.Message.Topic), .d (.str r1.Will.Message.Payload), .d (.int .i64 r1.Will.Message.Level), .d (.bool r1.Will.Message.Retain), .d (.int .i64 r1.Will.Message.Priority), .d (.int .i64 r1.Will.Message.Expires), .d (.str r1.Will.Message.From), .d (.int .i64 r1.Will.Message.Seq), .row 5], .d (.int .i64 0)] [] [⟨aD.ks, 60, 32, (List.map aD.enc r2)⟩, ⟨aA.ks, 34, 112, (List.map aA.enc r1.Queue)⟩, ⟨aC.ks, 122, 128, (List.map aC.enc r1.Out.Items)⟩, ⟨[.int .i64], 3, 8, (List.map (encI .i64) r1.Out.Pool.Used)⟩, ⟨[.int .i64], 3, 8, (List.map (encI .i64) r1.In.IDs)⟩, ⟨aE.ks, 130, 32, (List.map aE.enc r1.Will.Message.Props)⟩]))) := by kernel_rfl
end
abbrev X28 : aP := C28 gG (cT 67 iM) (cT 50 bM) (cT 72 cL)
theorem av6 : X28 = aQ gG := by unfold X28 C28; rw [aK fun _ h => h, aK fun _ h => h, aK fun _ h => h]
theorem abz (p0 : aB) (p1 : Str) : Le (Option.map fX (lO p0 p1)) (aZ SE 28 [aB.av p0, .d (.str p1)] [] []) := by
 refine aS av6 rfl ?_
 refine Le.trans ?_ (le_of_eq (T28 _ _ _ _ _ _  p0 p1).symm)
 unfold lO
 refine aM (good := good) eX aaC (aaX _ _) fun r0 _ => ?_
 refine lC ?_ ?_
 ·exact aI rfl
 ·refine aM (good := good) eX gP (iK _) fun r1 _ => ?_
  refine aM (good := good) eX sB (sR _ _ _) fun r2 _ => ?_
  exact aI rfl
section
variable (Γ : Fun) (γ70 : Gm (Int)) (γ71 : Gm ((List aD))) (Λ2 J : Lam)
def C29 : aP := bA (bA (aQ Γ) 70 eP γ70) 71 c7 γ71
theorem T29 (p0 : aB) (p1 : Str) : bD SE (C29 Γ γ70 γ71) Λ2 J 29 [aB.av p0, .d (.str p1)] [] [] =
 γ70 [.d (.sl aD.ks (List.map aD.enc p0.Subs)), .d (.str p1)] [] [] fun r0 =>
 cond (decide (r0 < 0)) (
 (some (.ret [.agg [.d (.str ([] : Str)), .d (.str ([] : Str)), .d (.bool false), .d (.int .i64 0), .d (.int .i64 0), .d (.int .i64 0), .d (.int .i64 0), .row 0, .d (.sl aA.ks (List.map aA.enc [])), .d (.int .i64 0), .d (.sl aC.ks (List.map aC.enc [])), .d (.sl [.int .i64] (List.map (encI .i64) [])), .d (.int .i64 0), .d (.sl [.int .i64] (List.map (encI .i64) [])), .d (.bool false), .d (.int .i64 0), .d (.str ([] : Str)), .d (.str ([] : Str)), .d (.int .i64 0), .d (.bool false), .d (.int .i64 0), .d (.int .i64 0), .d (.str ([] : Str)), .d (.int .i64 0), .d (.sl aE.ks (List.map aE.enc []))], .d (.int .i64 8)] [] [⟨aD.ks, 60, 32, (List.map aD.enc [])⟩]))) (
 γ71 [.d (.sl aD.ks (List.map aD.enc p0.Subs)), .d (.str p1)] [] [] fun r1 =>
 (some (.ret [.agg [.d (.str p0.Client), .d (.str p0.User), .d (.bool p0.Online), .d (.int .i64 p0.Conn), .d (.int .i64 p0.Expiry), .d (.int .i64 p0.Until), .d (.int .i64 p0.Dropped), .row 0, .d (.sl aA.ks (List.map aA.enc p0.Queue)), .d (.int .i64 p0.Out.Limit), .d (.sl aC.ks (List.map aC.enc p0.Out.Items)), .d (.sl [.int .i64] (List.map (encI .i64) p0.Out.Pool.Used)), .d (.int .i64 p0.Out.Pool.Last), .d (.sl [.int .i64] (List.map (encI .i64) p0.In.IDs)), .d (.bool p0.Will.Set), .d (.int .i64 p0.Will.Delay), .d (.str p0.Will.Message.Topic), .d (.str p0.Will.Message.Payload), .d (.int .i64 p0.Will.Message.Level), .d (.bool p0.Will.Message.Retain), .d (.int .i64 p0.Will.Message.Priority), .d (.int .i64 p0.Will.Message.Expires), .d (.str p0.Will.Message.From), .d (.int .i64 p0.Will.Message.Seq), .d (.sl aE.ks (List.map aE.enc p0.Will.Message.Props))], .d (.int .i64 0)] [] [⟨aD.ks, 60, 32, (List.map aD.enc r1)⟩]))) := by kernel_rfl
end
abbrev X29 : aP := C29 gG (cT 70 eP) (cT 71 c7)
theorem au5 : X29 = aQ gG := by unfold X29 C29; rw [aK fun _ h => h, aK fun _ h => h]
theorem yJ (p0 : aB) (p1 : Str) : Le (Option.map eK (iZ p0 p1)) (aZ SE 29 [aB.av p0, .d (.str p1)] [] []) := by
 refine aS au5 rfl ?_
 refine Le.trans ?_ (le_of_eq (T29 _ _ _ _ _  p0 p1).symm)
 unfold iZ
 refine aM (good := good) eX xL (yS _ _) fun r0 _ => ?_
 refine lC ?_ ?_
 ·exact aI rfl
 ·refine aM (good := good) eX sY (tD _ _) fun r1 _ => ?_
  exact aI rfl
def al8 (C : aP) (Λ2 J : Lam) (a0 : (List (List D))) (a1 : (List (List D))) (a2 : Int) : Res := lab SE C Λ2 J 55 0 [1, 1, 0, 1, 0] (bB [(0, .d (.sl aD.ks a0)), (1, .d (.sl aD.ks a1)), (5, .d (.int .i64 a2))] [] [] [] [])
section
variable (Γ : Fun)  (Λ2 J : Lam)
def C55 : aP := aQ Γ
theorem T55 (p0 : (List aD)) (p1 : (List aD)) : bD SE (C55 Γ) Λ2 J 55 [.d (.sl aD.ks (List.map aD.enc p0)), .d (.sl aD.ks (List.map aD.enc p1))] [] [] =
 cond ((List.length (List.map aD.enc p0) : Int) != (List.length (List.map aD.enc p1) : Int)) (
 (some (.ret [.d (.bool false)] [] []))) (
 al8 (C55 Γ) Λ2 J (List.map aD.enc p0) (List.map aD.enc p1) 0) := by kernel_rfl
theorem atG (x0 : (List aD)) (x1 : (List aD)) (x5 : Int) : cB SE (C55 Γ) Λ2 J 55 0 [1, 1, 0, 1, 0] (bB [(0, .d (.sl aD.ks (List.map aD.enc x0))), (1, .d (.sl aD.ks (List.map aD.enc x1))), (5, .d (.int .i64 x5))] [] [] [] []) =
 cond (decide (x5 < (List.length (List.map aD.enc x0) : Int))) (
 cond (decide (0 ≤ x5) && decide (x5 < (List.length (List.map aD.enc x0) : Int))) (
  cond (decide (0 ≤ x5) && decide (x5 < (List.length (List.map aD.enc x1) : Int))) (
  cond (!((aU (cellAt (elemAt (List.map aD.enc x0) (Int.toNat x5)) 0)) == (aU (cellAt (elemAt (List.map aD.enc x1) (Int.toNat x5)) 0)))) (
   (some (.ret [.d (.bool false)] [] []))) (
  cond (decide (0 ≤ x5) && decide (x5 < (List.length (List.map aD.enc x0) : Int))) (
   cond (decide (0 ≤ x5) && decide (x5 < (List.length (List.map aD.enc x1) : Int))) (
   cond ((aL (cellAt (elemAt (List.map aD.enc x0) (Int.toNat x5)) 1)) != (aL (cellAt (elemAt (List.map aD.enc x1) (Int.toNat x5)) 1))) (
    (some (.ret [.d (.bool false)] [] []))) (
   cond (decide (0 ≤ x5) && decide (x5 < (List.length (List.map aD.enc x0) : Int))) (
    cond (decide (0 ≤ x5) && decide (x5 < (List.length (List.map aD.enc x1) : Int))) (
    cond ((aY (cellAt (elemAt (List.map aD.enc x0) (Int.toNat x5)) 2)) != (aY (cellAt (elemAt (List.map aD.enc x1) (Int.toNat x5)) 2))) (
     (some (.ret [.d (.bool false)] [] []))) (
    al8 (C55 Γ) Λ2 J (List.map aD.enc x0) (List.map aD.enc x1) (IntKind.wrap .i64 (x5 + 1)))) none) none)) none) none)) none) none) (
 (some (.ret [.d (.bool true)] [] []))) := by kernel_rfl
end
abbrev X55 : aP := C55 gG
theorem aqW : X55 = aQ gG := rfl
noncomputable abbrev atS (a0 : (List (List D))) (a1 : (List (List D))) (a2 : Int) : Res := al8 X55 (bV SE gG (SE.hl 55) (SE.hr 55)) (J0 SE X55) a0 a1 a2
theorem abg : ∀ (fu : Nat) (x0 : (List aD)) (x1 : (List aD)) (x5 : Int), Le (Option.map gA (gT fu x0 x1 x5)) (atS (List.map aD.enc x0) (List.map aD.enc x1) x5) := by
 intro fu
 induction fu with
 | zero => intros; exact le_none
 | succ fu ih =>
  intro x0 x1 x5
  refine Le.trans ?_ (le_of_eq ((bC aqW).trans (atG _ _ _  x0 x1 x5)).symm)
  unfold gT
  refine lD (by simp only [EN]) ?_ ?_
  ·refine lG (by simp only [EN]) ?_
   refine lG (by simp only [EN]) ?_
   refine lD (by simp only [EN]) ?_ ?_
   ·exact aI rfl
   ·refine lG (by simp only [EN]) ?_
    refine lG (by simp only [EN]) ?_
    refine lD (by simp only [EN]) ?_ ?_
    ·exact aI rfl
    ·refine lG (by simp only [EN]) ?_
     refine lG (by simp only [EN]) ?_
     refine lD (by simp only [EN]) ?_ ?_
     ·exact aI rfl
     ·exact ih x0 x1 (IntKind.wrap .i64 (x5 + 1))
  ·exact aI rfl
theorem adV (p0 : (List aD)) (p1 : (List aD)) : Le (Option.map gA (nU p0 p1)) (aZ SE 55 [.d (.sl aD.ks (List.map aD.enc p0)), .d (.sl aD.ks (List.map aD.enc p1))] [] []) := by
 refine aS aqW rfl ?_
 refine Le.trans ?_ (le_of_eq (T55 _ _ _  p0 p1).symm)
 unfold nU
 refine lD (by simp only [EN]) ?_ ?_
 ·exact aI rfl
 ·exact abg fuel p0 p1 0
def alf (C : aP) (Λ2 J : Lam) (a0 : (List (List D))) (a1 : (List (List D))) (a2 : Int) : Res := lab SE C Λ2 J 56 0 [1, 1, 0, 1, 0] (bB [(0, .d (.sl aA.ks a0)), (1, .d (.sl aA.ks a1)), (5, .d (.int .i64 a2))] [] [] [] [])
section
variable (Γ : Fun) (γ97 : Gm (Bool)) (Λ2 J : Lam)
def C56 : aP := bA (aQ Γ) 97 cI γ97
theorem T56 (p0 : (List aA)) (p1 : (List aA)) : bD SE (C56 Γ γ97) Λ2 J 56 [.d (.sl aA.ks (List.map aA.enc p0)), .d (.sl aA.ks (List.map aA.enc p1))] [] [] =
 cond ((List.length (List.map aA.enc p0) : Int) != (List.length (List.map aA.enc p1) : Int)) (
 (some (.ret [.d (.bool false)] [] []))) (
 alf (C56 Γ γ97) Λ2 J (List.map aA.enc p0) (List.map aA.enc p1) 0) := by kernel_rfl
theorem atN (x0 : (List aA)) (x1 : (List aA)) (x5 : Int) : cB SE (C56 Γ γ97) Λ2 J 56 0 [1, 1, 0, 1, 0] (bB [(0, .d (.sl aA.ks (List.map aA.enc x0))), (1, .d (.sl aA.ks (List.map aA.enc x1))), (5, .d (.int .i64 x5))] [] [] [] []) =
 cond (decide (x5 < (List.length (List.map aA.enc x0) : Int))) (
 cond (decide (0 ≤ x5) && decide (x5 < (List.length (List.map aA.enc x0) : Int))) (
  cond (decide (0 ≤ x5) && decide (x5 < (List.length (List.map aA.enc x1) : Int))) (
  γ97 [.agg [.d (.str (aU (cellAt (elemAt (List.map aA.enc x0) (Int.toNat x5)) 0))), .d (.str (aU (cellAt (elemAt (List.map aA.enc x0) (Int.toNat x5)) 1))), .d (.int .i64 (aL (cellAt (elemAt (List.map aA.enc x0) (Int.toNat x5)) 2))), .d (.bool (aY (cellAt (elemAt (List.map aA.enc x0) (Int.toNat x5)) 3))), .d (.int .i64 (aL (cellAt (elemAt (List.map aA.enc x0) (Int.toNat x5)) 4))), .d (.int .i64 (aL (cellAt (elemAt (List.map aA.enc x0) (Int.toNat x5)) 5))), .d (.str (aU (cellAt (elemAt (List.map aA.enc x0) (Int.toNat x5)) 6))), .d (.int .i64 (aL (cellAt (elemAt (List.map aA.enc x0) (Int.toNat x5)) 7))), .d (.sl aE.ks (dSl (cellAt (elemAt (List.map aA.enc x0) (Int.toNat x5)) 8)))], .agg [.d (.str (aU (cellAt (elemAt (List.map aA.enc x1) (Int.toNat x5)) 0))), .d (.str (aU (cellAt (elemAt (List.map aA.enc x1) (Int.toNat x5)) 1))), .d (.int .i64 (aL (cellAt (elemAt (List.map aA.enc x1) (Int.toNat x5)) 2))), .d (.bool (aY (cellAt (elemAt (List.map aA.enc x1) (Int.toNat x5)) 3))), .d (.int .i64 (aL (cellAt (elemAt (List.map aA.enc x1) (Int.toNat x5)) 4))), .d (.int .i64 (aL (cellAt (elemAt (List.map aA.enc x1) (Int.toNat x5)) 5))), .d (.str (aU (cellAt (elemAt (List.map aA.enc x1) (Int.toNat x5)) 6))), .d (.int .i64 (aL (cellAt (elemAt (List.map aA.enc x1) (Int.toNat x5)) 7))), .d (.sl aE.ks (dSl (cellAt (elemAt (List.map aA.enc x1) (Int.toNat x5)) 8)))]] [] [] fun r0 =>
  cond (!r0) (
   (some (.ret [.d (.bool false)] [] []))) (
  alf (C56 Γ γ97) Λ2 J (List.map aA.enc x0) (List.map aA.enc x1) (IntKind.wrap .i64 (x5 + 1)))) none) none) (
 (some (.ret [.d (.bool true)] [] []))) := by kernel_rfl
end
abbrev X56 : aP := C56 gG (cT 97 cI)
theorem arO : X56 = aQ gG := by unfold X56 C56; rw [aK fun _ h => h]
noncomputable abbrev auq (a0 : (List (List D))) (a1 : (List (List D))) (a2 : Int) : Res := alf X56 (bV SE gG (SE.hl 56) (SE.hr 56)) (J0 SE X56) a0 a1 a2
theorem abH : ∀ (fu : Nat) (x0 : (List aA)) (x1 : (List aA)) (x5 : Int), Le (Option.map gC (g7 fu x0 x1 x5)) (auq (List.map aA.enc x0) (List.map aA.enc x1) x5) := by
 intro fu
 induction fu with
 | zero => intros; exact le_none
 | succ fu ih =>
  intro x0 x1 x5
  refine Le.trans ?_ (le_of_eq ((bC arO).trans (atN _ _ _ _  x0 x1 x5)).symm)
  unfold g7
  refine lD (by simp only [EN]) ?_ ?_
  ·refine lG (by simp only [EN]) ?_
   refine lG (by simp only [EN]) ?_
   refine aM (good := good) eX nC (by first | (simp only [EN]; exact gV (List.getD x0 (Int.toNat x5) default) (List.getD x1 (Int.toNat x5) default)) | exact gV (List.getD x0 (Int.toNat x5) default) (List.getD x1 (Int.toNat x5) default)) fun r0 _ => ?_
   refine lC ?_ ?_
   ·exact aI rfl
   ·exact ih x0 x1 (IntKind.wrap .i64 (x5 + 1))
  ·exact aI rfl
theorem adO (p0 : (List aA)) (p1 : (List aA)) : Le (Option.map gC (nT p0 p1)) (aZ SE 56 [.d (.sl aA.ks (List.map aA.enc p0)), .d (.sl aA.ks (List.map aA.enc p1))] [] []) := by
 refine aS arO rfl ?_
 refine Le.trans ?_ (le_of_eq (T56 _ _ _ _  p0 p1).symm)
 unfold nT
 refine lD (by simp only [EN]) ?_ ?_
 ·exact aI rfl
 ·exact abH fuel p0 p1 0
def ajw (C : aP) (Λ2 J : Lam) (a0 : (List (List D))) (a1 : (List (List D))) (a2 : Int) : Res := lab SE C Λ2 J 108 0 [1, 1, 0, 1, 0] (bB [(0, .d (.sl [.int .i64] a0)), (1, .d (.sl [.int .i64] a1)), (5, .d (.int .i64 a2))] [] [] [] [])
section
variable (Γ : Fun)  (Λ2 J : Lam)
def akc : aP := aQ Γ
theorem awN (p0 : (List Int)) (p1 : (List Int)) : bD SE (akc Γ) Λ2 J 108 [.d (.sl [.int .i64] (List.map (encI .i64) p0)), .d (.sl [.int .i64] (List.map (encI .i64) p1))] [] [] =
 cond ((List.length (List.map (encI .i64) p0) : Int) != (List.length (List.map (encI .i64) p1) : Int)) (
 (some (.ret [.d (.bool false)] [] []))) (
 ajw (akc Γ) Λ2 J (List.map (encI .i64) p0) (List.map (encI .i64) p1) 0) := by kernel_rfl
theorem arc (x0 : (List Int)) (x1 : (List Int)) (x5 : Int) : cB SE (akc Γ) Λ2 J 108 0 [1, 1, 0, 1, 0] (bB [(0, .d (.sl [.int .i64] (List.map (encI .i64) x0))), (1, .d (.sl [.int .i64] (List.map (encI .i64) x1))), (5, .d (.int .i64 x5))] [] [] [] []) =
 cond (decide (x5 < (List.length (List.map (encI .i64) x0) : Int))) (
 cond (decide (0 ≤ x5) && decide (x5 < (List.length (List.map (encI .i64) x0) : Int))) (
  cond (decide (0 ≤ x5) && decide (x5 < (List.length (List.map (encI .i64) x1) : Int))) (
  cond ((aL (cellAt (elemAt (List.map (encI .i64) x0) (Int.toNat x5)) 0)) != (aL (cellAt (elemAt (List.map (encI .i64) x1) (Int.toNat x5)) 0))) (
   (some (.ret [.d (.bool false)] [] []))) (
  ajw (akc Γ) Λ2 J (List.map (encI .i64) x0) (List.map (encI .i64) x1) (IntKind.wrap .i64 (x5 + 1)))) none) none) (
 (some (.ret [.d (.bool true)] [] []))) := by kernel_rfl
end
abbrev an1 : aP := akc gG
theorem apr : an1 = aQ gG := rfl
noncomputable abbrev asW (a0 : (List (List D))) (a1 : (List (List D))) (a2 : Int) : Res := ajw an1 (bV SE gG (SE.hl 108) (SE.hr 108)) (J0 SE an1) a0 a1 a2
theorem abp : ∀ (fu : Nat) (x0 : (List Int)) (x1 : (List Int)) (x5 : Int), Le (Option.map dN (g5 fu x0 x1 x5)) (asW (List.map (encI .i64) x0) (List.map (encI .i64) x1) x5) := by
 intro fu
 induction fu with
 | zero => intros; exact le_none
 | succ fu ih =>
  intro x0 x1 x5
  refine Le.trans ?_ (le_of_eq ((bC apr).trans (arc _ _ _  x0 x1 x5)).symm)
  unfold g5
  refine lD (by simp only [EN]) ?_ ?_
  ·refine lG (by simp only [EN]) ?_
   refine lG (by simp only [EN]) ?_
   refine lD (by simp only [EN]) ?_ ?_
   ·exact aI rfl
   ·exact ih x0 x1 (IntKind.wrap .i64 (x5 + 1))
  ·exact aI rfl
theorem v5 (p0 : (List Int)) (p1 : (List Int)) : Le (Option.map dN (lU p0 p1)) (aZ SE 108 [.d (.sl [.int .i64] (List.map (encI .i64) p0)), .d (.sl [.int .i64] (List.map (encI .i64) p1))] [] []) := by
 refine aS apr rfl ?_
 refine Le.trans ?_ (le_of_eq (awN _ _ _  p0 p1).symm)
 unfold lU
 refine lD (by simp only [EN]) ?_ ?_
 ·exact aI rfl
 ·exact abp fuel p0 p1 0
section
variable (Γ : Fun) (γ108 : Gm (Bool)) (Λ2 J : Lam)
def aoV : aP := bA (aQ Γ) 108 dN γ108
theorem avT (p0 : aJ) (p1 : aJ) : bD SE (aoV Γ γ108) Λ2 J 107 [aJ.av p0, aJ.av p1] [] [] =
 cond (p0.Last == p1.Last) (
 γ108 [.d (.sl [.int .i64] (List.map (encI .i64) p0.Used)), .d (.sl [.int .i64] (List.map (encI .i64) p1.Used))] [] [] fun r0 =>
 (some (.ret [.d (.bool r0)] [] []))) (
 (some (.ret [.d (.bool false)] [] []))) := by kernel_rfl
end
abbrev aqX : aP := aoV gG (cT 108 dN)
theorem atj : aqX = aQ gG := by unfold aqX aoV; rw [aK fun _ h => h]
theorem ad2 (p0 : aJ) (p1 : aJ) : Le (Option.map iV (qF p0 p1)) (aZ SE 107 [aJ.av p0, aJ.av p1] [] []) := by
 refine aS atj rfl ?_
 refine Le.trans ?_ (le_of_eq (avT _ _ _ _  p0 p1).symm)
 unfold qF
 refine lC ?_ ?_
 ·refine aM (good := good) eX uT (v5 _ _) fun r0 _ => ?_
  exact aI rfl
 ·exact aI rfl
def ali (C : aP) (Λ2 J : Lam) (a0 : Int) (a1 : (List D)) (a2 : (List D)) : Res := lab SE C Λ2 J 57 0 [1, 1, 0, 1, 0] (bB [(2, .ptr 1000000000 0), (3, .ptr 1000000001 0), (5, .d (.int .i64 a0))] [⟨29, (List.map AV.d a1)⟩, ⟨29, (List.map AV.d a2)⟩] [] [] [])
def apJ (C : aP) (Λ2 J : Lam) (a0 : (List D)) (a1 : (List D)) : Res := lab SE C Λ2 J 57 0 [1, 1, 0, 0] (bB [(2, .ptr 1000000000 0), (3, .ptr 1000000001 0)] [⟨29, (List.map AV.d a0)⟩, ⟨29, (List.map AV.d a1)⟩] [] [] [])
section
variable (Γ : Fun) (γ107 : Gm (Bool)) (γ97 : Gm (Bool)) (Λ2 J : Lam)
def C57 : aP := bA (bA (aQ Γ) 107 iV γ107) 97 cI γ97
theorem T57 (p0 : aG) (p1 : aG) : bD SE (C57 Γ γ107 γ97) Λ2 J 57 [aG.av p0, aG.av p1] [] [] =
 cond (p0.Limit != p1.Limit) (
 (some (.ret [.d (.bool false)] [] []))) (
 γ107 [aJ.av p0.Pool, aJ.av p1.Pool] [] [] fun r0 =>
 cond (!r0) (
 (some (.ret [.d (.bool false)] [] []))) (
 cond ((List.length (List.map aC.enc p0.Items) : Int) != (List.length (List.map aC.enc p1.Items) : Int)) (
 (some (.ret [.d (.bool false)] [] []))) (
 apJ (C57 Γ γ107 γ97) Λ2 J (aG.enc p0) (aG.enc p1)))) := by kernel_rfl
theorem auJ (x5 : Int) (b0 : aG) (b1 : aG) : cB SE (C57 Γ γ107 γ97) Λ2 J 57 0 [1, 1, 0, 1, 0] (bB [(2, .ptr 1000000000 0), (3, .ptr 1000000001 0), (5, .d (.int .i64 x5))] [⟨29, (List.map AV.d (aG.enc b0))⟩, ⟨29, (List.map AV.d (aG.enc b1))⟩] [] [] []) =
 cond (decide (x5 < (List.length (List.map aC.enc b0.Items) : Int))) (
 cond (decide (0 ≤ x5) && decide (x5 < (List.length (List.map aC.enc b0.Items) : Int))) (
  cond (decide (0 ≤ x5) && decide (x5 < (List.length (List.map aC.enc b1.Items) : Int))) (
  cond ((aL (cellAt (elemAt (List.map aC.enc b0.Items) (Int.toNat x5)) 0)) != (aL (cellAt (elemAt (List.map aC.enc b1.Items) (Int.toNat x5)) 0))) (
   (some (.ret [.d (.bool false)] [] []))) (
  cond (decide (0 ≤ x5) && decide (x5 < (List.length (List.map aC.enc b0.Items) : Int))) (
   cond (decide (0 ≤ x5) && decide (x5 < (List.length (List.map aC.enc b1.Items) : Int))) (
   cond ((aL (cellAt (elemAt (List.map aC.enc b0.Items) (Int.toNat x5)) 1)) != (aL (cellAt (elemAt (List.map aC.enc b1.Items) (Int.toNat x5)) 1))) (
    (some (.ret [.d (.bool false)] [] []))) (
   cond (decide (0 ≤ x5) && decide (x5 < (List.length (List.map aC.enc b0.Items) : Int))) (
    cond (decide (0 ≤ x5) && decide (x5 < (List.length (List.map aC.enc b1.Items) : Int))) (
    γ97 [.agg [.d (.str (aU (cellAt (elemAt (List.map aC.enc b0.Items) (Int.toNat x5)) 2))), .d (.str (aU (cellAt (elemAt (List.map aC.enc b0.Items) (Int.toNat x5)) 3))), .d (.int .i64 (aL (cellAt (elemAt (List.map aC.enc b0.Items) (Int.toNat x5)) 4))), .d (.bool (aY (cellAt (elemAt (List.map aC.enc b0.Items) (Int.toNat x5)) 5))), .d (.int .i64 (aL (cellAt (elemAt (List.map aC.enc b0.Items) (Int.toNat x5)) 6))), .d (.int .i64 (aL (cellAt (elemAt (List.map aC.enc b0.Items) (Int.toNat x5)) 7))), .d (.str (aU (cellAt (elemAt (List.map aC.enc b0.Items) (Int.toNat x5)) 8))), .d (.int .i64 (aL (cellAt (elemAt (List.map aC.enc b0.Items) (Int.toNat x5)) 9))), .d (.sl aE.ks (dSl (cellAt (elemAt (List.map aC.enc b0.Items) (Int.toNat x5)) 10)))], .agg [.d (.str (aU (cellAt (elemAt (List.map aC.enc b1.Items) (Int.toNat x5)) 2))), .d (.str (aU (cellAt (elemAt (List.map aC.enc b1.Items) (Int.toNat x5)) 3))), .d (.int .i64 (aL (cellAt (elemAt (List.map aC.enc b1.Items) (Int.toNat x5)) 4))), .d (.bool (aY (cellAt (elemAt (List.map aC.enc b1.Items) (Int.toNat x5)) 5))), .d (.int .i64 (aL (cellAt (elemAt (List.map aC.enc b1.Items) (Int.toNat x5)) 6))), .d (.int .i64 (aL (cellAt (elemAt (List.map aC.enc b1.Items) (Int.toNat x5)) 7))), .d (.str (aU (cellAt (elemAt (List.map aC.enc b1.Items) (Int.toNat x5)) 8))), .d (.int .i64 (aL (cellAt (elemAt (List.map aC.enc b1.Items) (Int.toNat x5)) 9))), .d (.sl aE.ks (dSl (cellAt (elemAt (List.map aC.enc b1.Items) (Int.toNat x5)) 10)))]] [] [] fun r1 =>
    cond (!r1) (
     (some (.ret [.d (.bool false)] [] []))) (
    ali (C57 Γ γ107 γ97) Λ2 J (IntKind.wrap .i64 (x5 + 1)) (aG.enc b0) (aG.enc b1))) none) none)) none) none)) none) none) (
 (some (.ret [.d (.bool true)] [] []))) := by kernel_rfl
theorem atu (b0 : aG) (b1 : aG) : cB SE (C57 Γ γ107 γ97) Λ2 J 57 0 [1, 1, 0, 0] (bB [(2, .ptr 1000000000 0), (3, .ptr 1000000001 0)] [⟨29, (List.map AV.d (aG.enc b0))⟩, ⟨29, (List.map AV.d (aG.enc b1))⟩] [] [] []) =
 ali (C57 Γ γ107 γ97) Λ2 J 0 (aG.enc b0) (aG.enc b1) := by kernel_rfl
end
abbrev X57 : aP := C57 gG (cT 107 iV) (cT 97 cI)
theorem anM : X57 = aQ gG := by unfold X57 C57; rw [aK fun _ h => h, aK fun _ h => h]
noncomputable abbrev atW (a0 : Int) (a1 : (List D)) (a2 : (List D)) : Res := ali X57 (bV SE gG (SE.hl 57) (SE.hr 57)) (J0 SE X57) a0 a1 a2
noncomputable abbrev asZ (a0 : (List D)) (a1 : (List D)) : Res := apJ X57 (bV SE gG (SE.hl 57) (SE.hr 57)) (J0 SE X57) a0 a1
theorem abm : ∀ (fu : Nat) (x5 : Int) (b0 : aG) (b1 : aG), Le (Option.map eQ (g4 fu x5 b0 b1)) (atW x5 (aG.enc b0) (aG.enc b1)) := by
 intro fu
 induction fu with
 | zero => intros; exact le_none
 | succ fu ih =>
  intro x5 b0 b1
  refine Le.trans ?_ (le_of_eq ((bC anM).trans (auJ _ _ _ _ _  x5 b0 b1)).symm)
  unfold g4
  refine lD (by simp only [EN]) ?_ ?_
  ·refine lG (by simp only [EN]) ?_
   refine lG (by simp only [EN]) ?_
   refine lD (by simp only [EN]) ?_ ?_
   ·exact aI rfl
   ·refine lG (by simp only [EN]) ?_
    refine lG (by simp only [EN]) ?_
    refine lD (by simp only [EN]) ?_ ?_
    ·exact aI rfl
    ·refine lG (by simp only [EN]) ?_
     refine lG (by simp only [EN]) ?_
     refine aM (good := good) eX nC (by first | (simp only [EN]; exact gV ((List.getD b0.Items (Int.toNat x5) default).Message) ((List.getD b1.Items (Int.toNat x5) default).Message)) | exact gV ((List.getD b0.Items (Int.toNat x5) default).Message) ((List.getD b1.Items (Int.toNat x5) default).Message)) fun r1 _ => ?_
     refine lC ?_ ?_
     ·exact aI rfl
     ·exact ih (IntKind.wrap .i64 (x5 + 1)) b0 b1
  ·exact aI rfl
theorem abD (b0 : aG) (b1 : aG) : Le (Option.map eQ (oC b0 b1)) (asZ (aG.enc b0) (aG.enc b1)) := by
 refine Le.trans ?_ (le_of_eq ((bC anM).trans (atu _ _ _ _ _  b0 b1)).symm)
 unfold oC
 exact abm fuel 0 b0 b1
theorem ad1 (p0 : aG) (p1 : aG) : Le (Option.map eQ (nY p0 p1)) (aZ SE 57 [aG.av p0, aG.av p1] [] []) := by
 refine aS anM rfl ?_
 refine Le.trans ?_ (le_of_eq (T57 _ _ _ _ _  p0 p1).symm)
 unfold nY
 refine lC ?_ ?_
 ·exact aI rfl
 ·refine aM (good := good) eX acJ (ad2 _ _) fun r0 _ => ?_
  refine lC ?_ ?_
  ·exact aI rfl
  ·refine lD (by simp only [EN]) ?_ ?_
   ·exact aI rfl
   ·exact abD p0 p1
section
variable (Γ : Fun) (γ108 : Gm (Bool)) (Λ2 J : Lam)
def C58 : aP := bA (aQ Γ) 108 dN γ108
theorem T58 (p0 : aR) (p1 : aR) : bD SE (C58 Γ γ108) Λ2 J 58 [aR.av p0, aR.av p1] [] [] =
 γ108 [.d (.sl [.int .i64] (List.map (encI .i64) p0.IDs)), .d (.sl [.int .i64] (List.map (encI .i64) p1.IDs))] [] [] fun r0 =>
 (some (.ret [.d (.bool r0)] [] [])) := by kernel_rfl
end
abbrev X58 : aP := C58 gG (cT 108 dN)
theorem awJ : X58 = aQ gG := by unfold X58 C58; rw [aK fun _ h => h]
theorem ad6 (p0 : aR) (p1 : aR) : Le (Option.map iT (qN p0 p1)) (aZ SE 58 [aR.av p0, aR.av p1] [] []) := by
 refine aS awJ rfl ?_
 refine Le.trans ?_ (le_of_eq (T58 _ _ _ _  p0 p1).symm)
 unfold qN
 refine aM (good := good) eX uT (v5 _ _) fun r0 _ => ?_
 exact aI rfl
section
variable (Γ : Fun) (γ97 : Gm (Bool)) (Λ2 J : Lam)
def C59 : aP := bA (aQ Γ) 97 cI γ97
theorem T59 (p0 : aN) (p1 : aN) : bD SE (C59 Γ γ97) Λ2 J 59 [aN.av p0, aN.av p1] [] [] =
 cond (p0.Set == p1.Set) (
 cond (p0.Delay == p1.Delay) (
  γ97 [aA.av p0.Message, aA.av p1.Message] [] [] fun r0 =>
  (some (.ret [.d (.bool r0)] [] []))) (
 (some (.ret [.d (.bool false)] [] [])))) (
 (some (.ret [.d (.bool false)] [] []))) := by kernel_rfl
end
abbrev X59 : aP := C59 gG (cT 97 cI)
theorem av1 : X59 = aQ gG := by unfold X59 C59; rw [aK fun _ h => h]
theorem adP (p0 : aN) (p1 : aN) : Le (Option.map iY (qG p0 p1)) (aZ SE 59 [aN.av p0, aN.av p1] [] []) := by
 refine aS av1 rfl ?_
 refine Le.trans ?_ (le_of_eq (T59 _ _ _ _  p0 p1).symm)
 unfold qG
 refine lC ?_ ?_
 ·refine lC ?_ ?_
  ·refine aM (good := good) eX nC (gV _ _) fun r0 _ => ?_
   exact aI rfl
  ·exact aI rfl
 ·exact aI rfl
section
variable (Γ : Fun) (γ55 : Gm (Bool)) (γ56 : Gm (Bool)) (γ57 : Gm (Bool)) (γ58 : Gm (Bool)) (γ59 : Gm (Bool)) (Λ2 J : Lam)
def C17 : aP := bA (bA (bA (bA (bA (aQ Γ) 55 gA γ55) 56 gC γ56) 57 eQ γ57) 58 iT γ58) 59 iY γ59
theorem T17 (p0 : aB) (p1 : aB) : bD SE (C17 Γ γ55 γ56 γ57 γ58 γ59) Λ2 J 17 [aB.av p0, aB.av p1] [] [] =
 cond (p0.Client == p1.Client) (
 cond (p0.User == p1.User) (
  cond (p0.Online == p1.Online) (
  cond (p0.Conn == p1.Conn) (
   cond (p0.Expiry == p1.Expiry) (
   cond (p0.Until == p1.Until) (
    cond (p0.Dropped == p1.Dropped) (
    γ55 [.d (.sl aD.ks (List.map aD.enc p0.Subs)), .d (.sl aD.ks (List.map aD.enc p1.Subs))] [] [] fun r0 =>
    cond r0 (
     γ56 [.d (.sl aA.ks (List.map aA.enc p0.Queue)), .d (.sl aA.ks (List.map aA.enc p1.Queue))] [] [] fun r1 =>
     cond r1 (
     γ57 [aG.av p0.Out, aG.av p1.Out] [] [] fun r2 =>
     cond r2 (
      γ58 [aR.av p0.In, aR.av p1.In] [] [] fun r3 =>
      cond r3 (
      γ59 [aN.av p0.Will, aN.av p1.Will] [] [] fun r4 =>
      (some (.ret [.d (.bool r4)] [] []))) (
      (some (.ret [.d (.bool false)] [] [])))) (
     (some (.ret [.d (.bool false)] [] [])))) (
     (some (.ret [.d (.bool false)] [] [])))) (
    (some (.ret [.d (.bool false)] [] [])))) (
    (some (.ret [.d (.bool false)] [] [])))) (
   (some (.ret [.d (.bool false)] [] [])))) (
   (some (.ret [.d (.bool false)] [] [])))) (
  (some (.ret [.d (.bool false)] [] [])))) (
  (some (.ret [.d (.bool false)] [] [])))) (
 (some (.ret [.d (.bool false)] [] [])))) (
 (some (.ret [.d (.bool false)] [] []))) := by kernel_rfl
end
abbrev X17 : aP := C17 gG (cT 55 gA) (cT 56 gC) (cT 57 eQ) (cT 58 iT) (cT 59 iY)
theorem avy : X17 = aQ gG := by unfold X17 C17; rw [aK fun _ h => h, aK fun _ h => h, aK fun _ h => h, aK fun _ h => h, aK fun _ h => h]
theorem vX (p0 : aB) (p1 : aB) : Le (Option.map iS (lX p0 p1)) (aZ SE 17 [aB.av p0, aB.av p1] [] []) := by
 refine aS avy rfl ?_
 refine Le.trans ?_ (le_of_eq (T17 _ _ _ _ _ _ _ _  p0 p1).symm)
 unfold lX
 refine lC ?_ ?_
 ·refine lC ?_ ?_
  ·refine lC ?_ ?_
   ·refine lC ?_ ?_
    ·refine lC ?_ ?_
     ·refine lC ?_ ?_
      ·refine lC ?_ ?_
       ·refine aM (good := good) eX adq (adV _ _) fun r0 _ => ?_
        refine lC ?_ ?_
        ·refine aM (good := good) eX ac0 (adO _ _) fun r1 _ => ?_
         refine lC ?_ ?_
         ·refine aM (good := good) eX ac6 (ad1 _ _) fun r2 _ => ?_
          refine lC ?_ ?_
          ·refine aM (good := good) eX adg (ad6 _ _) fun r3 _ => ?_
           refine lC ?_ ?_
           ·refine aM (good := good) eX ac3 (adP _ _) fun r4 _ => ?_
            exact aI rfl
           ·exact aI rfl
          ·exact aI rfl
         ·exact aI rfl
        ·exact aI rfl
       ·exact aI rfl
      ·exact aI rfl
     ·exact aI rfl
    ·exact aI rfl
   ·exact aI rfl
  ·exact aI rfl
 ·exact aI rfl
section
variable (Γ : Fun) (γ12 : Gm (Int)) (γ14 : Gm (Bool)) (γ26 : Gm (aB × Bool × Int)) (γ27 : Gm (aB × Bool × Int)) (γ28 : Gm (aB × Int)) (γ29 : Gm (aB × Int)) (γ17 : Gm (Bool)) (Λ2 J : Lam)
def C6 : aP := bA (bA (bA (bA (bA (bA (bA (aQ Γ) 12 iA γ12) 14 fN γ14) 26 cY γ26) 27 bT γ27) 28 fX γ28) 29 eK γ29) 17 iS γ17
theorem T6 (p0 : aB) (p1 : aD) (p2 : Str) : bD SE (C6 Γ γ12 γ14 γ26 γ27 γ28 γ29 γ17) Λ2 J 6 [aB.av p0, aD.av p1, .d (.str p2)] [] [] =
 γ12 [aB.av p0] [] [] fun r0 =>
 cond (r0 != 0) (
 γ14 [] [] [] fun r1 =>
 (some (.ret [.d (.bool r1)] [] []))) (
 γ26 [aB.av p0, aD.av p1] [] [] fun r2 =>
 γ27 [aB.av p0, aD.av p1] [] [] fun r3 =>
 γ28 [aB.av p0, .d (.str p2)] [] [] fun r4 =>
 γ29 [aB.av p0, .d (.str p2)] [] [] fun r5 =>
 γ14 [] [] [] fun r6 =>
 cond r6 (
 cond (r2.2.2 == r3.2.2) (
  cond (r2.2.1 == r3.2.1) (
  γ17 [aB.av r2.1, aB.av r3.1] [] [] fun r7 =>
  cond r7 (
   cond (r4.2 == r5.2) (
   γ17 [aB.av r4.1, aB.av r5.1] [] [] fun r8 =>
   (some (.ret [.d (.bool r8)] [] []))) (
   (some (.ret [.d (.bool false)] [] [])))) (
  (some (.ret [.d (.bool false)] [] [])))) (
  (some (.ret [.d (.bool false)] [] [])))) (
 (some (.ret [.d (.bool false)] [] [])))) (
 (some (.ret [.d (.bool false)] [] [])))) := by kernel_rfl
end
abbrev X6 : aP := C6 gG (cT 12 iA) (cT 14 fN) (cT 26 cY) (cT 27 bT) (cT 28 fX) (cT 29 eK) (cT 17 iS)
theorem Cr6 : X6 = aQ gG := by unfold X6 C6; rw [aK fun _ h => h, aK fun _ h => h, aK fun _ h => h, aK fun _ h => h, aK fun _ h => h, aK fun _ h => h, aK fun _ h => h]
theorem yK (p0 : aB) (p1 : aD) (p2 : Str) : Le (Option.map p8 (lB p0 p1 p2)) (aZ SE 6 [aB.av p0, aD.av p1, .d (.str p2)] [] []) := by
 refine aS Cr6 rfl ?_
 refine Le.trans ?_ (le_of_eq (T6 _ _ _ _ _ _ _ _ _ _  p0 p1 p2).symm)
 unfold lB
 refine aM (good := good) eX abK (adj _) fun r0 _ => ?_
 refine lC ?_ ?_
 ·refine aM (good := good) eX uQ (uU) fun r1 _ => ?_
  exact aI rfl
 ·refine aM (good := good) eX uH (vE _ _) fun r2 _ => ?_
  refine aM (good := good) eX zC (aad _ _) fun r3 _ => ?_
  refine aM (good := good) eX aaR (abz _ _) fun r4 _ => ?_
  refine aM (good := good) eX xK (yJ _ _) fun r5 _ => ?_
  refine aM (good := good) eX uQ (uU) fun r6 _ => ?_
  refine lC ?_ ?_
  ·refine lC ?_ ?_
   ·refine lC ?_ ?_
    ·refine aM (good := good) eX vN (vX _ _) fun r7 _ => ?_
     refine lC ?_ ?_
     ·refine lC ?_ ?_
      ·refine aM (good := good) eX vN (vX _ _) fun r8 _ => ?_
       exact aI rfl
      ·exact aI rfl
     ·exact aI rfl
    ·exact aI rfl
   ·exact aI rfl
  ·exact aI rfl
end Te
end PX
