import Derived.Test.YtojlmojebnlmdaaGreatDoorTre1
set_option linter.unusedVariables false
set_option linter.unusedSimpArgs false
set_option maxRecDepth 100000
noncomputable section
namespace PX
open Go
open Md
namespace Te
def als (C : aP) (Λ2 J : Lam) (a0 : Int) (a1 : (List D)) (a2 : (List D)) (a3 : (List D)) (a4 : (List D)) : Res := lab SE C Λ2 J 60 0 [1, 1, 1, 1, 0, 0] (bA [(2, .ptr 1000000000 0), (3, .ptr 1000000001 0), (4, .ptr 1000000002 0), (7, .d (.int .i64 a0)), (8, .ptr 1000000003 0)] [⟨29, (List.map AV.d a1)⟩, ⟨49, (List.map AV.d a2)⟩, ⟨29, (List.map AV.d a3)⟩, ⟨122, (List.map AV.d a4)⟩] [] [] [])
section
variable (Γ : Fun) (γ109 : Gm (Int)) (γ110 : Gm (aG)) (γ111 : Gm (aG)) (γ112 : Gm (aE)) (Λ2 J : Lam)
def C60 : aP := aZ (aZ (aZ (aZ (aO Γ) 109 kE γ109) 110 cY γ110) 111 jB γ111) 112 eV γ112
theorem T60 (p0 : aG) (p1 : aE) : bC SE (C60 Γ γ109 γ110 γ111 γ112) Λ2 J 60 [aG.av p0, aE.av p1] [] [] =
 γ109 [.d (.sl aB.ks (List.map aB.enc p0.Items)), .d (.int .i64 p1.ID)] [] [] fun r0 =>
 cond (decide (r0 ≥ 0)) (
 cond (decide (0 ≤ r0) && decide (r0 < (List.length (List.map aB.enc p0.Items) : Int))) (
  als (C60 Γ γ109 γ110 γ111 γ112) Λ2 J r0 (aG.enc p0) (aE.enc p1) [D.int .i64 0, D.sl aB.ks (List.map aB.enc []), D.sl [.int .i64] (List.map (encI .i64) []), D.int .i64 0] [D.int .i64 (aL (cellAt (elemAt (List.map aB.enc p0.Items) (Int.toNat r0)) 0)), D.int .i64 (aL (cellAt (elemAt (List.map aB.enc p0.Items) (Int.toNat r0)) 1)), D.str (aV (cellAt (elemAt (List.map aB.enc p0.Items) (Int.toNat r0)) 2)), D.str (aV (cellAt (elemAt (List.map aB.enc p0.Items) (Int.toNat r0)) 3)), D.int .i64 (aL (cellAt (elemAt (List.map aB.enc p0.Items) (Int.toNat r0)) 4)), D.bool (aX (cellAt (elemAt (List.map aB.enc p0.Items) (Int.toNat r0)) 5)), D.int .i64 (aL (cellAt (elemAt (List.map aB.enc p0.Items) (Int.toNat r0)) 6)), D.int .i64 (aL (cellAt (elemAt (List.map aB.enc p0.Items) (Int.toNat r0)) 7)), D.str (aV (cellAt (elemAt (List.map aB.enc p0.Items) (Int.toNat r0)) 8)), D.int .i64 (aL (cellAt (elemAt (List.map aB.enc p0.Items) (Int.toNat r0)) 9)), D.sl aD.ks (dSl (cellAt (elemAt (List.map aB.enc p0.Items) (Int.toNat r0)) 10))]) none) (
 als (C60 Γ γ109 γ110 γ111 γ112) Λ2 J r0 (aG.enc p0) (aE.enc p1) [D.int .i64 0, D.sl aB.ks (List.map aB.enc []), D.sl [.int .i64] (List.map (encI .i64) []), D.int .i64 0] [D.int .i64 0, D.int .i64 0, D.str ([] : Str), D.str ([] : Str), D.int .i64 0, D.bool false, D.int .i64 0, D.int .i64 0, D.str ([] : Str), D.int .i64 0, D.sl aD.ks (List.map aD.enc [])]) := by kernel_rfl
theorem arX (x7 : Int) (b0 : aG) (b1 : aE) (b2 : aG) (b3 : aB) : bW SE (C60 Γ γ109 γ110 γ111 γ112) Λ2 J 60 0 [1, 1, 1, 1, 0, 0] (bA [(2, .ptr 1000000000 0), (3, .ptr 1000000001 0), (4, .ptr 1000000002 0), (7, .d (.int .i64 x7)), (8, .ptr 1000000003 0)] [⟨29, (List.map AV.d (aG.enc b0))⟩, ⟨49, (List.map AV.d (aE.enc b1))⟩, ⟨29, (List.map AV.d (aG.enc b2))⟩, ⟨122, (List.map AV.d (aB.enc b3))⟩] [] [] []) =
 cond (b1.Kind == 4) (
 cond (decide (x7 < 0)) (
  γ110 [aG.av b0] [] [] fun r1 =>
  (some (.ret [.agg [.d (.int .i64 r1.Limit), .row 0, .row 1, .d (.int .i64 r1.Pool.Last)], .row 2, .d (.int .i64 0)] [] [⟨aB.ks, 122, 128, (List.map aB.enc r1.Items)⟩, ⟨[.int .i64], 3, 8, (List.map (encI .i64) r1.Pool.Used)⟩, ⟨aE.ks, 49, 416, []⟩]))) (
 cond (b3.Message.Level == 1) (
  γ111 [aG.av b0, .d (.int .i64 x7)] [] [] fun r2 =>
  (some (.ret [.agg [.d (.int .i64 r2.Limit), .row 0, .row 1, .d (.int .i64 r2.Pool.Last)], .row 2, .d (.int .i64 0)] [] [⟨aB.ks, 122, 128, (List.map aB.enc r2.Items)⟩, ⟨[.int .i64], 3, 8, (List.map (encI .i64) r2.Pool.Used)⟩, ⟨aE.ks, 49, 416, []⟩]))) (
 (some (.ret [.agg [.d (.int .i64 0), .row 0, .row 1, .d (.int .i64 0)], .row 2, .d (.int .i64 23)] [] [⟨aB.ks, 122, 128, (List.map aB.enc [])⟩, ⟨[.int .i64], 3, 8, (List.map (encI .i64) [])⟩, ⟨aE.ks, 49, 416, []⟩]))))) (
 cond (b1.Kind == 5) (
 cond (decide (x7 < 0)) (
  γ110 [aG.av b0] [] [] fun r3 =>
  γ112 [.d (.int .i64 b1.ID)] [] [] fun r4 =>
  (some (.ret [.agg [.d (.int .i64 r3.Limit), .row 0, .row 1, .d (.int .i64 r3.Pool.Last)], .row 2, .d (.int .i64 0)] [] [⟨aB.ks, 122, 128, (List.map aB.enc r3.Items)⟩, ⟨[.int .i64], 3, 8, (List.map (encI .i64) r3.Pool.Used)⟩, ⟨aE.ks, 49, 416, (List.map aE.enc [r4])⟩]))) (
 cond (b3.Message.Level == 2) (
  γ110 [aG.av b0] [] [] fun r5 =>
  cond (decide (0 ≤ x7) && decide (x7 < (List.length (List.map aB.enc r5.Items) : Int))) (
  γ112 [.d (.int .i64 b1.ID)] [] [] fun r6 =>
  (some (.ret [.agg [.d (.int .i64 r5.Limit), .row 0, .row 1, .d (.int .i64 r5.Pool.Last)], .row 2, .d (.int .i64 0)] [] [⟨aB.ks, 122, 128, (g4 (List.map aB.enc r5.Items) (Int.toNat x7) 1 [D.int .i64 2])⟩, ⟨[.int .i64], 3, 8, (List.map (encI .i64) r5.Pool.Used)⟩, ⟨aE.ks, 49, 416, (List.map aE.enc [r6])⟩]))) none) (
 (some (.ret [.agg [.d (.int .i64 0), .row 0, .row 1, .d (.int .i64 0)], .row 2, .d (.int .i64 23)] [] [⟨aB.ks, 122, 128, (List.map aB.enc [])⟩, ⟨[.int .i64], 3, 8, (List.map (encI .i64) [])⟩, ⟨aE.ks, 49, 416, []⟩]))))) (
 cond (b1.Kind == 7) (
 cond (decide (x7 < 0)) (
  γ110 [aG.av b0] [] [] fun r7 =>
  (some (.ret [.agg [.d (.int .i64 r7.Limit), .row 0, .row 1, .d (.int .i64 r7.Pool.Last)], .row 2, .d (.int .i64 0)] [] [⟨aB.ks, 122, 128, (List.map aB.enc r7.Items)⟩, ⟨[.int .i64], 3, 8, (List.map (encI .i64) r7.Pool.Used)⟩, ⟨aE.ks, 49, 416, []⟩]))) (
 cond (b3.State == 2) (
  γ111 [aG.av b0, .d (.int .i64 x7)] [] [] fun r8 =>
  (some (.ret [.agg [.d (.int .i64 r8.Limit), .row 0, .row 1, .d (.int .i64 r8.Pool.Last)], .row 2, .d (.int .i64 0)] [] [⟨aB.ks, 122, 128, (List.map aB.enc r8.Items)⟩, ⟨[.int .i64], 3, 8, (List.map (encI .i64) r8.Pool.Used)⟩, ⟨aE.ks, 49, 416, []⟩]))) (
 (some (.ret [.agg [.d (.int .i64 0), .row 0, .row 1, .d (.int .i64 0)], .row 2, .d (.int .i64 23)] [] [⟨aB.ks, 122, 128, (List.map aB.enc [])⟩, ⟨[.int .i64], 3, 8, (List.map (encI .i64) [])⟩, ⟨aE.ks, 49, 416, []⟩]))))) (
 (some (.ret [.agg [.d (.int .i64 0), .row 0, .row 1, .d (.int .i64 0)], .row 2, .d (.int .i64 10)] [] [⟨aB.ks, 122, 128, (List.map aB.enc [])⟩, ⟨[.int .i64], 3, 8, (List.map (encI .i64) [])⟩, ⟨aE.ks, 49, 416, []⟩]))))) := by kernel_rfl
end
abbrev X60 : aP := C60 gG (cT 109 kE) (cT 110 cY) (cT 111 jB) (cT 112 eV)
theorem apJ : X60 = aO gG := by unfold X60 C60; rw [aK fun _ h => h, aK fun _ h => h, aK fun _ h => h, aK fun _ h => h]
noncomputable abbrev atB (a0 : Int) (a1 : (List D)) (a2 : (List D)) (a3 : (List D)) (a4 : (List D)) : Res := als X60 (bU SE gG (SE.hl 60) (SE.hr 60)) (J0 SE X60) a0 a1 a2 a3 a4
theorem lO (x7 : Int) (b0 : aG) (b1 : aE) (b2 : aG) (b3 : aB) : Le (Option.map eY (n6 x7 b0 b1 b2 b3)) (atB x7 (aG.enc b0) (aE.enc b1) (aG.enc b2) (aB.enc b3)) := by
 refine Le.trans ?_ (le_of_eq ((bB apJ).trans (arX _ _ _ _ _ _ _  x7 b0 b1 b2 b3)).symm)
 unfold n6
 refine lC ?_ ?_
 ·refine lC ?_ ?_
  ·refine aM (good := good) eX jP (kG _) fun r1 _ => ?_
   exact aH rfl
  ·refine lC ?_ ?_
   ·refine aM (good := good) eX vC (w4 _ _) fun r2 _ => ?_
    exact aH rfl
   ·exact aH rfl
 ·refine lC ?_ ?_
  ·refine lC ?_ ?_
   ·refine aM (good := good) eX jP (kG _) fun r3 _ => ?_
    refine aM (good := good) eX qA (oJ _) fun r4 _ => ?_
    exact aH rfl
   ·refine lC ?_ ?_
    ·refine aM (good := good) eX jP (kG _) fun r5 _ => ?_
     refine lG (by simp only [EN]) ?_
     refine aM (good := good) eX qA (oJ _) fun r6 _ => ?_
     exact aH (by first | rfl | simp only [EN, eY] <;> rfl)
    ·exact aH rfl
  ·refine lC ?_ ?_
   ·refine lC ?_ ?_
    ·refine aM (good := good) eX jP (kG _) fun r7 _ => ?_
     exact aH rfl
    ·refine lC ?_ ?_
     ·refine aM (good := good) eX vC (w4 _ _) fun r8 _ => ?_
      exact aH rfl
     ·exact aH rfl
   ·exact aH rfl
theorem ad8 (p0 : aG) (p1 : aE) : Le (Option.map eY (uM p0 p1)) (aY SE 60 [aG.av p0, aE.av p1] [] []) := by
 refine aS apJ rfl ?_
 refine Le.trans ?_ (le_of_eq (T60 _ _ _ _ _ _ _  p0 p1).symm)
 unfold uM
 refine aM (good := good) eX aeT (afi _ _) fun r0 _ => ?_
 refine lC ?_ ?_
 ·refine lG (by simp only [EN]) ?_
  first | (simp only [EN]; exact lO r0 p0 p1 ((aG.mk 0 ([] : List aB) (aJ.mk ([] : List Int) 0))) (List.getD p0.Items (Int.toNat r0) default)) | exact lO r0 p0 p1 ((aG.mk 0 ([] : List aB) (aJ.mk ([] : List Int) 0))) (List.getD p0.Items (Int.toNat r0) default)
 ·first | (simp only [EN]; exact lO r0 p0 p1 ((aG.mk 0 ([] : List aB) (aJ.mk ([] : List Int) 0))) ((aB.mk 0 0 (aA.mk ([] : Str) ([] : Str) 0 false 0 0 ([] : Str) 0 ([] : List aD))))) | exact lO r0 p0 p1 ((aG.mk 0 ([] : List aB) (aJ.mk ([] : List Int) 0))) ((aB.mk 0 0 (aA.mk ([] : Str) ([] : Str) 0 false 0 0 ([] : Str) 0 ([] : List aD))))
section
variable (Γ : Fun) (γ60 : Gm (aG × (List aE) × Int)) (γ50 : Gm (aC)) (γ61 : Gm (aC × (List aE))) (Λ2 J : Lam)
def C19 : aP := aZ (aZ (aZ (aO Γ) 60 eY γ60) 50 bS γ50) 61 dR γ61
theorem T19 (p0 : aC) (p1 : aE) (p2 : Int) : bC SE (C19 Γ γ60 γ50 γ61) Λ2 J 19 [aC.av p0, aE.av p1, .d (.int .i64 p2)] [] [] =
 γ60 [aG.av p0.Out, aE.av p1] [] [] fun r0 =>
 cond (r0.2.2 != 0) (
 (some (.ret [.agg [.d (.str ([] : Str)), .d (.str ([] : Str)), .d (.bool false), .d (.int .i64 0), .d (.int .i64 0), .d (.int .i64 0), .d (.int .i64 0), .d (.sl aF.ks (List.map aF.enc [])), .d (.sl aA.ks (List.map aA.enc [])), .d (.int .i64 0), .d (.sl aB.ks (List.map aB.enc [])), .d (.sl [.int .i64] (List.map (encI .i64) [])), .d (.int .i64 0), .d (.sl [.int .i64] (List.map (encI .i64) [])), .d (.bool false), .d (.int .i64 0), .d (.str ([] : Str)), .d (.str ([] : Str)), .d (.int .i64 0), .d (.bool false), .d (.int .i64 0), .d (.int .i64 0), .d (.str ([] : Str)), .d (.int .i64 0), .d (.sl aD.ks (List.map aD.enc []))], .row 0, .d (.int .i64 r0.2.2)] [] [⟨aE.ks, 49, 416, []⟩]))) (
 γ50 [aC.av p0] [] [] fun r1 =>
 cond (!p0.Online) (
 (some (.ret [aC.av (aC.mk r1.Client r1.User r1.Online r1.Conn r1.Expiry r1.Until r1.Dropped r1.Subs r1.Queue r0.1 r1.In r1.Will), .row 0, .d (.int .i64 0)] [] [⟨aE.ks, 49, 416, (List.map aE.enc r0.2.1)⟩]))) (
 γ61 [aC.av (aC.mk r1.Client r1.User r1.Online r1.Conn r1.Expiry r1.Until r1.Dropped r1.Subs r1.Queue r0.1 r1.In r1.Will), .d (.int .i64 p2), .row 2000000000] [] [⟨aE.ks, 49, 416, (List.map aE.enc r0.2.1)⟩] fun r2 =>
 (some (.ret [aC.av r2.1, .row 0, .d (.int .i64 0)] [] [⟨aE.ks, 49, 416, (List.map aE.enc r2.2)⟩])))) := by kernel_rfl
end
abbrev X19 : aP := C19 gG (cT 60 eY) (cT 50 bS) (cT 61 dR)
theorem auO : X19 = aO gG := by unfold X19 C19; rw [aK fun _ h => h, aK fun _ h => h, aK fun _ h => h]
theorem xP (p0 : aC) (p1 : aE) (p2 : Int) : Le (Option.map jS (vR p0 p1 p2)) (aY SE 19 [aC.av p0, aE.av p1, .d (.int .i64 p2)] [] []) := by
 refine aS auO rfl ?_
 refine Le.trans ?_ (le_of_eq (T19 _ _ _ _ _ _  p0 p1 p2).symm)
 unfold vR
 refine aM (good := good) eX adv (ad8 _ _) fun r0 _ => ?_
 refine lC ?_ ?_
 ·exact aH rfl
 ·refine aM (good := good) eX iT (jH _) fun r1 _ => ?_
  refine lC ?_ ?_
  ·exact aH rfl
  ·refine aM (good := good) eX sW (qH _ _ _) fun r2 _ => ?_
   exact aH rfl
section
variable (Γ : Fun)  (Λ2 J : Lam)
def C65 : aP := aO Γ
theorem T65 (p0 : aA) : bC SE (C65 Γ) Λ2 J 65 [aA.av p0] [] [] =
 (some (.ret [.d (.bool (p0.Level == 0))] [] [])) := by kernel_rfl
end
abbrev X65 : aP := C65 gG
theorem auF : X65 = aO gG := rfl
theorem mP (p0 : aA) : Le (Option.map eA (oR p0)) (aY SE 65 [aA.av p0] [] []) := by
 refine aS auF rfl ?_
 refine Le.trans ?_ (le_of_eq (T65 _ _ _  p0).symm)
 unfold oR
 exact aH rfl
def ajs (C : aP) (Λ2 J : Lam) (a0 : (List (List D))) (a1 : Int) (a2 : Int) : Res := lab SE C Λ2 J 123 0 [1, 0, 1, 0] (bA [(0, .d (.sl aA.ks a0)), (1, .fn 65 [] []), (7, .d (.int .i64 a1)), (8, .d (.int .i64 a2))] [] [] [] [])
section
variable (Γ : Fun) (γ65 : Gm (Bool)) (Λ2 J : Lam)
def ahE : aP := aZ (aO Γ) 65 eA γ65
theorem auc (p0 : (List aA)) : bC SE (ahE Γ γ65) Λ2 J 123 [.d (.sl aA.ks (List.map aA.enc p0)), .fn 65 [] []] [] [] =
 ajs (ahE Γ γ65) Λ2 J (List.map aA.enc p0) (List.length (List.map aA.enc p0) : Int) 0 := by kernel_rfl
theorem apR (x0 : (List aA)) (x7 : Int) (x8 : Int) : bW SE (ahE Γ γ65) Λ2 J 123 0 [1, 0, 1, 0] (bA [(0, .d (.sl aA.ks (List.map aA.enc x0))), (1, .fn 65 [] []), (7, .d (.int .i64 x7)), (8, .d (.int .i64 x8))] [] [] [] []) =
 cond (decide (x8 < x7)) (
 cond (decide (0 ≤ x8) && decide (x8 < (List.length (List.map aA.enc x0) : Int))) (
  γ65 [.agg [.d (.str (aV (cellAt (elemAt (List.map aA.enc x0) (Int.toNat x8)) 0))), .d (.str (aV (cellAt (elemAt (List.map aA.enc x0) (Int.toNat x8)) 1))), .d (.int .i64 (aL (cellAt (elemAt (List.map aA.enc x0) (Int.toNat x8)) 2))), .d (.bool (aX (cellAt (elemAt (List.map aA.enc x0) (Int.toNat x8)) 3))), .d (.int .i64 (aL (cellAt (elemAt (List.map aA.enc x0) (Int.toNat x8)) 4))), .d (.int .i64 (aL (cellAt (elemAt (List.map aA.enc x0) (Int.toNat x8)) 5))), .d (.str (aV (cellAt (elemAt (List.map aA.enc x0) (Int.toNat x8)) 6))), .d (.int .i64 (aL (cellAt (elemAt (List.map aA.enc x0) (Int.toNat x8)) 7))), .d (.sl aD.ks (dSl (cellAt (elemAt (List.map aA.enc x0) (Int.toNat x8)) 8)))]] [] [] fun r0 =>
  cond r0 (
  (some (.ret [.d (.int .i64 x8)] [] []))) (
  ajs (ahE Γ γ65) Λ2 J (List.map aA.enc x0) x7 (IntKind.wrap .i64 (x8 + 1)))) none) (
 (some (.ret [.d (.int .i64 (-1))] [] []))) := by kernel_rfl
end
abbrev ald : aP := ahE gG (cT 65 eA)
theorem aoA : ald = aO gG := by unfold ald ahE; rw [aK fun _ h => h]
noncomputable abbrev aqp (a0 : (List (List D))) (a1 : Int) (a2 : Int) : Res := ajs ald (bU SE gG (SE.hl 123) (SE.hr 123)) (J0 SE ald) a0 a1 a2
theorem hX : ∀ (fu : Nat) (x0 : (List aA)) (x7 : Int) (x8 : Int), Le (Option.map bI (cP fu x0 x7 x8)) (aqp (List.map aA.enc x0) x7 x8) := by
 intro fu
 induction fu with
 | zero => intros; exact le_none
 | succ fu ih =>
  intro x0 x7 x8
  refine Le.trans ?_ (le_of_eq ((bB aoA).trans (apR _ _ _ _  x0 x7 x8)).symm)
  unfold cP
  refine lC ?_ ?_
  ·refine lG (by simp only [EN]) ?_
   refine aM (good := good) eX s0 (by first | (simp only [EN]; exact mP (List.getD x0 (Int.toNat x8) default)) | exact mP (List.getD x0 (Int.toNat x8) default)) fun r0 _ => ?_
   refine lC ?_ ?_
   ·exact aH rfl
   ·exact ih x0 x7 (IntKind.wrap .i64 (x8 + 1))
  ·exact aH rfl
theorem nZ (p0 : (List aA)) : Le (Option.map bI (eT p0)) (aY SE 123 [.d (.sl aA.ks (List.map aA.enc p0)), .fn 65 [] []] [] []) := by
 refine aS aoA rfl ?_
 refine Le.trans ?_ (le_of_eq (auc _ _ _ _  p0).symm)
 unfold eT
 first | (simp only [EN]; exact hX fuel p0 (List.length p0 : Int) 0) | exact hX fuel p0 (List.length p0 : Int) 0
def aiJ (C : aP) (Λ2 J : Lam) (a0 : Int) (a1 : Int) (a2 : (List (List D))) : Res := lab SE C Λ2 J 64 0 [1, 1, 1, 0, 1, 0] (bA [(0, .row 3000), (1, .fn 65 [] []), (5, .d (.int .i64 a0)), (6, .d (.int .i64 a1))] [] [] [] [(3000, ⟨aA.ks, 34, 112, a2⟩)])
section
variable (Γ : Fun) (γ123 : Gm (Int)) (γ65 : Gm (Bool)) (Λ2 J : Lam)
def C64 : aP := aZ (aZ (aO Γ) 123 bI γ123) 65 eA γ65
theorem T64 (p0 : (List aA)) : bC SE (C64 Γ γ123 γ65) Λ2 J 64 [.row 2000000000, .fn 65 [] []] [] [⟨aA.ks, 34, 112, (List.map aA.enc p0)⟩] =
 γ123 [.d (.sl aA.ks (List.map aA.enc p0)), .fn 65 [] []] [] [] fun r0 =>
 cond (r0 == (-1)) (
 (some (.ret [.row 0] [] [⟨aA.ks, 34, 112, (List.map aA.enc p0)⟩]))) (
 aiJ (C64 Γ γ123 γ65) Λ2 J r0 (IntKind.wrap .i64 (r0 + 1)) (List.map aA.enc p0)) := by kernel_rfl
theorem ar0 (x5 : Int) (x6 : Int) (w3000 : (List aA)) : bW SE (C64 Γ γ123 γ65) Λ2 J 64 0 [1, 1, 1, 0, 1, 0] (bA [(0, .row 3000), (1, .fn 65 [] []), (5, .d (.int .i64 x5)), (6, .d (.int .i64 x6))] [] [] [] [(3000, ⟨aA.ks, 34, 112, (List.map aA.enc w3000)⟩)]) =
 cond (decide (x6 < (List.length (List.map aA.enc w3000) : Int))) (
 cond (decide (0 ≤ x6) && decide (x6 < (List.length (List.map aA.enc w3000) : Int))) (
  γ65 [.agg [.d (.str (aV (cellAt (elemAt (List.map aA.enc w3000) (Int.toNat x6)) 0))), .d (.str (aV (cellAt (elemAt (List.map aA.enc w3000) (Int.toNat x6)) 1))), .d (.int .i64 (aL (cellAt (elemAt (List.map aA.enc w3000) (Int.toNat x6)) 2))), .d (.bool (aX (cellAt (elemAt (List.map aA.enc w3000) (Int.toNat x6)) 3))), .d (.int .i64 (aL (cellAt (elemAt (List.map aA.enc w3000) (Int.toNat x6)) 4))), .d (.int .i64 (aL (cellAt (elemAt (List.map aA.enc w3000) (Int.toNat x6)) 5))), .d (.str (aV (cellAt (elemAt (List.map aA.enc w3000) (Int.toNat x6)) 6))), .d (.int .i64 (aL (cellAt (elemAt (List.map aA.enc w3000) (Int.toNat x6)) 7))), .d (.sl aD.ks (dSl (cellAt (elemAt (List.map aA.enc w3000) (Int.toNat x6)) 8)))]] [] [] fun r1 =>
  cond (!r1) (
  cond (decide (0 ≤ x5) && decide (x5 < (List.length (List.map aA.enc w3000) : Int))) (
   aiJ (C64 Γ γ123 γ65) Λ2 J (IntKind.wrap .i64 (x5 + 1)) (IntKind.wrap .i64 (x6 + 1)) ((g4 (List.map aA.enc w3000) (Int.toNat x5) 0 [D.str (aV (cellAt (elemAt (List.map aA.enc w3000) (Int.toNat x6)) 0)), D.str (aV (cellAt (elemAt (List.map aA.enc w3000) (Int.toNat x6)) 1)), D.int .i64 (aL (cellAt (elemAt (List.map aA.enc w3000) (Int.toNat x6)) 2)), D.bool (aX (cellAt (elemAt (List.map aA.enc w3000) (Int.toNat x6)) 3)), D.int .i64 (aL (cellAt (elemAt (List.map aA.enc w3000) (Int.toNat x6)) 4)), D.int .i64 (aL (cellAt (elemAt (List.map aA.enc w3000) (Int.toNat x6)) 5)), D.str (aV (cellAt (elemAt (List.map aA.enc w3000) (Int.toNat x6)) 6)), D.int .i64 (aL (cellAt (elemAt (List.map aA.enc w3000) (Int.toNat x6)) 7)), D.sl aD.ks (dSl (cellAt (elemAt (List.map aA.enc w3000) (Int.toNat x6)) 8))]))) none) (
  aiJ (C64 Γ γ123 γ65) Λ2 J x5 (IntKind.wrap .i64 (x6 + 1)) (List.map aA.enc w3000))) none) (
 cond (decide (0 ≤ x5) && decide (x5 ≤ ((List.length (List.map aA.enc w3000)) : Int))) (
 cond (decide (0 ≤ x5) && decide (x5 ≤ (List.length (List.take (Int.toNat x5) (List.map aA.enc w3000) ++ List.replicate ((List.length (List.map aA.enc w3000)) - (Int.toNat x5)) [D.str ([] : Str), D.str ([] : Str), D.int .i64 0, D.bool false, D.int .i64 0, D.int .i64 0, D.str ([] : Str), D.int .i64 0, D.sl aD.ks (List.map aD.enc [])] ++ List.drop ((Int.toNat x5) + ((List.length (List.map aA.enc w3000)) - (Int.toNat x5))) (List.map aA.enc w3000)) : Int))) (
  (some (.ret [.row 0] [] [⟨aA.ks, 34, 112, (List.take (Int.toNat x5) (List.take (Int.toNat x5) (List.map aA.enc w3000) ++ List.replicate ((List.length (List.map aA.enc w3000)) - (Int.toNat x5)) [D.str ([] : Str), D.str ([] : Str), D.int .i64 0, D.bool false, D.int .i64 0, D.int .i64 0, D.str ([] : Str), D.int .i64 0, D.sl aD.ks (List.map aD.enc [])] ++ List.drop ((Int.toNat x5) + ((List.length (List.map aA.enc w3000)) - (Int.toNat x5))) (List.map aA.enc w3000)))⟩]))) none) none) := by kernel_rfl
end
abbrev X64 : aP := C64 gG (cT 123 bI) (cT 65 eA)
theorem arv : X64 = aO gG := by unfold X64 C64; rw [aK fun _ h => h, aK fun _ h => h]
noncomputable abbrev atI (a0 : Int) (a1 : Int) (a2 : (List (List D))) : Res := aiJ X64 (bU SE gG (SE.hl 64) (SE.hr 64)) (J0 SE X64) a0 a1 a2
theorem mJ : ∀ (fu : Nat) (x5 : Int) (x6 : Int) (w3000 : (List aA)), Le (Option.map bG (bX fu x5 x6 w3000)) (atI x5 x6 (List.map aA.enc w3000)) := by
 intro fu
 induction fu with
 | zero => intros; exact le_none
 | succ fu ih =>
  intro x5 x6 w3000
  refine Le.trans ?_ (le_of_eq ((bB arv).trans (ar0 _ _ _ _ _  x5 x6 w3000)).symm)
  unfold bX
  refine lD (by simp only [EN]) ?_ ?_
  ·refine lG (by simp only [EN]) ?_
   refine aM (good := good) eX s0 (by first | (simp only [EN]; exact mP (List.getD w3000 (Int.toNat x6) default)) | exact mP (List.getD w3000 (Int.toNat x6) default)) fun r1 _ => ?_
   refine lC ?_ ?_
   ·refine lG (by simp only [EN]) ?_
    first | (simp only [EN]; exact ih (IntKind.wrap .i64 (x5 + 1)) (IntKind.wrap .i64 (x6 + 1)) ((List.set w3000 (Int.toNat x5) (List.getD w3000 (Int.toNat x6) default)))) | exact ih (IntKind.wrap .i64 (x5 + 1)) (IntKind.wrap .i64 (x6 + 1)) ((List.set w3000 (Int.toNat x5) (List.getD w3000 (Int.toNat x6) default)))
   ·exact ih x5 (IntKind.wrap .i64 (x6 + 1)) w3000
  ·refine lG (by simp only [EN]) ?_
   refine lG (by simp only [EN]) ?_
   exact aH (by first | rfl | simp only [EN, bG] <;> rfl)
theorem nX (p0 : (List aA)) : Le (Option.map bG (eO p0)) (aY SE 64 [.row 2000000000, .fn 65 [] []] [] [⟨aA.ks, 34, 112, (List.map aA.enc p0)⟩]) := by
 refine aS arv rfl ?_
 refine Le.trans ?_ (le_of_eq (T64 _ _ _ _ _  p0).symm)
 unfold eO
 refine aM (good := good) eX nY (nZ _) fun r0 _ => ?_
 refine lC ?_ ?_
 ·exact aH rfl
 ·exact mJ fuel r0 (IntKind.wrap .i64 (r0 + 1)) p0
section
variable (Γ : Fun) (γ50 : Gm (aC)) (γ64 : Gm ((List aA))) (γ51 : Gm (aC)) (Λ2 J : Lam)
def C23 : aP := aZ (aZ (aZ (aO Γ) 50 bS γ50) 64 bG γ64) 51 c8 γ51
theorem T23 (p0 : aC) (p1 : Int) : bC SE (C23 Γ γ50 γ64 γ51) Λ2 J 23 [aC.av p0, .d (.int .i64 p1)] [] [] =
 γ50 [aC.av p0] [] [] fun r0 =>
 γ64 [.row 2000000000, .fn 65 [] []] [] [⟨aA.ks, 34, 112, (List.map aA.enc r0.Queue)⟩] fun r1 =>
 γ51 [aC.av (aC.mk r0.Client r0.User false 0 r0.Expiry (if 1099511627776 < (IntKind.wrap .i64 (p1 + p0.Expiry)) then 1099511627776 else (IntKind.wrap .i64 (p1 + p0.Expiry))) r0.Dropped r0.Subs r1 r0.Out r0.In r0.Will), .d (.int .i64 (IntKind.wrap .i64 ((List.length (List.map aA.enc r0.Queue) : Int) - (List.length (List.map aA.enc r1) : Int))))] [] [] fun r2 =>
 (some (.ret [aC.av r2] [] [])) := by kernel_rfl
end
abbrev X23 : aP := C23 gG (cT 50 bS) (cT 64 bG) (cT 51 c8)
theorem aus : X23 = aO gG := by unfold X23 C23; rw [aK fun _ h => h, aK fun _ h => h, aK fun _ h => h]
theorem adY (p0 : aC) (p1 : Int) : Le (Option.map jE (uD p0 p1)) (aY SE 23 [aC.av p0, .d (.int .i64 p1)] [] []) := by
 refine aS aus rfl ?_
 refine Le.trans ?_ (le_of_eq (T23 _ _ _ _ _ _  p0 p1).symm)
 unfold uD
 refine aM (good := good) eX iT (jH _) fun r0 _ => ?_
 refine aM (good := good) eX m5 (nX _) fun r1 _ => ?_
 refine aM (good := good) eX nP (by first | (simp only [EN]; exact jU ((aC.mk r0.Client r0.User false 0 r0.Expiry (if 1099511627776 < (IntKind.wrap .i64 (p1 + p0.Expiry)) then 1099511627776 else (IntKind.wrap .i64 (p1 + p0.Expiry))) r0.Dropped r0.Subs r1 r0.Out r0.In r0.Will)) ((IntKind.wrap .i64 ((List.length r0.Queue : Int) - (List.length r1 : Int))))) | exact jU ((aC.mk r0.Client r0.User false 0 r0.Expiry (if 1099511627776 < (IntKind.wrap .i64 (p1 + p0.Expiry)) then 1099511627776 else (IntKind.wrap .i64 (p1 + p0.Expiry))) r0.Dropped r0.Subs r1 r0.Out r0.In r0.Will)) ((IntKind.wrap .i64 ((List.length r0.Queue : Int) - (List.length r1 : Int))))) fun r2 _ => ?_
 exact aH rfl
def aiD (C : aP) (Λ2 J : Lam) (a0 : Int) (a1 : Int) (a2 : (List D)) (a3 : (List (List D))) : Res := lab SE C Λ2 J 91 0 [1, 1, 0, 1, 0] (bA [(1, .ptr 1000000000 0), (3, .row 3003), (9, .d (.int .i64 a0)), (10, .d (.int .i64 a1))] [⟨29, (List.map AV.d a2)⟩] [] [] [(3003, ⟨aE.ks, 49, 416, a3⟩)])
section
variable (Γ : Fun) (γ112 : Gm (aE)) (γ147 : Gm (aE)) (Λ2 J : Lam)
def C91 : aP := aZ (aZ (aO Γ) 112 eV γ112) 147 eJ γ147
theorem T91 (p0 : aG) : bC SE (C91 Γ γ112 γ147) Λ2 J 91 [aG.av p0] [] [] =
 aiD (C91 Γ γ112 γ147) Λ2 J (List.length (List.map aB.enc p0.Items) : Int) 0 (aG.enc p0) (List.map aE.enc []) := by kernel_rfl
theorem as8 (x9 : Int) (x10 : Int) (b0 : aG) (w3003 : (List aE)) : bW SE (C91 Γ γ112 γ147) Λ2 J 91 0 [1, 1, 0, 1, 0] (bA [(1, .ptr 1000000000 0), (3, .row 3003), (9, .d (.int .i64 x9)), (10, .d (.int .i64 x10))] [⟨29, (List.map AV.d (aG.enc b0))⟩] [] [] [(3003, ⟨aE.ks, 49, 416, (List.map aE.enc w3003)⟩)]) =
 cond (decide (x10 < x9)) (
 cond (decide (0 ≤ x10) && decide (x10 < (List.length (List.map aB.enc b0.Items) : Int))) (
  cond ((aL (cellAt (elemAt (List.map aB.enc b0.Items) (Int.toNat x10)) 1)) == 2) (
  γ112 [.d (.int .i64 (aL (cellAt (elemAt (List.map aB.enc b0.Items) (Int.toNat x10)) 0)))] [] [] fun r0 =>
  cond (decide ((List.length (List.map aE.enc w3003) + List.length (List.map aE.enc [r0])) * 416 ≤ 140737488355328)) (
   aiD (C91 Γ γ112 γ147) Λ2 J x9 (IntKind.wrap .i64 (x10 + 1)) (aG.enc b0) (((List.map aE.enc w3003) ++ (List.map aE.enc [r0])))) none) (
  γ147 [.agg [.d (.int .i64 (aL (cellAt (elemAt (List.map aB.enc b0.Items) (Int.toNat x10)) 0))), .d (.int .i64 (aL (cellAt (elemAt (List.map aB.enc b0.Items) (Int.toNat x10)) 1))), .d (.str (aV (cellAt (elemAt (List.map aB.enc b0.Items) (Int.toNat x10)) 2))), .d (.str (aV (cellAt (elemAt (List.map aB.enc b0.Items) (Int.toNat x10)) 3))), .d (.int .i64 (aL (cellAt (elemAt (List.map aB.enc b0.Items) (Int.toNat x10)) 4))), .d (.bool (aX (cellAt (elemAt (List.map aB.enc b0.Items) (Int.toNat x10)) 5))), .d (.int .i64 (aL (cellAt (elemAt (List.map aB.enc b0.Items) (Int.toNat x10)) 6))), .d (.int .i64 (aL (cellAt (elemAt (List.map aB.enc b0.Items) (Int.toNat x10)) 7))), .d (.str (aV (cellAt (elemAt (List.map aB.enc b0.Items) (Int.toNat x10)) 8))), .d (.int .i64 (aL (cellAt (elemAt (List.map aB.enc b0.Items) (Int.toNat x10)) 9))), .d (.sl aD.ks (dSl (cellAt (elemAt (List.map aB.enc b0.Items) (Int.toNat x10)) 10)))]] [] [] fun r1 =>
  cond (decide ((List.length (List.map aE.enc w3003) + List.length (List.map aE.enc [(aE.mk r1.Kind r1.ID true r1.Message r1.Client r1.User r1.Clean r1.Keep r1.Expiry r1.Window r1.Will r1.Present r1.Code r1.Subs r1.Filters r1.Codes)])) * 416 ≤ 140737488355328)) (
  aiD (C91 Γ γ112 γ147) Λ2 J x9 (IntKind.wrap .i64 (x10 + 1)) (aG.enc b0) (((List.map aE.enc w3003) ++ (List.map aE.enc [(aE.mk r1.Kind r1.ID true r1.Message r1.Client r1.User r1.Clean r1.Keep r1.Expiry r1.Window r1.Will r1.Present r1.Code r1.Subs r1.Filters r1.Codes)])))) none)) none) (
 (some (.ret [.row 0] [] [⟨aE.ks, 49, 416, (List.map aE.enc w3003)⟩]))) := by kernel_rfl
end
abbrev X91 : aP := C91 gG (cT 112 eV) (cT 147 eJ)
theorem apZ : X91 = aO gG := by unfold X91 C91; rw [aK fun _ h => h, aK fun _ h => h]
noncomputable abbrev asK (a0 : Int) (a1 : Int) (a2 : (List D)) (a3 : (List (List D))) : Res := aiD X91 (bU SE gG (SE.hl 91) (SE.hr 91)) (J0 SE X91) a0 a1 a2 a3
theorem tC : ∀ (fu : Nat) (x9 : Int) (x10 : Int) (b0 : aG) (w3003 : (List aE)), Le (Option.map gR (lJ fu x9 x10 b0 w3003)) (asK x9 x10 (aG.enc b0) (List.map aE.enc w3003)) := by
 intro fu
 induction fu with
 | zero => intros; exact le_none
 | succ fu ih =>
  intro x9 x10 b0 w3003
  refine Le.trans ?_ (le_of_eq ((bB apZ).trans (as8 _ _ _ _ _  x9 x10 b0 w3003)).symm)
  unfold lJ
  refine lC ?_ ?_
  ·refine lG (by simp only [EN]) ?_
   refine lD (by simp only [EN]) ?_ ?_
   ·refine aM (good := good) eX qA (by first | (simp only [EN]; exact oJ ((List.getD b0.Items (Int.toNat x10) default).ID)) | exact oJ ((List.getD b0.Items (Int.toNat x10) default).ID)) fun r0 _ => ?_
    refine lG (by simp only [EN]) ?_
    first | (simp only [EN]; exact ih x9 (IntKind.wrap .i64 (x10 + 1)) b0 (w3003 ++ [r0])) | exact ih x9 (IntKind.wrap .i64 (x10 + 1)) b0 (w3003 ++ [r0])
   ·refine aM (good := good) eX uT (by first | (simp only [EN]; exact qC (List.getD b0.Items (Int.toNat x10) default)) | exact qC (List.getD b0.Items (Int.toNat x10) default)) fun r1 _ => ?_
    refine lG (by simp only [EN]) ?_
    first | (simp only [EN]; exact ih x9 (IntKind.wrap .i64 (x10 + 1)) b0 (w3003 ++ [(aE.mk r1.Kind r1.ID true r1.Message r1.Client r1.User r1.Clean r1.Keep r1.Expiry r1.Window r1.Will r1.Present r1.Code r1.Subs r1.Filters r1.Codes)])) | exact ih x9 (IntKind.wrap .i64 (x10 + 1)) b0 (w3003 ++ [(aE.mk r1.Kind r1.ID true r1.Message r1.Client r1.User r1.Clean r1.Keep r1.Expiry r1.Window r1.Will r1.Present r1.Code r1.Subs r1.Filters r1.Codes)])
  ·exact aH rfl
theorem aer (p0 : aG) : Le (Option.map gR (uP p0)) (aY SE 91 [aG.av p0] [] []) := by
 refine aS apZ rfl ?_
 refine Le.trans ?_ (le_of_eq (T91 _ _ _ _ _  p0).symm)
 unfold uP
 first | (simp only [EN]; exact tC fuel (List.length p0.Items : Int) 0 p0 ([] : List aE)) | exact tC fuel (List.length p0.Items : Int) 0 p0 ([] : List aE)
section
variable (Γ : Fun) (γ50 : Gm (aC)) (γ80 : Gm (aA)) (γ91 : Gm ((List aE))) (γ61 : Gm (aC × (List aE))) (Λ2 J : Lam)
def C36 : aP := aZ (aZ (aZ (aZ (aO Γ) 50 bS γ50) 80 cN γ80) 91 gR γ91) 61 dR γ61
theorem T36 (p0 : aC) (p1 : aE) (p2 : Int) (p3 : Int) : bC SE (C36 Γ γ50 γ80 γ91 γ61) Λ2 J 36 [aC.av p0, aE.av p1, .d (.int .i64 p2), .d (.int .i64 p3)] [] [] =
 γ50 [aC.av p0] [] [] fun r0 =>
 γ80 [aA.av p1.Will.Message] [] [] fun r1 =>
 γ91 [aG.av (aG.mk p1.Window r0.Out.Items r0.Out.Pool)] [] [] fun r2 =>
 γ61 [aC.av (aC.mk r0.Client p1.User true p2 p1.Expiry 0 r0.Dropped r0.Subs r0.Queue (aG.mk p1.Window r0.Out.Items r0.Out.Pool) r0.In (aN.mk p1.Will.Set p1.Will.Delay r1)), .d (.int .i64 p3), .row 2000000000] [] [⟨aE.ks, 49, 416, (List.map aE.enc r2)⟩] fun r3 =>
 (some (.ret [aC.av r3.1, .row 0] [] [⟨aE.ks, 49, 416, (List.map aE.enc r3.2)⟩])) := by kernel_rfl
end
abbrev X36 : aP := C36 gG (cT 50 bS) (cT 80 cN) (cT 91 gR) (cT 61 dR)
theorem avy : X36 = aO gG := by unfold X36 C36; rw [aK fun _ h => h, aK fun _ h => h, aK fun _ h => h, aK fun _ h => h]
theorem xM (p0 : aC) (p1 : aE) (p2 : Int) (p3 : Int) : Le (Option.map jW (v7 p0 p1 p2 p3)) (aY SE 36 [aC.av p0, aE.av p1, .d (.int .i64 p2), .d (.int .i64 p3)] [] []) := by
 refine aS avy rfl ?_
 refine Le.trans ?_ (le_of_eq (T36 _ _ _ _ _ _ _  p0 p1 p2 p3).symm)
 unfold v7
 refine aM (good := good) eX iT (jH _) fun r0 _ => ?_
 refine aM (good := good) eX jX (e9 _) fun r1 _ => ?_
 refine aM (good := good) eX adg (aer _) fun r2 _ => ?_
 refine aM (good := good) eX sW (qH _ _ _) fun r3 _ => ?_
 exact aH rfl
section
variable (Γ : Fun)  (Λ2 J : Lam)
def C24 : aP := aO Γ
theorem T24 (p0 : aC) (p1 : Int) : bC SE (C24 Γ) Λ2 J 24 [aC.av p0, .d (.int .i64 p1)] [] [] =
 cond (!p0.Online) (
 (some (.ret [.d (.bool (decide (p1 ≥ p0.Until)))] [] []))) (
 (some (.ret [.d (.bool false)] [] []))) := by kernel_rfl
end
abbrev X24 : aP := C24 gG
theorem avM : X24 = aO gG := rfl
theorem w1 (p0 : aC) (p1 : Int) : Le (Option.map iX (qD p0 p1)) (aY SE 24 [aC.av p0, .d (.int .i64 p1)] [] []) := by
 refine aS avM rfl ?_
 refine Le.trans ?_ (le_of_eq (T24 _ _ _  p0 p1).symm)
 unfold qD
 refine lC ?_ ?_
 ·exact aH rfl
 ·exact aH rfl
section
variable (Γ : Fun) (γ31 : Gm (aC)) (γ26 : Gm (aC × Bool × Int)) (γ15 : Gm (aC × Bool)) (γ34 : Gm (aC × (List aE))) (γ19 : Gm (aC × (List aE) × Int)) (γ23 : Gm (aC)) (γ36 : Gm (aC × (List aE))) (γ24 : Gm (Bool)) (Λ2 J : Lam)
def C14 : aP := aZ (aZ (aZ (aZ (aZ (aZ (aZ (aZ (aO Γ) 31 lP γ31) 26 dW γ26) 15 fA γ15) 34 kY γ34) 19 jS γ19) 23 jE γ23) 36 jW γ36) 24 iX γ24
theorem T14 : bC SE (C14 Γ γ31 γ26 γ15 γ34 γ19 γ23 γ36 γ24) Λ2 J 14 [] [] [] =
 γ31 [.agg [.d (.int .i64 1), .d (.int .i64 0), .d (.bool false), .d (.str ([] : Str)), .d (.str ([] : Str)), .d (.int .i64 0), .d (.bool false), .d (.int .i64 0), .d (.int .i64 0), .d (.str ([] : Str)), .d (.int .i64 0), .d (.sl aD.ks (List.map aD.enc [])), .d (.str ([99] : Str)), .d (.str ([] : Str)), .d (.bool false), .d (.int .i64 0), .d (.int .i64 5), .d (.int .i64 1), .d (.bool false), .d (.int .i64 0), .d (.str ([] : Str)), .d (.str ([] : Str)), .d (.int .i64 0), .d (.bool false), .d (.int .i64 0), .d (.int .i64 0), .d (.str ([] : Str)), .d (.int .i64 0), .d (.sl aD.ks (List.map aD.enc [])), .d (.bool false), .d (.int .i64 0), .d (.sl aF.ks (List.map aF.enc [])), .d (.sl [.str] (List.map bF [])), .d (.sl [.int .i64] (List.map (encI .i64) []))], .d (.int .i64 3)] [] [] fun r0 =>
 γ26 [aC.av r0, aF.av (aF.mk ([116] : Str) 0 false)] [] [] fun r1 =>
 γ15 [aC.av r1.1, .agg [.d (.str ([116] : Str)), .d (.str ([] : Str)), .d (.int .i64 1), .d (.bool false), .d (.int .i64 0), .d (.int .i64 0), .d (.str ([] : Str)), .d (.int .i64 1), .d (.sl aD.ks (List.map aD.enc []))], .d (.int .i64 9), .d (.int .i64 2)] [] [] fun r2 =>
 γ15 [aC.av r2.1, .agg [.d (.str ([116] : Str)), .d (.str ([] : Str)), .d (.int .i64 1), .d (.bool false), .d (.int .i64 0), .d (.int .i64 0), .d (.str ([] : Str)), .d (.int .i64 2), .d (.sl aD.ks (List.map aD.enc []))], .d (.int .i64 9), .d (.int .i64 2)] [] [] fun r3 =>
 γ34 [aC.av r3.1, .d (.int .i64 0)] [] [] fun r4 =>
 γ19 [aC.av r4.1, .agg [.d (.int .i64 4), .d (.int .i64 1), .d (.bool false), .d (.str ([] : Str)), .d (.str ([] : Str)), .d (.int .i64 0), .d (.bool false), .d (.int .i64 0), .d (.int .i64 0), .d (.str ([] : Str)), .d (.int .i64 0), .d (.sl aD.ks (List.map aD.enc [])), .d (.str ([] : Str)), .d (.str ([] : Str)), .d (.bool false), .d (.int .i64 0), .d (.int .i64 0), .d (.int .i64 0), .d (.bool false), .d (.int .i64 0), .d (.str ([] : Str)), .d (.str ([] : Str)), .d (.int .i64 0), .d (.bool false), .d (.int .i64 0), .d (.int .i64 0), .d (.str ([] : Str)), .d (.int .i64 0), .d (.sl aD.ks (List.map aD.enc [])), .d (.bool false), .d (.int .i64 0), .d (.sl aF.ks (List.map aF.enc [])), .d (.sl [.str] (List.map bF [])), .d (.sl [.int .i64] (List.map (encI .i64) []))], .d (.int .i64 0)] [] [] fun r5 =>
 γ23 [aC.av r5.1, .d (.int .i64 10)] [] [] fun r6 =>
 γ36 [aC.av r6, .agg [.d (.int .i64 1), .d (.int .i64 0), .d (.bool false), .d (.str ([] : Str)), .d (.str ([] : Str)), .d (.int .i64 0), .d (.bool false), .d (.int .i64 0), .d (.int .i64 0), .d (.str ([] : Str)), .d (.int .i64 0), .d (.sl aD.ks (List.map aD.enc [])), .d (.str ([99] : Str)), .d (.str ([] : Str)), .d (.bool false), .d (.int .i64 0), .d (.int .i64 0), .d (.int .i64 1), .d (.bool false), .d (.int .i64 0), .d (.str ([] : Str)), .d (.str ([] : Str)), .d (.int .i64 0), .d (.bool false), .d (.int .i64 0), .d (.int .i64 0), .d (.str ([] : Str)), .d (.int .i64 0), .d (.sl aD.ks (List.map aD.enc [])), .d (.bool false), .d (.int .i64 0), .d (.sl aF.ks (List.map aF.enc [])), .d (.sl [.str] (List.map bF [])), .d (.sl [.int .i64] (List.map (encI .i64) []))], .d (.int .i64 4), .d (.int .i64 12)] [] [] fun r7 =>
 cond (!r1.2.1) (
 cond (r1.2.2 == 0) (
  cond (!r2.2) (
  cond ((List.length (List.map aE.enc r4.2) : Int) == 1) (
   cond (decide (0 ≤ 0) && decide (0 < (List.length (List.map aE.enc r4.2) : Int))) (
   cond ((aL (cellAt (elemAt (List.map aE.enc r4.2) (Int.toNat 0)) 1)) == 1) (
    cond (decide (0 ≤ 0) && decide (0 < (List.length (List.map aE.enc r4.2) : Int))) (
    cond ((aL (cellAt (elemAt (List.map aE.enc r4.2) (Int.toNat 0)) 10)) == 1) (
     cond ((List.length (List.map aE.enc r5.2.1) : Int) == 1) (
     cond (decide (0 ≤ 0) && decide (0 < (List.length (List.map aE.enc r5.2.1) : Int))) (
      cond ((aL (cellAt (elemAt (List.map aE.enc r5.2.1) (Int.toNat 0)) 1)) == 2) (
      cond (r5.2.2 == 0) (
       cond (r6.Until == 15) (
       γ24 [aC.av r6, .d (.int .i64 14)] [] [] fun r8 =>
       cond (!r8) (
        γ24 [aC.av r6, .d (.int .i64 15)] [] [] fun r9 =>
        cond r9 (
        cond r7.1.Online (
         cond (r7.1.Conn == 4) (
         cond ((List.length (List.map aE.enc r7.2) : Int) == 1) (
          cond (decide (0 ≤ 0) && decide (0 < (List.length (List.map aE.enc r7.2) : Int))) (
          cond (aX (cellAt (elemAt (List.map aE.enc r7.2) (Int.toNat 0)) 2)) (
           cond (decide (0 ≤ 0) && decide (0 < (List.length (List.map aE.enc r7.2) : Int))) (
           (some (.ret [.d (.bool ((aL (cellAt (elemAt (List.map aE.enc r7.2) (Int.toNat 0)) 1)) == 2))] [] []))) none) (
          (some (.ret [.d (.bool false)] [] [])))) none) (
         (some (.ret [.d (.bool false)] [] [])))) (
         (some (.ret [.d (.bool false)] [] [])))) (
        (some (.ret [.d (.bool false)] [] [])))) (
        (some (.ret [.d (.bool false)] [] [])))) (
       (some (.ret [.d (.bool false)] [] [])))) (
       (some (.ret [.d (.bool false)] [] [])))) (
      (some (.ret [.d (.bool false)] [] [])))) (
      (some (.ret [.d (.bool false)] [] [])))) none) (
     (some (.ret [.d (.bool false)] [] [])))) (
    (some (.ret [.d (.bool false)] [] [])))) none) (
   (some (.ret [.d (.bool false)] [] [])))) none) (
  (some (.ret [.d (.bool false)] [] [])))) (
  (some (.ret [.d (.bool false)] [] [])))) (
 (some (.ret [.d (.bool false)] [] [])))) (
 (some (.ret [.d (.bool false)] [] []))) := by kernel_rfl
end
abbrev X14 : aP := C14 gG (cT 31 lP) (cT 26 dW) (cT 15 fA) (cT 34 kY) (cT 19 jS) (cT 23 jE) (cT 36 jW) (cT 24 iX)
theorem avw : X14 = aO gG := by unfold X14 C14; rw [aK fun _ h => h, aK fun _ h => h, aK fun _ h => h, aK fun _ h => h, aK fun _ h => h, aK fun _ h => h, aK fun _ h => h, aK fun _ h => h]
theorem pT : Le (Option.map fC (j9)) (aY SE 14 [] [] []) := by
 refine aS avw rfl ?_
 refine Le.trans ?_ (le_of_eq (T14 _ _ _ _ _ _ _ _ _ _ _ ).symm)
 unfold j9
 refine aM (good := good) eX agz (by first | (simp only [EN]; exact abZ ((aE.mk 1 0 false (aA.mk ([] : Str) ([] : Str) 0 false 0 0 ([] : Str) 0 ([] : List aD)) ([99] : Str) ([] : Str) false 0 5 1 (aN.mk false 0 (aA.mk ([] : Str) ([] : Str) 0 false 0 0 ([] : Str) 0 ([] : List aD))) false 0 ([] : List aF) ([] : List Str) ([] : List Int))) 3) | exact abZ ((aE.mk 1 0 false (aA.mk ([] : Str) ([] : Str) 0 false 0 0 ([] : Str) 0 ([] : List aD)) ([99] : Str) ([] : Str) false 0 5 1 (aN.mk false 0 (aA.mk ([] : Str) ([] : Str) 0 false 0 0 ([] : Str) 0 ([] : List aD))) false 0 ([] : List aF) ([] : List Str) ([] : List Int))) 3) fun r0 _ => ?_
 refine aM (good := good) eX ab0 (acM _ _) fun r1 _ => ?_
 refine aM (good := good) eX rV (by first | (simp only [EN]; exact nN r1.1 ((aA.mk ([116] : Str) ([] : Str) 1 false 0 0 ([] : Str) 1 ([] : List aD))) 9 2) | exact nN r1.1 ((aA.mk ([116] : Str) ([] : Str) 1 false 0 0 ([] : Str) 1 ([] : List aD))) 9 2) fun r2 _ => ?_
 refine aM (good := good) eX rV (by first | (simp only [EN]; exact nN r2.1 ((aA.mk ([116] : Str) ([] : Str) 1 false 0 0 ([] : Str) 2 ([] : List aD))) 9 2) | exact nN r2.1 ((aA.mk ([116] : Str) ([] : Str) 1 false 0 0 ([] : Str) 2 ([] : List aD))) 9 2) fun r3 _ => ?_
 refine aM (good := good) eX afM (age _ _) fun r4 _ => ?_
 refine aM (good := good) eX adM (by first | (simp only [EN]; exact xP r4.1 ((aE.mk 4 1 false (aA.mk ([] : Str) ([] : Str) 0 false 0 0 ([] : Str) 0 ([] : List aD)) ([] : Str) ([] : Str) false 0 0 0 (aN.mk false 0 (aA.mk ([] : Str) ([] : Str) 0 false 0 0 ([] : Str) 0 ([] : List aD))) false 0 ([] : List aF) ([] : List Str) ([] : List Int))) 0) | exact xP r4.1 ((aE.mk 4 1 false (aA.mk ([] : Str) ([] : Str) 0 false 0 0 ([] : Str) 0 ([] : List aD)) ([] : Str) ([] : Str) false 0 0 0 (aN.mk false 0 (aA.mk ([] : Str) ([] : Str) 0 false 0 0 ([] : Str) 0 ([] : List aD))) false 0 ([] : List aF) ([] : List Str) ([] : List Int))) 0) fun r5 _ => ?_
 refine aM (good := good) eX adh (adY _ _) fun r6 _ => ?_
 refine aM (good := good) eX aeo (by first | (simp only [EN]; exact xM r6 ((aE.mk 1 0 false (aA.mk ([] : Str) ([] : Str) 0 false 0 0 ([] : Str) 0 ([] : List aD)) ([99] : Str) ([] : Str) false 0 0 1 (aN.mk false 0 (aA.mk ([] : Str) ([] : Str) 0 false 0 0 ([] : Str) 0 ([] : List aD))) false 0 ([] : List aF) ([] : List Str) ([] : List Int))) 4 12) | exact xM r6 ((aE.mk 1 0 false (aA.mk ([] : Str) ([] : Str) 0 false 0 0 ([] : Str) 0 ([] : List aD)) ([99] : Str) ([] : Str) false 0 0 1 (aN.mk false 0 (aA.mk ([] : Str) ([] : Str) 0 false 0 0 ([] : Str) 0 ([] : List aD))) false 0 ([] : List aF) ([] : List Str) ([] : List Int))) 4 12) fun r7 _ => ?_
 refine lC ?_ ?_
 ·refine lC ?_ ?_
  ·refine lC ?_ ?_
   ·refine lD (by simp only [EN]) ?_ ?_
    ·refine lG (by simp only [EN]) ?_
     refine lD (by simp only [EN]) ?_ ?_
     ·refine lG (by simp only [EN]) ?_
      refine lD (by simp only [EN]) ?_ ?_
      ·refine lD (by simp only [EN]) ?_ ?_
       ·refine lG (by simp only [EN]) ?_
        refine lD (by simp only [EN]) ?_ ?_
        ·refine lC ?_ ?_
         ·refine lC ?_ ?_
          ·refine aM (good := good) eX vA (w1 _ _) fun r8 _ => ?_
           refine lC ?_ ?_
           ·refine aM (good := good) eX vA (w1 _ _) fun r9 _ => ?_
            refine lC ?_ ?_
            ·refine lC ?_ ?_
             ·refine lC ?_ ?_
              ·refine lD (by simp only [EN]) ?_ ?_
               ·refine lG (by simp only [EN]) ?_
                refine lD (by simp only [EN]) ?_ ?_
                ·refine lG (by simp only [EN]) ?_
                 exact aH (by first | rfl | simp only [EN, fC] <;> rfl)
                ·exact aH rfl
               ·exact aH rfl
              ·exact aH rfl
             ·exact aH rfl
            ·exact aH rfl
           ·exact aH rfl
          ·exact aH rfl
         ·exact aH rfl
        ·exact aH rfl
       ·exact aH rfl
      ·exact aH rfl
     ·exact aH rfl
    ·exact aH rfl
   ·exact aH rfl
  ·exact aH rfl
 ·exact aH rfl
section
variable (Γ : Fun)  (Λ2 J : Lam)
def C53 : aP := aO Γ
theorem T53 (p0 : aC) (p1 : Int) : bC SE (C53 Γ) Λ2 J 53 [aC.av p0, .d (.int .i64 p1)] [] [] =
 cond (decide ((IntKind.wrap .i64 (p0.Dropped + p1)) > 1099511627776)) (
 (some (.ret [aC.av (aC.mk p0.Client p0.User p0.Online p0.Conn p0.Expiry p0.Until 1099511627776 p0.Subs p0.Queue p0.Out p0.In p0.Will)] [] []))) (
 (some (.ret [aC.av (aC.mk p0.Client p0.User p0.Online p0.Conn p0.Expiry p0.Until (IntKind.wrap .i64 (p0.Dropped + p1)) p0.Subs p0.Queue p0.Out p0.In p0.Will)] [] []))) := by kernel_rfl
end
abbrev X53 : aP := C53 gG
theorem avv : X53 = aO gG := rfl
theorem oP (p0 : aC) (p1 : Int) : Le (Option.map fM (gL p0 p1)) (aY SE 53 [aC.av p0, .d (.int .i64 p1)] [] []) := by
 refine aS avv rfl ?_
 refine Le.trans ?_ (le_of_eq (T53 _ _ _  p0 p1).symm)
 unfold gL
 refine lC ?_ ?_
 ·exact aH rfl
 ·exact aH rfl
def ak0 (C : aP) (Λ2 J : Lam) (a0 : (List (List D))) (a1 : Int) (a2 : (List D)) : Res := lab SE C Λ2 J 54 0 [1, 1, 1, 0] (bA [(0, .d (.sl aA.ks a0)), (3, .d (.int .i64 a1)), (5, .ptr 1000000000 0)] [⟨34, (List.map AV.d a2)⟩] [] [] [])
section
variable (Γ : Fun)  (Λ2 J : Lam)
def C54 : aP := aO Γ
theorem T54 (p0 : (List aA)) (p1 : aA) (p2 : Int) (p3 : Int) : bC SE (C54 Γ) Λ2 J 54 [.d (.sl aA.ks (List.map aA.enc p0)), aA.av p1, .d (.int .i64 p2), .d (.int .i64 p3)] [] [] =
 cond (decide ((List.length (List.map aA.enc p0) : Int) < p2)) (
 cond (decide ((List.length (List.map aA.enc []) + List.length (List.map aA.enc p0)) * 112 ≤ 140737488355328)) (
  cond (decide ((List.length ((List.map aA.enc []) ++ (List.map aA.enc p0)) + List.length (List.map aA.enc [p1])) * 112 ≤ 140737488355328)) (
  (some (.ret [.d (.sl aA.ks (((List.map aA.enc []) ++ (List.map aA.enc p0)) ++ (List.map aA.enc [p1]))), .row 0, .d (.bool false)] [] [⟨aA.ks, 34, 112, []⟩]))) none) none) (
 cond (p3 == 1) (
 cond (decide (p2 ≥ 1)) (
  cond (decide (0 ≤ 1) && decide (1 ≤ ((List.length (List.map aA.enc p0)) : Int))) (
  cond (decide ((List.length (List.map aA.enc []) + List.length (bO (List.map aA.enc p0) (some 1) none)) * 112 ≤ 140737488355328)) (
   cond (decide ((List.length ((List.map aA.enc []) ++ (bO (List.map aA.enc p0) (some 1) none)) + List.length (List.map aA.enc [p1])) * 112 ≤ 140737488355328)) (
   cond (decide (0 ≤ 0) && decide (0 < (List.length (List.map aA.enc p0) : Int))) (
    (some (.ret [.d (.sl aA.ks (((List.map aA.enc []) ++ (bO (List.map aA.enc p0) (some 1) none)) ++ (List.map aA.enc [p1]))), .row 0, .d (.bool false)] [] [⟨aA.ks, 34, 112, [[D.str (aV (cellAt (elemAt (List.map aA.enc p0) (Int.toNat 0)) 0)), D.str (aV (cellAt (elemAt (List.map aA.enc p0) (Int.toNat 0)) 1)), D.int .i64 (aL (cellAt (elemAt (List.map aA.enc p0) (Int.toNat 0)) 2)), D.bool (aX (cellAt (elemAt (List.map aA.enc p0) (Int.toNat 0)) 3)), D.int .i64 (aL (cellAt (elemAt (List.map aA.enc p0) (Int.toNat 0)) 4)), D.int .i64 (aL (cellAt (elemAt (List.map aA.enc p0) (Int.toNat 0)) 5)), D.str (aV (cellAt (elemAt (List.map aA.enc p0) (Int.toNat 0)) 6)), D.int .i64 (aL (cellAt (elemAt (List.map aA.enc p0) (Int.toNat 0)) 7)), D.sl aD.ks (dSl (cellAt (elemAt (List.map aA.enc p0) (Int.toNat 0)) 8))]]⟩]))) none) none) none) none) (
 ak0 (C54 Γ) Λ2 J (List.map aA.enc p0) p3 (aA.enc p1))) (
 ak0 (C54 Γ) Λ2 J (List.map aA.enc p0) p3 (aA.enc p1))) := by kernel_rfl
theorem asS (x0 : (List aA)) (x3 : Int) (b0 : aA) : bW SE (C54 Γ) Λ2 J 54 0 [1, 1, 1, 0] (bA [(0, .d (.sl aA.ks (List.map aA.enc x0))), (3, .d (.int .i64 x3)), (5, .ptr 1000000000 0)] [⟨34, (List.map AV.d (aA.enc b0))⟩] [] [] []) =
 (some (.ret [.d (.sl aA.ks (List.map aA.enc x0)), .row 0, .d (.bool (x3 == 3))] [] [⟨aA.ks, 34, 112, (List.map aA.enc [b0])⟩])) := by kernel_rfl
end
abbrev X54 : aP := C54 gG
theorem arK : X54 = aO gG := rfl
noncomputable abbrev ase (a0 : (List (List D))) (a1 : Int) (a2 : (List D)) : Res := ak0 X54 (bU SE gG (SE.hl 54) (SE.hr 54)) (J0 SE X54) a0 a1 a2
theorem sJ (x0 : (List aA)) (x3 : Int) (b0 : aA) : Le (Option.map dF (nQ x0 x3 b0)) (ase (List.map aA.enc x0) x3 (aA.enc b0)) := by
 refine Le.trans ?_ (le_of_eq ((bB arK).trans (asS _ _ _  x0 x3 b0)).symm)
 unfold nQ
 exact aH rfl
theorem adz (p0 : (List aA)) (p1 : aA) (p2 : Int) (p3 : Int) : Le (Option.map dF (nM p0 p1 p2 p3)) (aY SE 54 [.d (.sl aA.ks (List.map aA.enc p0)), aA.av p1, .d (.int .i64 p2), .d (.int .i64 p3)] [] []) := by
 refine aS arK rfl ?_
 refine Le.trans ?_ (le_of_eq (T54 _ _ _  p0 p1 p2 p3).symm)
 unfold nM
 refine lD (by simp only [EN]) ?_ ?_
 ·refine lG (by simp only [EN]) ?_
  refine lG (by simp only [EN]) ?_
  exact aH (by first | rfl | simp only [EN, dF] <;> rfl)
 ·refine lC ?_ ?_
  ·refine lC ?_ ?_
   ·refine lG (by simp only [EN]) ?_
    refine lG (by simp only [EN]) ?_
    refine lG (by simp only [EN]) ?_
    refine lG (by simp only [EN]) ?_
    exact aH (by first | rfl | simp only [EN, dF] <;> rfl)
   ·exact sJ p0 p3 p1
  ·exact sJ p0 p3 p1
def akM (C : aP) (Λ2 J : Lam) (a0 : Int) (a1 : Int) (a2 : (List D)) (a3 : (List D)) (a4 : (List D)) : Res := lab SE C Λ2 J 16 0 [1, 1, 1, 0] (bA [(2, .d (.int .i64 a0)), (3, .d (.int .i64 a1)), (4, .ptr 1000000000 0), (5, .ptr 1000000001 0), (8, .ptr 1000000002 0)] [⟨38, (List.map AV.d a2)⟩, ⟨34, (List.map AV.d a3)⟩, ⟨38, (List.map AV.d a4)⟩] [] [] [])
def alm (C : aP) (Λ2 J : Lam) (a0 : Int) (a1 : Int) (a2 : (List D)) (a3 : (List D)) (a4 : (List D)) : Res := lab SE C Λ2 J 16 0 [1, 1, 0, 0] (bA [(2, .d (.int .i64 a0)), (3, .d (.int .i64 a1)), (4, .ptr 1000000000 0), (5, .ptr 1000000001 0), (8, .ptr 1000000002 0)] [⟨38, (List.map AV.d a2)⟩, ⟨34, (List.map AV.d a3)⟩, ⟨38, (List.map AV.d a4)⟩] [] [] [])
section
variable (Γ : Fun) (γ53 : Gm (aC)) (γ54 : Gm ((List aA) × (List aA) × Bool)) (Λ2 J : Lam)
def C16 : aP := aZ (aZ (aO Γ) 53 fM γ53) 54 dF γ54
theorem T16 (p0 : aC) (p1 : aA) (p2 : Int) (p3 : Int) : bC SE (C16 Γ γ53 γ54) Λ2 J 16 [aC.av p0, aA.av p1, .d (.int .i64 p2), .d (.int .i64 p3)] [] [] =
 cond (!p0.Online) (
 cond (p1.Level == 0) (
  γ53 [aC.av p0, .d (.int .i64 1)] [] [] fun r0 =>
  (some (.ret [aC.av r0, .d (.bool false)] [] []))) (
 alm (C16 Γ γ53 γ54) Λ2 J p2 p3 (aC.enc p0) (aA.enc p1) [D.str ([] : Str), D.str ([] : Str), D.bool false, D.int .i64 0, D.int .i64 0, D.int .i64 0, D.int .i64 0, D.sl aF.ks (List.map aF.enc []), D.sl aA.ks (List.map aA.enc []), D.int .i64 0, D.sl aB.ks (List.map aB.enc []), D.sl [.int .i64] (List.map (encI .i64) []), D.int .i64 0, D.sl [.int .i64] (List.map (encI .i64) []), D.bool false, D.int .i64 0, D.str ([] : Str), D.str ([] : Str), D.int .i64 0, D.bool false, D.int .i64 0, D.int .i64 0, D.str ([] : Str), D.int .i64 0, D.sl aD.ks (List.map aD.enc [])])) (
 alm (C16 Γ γ53 γ54) Λ2 J p2 p3 (aC.enc p0) (aA.enc p1) [D.str ([] : Str), D.str ([] : Str), D.bool false, D.int .i64 0, D.int .i64 0, D.int .i64 0, D.int .i64 0, D.sl aF.ks (List.map aF.enc []), D.sl aA.ks (List.map aA.enc []), D.int .i64 0, D.sl aB.ks (List.map aB.enc []), D.sl [.int .i64] (List.map (encI .i64) []), D.int .i64 0, D.sl [.int .i64] (List.map (encI .i64) []), D.bool false, D.int .i64 0, D.str ([] : Str), D.str ([] : Str), D.int .i64 0, D.bool false, D.int .i64 0, D.int .i64 0, D.str ([] : Str), D.int .i64 0, D.sl aD.ks (List.map aD.enc [])]) := by kernel_rfl
theorem asT (x2 : Int) (x3 : Int) (b0 : aC) (b1 : aA) (b2 : aC) : bW SE (C16 Γ γ53 γ54) Λ2 J 16 0 [1, 1, 1, 0] (bA [(2, .d (.int .i64 x2)), (3, .d (.int .i64 x3)), (4, .ptr 1000000000 0), (5, .ptr 1000000001 0), (8, .ptr 1000000002 0)] [⟨38, (List.map AV.d (aC.enc b0))⟩, ⟨34, (List.map AV.d (aA.enc b1))⟩, ⟨38, (List.map AV.d (aC.enc b2))⟩] [] [] []) =
 γ54 [.d (.sl aA.ks (List.map aA.enc b0.Queue)), aA.av b1, .d (.int .i64 x2), .d (.int .i64 x3)] [] [] fun r1 =>
 γ53 [aC.av (aC.mk b0.Client b0.User b0.Online b0.Conn b0.Expiry b0.Until b0.Dropped b0.Subs r1.1 b0.Out b0.In b0.Will), .d (.int .i64 (List.length (List.map aA.enc r1.2.1) : Int))] [] [] fun r2 =>
 cond r1.2.2 (
 (some (.ret [aC.av r2, .d (.bool b0.Online)] [] []))) (
 (some (.ret [aC.av r2, .d (.bool false)] [] []))) := by kernel_rfl
theorem atl (x2 : Int) (x3 : Int) (b0 : aC) (b1 : aA) (b2 : aC) : bW SE (C16 Γ γ53 γ54) Λ2 J 16 0 [1, 1, 0, 0] (bA [(2, .d (.int .i64 x2)), (3, .d (.int .i64 x3)), (4, .ptr 1000000000 0), (5, .ptr 1000000001 0), (8, .ptr 1000000002 0)] [⟨38, (List.map AV.d (aC.enc b0))⟩, ⟨34, (List.map AV.d (aA.enc b1))⟩, ⟨38, (List.map AV.d (aC.enc b2))⟩] [] [] []) =
 cond (decide (x2 > 256)) (
 akM (C16 Γ γ53 γ54) Λ2 J 256 x3 (aC.enc b0) (aA.enc b1) (aC.enc b2)) (
 akM (C16 Γ γ53 γ54) Λ2 J x2 x3 (aC.enc b0) (aA.enc b1) (aC.enc b2)) := by kernel_rfl
end
abbrev X16 : aP := C16 gG (cT 53 fM) (cT 54 dF)
theorem anG : X16 = aO gG := by unfold X16 C16; rw [aK fun _ h => h, aK fun _ h => h]
noncomputable abbrev asd (a0 : Int) (a1 : Int) (a2 : (List D)) (a3 : (List D)) (a4 : (List D)) : Res := akM X16 (bU SE gG (SE.hl 16) (SE.hr 16)) (J0 SE X16) a0 a1 a2 a3 a4
noncomputable abbrev ast (a0 : Int) (a1 : Int) (a2 : (List D)) (a3 : (List D)) (a4 : (List D)) : Res := alm X16 (bU SE gG (SE.hl 16) (SE.hr 16)) (J0 SE X16) a0 a1 a2 a3 a4
theorem rQ (x2 : Int) (x3 : Int) (b0 : aC) (b1 : aA) (b2 : aC) : Le (Option.map eF (j6 x2 x3 b0 b1 b2)) (asd x2 x3 (aC.enc b0) (aA.enc b1) (aC.enc b2)) := by
 refine Le.trans ?_ (le_of_eq ((bB anG).trans (asT _ _ _ _ _  x2 x3 b0 b1 b2)).symm)
 unfold j6
 refine aM (good := good) eX acL (adz _ _ _ _) fun r1 _ => ?_
 refine aM (good := good) eX rP (by first | (simp only [EN]; exact oP (aC.mk b0.Client b0.User b0.Online b0.Conn b0.Expiry b0.Until b0.Dropped b0.Subs r1.1 b0.Out b0.In b0.Will) (List.length r1.2.1 : Int)) | exact oP (aC.mk b0.Client b0.User b0.Online b0.Conn b0.Expiry b0.Until b0.Dropped b0.Subs r1.1 b0.Out b0.In b0.Will) (List.length r1.2.1 : Int)) fun r2 _ => ?_
 refine lC ?_ ?_
 ·exact aH rfl
 ·exact aH rfl
theorem kJ (x2 : Int) (x3 : Int) (b0 : aC) (b1 : aA) (b2 : aC) : Le (Option.map eF (j2 x2 x3 b0 b1 b2)) (ast x2 x3 (aC.enc b0) (aA.enc b1) (aC.enc b2)) := by
 refine Le.trans ?_ (le_of_eq ((bB anG).trans (atl _ _ _ _ _  x2 x3 b0 b1 b2)).symm)
 unfold j2
 refine lC ?_ ?_
 ·exact rQ 256 x3 b0 b1 b2
 ·exact rQ x2 x3 b0 b1 b2
theorem acp (p0 : aC) (p1 : aA) (p2 : Int) (p3 : Int) : Le (Option.map eF (mD p0 p1 p2 p3)) (aY SE 16 [aC.av p0, aA.av p1, .d (.int .i64 p2), .d (.int .i64 p3)] [] []) := by
 refine aS anG rfl ?_
 refine Le.trans ?_ (le_of_eq (T16 _ _ _ _ _  p0 p1 p2 p3).symm)
 unfold mD
 refine lC ?_ ?_
 ·refine lC ?_ ?_
  ·refine aM (good := good) eX rP (oP _ _) fun r0 _ => ?_
   exact aH rfl
  ·first | (simp only [EN]; exact kJ p2 p3 p0 p1 ((aC.mk ([] : Str) ([] : Str) false 0 0 0 0 ([] : List aF) ([] : List aA) (aG.mk 0 ([] : List aB) (aJ.mk ([] : List Int) 0)) (aQ.mk ([] : List Int)) (aN.mk false 0 (aA.mk ([] : Str) ([] : Str) 0 false 0 0 ([] : Str) 0 ([] : List aD)))))) | exact kJ p2 p3 p0 p1 ((aC.mk ([] : Str) ([] : Str) false 0 0 0 0 ([] : List aF) ([] : List aA) (aG.mk 0 ([] : List aB) (aJ.mk ([] : List Int) 0)) (aQ.mk ([] : List Int)) (aN.mk false 0 (aA.mk ([] : Str) ([] : Str) 0 false 0 0 ([] : Str) 0 ([] : List aD)))))
 ·first | (simp only [EN]; exact kJ p2 p3 p0 p1 ((aC.mk ([] : Str) ([] : Str) false 0 0 0 0 ([] : List aF) ([] : List aA) (aG.mk 0 ([] : List aB) (aJ.mk ([] : List Int) 0)) (aQ.mk ([] : List Int)) (aN.mk false 0 (aA.mk ([] : Str) ([] : Str) 0 false 0 0 ([] : Str) 0 ([] : List aD)))))) | exact kJ p2 p3 p0 p1 ((aC.mk ([] : Str) ([] : Str) false 0 0 0 0 ([] : List aF) ([] : List aA) (aG.mk 0 ([] : List aB) (aJ.mk ([] : List Int) 0)) (aQ.mk ([] : List Int)) (aN.mk false 0 (aA.mk ([] : Str) ([] : Str) 0 false 0 0 ([] : Str) 0 ([] : List aD)))))
def ale (C : aP) (Λ2 J : Lam) (a0 : (List (List D))) (a1 : (List (List D))) (a2 : Int) : Res := lab SE C Λ2 J 55 0 [1, 1, 0, 1, 0] (bA [(0, .d (.sl aF.ks a0)), (1, .d (.sl aF.ks a1)), (5, .d (.int .i64 a2))] [] [] [] [])
section
variable (Γ : Fun)  (Λ2 J : Lam)
def C55 : aP := aO Γ
theorem T55 (p0 : (List aF)) (p1 : (List aF)) : bC SE (C55 Γ) Λ2 J 55 [.d (.sl aF.ks (List.map aF.enc p0)), .d (.sl aF.ks (List.map aF.enc p1))] [] [] =
 cond ((List.length (List.map aF.enc p0) : Int) != (List.length (List.map aF.enc p1) : Int)) (
 (some (.ret [.d (.bool false)] [] []))) (
 ale (C55 Γ) Λ2 J (List.map aF.enc p0) (List.map aF.enc p1) 0) := by kernel_rfl
theorem atH (x0 : (List aF)) (x1 : (List aF)) (x5 : Int) : bW SE (C55 Γ) Λ2 J 55 0 [1, 1, 0, 1, 0] (bA [(0, .d (.sl aF.ks (List.map aF.enc x0))), (1, .d (.sl aF.ks (List.map aF.enc x1))), (5, .d (.int .i64 x5))] [] [] [] []) =
 cond (decide (x5 < (List.length (List.map aF.enc x0) : Int))) (
 cond (decide (0 ≤ x5) && decide (x5 < (List.length (List.map aF.enc x0) : Int))) (
  cond (decide (0 ≤ x5) && decide (x5 < (List.length (List.map aF.enc x1) : Int))) (
  cond (!((aV (cellAt (elemAt (List.map aF.enc x0) (Int.toNat x5)) 0)) == (aV (cellAt (elemAt (List.map aF.enc x1) (Int.toNat x5)) 0)))) (
   (some (.ret [.d (.bool false)] [] []))) (
  cond (decide (0 ≤ x5) && decide (x5 < (List.length (List.map aF.enc x0) : Int))) (
   cond (decide (0 ≤ x5) && decide (x5 < (List.length (List.map aF.enc x1) : Int))) (
   cond ((aL (cellAt (elemAt (List.map aF.enc x0) (Int.toNat x5)) 1)) != (aL (cellAt (elemAt (List.map aF.enc x1) (Int.toNat x5)) 1))) (
    (some (.ret [.d (.bool false)] [] []))) (
   cond (decide (0 ≤ x5) && decide (x5 < (List.length (List.map aF.enc x0) : Int))) (
    cond (decide (0 ≤ x5) && decide (x5 < (List.length (List.map aF.enc x1) : Int))) (
    cond ((aX (cellAt (elemAt (List.map aF.enc x0) (Int.toNat x5)) 2)) != (aX (cellAt (elemAt (List.map aF.enc x1) (Int.toNat x5)) 2))) (
     (some (.ret [.d (.bool false)] [] []))) (
    ale (C55 Γ) Λ2 J (List.map aF.enc x0) (List.map aF.enc x1) (IntKind.wrap .i64 (x5 + 1)))) none) none)) none) none)) none) none) (
 (some (.ret [.d (.bool true)] [] []))) := by kernel_rfl
end
abbrev X55 : aP := C55 gG
theorem apP : X55 = aO gG := rfl
noncomputable abbrev asr (a0 : (List (List D))) (a1 : (List (List D))) (a2 : Int) : Res := ale X55 (bU SE gG (SE.hl 55) (SE.hr 55)) (J0 SE X55) a0 a1 a2
theorem aaW : ∀ (fu : Nat) (x0 : (List aF)) (x1 : (List aF)) (x5 : Int), Le (Option.map fR (gQ fu x0 x1 x5)) (asr (List.map aF.enc x0) (List.map aF.enc x1) x5) := by
 intro fu
 induction fu with
 | zero => intros; exact le_none
 | succ fu ih =>
  intro x0 x1 x5
  refine Le.trans ?_ (le_of_eq ((bB apP).trans (atH _ _ _  x0 x1 x5)).symm)
  unfold gQ
  refine lD (by simp only [EN]) ?_ ?_
  ·refine lG (by simp only [EN]) ?_
   refine lG (by simp only [EN]) ?_
   refine lD (by simp only [EN]) ?_ ?_
   ·exact aH rfl
   ·refine lG (by simp only [EN]) ?_
    refine lG (by simp only [EN]) ?_
    refine lD (by simp only [EN]) ?_ ?_
    ·exact aH rfl
    ·refine lG (by simp only [EN]) ?_
     refine lG (by simp only [EN]) ?_
     refine lD (by simp only [EN]) ?_ ?_
     ·exact aH rfl
     ·exact ih x0 x1 (IntKind.wrap .i64 (x5 + 1))
  ·exact aH rfl
theorem adj (p0 : (List aF)) (p1 : (List aF)) : Le (Option.map fR (nI p0 p1)) (aY SE 55 [.d (.sl aF.ks (List.map aF.enc p0)), .d (.sl aF.ks (List.map aF.enc p1))] [] []) := by
 refine aS apP rfl ?_
 refine Le.trans ?_ (le_of_eq (T55 _ _ _  p0 p1).symm)
 unfold nI
 refine lD (by simp only [EN]) ?_ ?_
 ·exact aH rfl
 ·exact aaW fuel p0 p1 0
def akK (C : aP) (Λ2 J : Lam) (a0 : (List (List D))) (a1 : (List (List D))) (a2 : Int) : Res := lab SE C Λ2 J 56 0 [1, 1, 0, 1, 0] (bA [(0, .d (.sl aA.ks a0)), (1, .d (.sl aA.ks a1)), (5, .d (.int .i64 a2))] [] [] [] [])
section
variable (Γ : Fun) (γ97 : Gm (Bool)) (Λ2 J : Lam)
def C56 : aP := aZ (aO Γ) 97 cD γ97
theorem T56 (p0 : (List aA)) (p1 : (List aA)) : bC SE (C56 Γ γ97) Λ2 J 56 [.d (.sl aA.ks (List.map aA.enc p0)), .d (.sl aA.ks (List.map aA.enc p1))] [] [] =
 cond ((List.length (List.map aA.enc p0) : Int) != (List.length (List.map aA.enc p1) : Int)) (
 (some (.ret [.d (.bool false)] [] []))) (
 akK (C56 Γ γ97) Λ2 J (List.map aA.enc p0) (List.map aA.enc p1) 0) := by kernel_rfl
theorem asL (x0 : (List aA)) (x1 : (List aA)) (x5 : Int) : bW SE (C56 Γ γ97) Λ2 J 56 0 [1, 1, 0, 1, 0] (bA [(0, .d (.sl aA.ks (List.map aA.enc x0))), (1, .d (.sl aA.ks (List.map aA.enc x1))), (5, .d (.int .i64 x5))] [] [] [] []) =
 cond (decide (x5 < (List.length (List.map aA.enc x0) : Int))) (
 cond (decide (0 ≤ x5) && decide (x5 < (List.length (List.map aA.enc x0) : Int))) (
  cond (decide (0 ≤ x5) && decide (x5 < (List.length (List.map aA.enc x1) : Int))) (
  γ97 [.agg [.d (.str (aV (cellAt (elemAt (List.map aA.enc x0) (Int.toNat x5)) 0))), .d (.str (aV (cellAt (elemAt (List.map aA.enc x0) (Int.toNat x5)) 1))), .d (.int .i64 (aL (cellAt (elemAt (List.map aA.enc x0) (Int.toNat x5)) 2))), .d (.bool (aX (cellAt (elemAt (List.map aA.enc x0) (Int.toNat x5)) 3))), .d (.int .i64 (aL (cellAt (elemAt (List.map aA.enc x0) (Int.toNat x5)) 4))), .d (.int .i64 (aL (cellAt (elemAt (List.map aA.enc x0) (Int.toNat x5)) 5))), .d (.str (aV (cellAt (elemAt (List.map aA.enc x0) (Int.toNat x5)) 6))), .d (.int .i64 (aL (cellAt (elemAt (List.map aA.enc x0) (Int.toNat x5)) 7))), .d (.sl aD.ks (dSl (cellAt (elemAt (List.map aA.enc x0) (Int.toNat x5)) 8)))], .agg [.d (.str (aV (cellAt (elemAt (List.map aA.enc x1) (Int.toNat x5)) 0))), .d (.str (aV (cellAt (elemAt (List.map aA.enc x1) (Int.toNat x5)) 1))), .d (.int .i64 (aL (cellAt (elemAt (List.map aA.enc x1) (Int.toNat x5)) 2))), .d (.bool (aX (cellAt (elemAt (List.map aA.enc x1) (Int.toNat x5)) 3))), .d (.int .i64 (aL (cellAt (elemAt (List.map aA.enc x1) (Int.toNat x5)) 4))), .d (.int .i64 (aL (cellAt (elemAt (List.map aA.enc x1) (Int.toNat x5)) 5))), .d (.str (aV (cellAt (elemAt (List.map aA.enc x1) (Int.toNat x5)) 6))), .d (.int .i64 (aL (cellAt (elemAt (List.map aA.enc x1) (Int.toNat x5)) 7))), .d (.sl aD.ks (dSl (cellAt (elemAt (List.map aA.enc x1) (Int.toNat x5)) 8)))]] [] [] fun r0 =>
  cond (!r0) (
   (some (.ret [.d (.bool false)] [] []))) (
  akK (C56 Γ γ97) Λ2 J (List.map aA.enc x0) (List.map aA.enc x1) (IntKind.wrap .i64 (x5 + 1)))) none) none) (
 (some (.ret [.d (.bool true)] [] []))) := by kernel_rfl
end
abbrev X56 : aP := C56 gG (cT 97 cD)
theorem arz : X56 = aO gG := by unfold X56 C56; rw [aK fun _ h => h]
noncomputable abbrev arU (a0 : (List (List D))) (a1 : (List (List D))) (a2 : Int) : Res := akK X56 (bU SE gG (SE.hl 56) (SE.hr 56)) (J0 SE X56) a0 a1 a2
theorem aaI : ∀ (fu : Nat) (x0 : (List aA)) (x1 : (List aA)) (x5 : Int), Le (Option.map fT (gM fu x0 x1 x5)) (arU (List.map aA.enc x0) (List.map aA.enc x1) x5) := by
 intro fu
 induction fu with
 | zero => intros; exact le_none
 | succ fu ih =>
  intro x0 x1 x5
  refine Le.trans ?_ (le_of_eq ((bB arz).trans (asL _ _ _ _  x0 x1 x5)).symm)
  unfold gM
  refine lD (by simp only [EN]) ?_ ?_
  ·refine lG (by simp only [EN]) ?_
   refine lG (by simp only [EN]) ?_
   refine aM (good := good) eX mT (by first | (simp only [EN]; exact gV (List.getD x0 (Int.toNat x5) default) (List.getD x1 (Int.toNat x5) default)) | exact gV (List.getD x0 (Int.toNat x5) default) (List.getD x1 (Int.toNat x5) default)) fun r0 _ => ?_
   refine lC ?_ ?_
   ·exact aH rfl
   ·exact ih x0 x1 (IntKind.wrap .i64 (x5 + 1))
  ·exact aH rfl
theorem adA (p0 : (List aA)) (p1 : (List aA)) : Le (Option.map fT (nD p0 p1)) (aY SE 56 [.d (.sl aA.ks (List.map aA.enc p0)), .d (.sl aA.ks (List.map aA.enc p1))] [] []) := by
 refine aS arz rfl ?_
 refine Le.trans ?_ (le_of_eq (T56 _ _ _ _  p0 p1).symm)
 unfold nD
 refine lD (by simp only [EN]) ?_ ?_
 ·exact aH rfl
 ·exact aaI fuel p0 p1 0
def ajv (C : aP) (Λ2 J : Lam) (a0 : (List (List D))) (a1 : (List (List D))) (a2 : Int) : Res := lab SE C Λ2 J 108 0 [1, 1, 0, 1, 0] (bA [(0, .d (.sl [.int .i64] a0)), (1, .d (.sl [.int .i64] a1)), (5, .d (.int .i64 a2))] [] [] [] [])
section
variable (Γ : Fun)  (Λ2 J : Lam)
def ajt : aP := aO Γ
theorem avu (p0 : (List Int)) (p1 : (List Int)) : bC SE (ajt Γ) Λ2 J 108 [.d (.sl [.int .i64] (List.map (encI .i64) p0)), .d (.sl [.int .i64] (List.map (encI .i64) p1))] [] [] =
 cond ((List.length (List.map (encI .i64) p0) : Int) != (List.length (List.map (encI .i64) p1) : Int)) (
 (some (.ret [.d (.bool false)] [] []))) (
 ajv (ajt Γ) Λ2 J (List.map (encI .i64) p0) (List.map (encI .i64) p1) 0) := by kernel_rfl
theorem aqJ (x0 : (List Int)) (x1 : (List Int)) (x5 : Int) : bW SE (ajt Γ) Λ2 J 108 0 [1, 1, 0, 1, 0] (bA [(0, .d (.sl [.int .i64] (List.map (encI .i64) x0))), (1, .d (.sl [.int .i64] (List.map (encI .i64) x1))), (5, .d (.int .i64 x5))] [] [] [] []) =
 cond (decide (x5 < (List.length (List.map (encI .i64) x0) : Int))) (
 cond (decide (0 ≤ x5) && decide (x5 < (List.length (List.map (encI .i64) x0) : Int))) (
  cond (decide (0 ≤ x5) && decide (x5 < (List.length (List.map (encI .i64) x1) : Int))) (
  cond ((aL (cellAt (elemAt (List.map (encI .i64) x0) (Int.toNat x5)) 0)) != (aL (cellAt (elemAt (List.map (encI .i64) x1) (Int.toNat x5)) 0))) (
   (some (.ret [.d (.bool false)] [] []))) (
  ajv (ajt Γ) Λ2 J (List.map (encI .i64) x0) (List.map (encI .i64) x1) (IntKind.wrap .i64 (x5 + 1)))) none) none) (
 (some (.ret [.d (.bool true)] [] []))) := by kernel_rfl
end
abbrev aoe : aP := ajt gG
theorem aoo : aoe = aO gG := rfl
noncomputable abbrev apS (a0 : (List (List D))) (a1 : (List (List D))) (a2 : Int) : Res := ajv aoe (bU SE gG (SE.hl 108) (SE.hr 108)) (J0 SE aoe) a0 a1 a2
theorem aaX : ∀ (fu : Nat) (x0 : (List Int)) (x1 : (List Int)) (x5 : Int), Le (Option.map dG (gP fu x0 x1 x5)) (apS (List.map (encI .i64) x0) (List.map (encI .i64) x1) x5) := by
 intro fu
 induction fu with
 | zero => intros; exact le_none
 | succ fu ih =>
  intro x0 x1 x5
  refine Le.trans ?_ (le_of_eq ((bB aoo).trans (aqJ _ _ _  x0 x1 x5)).symm)
  unfold gP
  refine lD (by simp only [EN]) ?_ ?_
  ·refine lG (by simp only [EN]) ?_
   refine lG (by simp only [EN]) ?_
   refine lD (by simp only [EN]) ?_ ?_
   ·exact aH rfl
   ·exact ih x0 x1 (IntKind.wrap .i64 (x5 + 1))
  ·exact aH rfl
theorem uZ (p0 : (List Int)) (p1 : (List Int)) : Le (Option.map dG (kR p0 p1)) (aY SE 108 [.d (.sl [.int .i64] (List.map (encI .i64) p0)), .d (.sl [.int .i64] (List.map (encI .i64) p1))] [] []) := by
 refine aS aoo rfl ?_
 refine Le.trans ?_ (le_of_eq (avu _ _ _  p0 p1).symm)
 unfold kR
 refine lD (by simp only [EN]) ?_ ?_
 ·exact aH rfl
 ·exact aaX fuel p0 p1 0
section
variable (Γ : Fun) (γ108 : Gm (Bool)) (Λ2 J : Lam)
def an8 : aP := aZ (aO Γ) 108 dG γ108
theorem aud (p0 : aJ) (p1 : aJ) : bC SE (an8 Γ γ108) Λ2 J 107 [aJ.av p0, aJ.av p1] [] [] =
 cond (p0.Last == p1.Last) (
 γ108 [.d (.sl [.int .i64] (List.map (encI .i64) p0.Used)), .d (.sl [.int .i64] (List.map (encI .i64) p1.Used))] [] [] fun r0 =>
 (some (.ret [.d (.bool r0)] [] []))) (
 (some (.ret [.d (.bool false)] [] []))) := by kernel_rfl
end
abbrev arw : aP := an8 gG (cT 108 dG)
theorem atG : arw = aO gG := by unfold arw an8; rw [aK fun _ h => h]
theorem adt (p0 : aJ) (p1 : aJ) : Le (Option.map iI (pS p0 p1)) (aY SE 107 [aJ.av p0, aJ.av p1] [] []) := by
 refine aS atG rfl ?_
 refine Le.trans ?_ (le_of_eq (aud _ _ _ _  p0 p1).symm)
 unfold pS
 refine lC ?_ ?_
 ·refine aM (good := good) eX tX (uZ _ _) fun r0 _ => ?_
  exact aH rfl
 ·exact aH rfl
def alG (C : aP) (Λ2 J : Lam) (a0 : Int) (a1 : (List D)) (a2 : (List D)) : Res := lab SE C Λ2 J 57 0 [1, 1, 0, 1, 0] (bA [(2, .ptr 1000000000 0), (3, .ptr 1000000001 0), (5, .d (.int .i64 a0))] [⟨29, (List.map AV.d a1)⟩, ⟨29, (List.map AV.d a2)⟩] [] [] [])
def aoN (C : aP) (Λ2 J : Lam) (a0 : (List D)) (a1 : (List D)) : Res := lab SE C Λ2 J 57 0 [1, 1, 0, 0] (bA [(2, .ptr 1000000000 0), (3, .ptr 1000000001 0)] [⟨29, (List.map AV.d a0)⟩, ⟨29, (List.map AV.d a1)⟩] [] [] [])
section
variable (Γ : Fun) (γ107 : Gm (Bool)) (γ97 : Gm (Bool)) (Λ2 J : Lam)
def C57 : aP := aZ (aZ (aO Γ) 107 iI γ107) 97 cD γ97
theorem T57 (p0 : aG) (p1 : aG) : bC SE (C57 Γ γ107 γ97) Λ2 J 57 [aG.av p0, aG.av p1] [] [] =
 cond (p0.Limit != p1.Limit) (
 (some (.ret [.d (.bool false)] [] []))) (
 γ107 [aJ.av p0.Pool, aJ.av p1.Pool] [] [] fun r0 =>
 cond (!r0) (
 (some (.ret [.d (.bool false)] [] []))) (
 cond ((List.length (List.map aB.enc p0.Items) : Int) != (List.length (List.map aB.enc p1.Items) : Int)) (
 (some (.ret [.d (.bool false)] [] []))) (
 aoN (C57 Γ γ107 γ97) Λ2 J (aG.enc p0) (aG.enc p1)))) := by kernel_rfl
theorem asu (x5 : Int) (b0 : aG) (b1 : aG) : bW SE (C57 Γ γ107 γ97) Λ2 J 57 0 [1, 1, 0, 1, 0] (bA [(2, .ptr 1000000000 0), (3, .ptr 1000000001 0), (5, .d (.int .i64 x5))] [⟨29, (List.map AV.d (aG.enc b0))⟩, ⟨29, (List.map AV.d (aG.enc b1))⟩] [] [] []) =
 cond (decide (x5 < (List.length (List.map aB.enc b0.Items) : Int))) (
 cond (decide (0 ≤ x5) && decide (x5 < (List.length (List.map aB.enc b0.Items) : Int))) (
  cond (decide (0 ≤ x5) && decide (x5 < (List.length (List.map aB.enc b1.Items) : Int))) (
  cond ((aL (cellAt (elemAt (List.map aB.enc b0.Items) (Int.toNat x5)) 0)) != (aL (cellAt (elemAt (List.map aB.enc b1.Items) (Int.toNat x5)) 0))) (
   (some (.ret [.d (.bool false)] [] []))) (
  cond (decide (0 ≤ x5) && decide (x5 < (List.length (List.map aB.enc b0.Items) : Int))) (
   cond (decide (0 ≤ x5) && decide (x5 < (List.length (List.map aB.enc b1.Items) : Int))) (
   cond ((aL (cellAt (elemAt (List.map aB.enc b0.Items) (Int.toNat x5)) 1)) != (aL (cellAt (elemAt (List.map aB.enc b1.Items) (Int.toNat x5)) 1))) (
    (some (.ret [.d (.bool false)] [] []))) (
   cond (decide (0 ≤ x5) && decide (x5 < (List.length (List.map aB.enc b0.Items) : Int))) (
    cond (decide (0 ≤ x5) && decide (x5 < (List.length (List.map aB.enc b1.Items) : Int))) (
    γ97 [.agg [.d (.str (aV (cellAt (elemAt (List.map aB.enc b0.Items) (Int.toNat x5)) 2))), .d (.str (aV (cellAt (elemAt (List.map aB.enc b0.Items) (Int.toNat x5)) 3))), .d (.int .i64 (aL (cellAt (elemAt (List.map aB.enc b0.Items) (Int.toNat x5)) 4))), .d (.bool (aX (cellAt (elemAt (List.map aB.enc b0.Items) (Int.toNat x5)) 5))), .d (.int .i64 (aL (cellAt (elemAt (List.map aB.enc b0.Items) (Int.toNat x5)) 6))), .d (.int .i64 (aL (cellAt (elemAt (List.map aB.enc b0.Items) (Int.toNat x5)) 7))), .d (.str (aV (cellAt (elemAt (List.map aB.enc b0.Items) (Int.toNat x5)) 8))), .d (.int .i64 (aL (cellAt (elemAt (List.map aB.enc b0.Items) (Int.toNat x5)) 9))), .d (.sl aD.ks (dSl (cellAt (elemAt (List.map aB.enc b0.Items) (Int.toNat x5)) 10)))], .agg [.d (.str (aV (cellAt (elemAt (List.map aB.enc b1.Items) (Int.toNat x5)) 2))), .d (.str (aV (cellAt (elemAt (List.map aB.enc b1.Items) (Int.toNat x5)) 3))), .d (.int .i64 (aL (cellAt (elemAt (List.map aB.enc b1.Items) (Int.toNat x5)) 4))), .d (.bool (aX (cellAt (elemAt (List.map aB.enc b1.Items) (Int.toNat x5)) 5))), .d (.int .i64 (aL (cellAt (elemAt (List.map aB.enc b1.Items) (Int.toNat x5)) 6))), .d (.int .i64 (aL (cellAt (elemAt (List.map aB.enc b1.Items) (Int.toNat x5)) 7))), .d (.str (aV (cellAt (elemAt (List.map aB.enc b1.Items) (Int.toNat x5)) 8))), .d (.int .i64 (aL (cellAt (elemAt (List.map aB.enc b1.Items) (Int.toNat x5)) 9))), .d (.sl aD.ks (dSl (cellAt (elemAt (List.map aB.enc b1.Items) (Int.toNat x5)) 10)))]] [] [] fun r1 =>
    cond (!r1) (
     (some (.ret [.d (.bool false)] [] []))) (
    alG (C57 Γ γ107 γ97) Λ2 J (IntKind.wrap .i64 (x5 + 1)) (aG.enc b0) (aG.enc b1))) none) none)) none) none)) none) none) (
 (some (.ret [.d (.bool true)] [] []))) := by kernel_rfl
theorem aso (b0 : aG) (b1 : aG) : bW SE (C57 Γ γ107 γ97) Λ2 J 57 0 [1, 1, 0, 0] (bA [(2, .ptr 1000000000 0), (3, .ptr 1000000001 0)] [⟨29, (List.map AV.d (aG.enc b0))⟩, ⟨29, (List.map AV.d (aG.enc b1))⟩] [] [] []) =
 alG (C57 Γ γ107 γ97) Λ2 J 0 (aG.enc b0) (aG.enc b1) := by kernel_rfl
end
abbrev X57 : aP := C57 gG (cT 107 iI) (cT 97 cD)
theorem anY : X57 = aO gG := by unfold X57 C57; rw [aK fun _ h => h, aK fun _ h => h]
noncomputable abbrev asA (a0 : Int) (a1 : (List D)) (a2 : (List D)) : Res := alG X57 (bU SE gG (SE.hl 57) (SE.hr 57)) (J0 SE X57) a0 a1 a2
noncomputable abbrev ato (a0 : (List D)) (a1 : (List D)) : Res := aoN X57 (bU SE gG (SE.hl 57) (SE.hr 57)) (J0 SE X57) a0 a1
theorem aaT : ∀ (fu : Nat) (x5 : Int) (b0 : aG) (b1 : aG), Le (Option.map eK (gK fu x5 b0 b1)) (asA x5 (aG.enc b0) (aG.enc b1)) := by
 intro fu
 induction fu with
 | zero => intros; exact le_none
 | succ fu ih =>
  intro x5 b0 b1
  refine Le.trans ?_ (le_of_eq ((bB anY).trans (asu _ _ _ _ _  x5 b0 b1)).symm)
  unfold gK
  refine lD (by simp only [EN]) ?_ ?_
  ·refine lG (by simp only [EN]) ?_
   refine lG (by simp only [EN]) ?_
   refine lD (by simp only [EN]) ?_ ?_
   ·exact aH rfl
   ·refine lG (by simp only [EN]) ?_
    refine lG (by simp only [EN]) ?_
    refine lD (by simp only [EN]) ?_ ?_
    ·exact aH rfl
    ·refine lG (by simp only [EN]) ?_
     refine lG (by simp only [EN]) ?_
     refine aM (good := good) eX mT (by first | (simp only [EN]; exact gV ((List.getD b0.Items (Int.toNat x5) default).Message) ((List.getD b1.Items (Int.toNat x5) default).Message)) | exact gV ((List.getD b0.Items (Int.toNat x5) default).Message) ((List.getD b1.Items (Int.toNat x5) default).Message)) fun r1 _ => ?_
     refine lC ?_ ?_
     ·exact aH rfl
     ·exact ih (IntKind.wrap .i64 (x5 + 1)) b0 b1
  ·exact aH rfl
theorem aaL (b0 : aG) (b1 : aG) : Le (Option.map eK (nW b0 b1)) (ato (aG.enc b0) (aG.enc b1)) := by
 refine Le.trans ?_ (le_of_eq ((bB anY).trans (aso _ _ _ _ _  b0 b1)).symm)
 unfold nW
 exact aaT fuel 0 b0 b1
theorem adi (p0 : aG) (p1 : aG) : Le (Option.map eK (nA p0 p1)) (aY SE 57 [aG.av p0, aG.av p1] [] []) := by
 refine aS anY rfl ?_
 refine Le.trans ?_ (le_of_eq (T57 _ _ _ _ _  p0 p1).symm)
 unfold nA
 refine lC ?_ ?_
 ·exact aH rfl
 ·refine aM (good := good) eX acx (adt _ _) fun r0 _ => ?_
  refine lC ?_ ?_
  ·exact aH rfl
  ·refine lD (by simp only [EN]) ?_ ?_
   ·exact aH rfl
   ·exact aaL p0 p1
section
variable (Γ : Fun) (γ108 : Gm (Bool)) (Λ2 J : Lam)
def C58 : aP := aZ (aO Γ) 108 dG γ108
theorem T58 (p0 : aQ) (p1 : aQ) : bC SE (C58 Γ γ108) Λ2 J 58 [aQ.av p0, aQ.av p1] [] [] =
 γ108 [.d (.sl [.int .i64] (List.map (encI .i64) p0.IDs)), .d (.sl [.int .i64] (List.map (encI .i64) p1.IDs))] [] [] fun r0 =>
 (some (.ret [.d (.bool r0)] [] [])) := by kernel_rfl
end
abbrev X58 : aP := C58 gG (cT 108 dG)
theorem avz : X58 = aO gG := by unfold X58 C58; rw [aK fun _ h => h]
theorem adB (p0 : aQ) (p1 : aQ) : Le (Option.map iN (pO p0 p1)) (aY SE 58 [aQ.av p0, aQ.av p1] [] []) := by
 refine aS avz rfl ?_
 refine Le.trans ?_ (le_of_eq (T58 _ _ _ _  p0 p1).symm)
 unfold pO
 refine aM (good := good) eX tX (uZ _ _) fun r0 _ => ?_
 exact aH rfl
section
variable (Γ : Fun) (γ97 : Gm (Bool)) (Λ2 J : Lam)
def C59 : aP := aZ (aO Γ) 97 cD γ97
theorem T59 (p0 : aN) (p1 : aN) : bC SE (C59 Γ γ97) Λ2 J 59 [aN.av p0, aN.av p1] [] [] =
 cond (p0.Set == p1.Set) (
 cond (p0.Delay == p1.Delay) (
  γ97 [aA.av p0.Message, aA.av p1.Message] [] [] fun r0 =>
  (some (.ret [.d (.bool r0)] [] []))) (
 (some (.ret [.d (.bool false)] [] [])))) (
 (some (.ret [.d (.bool false)] [] []))) := by kernel_rfl
end
abbrev X59 : aP := C59 gG (cT 97 cD)
theorem avt : X59 = aO gG := by unfold X59 C59; rw [aK fun _ h => h]
theorem adx (p0 : aN) (p1 : aN) : Le (Option.map iJ (pM p0 p1)) (aY SE 59 [aN.av p0, aN.av p1] [] []) := by
 refine aS avt rfl ?_
 refine Le.trans ?_ (le_of_eq (T59 _ _ _ _  p0 p1).symm)
 unfold pM
 refine lC ?_ ?_
 ·refine lC ?_ ?_
  ·refine aM (good := good) eX mT (gV _ _) fun r0 _ => ?_
   exact aH rfl
  ·exact aH rfl
 ·exact aH rfl
section
variable (Γ : Fun) (γ55 : Gm (Bool)) (γ56 : Gm (Bool)) (γ57 : Gm (Bool)) (γ58 : Gm (Bool)) (γ59 : Gm (Bool)) (Λ2 J : Lam)
def C17 : aP := aZ (aZ (aZ (aZ (aZ (aO Γ) 55 fR γ55) 56 fT γ56) 57 eK γ57) 58 iN γ58) 59 iJ γ59
theorem T17 (p0 : aC) (p1 : aC) : bC SE (C17 Γ γ55 γ56 γ57 γ58 γ59) Λ2 J 17 [aC.av p0, aC.av p1] [] [] =
 cond (p0.Client == p1.Client) (
 cond (p0.User == p1.User) (
  cond (p0.Online == p1.Online) (
  cond (p0.Conn == p1.Conn) (
   cond (p0.Expiry == p1.Expiry) (
   cond (p0.Until == p1.Until) (
    cond (p0.Dropped == p1.Dropped) (
    γ55 [.d (.sl aF.ks (List.map aF.enc p0.Subs)), .d (.sl aF.ks (List.map aF.enc p1.Subs))] [] [] fun r0 =>
    cond r0 (
     γ56 [.d (.sl aA.ks (List.map aA.enc p0.Queue)), .d (.sl aA.ks (List.map aA.enc p1.Queue))] [] [] fun r1 =>
     cond r1 (
     γ57 [aG.av p0.Out, aG.av p1.Out] [] [] fun r2 =>
     cond r2 (
      γ58 [aQ.av p0.In, aQ.av p1.In] [] [] fun r3 =>
      cond r3 (
      γ59 [aN.av p0.Will, aN.av p1.Will] [] [] fun r4 =>
      (some (.ret [.d (.bool r4)] [] []))) (
      (some (.ret [.d (.bool false)] [] [])))) (
     (some (.ret [.d (.bool false)] [] [])))) (
     (some (.ret [.d (.bool false)] [] [])))) (
    (some (.ret [.d (.bool false)] [] [])))) (
    (some (.ret [.d (.bool false)] [] [])))) (
   (some (.ret [.d (.bool false)] [] [])))) (
   (some (.ret [.d (.bool false)] [] [])))) (
  (some (.ret [.d (.bool false)] [] [])))) (
  (some (.ret [.d (.bool false)] [] [])))) (
 (some (.ret [.d (.bool false)] [] [])))) (
 (some (.ret [.d (.bool false)] [] []))) := by kernel_rfl
end
abbrev X17 : aP := C17 gG (cT 55 fR) (cT 56 fT) (cT 57 eK) (cT 58 iN) (cT 59 iJ)
theorem avQ : X17 = aO gG := by unfold X17 C17; rw [aK fun _ h => h, aK fun _ h => h, aK fun _ h => h, aK fun _ h => h, aK fun _ h => h]
theorem ady (p0 : aC) (p1 : aC) : Le (Option.map iK (nH p0 p1)) (aY SE 17 [aC.av p0, aC.av p1] [] []) := by
 refine aS avQ rfl ?_
 refine Le.trans ?_ (le_of_eq (T17 _ _ _ _ _ _ _ _  p0 p1).symm)
 unfold nH
 refine lC ?_ ?_
 ·refine lC ?_ ?_
  ·refine lC ?_ ?_
   ·refine lC ?_ ?_
    ·refine lC ?_ ?_
     ·refine lC ?_ ?_
      ·refine lC ?_ ?_
       ·refine aM (good := good) eX acn (adj _ _) fun r0 _ => ?_
        refine lC ?_ ?_
        ·refine aM (good := good) eX acr (adA _ _) fun r1 _ => ?_
         refine lC ?_ ?_
         ·refine aM (good := good) eX acw (adi _ _) fun r2 _ => ?_
          refine lC ?_ ?_
          ·refine aM (good := good) eX acg (adB _ _) fun r3 _ => ?_
           refine lC ?_ ?_
           ·refine aM (good := good) eX acd (adx _ _) fun r4 _ => ?_
            exact aH rfl
           ·exact aH rfl
          ·exact aH rfl
         ·exact aH rfl
        ·exact aH rfl
       ·exact aH rfl
      ·exact aH rfl
     ·exact aH rfl
    ·exact aH rfl
   ·exact aH rfl
  ·exact aH rfl
 ·exact aH rfl
def apL (C : aP) (Λ2 J : Lam) (a0 : Int) (a1 : Int) (a2 : (List D)) (a3 : (List D)) : Res := lab SE C Λ2 J 3 0 [1, 1, 0] (bA [(2, .d (.int .i64 a0)), (3, .d (.int .i64 a1)), (4, .ptr 1000000000 0), (5, .ptr 1000000001 0)] [⟨38, (List.map AV.d a2)⟩, ⟨34, (List.map AV.d a3)⟩] [] [] [])
section
variable (Γ : Fun) (γ12 : Gm (Int)) (γ14 : Gm (Bool)) (γ13 : Gm (Int)) (γ15 : Gm (aC × Bool)) (γ16 : Gm (aC × Bool)) (γ17 : Gm (Bool)) (Λ2 J : Lam)
def C3 : aP := aZ (aZ (aZ (aZ (aZ (aZ (aO Γ) 12 hQ γ12) 14 fC γ14) 13 bN γ13) 15 fA γ15) 16 eF γ16) 17 iK γ17
theorem T3 (p0 : aC) (p1 : aA) (p2 : Int) (p3 : Int) : bC SE (C3 Γ γ12 γ14 γ13 γ15 γ16 γ17) Λ2 J 3 [aC.av p0, aA.av p1, .d (.int .i64 p2), .d (.int .i64 p3)] [] [] =
 γ12 [aC.av p0] [] [] fun r0 =>
 cond (r0 != 0) (
 γ14 [] [] [] fun r1 =>
 (some (.ret [.d (.bool r1)] [] []))) (
 γ13 [aA.av p1] [] [] fun r2 =>
 cond (r2 != 0) (
 γ14 [] [] [] fun r3 =>
 (some (.ret [.d (.bool r3)] [] []))) (
 apL (C3 Γ γ12 γ14 γ13 γ15 γ16 γ17) Λ2 J p2 p3 (aC.enc p0) (aA.enc p1))) := by kernel_rfl
theorem avS (x2 : Int) (x3 : Int) (b0 : aC) (b1 : aA) : bW SE (C3 Γ γ12 γ14 γ13 γ15 γ16 γ17) Λ2 J 3 0 [1, 1, 0] (bA [(2, .d (.int .i64 x2)), (3, .d (.int .i64 x3)), (4, .ptr 1000000000 0), (5, .ptr 1000000001 0)] [⟨38, (List.map AV.d (aC.enc b0))⟩, ⟨34, (List.map AV.d (aA.enc b1))⟩] [] [] []) =
 γ15 [aC.av b0, aA.av b1, .d (.int .i64 x2), .d (.int .i64 x3)] [] [] fun r4 =>
 γ16 [aC.av b0, aA.av b1, .d (.int .i64 x2), .d (.int .i64 x3)] [] [] fun r5 =>
 γ14 [] [] [] fun r6 =>
 cond r6 (
 γ17 [aC.av r4.1, aC.av r5.1] [] [] fun r7 =>
 cond r7 (
  (some (.ret [.d (.bool (r4.2 == r5.2))] [] []))) (
 (some (.ret [.d (.bool false)] [] [])))) (
 (some (.ret [.d (.bool false)] [] []))) := by kernel_rfl
end
abbrev X3 : aP := C3 gG (cT 12 hQ) (cT 14 fC) (cT 13 bN) (cT 15 fA) (cT 16 eF) (cT 17 iK)
theorem Cr3 : X3 = aO gG := by unfold X3 C3; rw [aK fun _ h => h, aK fun _ h => h, aK fun _ h => h, aK fun _ h => h, aK fun _ h => h, aK fun _ h => h]
noncomputable abbrev au4 (a0 : Int) (a1 : Int) (a2 : (List D)) (a3 : (List D)) : Res := apL X3 (bU SE gG (SE.hl 3) (SE.hr 3)) (J0 SE X3) a0 a1 a2 a3
theorem tM (x2 : Int) (x3 : Int) (b0 : aC) (b1 : aA) : Le (Option.map kI (iL x2 x3 b0 b1)) (au4 x2 x3 (aC.enc b0) (aA.enc b1)) := by
 refine Le.trans ?_ (le_of_eq ((bB Cr3).trans (avS _ _ _ _ _ _ _ _ _  x2 x3 b0 b1)).symm)
 unfold iL
 refine aM (good := good) eX rV (nN _ _ _ _) fun r4 _ => ?_
 refine aM (good := good) eX abm (acp _ _ _ _) fun r5 _ => ?_
 refine aM (good := good) eX pB (pT) fun r6 _ => ?_
 refine lC ?_ ?_
 ·refine aM (good := good) eX acG (ady _ _) fun r7 _ => ?_
  refine lC ?_ ?_
  ·exact aH rfl
  ·exact aH rfl
 ·exact aH rfl
theorem vX (p0 : aC) (p1 : aA) (p2 : Int) (p3 : Int) : Le (Option.map kI (jZ p0 p1 p2 p3)) (aY SE 3 [aC.av p0, aA.av p1, .d (.int .i64 p2), .d (.int .i64 p3)] [] []) := by
 refine aS Cr3 rfl ?_
 refine Le.trans ?_ (le_of_eq (T3 _ _ _ _ _ _ _ _ _  p0 p1 p2 p3).symm)
 unfold jZ
 refine aM (good := good) eX abw (aca _) fun r0 _ => ?_
 refine lC ?_ ?_
 ·refine aM (good := good) eX pB (pT) fun r1 _ => ?_
  exact aH rfl
 ·refine aM (good := good) eX lW (j3 _) fun r2 _ => ?_
  refine lC ?_ ?_
  ·refine aM (good := good) eX pB (pT) fun r3 _ => ?_
   exact aH rfl
  ·exact tM p2 p3 p0 p1
end Te
end PX
