import Derived.Test.YtojlmojebnlmdaaGreatDoorTre1
set_option linter.unusedVariables false
set_option linter.unusedSimpArgs false
set_option maxRecDepth 100000
noncomputable section
namespace PX
open Go
open Md
namespace Te
def aqP (C : aP) (Λ2 J : Lam) (a0 : Int) (a1 a2 a3 a4 : List D) : Res := lab SE C Λ2 J 60 0 [1, 1, 1, 1, 0, 0] (aW [(2, .ptr 1000000000 0), (3, .ptr 1000000001 0), (4, .ptr 1000000002 0), (7, .d (.int .i64 a0)), (8, .ptr 1000000003 0)] [⟨29, (List.map AV.d a1)⟩, ⟨49, (List.map AV.d a2)⟩, ⟨29, (List.map AV.d a3)⟩, ⟨122, (List.map AV.d a4)⟩] [] [] [])
section
variable (Γ : Fun) (γ109 : Gm (Int)) (γ110 γ111 : Gm (aI)) (γ112 : Gm (aC)) (Λ2 J : Lam)
def C60 : aP := aY (aY (aY (aY (aQ Γ) 109 aH γ109) 110 bY γ110) 111 bY γ111) 112 bW γ112
theorem T60 (p0 : aI) (p1 : aC) : bF SE (C60 Γ γ109 γ110 γ111 γ112) Λ2 J 60 [aI.av p0, aC.av p1] [] [] =
 γ109 [.d (.sl aD.ks (List.map aD.enc p0.Items)), .d (.int .i64 p1.ID)] [] [] fun r0 =>
 cond (decide (r0 ≥ 0)) (
 cond (iB r0 (lM aD.enc p0.Items : Int)) (
  aqP (C60 Γ γ109 γ110 γ111 γ112) Λ2 J r0 (aI.enc p0) (aC.enc p1) [D.int .i64 0, D.sl aD.ks (List.map aD.enc []), D.sl [.int .i64] (List.map eI []), D.int .i64 0] [D.int .i64 (aR (cE aD.enc p0.Items r0 0)), D.int .i64 (aR (cE aD.enc p0.Items r0 1)), D.str (bD (cE aD.enc p0.Items r0 2)), D.str (bD (cE aD.enc p0.Items r0 3)), D.int .i64 (aR (cE aD.enc p0.Items r0 4)), D.bool (bN (cE aD.enc p0.Items r0 5)), D.int .i64 (aR (cE aD.enc p0.Items r0 6)), D.int .i64 (aR (cE aD.enc p0.Items r0 7)), D.str (bD (cE aD.enc p0.Items r0 8)), D.int .i64 (aR (cE aD.enc p0.Items r0 9)), D.sl aG.ks (dSl (cE aD.enc p0.Items r0 10))]) none) (
 aqP (C60 Γ γ109 γ110 γ111 γ112) Λ2 J r0 (aI.enc p0) (aC.enc p1) [D.int .i64 0, D.sl aD.ks (List.map aD.enc []), D.sl [.int .i64] (List.map eI []), D.int .i64 0] [D.int .i64 0, D.int .i64 0, D.str [], D.str [], D.int .i64 0, D.bool false, D.int .i64 0, D.int .i64 0, D.str [], D.int .i64 0, D.sl aG.ks (List.map aG.enc [])]) := by kernel_rfl
theorem aBm (x7 : Int) (b0 : aI) (b1 : aC) (b2 : aI) (b3 : aD) : bT SE (C60 Γ γ109 γ110 γ111 γ112) Λ2 J 60 0 [1, 1, 1, 1, 0, 0] (aW [(2, .ptr 1000000000 0), (3, .ptr 1000000001 0), (4, .ptr 1000000002 0), (7, .d (.int .i64 x7)), (8, .ptr 1000000003 0)] [⟨29, (List.map AV.d (aI.enc b0))⟩, ⟨49, (List.map AV.d (aC.enc b1))⟩, ⟨29, (List.map AV.d (aI.enc b2))⟩, ⟨122, (List.map AV.d (aD.enc b3))⟩] [] [] []) =
 cond (b1.Kind == 4) (
 cond (decide (x7 < 0)) (
  γ110 [aI.av b0] [] [] fun r1 =>
  (some (.ret [.agg [.d (.int .i64 r1.Limit), .row 0, .row 1, .d (.int .i64 r1.Pool.Last)], .row 2, .d (.int .i64 0)] [] [⟨aD.ks, 122, 128, (List.map aD.enc r1.Items)⟩, ⟨[.int .i64], 3, 8, (List.map eI r1.Pool.Used)⟩, ⟨aC.ks, 49, 416, []⟩]))) (
 cond (b3.Message.Level == 1) (
  γ111 [aI.av b0, .d (.int .i64 x7)] [] [] fun r2 =>
  (some (.ret [.agg [.d (.int .i64 r2.Limit), .row 0, .row 1, .d (.int .i64 r2.Pool.Last)], .row 2, .d (.int .i64 0)] [] [⟨aD.ks, 122, 128, (List.map aD.enc r2.Items)⟩, ⟨[.int .i64], 3, 8, (List.map eI r2.Pool.Used)⟩, ⟨aC.ks, 49, 416, []⟩]))) (
 (some (.ret [.agg [.d (.int .i64 0), .row 0, .row 1, .d (.int .i64 0)], .row 2, .d (.int .i64 23)] [] [⟨aD.ks, 122, 128, (List.map aD.enc [])⟩, ⟨[.int .i64], 3, 8, (List.map eI [])⟩, ⟨aC.ks, 49, 416, []⟩]))))) (
 cond (b1.Kind == 5) (
 cond (decide (x7 < 0)) (
  γ110 [aI.av b0] [] [] fun r3 =>
  γ112 [.d (.int .i64 b1.ID)] [] [] fun r4 =>
  (some (.ret [.agg [.d (.int .i64 r3.Limit), .row 0, .row 1, .d (.int .i64 r3.Pool.Last)], .row 2, .d (.int .i64 0)] [] [⟨aD.ks, 122, 128, (List.map aD.enc r3.Items)⟩, ⟨[.int .i64], 3, 8, (List.map eI r3.Pool.Used)⟩, ⟨aC.ks, 49, 416, (List.map aC.enc [r4])⟩]))) (
 cond (b3.Message.Level == 2) (
  γ110 [aI.av b0] [] [] fun r5 =>
  cond (iB x7 (lM aD.enc r5.Items : Int)) (
  γ112 [.d (.int .i64 b1.ID)] [] [] fun r6 =>
  (some (.ret [.agg [.d (.int .i64 r5.Limit), .row 0, .row 1, .d (.int .i64 r5.Pool.Last)], .row 2, .d (.int .i64 0)] [] [⟨aD.ks, 122, 128, (m7 (List.map aD.enc r5.Items) (Int.toNat x7) 1 [D.int .i64 2])⟩, ⟨[.int .i64], 3, 8, (List.map eI r5.Pool.Used)⟩, ⟨aC.ks, 49, 416, (List.map aC.enc [r6])⟩]))) none) (
 (some (.ret [.agg [.d (.int .i64 0), .row 0, .row 1, .d (.int .i64 0)], .row 2, .d (.int .i64 23)] [] [⟨aD.ks, 122, 128, (List.map aD.enc [])⟩, ⟨[.int .i64], 3, 8, (List.map eI [])⟩, ⟨aC.ks, 49, 416, []⟩]))))) (
 cond (b1.Kind == 7) (
 cond (decide (x7 < 0)) (
  γ110 [aI.av b0] [] [] fun r7 =>
  (some (.ret [.agg [.d (.int .i64 r7.Limit), .row 0, .row 1, .d (.int .i64 r7.Pool.Last)], .row 2, .d (.int .i64 0)] [] [⟨aD.ks, 122, 128, (List.map aD.enc r7.Items)⟩, ⟨[.int .i64], 3, 8, (List.map eI r7.Pool.Used)⟩, ⟨aC.ks, 49, 416, []⟩]))) (
 cond (b3.State == 2) (
  γ111 [aI.av b0, .d (.int .i64 x7)] [] [] fun r8 =>
  (some (.ret [.agg [.d (.int .i64 r8.Limit), .row 0, .row 1, .d (.int .i64 r8.Pool.Last)], .row 2, .d (.int .i64 0)] [] [⟨aD.ks, 122, 128, (List.map aD.enc r8.Items)⟩, ⟨[.int .i64], 3, 8, (List.map eI r8.Pool.Used)⟩, ⟨aC.ks, 49, 416, []⟩]))) (
 (some (.ret [.agg [.d (.int .i64 0), .row 0, .row 1, .d (.int .i64 0)], .row 2, .d (.int .i64 23)] [] [⟨aD.ks, 122, 128, (List.map aD.enc [])⟩, ⟨[.int .i64], 3, 8, (List.map eI [])⟩, ⟨aC.ks, 49, 416, []⟩]))))) (
 (some (.ret [.agg [.d (.int .i64 0), .row 0, .row 1, .d (.int .i64 0)], .row 2, .d (.int .i64 10)] [] [⟨aD.ks, 122, 128, (List.map aD.enc [])⟩, ⟨[.int .i64], 3, 8, (List.map eI [])⟩, ⟨aC.ks, 49, 416, []⟩]))))) := by kernel_rfl
end
abbrev X60 : aP := C60 gG (cT 109 aH) (cT 110 bY) (cT 111 bY) (cT 112 bW)
theorem ayI : X60 = aQ gG := by unfold X60 C60; repeat rw [bC fun _ h => h]
abbrev aA3 := aqP X60 (bP SE gG (SE.hl 60) (SE.hr 60)) (J0 SE X60)
theorem zA (x7 : Int) (b0 : aI) (b1 : aC) (b2 : aI) (b3 : aD) : Le (Option.map gM (lB x7 b0 b1 b2 b3)) (aA3 x7 (aI.enc b0) (aC.enc b1) (aI.enc b2) (aD.enc b3)) := by
 refine Le.trans ?_ (le_of_eq ((aZ ayI).trans (aBm ..)).symm)
 unfold lB
 refine lC ?_ ?_
 ·refine lC ?_ ?_
  ·refine lQ eX fC (mT _) fun r1 _ => ?_
   exact aJ rfl
  ·refine lC ?_ ?_
   ·refine lQ eX fC (abI _ _) fun r2 _ => ?_
    exact aJ rfl
   ·exact aJ rfl
 ·refine lC ?_ ?_
  ·refine lC ?_ ?_
   ·refine lQ eX fC (mT _) fun r3 _ => ?_
    refine lQ eX eP (wL _) fun r4 _ => ?_
    exact aJ rfl
   ·refine lC ?_ ?_
    ·refine lQ eX fC (mT _) fun r5 _ => ?_
     refine lG (by simp only [EN]) ?_
     refine lQ eX eP (wL _) fun r6 _ => ?_
     exact aJ (by first | rfl | simp only [EN, gM] <;> rfl)
    ·exact aJ rfl
  ·refine lC ?_ ?_
   ·refine lC ?_ ?_
    ·refine lQ eX fC (mT _) fun r7 _ => ?_
     exact aJ rfl
    ·refine lC ?_ ?_
     ·refine lQ eX fC (abI _ _) fun r8 _ => ?_
      exact aJ rfl
     ·exact aJ rfl
   ·exact aJ rfl
theorem ait (p0 : aI) (p1 : aC) : Le (Option.map gM (sS p0 p1)) (bA SE 60 [aI.av p0, aC.av p1] [] []) := by
 refine aV ayI rfl ?_
 refine Le.trans ?_ (le_of_eq (T60 ..).symm)
 unfold sS
 refine lQ eX aS (ads _ _) fun r0 _ => ?_
 refine lC ?_ ?_
 ·refine lG (by simp only [EN]) ?_
  (try simp only [EN]); exact zA r0 p0 p1 ((aI.mk 0 [] (aO.mk [] 0))) (List.getD p0.Items (Int.toNat r0) default)
 ·(try simp only [EN]); exact zA r0 p0 p1 ((aI.mk 0 [] (aO.mk [] 0))) ((aD.mk 0 0 (aA.mk [] [] 0 false 0 0 [] 0 [])))
section
variable (Γ : Fun) (γ60 : Gm (aI × (List aC) × Int)) (γ50 : Gm (aB)) (γ61 : Gm (aB × (List aC))) (Λ2 J : Lam)
def C19 : aP := aY (aY (aY (aQ Γ) 60 gM γ60) 50 cB γ50) 61 bK γ61
theorem T19 (p0 : aB) (p1 : aC) (p2 : Int) : bF SE (C19 Γ γ60 γ50 γ61) Λ2 J 19 [aB.av p0, aC.av p1, .d (.int .i64 p2)] [] [] =
 γ60 [aI.av p0.Out, aC.av p1] [] [] fun r0 =>
 cond (r0.2.2 != 0) (
 (some (.ret [.agg [.d (.str []), .d (.str []), .d (.bool false), .d (.int .i64 0), .d (.int .i64 0), .d (.int .i64 0), .d (.int .i64 0), .d (.sl aF.ks (List.map aF.enc [])), .d (.sl aA.ks (List.map aA.enc [])), .d (.int .i64 0), .d (.sl aD.ks (List.map aD.enc [])), .d (.sl [.int .i64] (List.map eI [])), .d (.int .i64 0), .d (.sl [.int .i64] (List.map eI [])), .d (.bool false), .d (.int .i64 0), .d (.str []), .d (.str []), .d (.int .i64 0), .d (.bool false), .d (.int .i64 0), .d (.int .i64 0), .d (.str []), .d (.int .i64 0), .d (.sl aG.ks (List.map aG.enc []))], .row 0, .d (.int .i64 r0.2.2)] [] [⟨aC.ks, 49, 416, []⟩]))) (
 γ50 [aB.av p0] [] [] fun r1 =>
 cond (!p0.Online) (
 (some (.ret [aB.av (aB.mk r1.Client r1.User r1.Online r1.Conn r1.Expiry r1.Until r1.Dropped r1.Subs r1.Queue r0.1 r1.In r1.Will), .row 0, .d (.int .i64 0)] [] [⟨aC.ks, 49, 416, (List.map aC.enc r0.2.1)⟩]))) (
 γ61 [aB.av (aB.mk r1.Client r1.User r1.Online r1.Conn r1.Expiry r1.Until r1.Dropped r1.Subs r1.Queue r0.1 r1.In r1.Will), .d (.int .i64 p2), .row 2000000000] [] [⟨aC.ks, 49, 416, (List.map aC.enc r0.2.1)⟩] fun r2 =>
 (some (.ret [aB.av r2.1, .row 0, .d (.int .i64 0)] [] [⟨aC.ks, 49, 416, (List.map aC.enc r2.2)⟩])))) := by kernel_rfl
end
abbrev X19 : aP := C19 gG (cT 60 gM) (cT 50 cB) (cT 61 bK)
theorem aDV : X19 = aQ gG := by unfold X19 C19; repeat rw [bC fun _ h => h]
theorem xO (p0 : aB) (p1 : aC) (p2 : Int) : Le (Option.map cX (nU p0 p1 p2)) (bA SE 19 [aB.av p0, aC.av p1, .d (.int .i64 p2)] [] []) := by
 refine aV aDV rfl ?_
 refine Le.trans ?_ (le_of_eq (T19 ..).symm)
 unfold nU
 refine lQ eX agS (ait _ _) fun r0 _ => ?_
 refine lC ?_ ?_
 ·exact aJ rfl
 ·refine lQ eX gA (jM _) fun r1 _ => ?_
  refine lC ?_ ?_
  ·exact aJ rfl
  ·refine lQ eX eA (zM _ _ _) fun r2 _ => ?_
   exact aJ rfl
section
variable (Γ : Fun)  (Λ2 J : Lam)
def C65 : aP := aQ Γ
theorem T65 (p0 : aA) : bF SE (C65 Γ) Λ2 J 65 [aA.av p0] [] [] =
 (rB (p0.Level == 0)) := by kernel_rfl
end
abbrev X65 : aP := C65 gG
theorem aEY : X65 = aQ gG := rfl
theorem zT (p0 : aA) : Le (Option.map aE (mU p0)) (bA SE 65 [aA.av p0] [] []) := by
 refine aV aEY rfl ?_
 refine Le.trans ?_ (le_of_eq (T65 ..).symm)
 unfold mU
 exact aJ rfl
def apg (C : aP) (Λ2 J : Lam) (a0 : List (List D)) (a1 a2 : Int) : Res := lab SE C Λ2 J 123 0 [1, 0, 1, 0] (aW [(0, .d (.sl aA.ks a0)), (1, .fn 65 [] []), (7, .d (.int .i64 a1)), (8, .d (.int .i64 a2))] [] [] [] [])
section
variable (Γ : Fun) (γ65 : Gm (Bool)) (Λ2 J : Lam)
def alG : aP := aY (aQ Γ) 65 aE γ65
theorem aEf (p0 : List aA) : bF SE (alG Γ γ65) Λ2 J 123 [.d (.sl aA.ks (List.map aA.enc p0)), .fn 65 [] []] [] [] =
 apg (alG Γ γ65) Λ2 J (List.map aA.enc p0) (lM aA.enc p0 : Int) 0 := by kernel_rfl
theorem ayf (x0 : List aA) (x7 x8 : Int) : bT SE (alG Γ γ65) Λ2 J 123 0 [1, 0, 1, 0] (aW [(0, .d (.sl aA.ks (List.map aA.enc x0))), (1, .fn 65 [] []), (7, .d (.int .i64 x7)), (8, .d (.int .i64 x8))] [] [] [] []) =
 cond (decide (x8 < x7)) (
 cond (iB x8 (lM aA.enc x0 : Int)) (
  γ65 [.agg [.d (.str (bD (cE aA.enc x0 x8 0))), .d (.str (bD (cE aA.enc x0 x8 1))), .d (.int .i64 (aR (cE aA.enc x0 x8 2))), .d (.bool (bN (cE aA.enc x0 x8 3))), .d (.int .i64 (aR (cE aA.enc x0 x8 4))), .d (.int .i64 (aR (cE aA.enc x0 x8 5))), .d (.str (bD (cE aA.enc x0 x8 6))), .d (.int .i64 (aR (cE aA.enc x0 x8 7))), .d (.sl aG.ks (dSl (cE aA.enc x0 x8 8)))]] [] [] fun r0 =>
  cond r0 (
  (rI x8)) (
  apg (alG Γ γ65) Λ2 J (List.map aA.enc x0) x7 (w6 (x8 + 1)))) none) (
 (rI (-1))) := by kernel_rfl
end
abbrev aqA : aP := alG gG (cT 65 aE)
theorem avi : aqA = aQ gG := by unfold aqA alG; rw [bC fun _ h => h]
abbrev awT := apg aqA (bP SE gG (SE.hl 123) (SE.hr 123)) (J0 SE aqA)
theorem qH : ∀ (fu : Nat) (x0 : List aA) (x7 x8 : Int), Le (Option.map aH (cJ fu x0 x7 x8)) (awT (List.map aA.enc x0) x7 x8) := by
 intro fu
 induction fu with
 | zero => intros; exact le_none
 | succ fu ih =>
  intro x0 x7 x8
  refine Le.trans ?_ (le_of_eq ((aZ avi).trans (ayf ..)).symm)
  unfold cJ
  refine lC ?_ ?_
  ·refine lG (by simp only [EN]) ?_
   refine lQ eX aK (by (try simp only [EN]); exact zT (List.getD x0 (Int.toNat x8) default)) fun r0 _ => ?_
   refine lC ?_ ?_
   ·exact aJ rfl
   ·exact ih x0 x7 (w6 (x8 + 1))
  ·exact aJ rfl
theorem rX (p0 : List aA) : Le (Option.map aH (dC p0)) (bA SE 123 [.d (.sl aA.ks (List.map aA.enc p0)), .fn 65 [] []] [] []) := by
 refine aV avi rfl ?_
 refine Le.trans ?_ (le_of_eq (aEf ..).symm)
 unfold dC
 (try simp only [EN]); exact qH fuel p0 (List.length p0 : Int) 0
def am5 (C : aP) (Λ2 J : Lam) (a0 a1 : Int) (a2 : List (List D)) : Res := lab SE C Λ2 J 64 0 [1, 1, 1, 0, 1, 0] (aW [(0, .row 3000), (1, .fn 65 [] []), (5, .d (.int .i64 a0)), (6, .d (.int .i64 a1))] [] [] [] [(3000, ⟨aA.ks, 34, 112, a2⟩)])
section
variable (Γ : Fun) (γ123 : Gm (Int)) (γ65 : Gm (Bool)) (Λ2 J : Lam)
def C64 : aP := aY (aY (aQ Γ) 123 aH γ123) 65 aE γ65
theorem T64 (p0 : List aA) : bF SE (C64 Γ γ123 γ65) Λ2 J 64 [.row 2000000000, .fn 65 [] []] [] [⟨aA.ks, 34, 112, (List.map aA.enc p0)⟩] =
 γ123 [.d (.sl aA.ks (List.map aA.enc p0)), .fn 65 [] []] [] [] fun r0 =>
 cond (r0 == (-1)) (
 (some (.ret [.row 0] [] [⟨aA.ks, 34, 112, (List.map aA.enc p0)⟩]))) (
 am5 (C64 Γ γ123 γ65) Λ2 J r0 (w6 (r0 + 1)) (List.map aA.enc p0)) := by kernel_rfl
theorem aB6 (x5 x6 : Int) (w3000 : List aA) : bT SE (C64 Γ γ123 γ65) Λ2 J 64 0 [1, 1, 1, 0, 1, 0] (aW [(0, .row 3000), (1, .fn 65 [] []), (5, .d (.int .i64 x5)), (6, .d (.int .i64 x6))] [] [] [] [(3000, ⟨aA.ks, 34, 112, (List.map aA.enc w3000)⟩)]) =
 cond (decide (x6 < (lM aA.enc w3000 : Int))) (
 cond (iB x6 (lM aA.enc w3000 : Int)) (
  γ65 [.agg [.d (.str (bD (cE aA.enc w3000 x6 0))), .d (.str (bD (cE aA.enc w3000 x6 1))), .d (.int .i64 (aR (cE aA.enc w3000 x6 2))), .d (.bool (bN (cE aA.enc w3000 x6 3))), .d (.int .i64 (aR (cE aA.enc w3000 x6 4))), .d (.int .i64 (aR (cE aA.enc w3000 x6 5))), .d (.str (bD (cE aA.enc w3000 x6 6))), .d (.int .i64 (aR (cE aA.enc w3000 x6 7))), .d (.sl aG.ks (dSl (cE aA.enc w3000 x6 8)))]] [] [] fun r1 =>
  cond (!r1) (
  cond (iB x5 (lM aA.enc w3000 : Int)) (
   am5 (C64 Γ γ123 γ65) Λ2 J (w6 (x5 + 1)) (w6 (x6 + 1)) ((m7 (List.map aA.enc w3000) (Int.toNat x5) 0 [D.str (bD (cE aA.enc w3000 x6 0)), D.str (bD (cE aA.enc w3000 x6 1)), D.int .i64 (aR (cE aA.enc w3000 x6 2)), D.bool (bN (cE aA.enc w3000 x6 3)), D.int .i64 (aR (cE aA.enc w3000 x6 4)), D.int .i64 (aR (cE aA.enc w3000 x6 5)), D.str (bD (cE aA.enc w3000 x6 6)), D.int .i64 (aR (cE aA.enc w3000 x6 7)), D.sl aG.ks (dSl (cE aA.enc w3000 x6 8))]))) none) (
  am5 (C64 Γ γ123 γ65) Λ2 J x5 (w6 (x6 + 1)) (List.map aA.enc w3000))) none) (
 cond (decide (0 ≤ x5) && decide (x5 ≤ ((lM aA.enc w3000) : Int))) (
 cond (decide (0 ≤ x5) && decide (x5 ≤ (List.length (List.take (Int.toNat x5) (List.map aA.enc w3000) ++ List.replicate ((lM aA.enc w3000) - (Int.toNat x5)) [D.str [], D.str [], D.int .i64 0, D.bool false, D.int .i64 0, D.int .i64 0, D.str [], D.int .i64 0, D.sl aG.ks (List.map aG.enc [])] ++ List.drop ((Int.toNat x5) + ((lM aA.enc w3000) - (Int.toNat x5))) (List.map aA.enc w3000)) : Int))) (
  (some (.ret [.row 0] [] [⟨aA.ks, 34, 112, (List.take (Int.toNat x5) (List.take (Int.toNat x5) (List.map aA.enc w3000) ++ List.replicate ((lM aA.enc w3000) - (Int.toNat x5)) [D.str [], D.str [], D.int .i64 0, D.bool false, D.int .i64 0, D.int .i64 0, D.str [], D.int .i64 0, D.sl aG.ks (List.map aG.enc [])] ++ List.drop ((Int.toNat x5) + ((lM aA.enc w3000) - (Int.toNat x5))) (List.map aA.enc w3000)))⟩]))) none) none) := by kernel_rfl
end
abbrev X64 : aP := C64 gG (cT 123 aH) (cT 65 aE)
theorem ayr : X64 = aQ gG := by unfold X64 C64; repeat rw [bC fun _ h => h]
abbrev aBQ := am5 X64 (bP SE gG (SE.hl 64) (SE.hr 64)) (J0 SE X64)
theorem pY : ∀ (fu : Nat) (x5 x6 : Int) (w3000 : List aA), Le (Option.map eW (cC fu x5 x6 w3000)) (aBQ x5 x6 (List.map aA.enc w3000)) := by
 intro fu
 induction fu with
 | zero => intros; exact le_none
 | succ fu ih =>
  intro x5 x6 w3000
  refine Le.trans ?_ (le_of_eq ((aZ ayr).trans (aB6 ..)).symm)
  unfold cC
  refine lD (by simp only [EN]) ?_ ?_
  ·refine lG (by simp only [EN]) ?_
   refine lQ eX aK (by (try simp only [EN]); exact zT (List.getD w3000 (Int.toNat x6) default)) fun r1 _ => ?_
   refine lC ?_ ?_
   ·refine lG (by simp only [EN]) ?_
    (try simp only [EN]); exact ih (w6 (x5 + 1)) (w6 (x6 + 1)) ((List.set w3000 (Int.toNat x5) (List.getD w3000 (Int.toNat x6) default)))
   ·exact ih x5 (w6 (x6 + 1)) w3000
  ·refine lG (by simp only [EN]) ?_
   refine lG (by simp only [EN]) ?_
   exact aJ (by first | rfl | simp only [EN, eW] <;> rfl)
theorem rU (p0 : List aA) : Le (Option.map eW (dA p0)) (bA SE 64 [.row 2000000000, .fn 65 [] []] [] [⟨aA.ks, 34, 112, (List.map aA.enc p0)⟩]) := by
 refine aV ayr rfl ?_
 refine Le.trans ?_ (le_of_eq (T64 ..).symm)
 unfold dA
 refine lQ eX aS (rX _) fun r0 _ => ?_
 refine lC ?_ ?_
 ·exact aJ rfl
 ·exact pY fuel r0 (w6 (r0 + 1)) p0
section
variable (Γ : Fun) (γ50 : Gm (aB)) (γ64 : Gm ((List aA))) (γ51 : Gm (aB)) (Λ2 J : Lam)
def C23 : aP := aY (aY (aY (aQ Γ) 50 cB γ50) 64 eW γ64) 51 bQ γ51
theorem T23 (p0 : aB) (p1 : Int) : bF SE (C23 Γ γ50 γ64 γ51) Λ2 J 23 [aB.av p0, .d (.int .i64 p1)] [] [] =
 γ50 [aB.av p0] [] [] fun r0 =>
 γ64 [.row 2000000000, .fn 65 [] []] [] [⟨aA.ks, 34, 112, (List.map aA.enc r0.Queue)⟩] fun r1 =>
 γ51 [aB.av (aB.mk r0.Client r0.User false 0 r0.Expiry (if 1099511627776 < (w6 (p1 + p0.Expiry)) then 1099511627776 else (w6 (p1 + p0.Expiry))) r0.Dropped r0.Subs r1 r0.Out r0.In r0.Will), .d (.int .i64 (w6 ((lM aA.enc r0.Queue : Int) - (lM aA.enc r1 : Int))))] [] [] fun r2 =>
 (some (.ret [aB.av r2] [] [])) := by kernel_rfl
end
abbrev X23 : aP := C23 gG (cT 50 cB) (cT 64 eW) (cT 51 bQ)
theorem aEF : X23 = aQ gG := by unfold X23 C23; repeat rw [bC fun _ h => h]
theorem sD (p0 : aB) (p1 : Int) : Le (Option.map bQ (j6 p0 p1)) (bA SE 23 [aB.av p0, .d (.int .i64 p1)] [] []) := by
 refine aV aEF rfl ?_
 refine Le.trans ?_ (le_of_eq (T23 ..).symm)
 unfold j6
 refine lQ eX gA (jM _) fun r0 _ => ?_
 refine lQ eX ae6 (rU _) fun r1 _ => ?_
 refine lQ eX dH (by (try simp only [EN]); exact sN ((aB.mk r0.Client r0.User false 0 r0.Expiry (if 1099511627776 < (w6 (p1 + p0.Expiry)) then 1099511627776 else (w6 (p1 + p0.Expiry))) r0.Dropped r0.Subs r1 r0.Out r0.In r0.Will)) ((w6 ((List.length r0.Queue : Int) - (List.length r1 : Int))))) fun r2 _ => ?_
 exact aJ rfl
def am6 (C : aP) (Λ2 J : Lam) (a0 a1 : Int) (a2 : List D) (a3 : List (List D)) : Res := lab SE C Λ2 J 91 0 [1, 1, 0, 1, 0] (aW [(1, .ptr 1000000000 0), (3, .row 3003), (9, .d (.int .i64 a0)), (10, .d (.int .i64 a1))] [⟨29, (List.map AV.d a2)⟩] [] [] [(3003, ⟨aC.ks, 49, 416, a3⟩)])
section
variable (Γ : Fun) (γ112 γ147 : Gm (aC)) (Λ2 J : Lam)
def C91 : aP := aY (aY (aQ Γ) 112 bW γ112) 147 bW γ147
theorem T91 (p0 : aI) : bF SE (C91 Γ γ112 γ147) Λ2 J 91 [aI.av p0] [] [] =
 am6 (C91 Γ γ112 γ147) Λ2 J (lM aD.enc p0.Items : Int) 0 (aI.enc p0) (List.map aC.enc []) := by kernel_rfl
theorem aCo (x9 x10 : Int) (b0 : aI) (w3003 : List aC) : bT SE (C91 Γ γ112 γ147) Λ2 J 91 0 [1, 1, 0, 1, 0] (aW [(1, .ptr 1000000000 0), (3, .row 3003), (9, .d (.int .i64 x9)), (10, .d (.int .i64 x10))] [⟨29, (List.map AV.d (aI.enc b0))⟩] [] [] [(3003, ⟨aC.ks, 49, 416, (List.map aC.enc w3003)⟩)]) =
 cond (decide (x10 < x9)) (
 cond (iB x10 (lM aD.enc b0.Items : Int)) (
  cond ((aR (cE aD.enc b0.Items x10 1)) == 2) (
  γ112 [.d (.int .i64 (aR (cE aD.enc b0.Items x10 0)))] [] [] fun r0 =>
  cond (decide ((lM aC.enc w3003 + lM aC.enc [r0]) * 416 ≤ 140737488355328)) (
   am6 (C91 Γ γ112 γ147) Λ2 J x9 (w6 (x10 + 1)) (aI.enc b0) (((List.map aC.enc w3003) ++ (List.map aC.enc [r0])))) none) (
  γ147 [.agg [.d (.int .i64 (aR (cE aD.enc b0.Items x10 0))), .d (.int .i64 (aR (cE aD.enc b0.Items x10 1))), .d (.str (bD (cE aD.enc b0.Items x10 2))), .d (.str (bD (cE aD.enc b0.Items x10 3))), .d (.int .i64 (aR (cE aD.enc b0.Items x10 4))), .d (.bool (bN (cE aD.enc b0.Items x10 5))), .d (.int .i64 (aR (cE aD.enc b0.Items x10 6))), .d (.int .i64 (aR (cE aD.enc b0.Items x10 7))), .d (.str (bD (cE aD.enc b0.Items x10 8))), .d (.int .i64 (aR (cE aD.enc b0.Items x10 9))), .d (.sl aG.ks (dSl (cE aD.enc b0.Items x10 10)))]] [] [] fun r1 =>
  cond (decide ((lM aC.enc w3003 + lM aC.enc [(aC.mk r1.Kind r1.ID true r1.Message r1.Client r1.User r1.Clean r1.Keep r1.Expiry r1.Window r1.Will r1.Present r1.Code r1.Subs r1.Filters r1.Codes)]) * 416 ≤ 140737488355328)) (
  am6 (C91 Γ γ112 γ147) Λ2 J x9 (w6 (x10 + 1)) (aI.enc b0) (((List.map aC.enc w3003) ++ (List.map aC.enc [(aC.mk r1.Kind r1.ID true r1.Message r1.Client r1.User r1.Clean r1.Keep r1.Expiry r1.Window r1.Will r1.Present r1.Code r1.Subs r1.Filters r1.Codes)])))) none)) none) (
 (some (.ret [.row 0] [] [⟨aC.ks, 49, 416, (List.map aC.enc w3003)⟩]))) := by kernel_rfl
end
abbrev X91 : aP := C91 gG (cT 112 bW) (cT 147 bW)
theorem awJ : X91 = aQ gG := by unfold X91 C91; repeat rw [bC fun _ h => h]
abbrev aBo := am6 X91 (bP SE gG (SE.hl 91) (SE.hr 91)) (J0 SE X91)
theorem afw : ∀ (fu : Nat) (x9 x10 : Int) (b0 : aI) (w3003 : List aC), Le (Option.map dI (gV fu x9 x10 b0 w3003)) (aBo x9 x10 (aI.enc b0) (List.map aC.enc w3003)) := by
 intro fu
 induction fu with
 | zero => intros; exact le_none
 | succ fu ih =>
  intro x9 x10 b0 w3003
  refine Le.trans ?_ (le_of_eq ((aZ awJ).trans (aCo ..)).symm)
  unfold gV
  refine lC ?_ ?_
  ·refine lG (by simp only [EN]) ?_
   refine lD (by simp only [EN]) ?_ ?_
   ·refine lQ eX eP (by (try simp only [EN]); exact wL ((List.getD b0.Items (Int.toNat x10) default).ID)) fun r0 _ => ?_
    refine lG (by simp only [EN]) ?_
    (try simp only [EN]); exact ih x9 (w6 (x10 + 1)) b0 (w3003 ++ [r0])
   ·refine lQ eX eP (by (try simp only [EN]); exact aaM (List.getD b0.Items (Int.toNat x10) default)) fun r1 _ => ?_
    refine lG (by simp only [EN]) ?_
    (try simp only [EN]); exact ih x9 (w6 (x10 + 1)) b0 (w3003 ++ [(aC.mk r1.Kind r1.ID true r1.Message r1.Client r1.User r1.Clean r1.Keep r1.Expiry r1.Window r1.Will r1.Present r1.Code r1.Subs r1.Filters r1.Codes)])
  ·exact aJ rfl
theorem ah4 (p0 : aI) : Le (Option.map dI (oX p0)) (bA SE 91 [aI.av p0] [] []) := by
 refine aV awJ rfl ?_
 refine Le.trans ?_ (le_of_eq (T91 ..).symm)
 unfold oX
 (try simp only [EN]); exact afw fuel (List.length p0.Items : Int) 0 p0 []
section
variable (Γ : Fun) (γ50 : Gm (aB)) (γ80 : Gm (aA)) (γ91 : Gm ((List aC))) (γ61 : Gm (aB × (List aC))) (Λ2 J : Lam)
def C36 : aP := aY (aY (aY (aY (aQ Γ) 50 cB γ50) 80 bX γ80) 91 dI γ91) 61 bK γ61
theorem T36 (p0 : aB) (p1 : aC) (p2 p3 : Int) : bF SE (C36 Γ γ50 γ80 γ91 γ61) Λ2 J 36 [aB.av p0, aC.av p1, .d (.int .i64 p2), .d (.int .i64 p3)] [] [] =
 γ50 [aB.av p0] [] [] fun r0 =>
 γ80 [aA.av p1.Will.Message] [] [] fun r1 =>
 γ91 [aI.av (aI.mk p1.Window r0.Out.Items r0.Out.Pool)] [] [] fun r2 =>
 γ61 [aB.av (aB.mk r0.Client p1.User true p2 p1.Expiry 0 r0.Dropped r0.Subs r0.Queue (aI.mk p1.Window r0.Out.Items r0.Out.Pool) r0.In (aU.mk p1.Will.Set p1.Will.Delay r1)), .d (.int .i64 p3), .row 2000000000] [] [⟨aC.ks, 49, 416, (List.map aC.enc r2)⟩] fun r3 =>
 (some (.ret [aB.av r3.1, .row 0] [] [⟨aC.ks, 49, 416, (List.map aC.enc r3.2)⟩])) := by kernel_rfl
end
abbrev X36 : aP := C36 gG (cT 50 cB) (cT 80 bX) (cT 91 dI) (cT 61 bK)
theorem aEE : X36 = aQ gG := by unfold X36 C36; repeat rw [bC fun _ h => h]
theorem xR (p0 : aB) (p1 : aC) (p2 p3 : Int) : Le (Option.map bK (nS p0 p1 p2 p3)) (bA SE 36 [aB.av p0, aC.av p1, .d (.int .i64 p2), .d (.int .i64 p3)] [] []) := by
 refine aV aEE rfl ?_
 refine Le.trans ?_ (le_of_eq (T36 ..).symm)
 unfold nS
 refine lQ eX gA (jM _) fun r0 _ => ?_
 refine lQ eX c8 (mM _) fun r1 _ => ?_
 refine lQ eX aaO (ah4 _) fun r2 _ => ?_
 refine lQ eX eA (zM _ _ _) fun r3 _ => ?_
 exact aJ rfl
section
variable (Γ : Fun)  (Λ2 J : Lam)
def C24 : aP := aQ Γ
theorem T24 (p0 : aB) (p1 : Int) : bF SE (C24 Γ) Λ2 J 24 [aB.av p0, .d (.int .i64 p1)] [] [] =
 cond (!p0.Online) (
 (rB (decide (p1 ≥ p0.Until)))) (
 (rB false)) := by kernel_rfl
end
abbrev X24 : aP := C24 gG
theorem aEs : X24 = aQ gG := rfl
theorem sM (p0 : aB) (p1 : Int) : Le (Option.map aE (j5 p0 p1)) (bA SE 24 [aB.av p0, .d (.int .i64 p1)] [] []) := by
 refine aV aEs rfl ?_
 refine Le.trans ?_ (le_of_eq (T24 ..).symm)
 unfold j5
 refine lC ?_ ?_
 ·exact aJ rfl
 ·exact aJ rfl
section
variable (Γ : Fun) (γ31 : Gm (aB)) (γ26 : Gm (aB × Bool × Int)) (γ15 : Gm (aB × Bool)) (γ34 : Gm (aB × (List aC))) (γ19 : Gm (aB × (List aC) × Int)) (γ23 : Gm (aB)) (γ36 : Gm (aB × (List aC))) (γ24 : Gm (Bool)) (Λ2 J : Lam)
def C14 : aP := aY (aY (aY (aY (aY (aY (aY (aY (aQ Γ) 31 cB γ31) 26 dV γ26) 15 cU γ15) 34 bK γ34) 19 cX γ19) 23 bQ γ23) 36 bK γ36) 24 aE γ24
theorem T14 : bF SE (C14 Γ γ31 γ26 γ15 γ34 γ19 γ23 γ36 γ24) Λ2 J 14 [] [] [] =
 γ31 [.agg [.d (.int .i64 1), .d (.int .i64 0), .d (.bool false), .d (.str []), .d (.str []), .d (.int .i64 0), .d (.bool false), .d (.int .i64 0), .d (.int .i64 0), .d (.str []), .d (.int .i64 0), .d (.sl aG.ks (List.map aG.enc [])), .d (.str ([99] : Str)), .d (.str []), .d (.bool false), .d (.int .i64 0), .d (.int .i64 5), .d (.int .i64 1), .d (.bool false), .d (.int .i64 0), .d (.str []), .d (.str []), .d (.int .i64 0), .d (.bool false), .d (.int .i64 0), .d (.int .i64 0), .d (.str []), .d (.int .i64 0), .d (.sl aG.ks (List.map aG.enc [])), .d (.bool false), .d (.int .i64 0), .d (.sl aF.ks (List.map aF.enc [])), .d (.sl [.str] (List.map bL [])), .d (.sl [.int .i64] (List.map eI []))], .d (.int .i64 3)] [] [] fun r0 =>
 γ26 [aB.av r0, aF.av (aF.mk ([116] : Str) 0 false)] [] [] fun r1 =>
 γ15 [aB.av r1.1, .agg [.d (.str ([116] : Str)), .d (.str []), .d (.int .i64 1), .d (.bool false), .d (.int .i64 0), .d (.int .i64 0), .d (.str []), .d (.int .i64 1), .d (.sl aG.ks (List.map aG.enc []))], .d (.int .i64 9), .d (.int .i64 2)] [] [] fun r2 =>
 γ15 [aB.av r2.1, .agg [.d (.str ([116] : Str)), .d (.str []), .d (.int .i64 1), .d (.bool false), .d (.int .i64 0), .d (.int .i64 0), .d (.str []), .d (.int .i64 2), .d (.sl aG.ks (List.map aG.enc []))], .d (.int .i64 9), .d (.int .i64 2)] [] [] fun r3 =>
 γ34 [aB.av r3.1, .d (.int .i64 0)] [] [] fun r4 =>
 γ19 [aB.av r4.1, .agg [.d (.int .i64 4), .d (.int .i64 1), .d (.bool false), .d (.str []), .d (.str []), .d (.int .i64 0), .d (.bool false), .d (.int .i64 0), .d (.int .i64 0), .d (.str []), .d (.int .i64 0), .d (.sl aG.ks (List.map aG.enc [])), .d (.str []), .d (.str []), .d (.bool false), .d (.int .i64 0), .d (.int .i64 0), .d (.int .i64 0), .d (.bool false), .d (.int .i64 0), .d (.str []), .d (.str []), .d (.int .i64 0), .d (.bool false), .d (.int .i64 0), .d (.int .i64 0), .d (.str []), .d (.int .i64 0), .d (.sl aG.ks (List.map aG.enc [])), .d (.bool false), .d (.int .i64 0), .d (.sl aF.ks (List.map aF.enc [])), .d (.sl [.str] (List.map bL [])), .d (.sl [.int .i64] (List.map eI []))], .d (.int .i64 0)] [] [] fun r5 =>
 γ23 [aB.av r5.1, .d (.int .i64 10)] [] [] fun r6 =>
 γ36 [aB.av r6, .agg [.d (.int .i64 1), .d (.int .i64 0), .d (.bool false), .d (.str []), .d (.str []), .d (.int .i64 0), .d (.bool false), .d (.int .i64 0), .d (.int .i64 0), .d (.str []), .d (.int .i64 0), .d (.sl aG.ks (List.map aG.enc [])), .d (.str ([99] : Str)), .d (.str []), .d (.bool false), .d (.int .i64 0), .d (.int .i64 0), .d (.int .i64 1), .d (.bool false), .d (.int .i64 0), .d (.str []), .d (.str []), .d (.int .i64 0), .d (.bool false), .d (.int .i64 0), .d (.int .i64 0), .d (.str []), .d (.int .i64 0), .d (.sl aG.ks (List.map aG.enc [])), .d (.bool false), .d (.int .i64 0), .d (.sl aF.ks (List.map aF.enc [])), .d (.sl [.str] (List.map bL [])), .d (.sl [.int .i64] (List.map eI []))], .d (.int .i64 4), .d (.int .i64 12)] [] [] fun r7 =>
 cond (!r1.2.1) (
 cond (r1.2.2 == 0) (
  cond (!r2.2) (
  cond ((lM aC.enc r4.2 : Int) == 1) (
   cond (decide (0 ≤ 0) && decide (0 < (lM aC.enc r4.2 : Int))) (
   cond ((aR (cE aC.enc r4.2 0 1)) == 1) (
    cond (decide (0 ≤ 0) && decide (0 < (lM aC.enc r4.2 : Int))) (
    cond ((aR (cE aC.enc r4.2 0 10)) == 1) (
     cond ((lM aC.enc r5.2.1 : Int) == 1) (
     cond (decide (0 ≤ 0) && decide (0 < (lM aC.enc r5.2.1 : Int))) (
      cond ((aR (cE aC.enc r5.2.1 0 1)) == 2) (
      cond (r5.2.2 == 0) (
       cond (r6.Until == 15) (
       γ24 [aB.av r6, .d (.int .i64 14)] [] [] fun r8 =>
       cond (!r8) (
        γ24 [aB.av r6, .d (.int .i64 15)] [] [] fun r9 =>
        cond r9 (
        cond r7.1.Online (
         cond (r7.1.Conn == 4) (
         cond ((lM aC.enc r7.2 : Int) == 1) (
          cond (decide (0 ≤ 0) && decide (0 < (lM aC.enc r7.2 : Int))) (
          cond (bN (cE aC.enc r7.2 0 2)) (
           cond (decide (0 ≤ 0) && decide (0 < (lM aC.enc r7.2 : Int))) (
           (rB ((aR (cE aC.enc r7.2 0 1)) == 2))) none) (
          (rB false))) none) (
         (rB false))) (
         (rB false))) (
        (rB false))) (
        (rB false))) (
       (rB false))) (
       (rB false))) (
      (rB false))) (
      (rB false))) none) (
     (rB false))) (
    (rB false))) none) (
   (rB false))) none) (
  (rB false))) (
  (rB false))) (
 (rB false))) (
 (rB false)) := by kernel_rfl
end
abbrev X14 : aP := C14 gG (cT 31 cB) (cT 26 dV) (cT 15 cU) (cT 34 bK) (cT 19 cX) (cT 23 bQ) (cT 36 bK) (cT 24 aE)
theorem aEP : X14 = aQ gG := by unfold X14 C14; repeat rw [bC fun _ h => h]
theorem bZ : Le (Option.map aE (cA)) (bA SE 14 [] [] []) := by
 refine aV aEP rfl ?_
 refine Le.trans ?_ (le_of_eq (T14 _ _ _ _ _ _ _ _ _ _ _ ).symm)
 unfold cA
 refine lQ eX gA (by (try simp only [EN]); exact aaV ((aC.mk 1 0 false (aA.mk [] [] 0 false 0 0 [] 0 []) ([99] : Str) [] false 0 5 1 (aU.mk false 0 (aA.mk [] [] 0 false 0 0 [] 0 [])) false 0 [] [] [])) 3) fun r0 _ => ?_
 refine lQ eX yV (aat _ _) fun r1 _ => ?_
 refine lQ eX pN (by (try simp only [EN]); exact uM r1.1 ((aA.mk ([116] : Str) [] 1 false 0 0 [] 1 [])) 9 2) fun r2 _ => ?_
 refine lQ eX pN (by (try simp only [EN]); exact uM r2.1 ((aA.mk ([116] : Str) [] 1 false 0 0 [] 2 [])) 9 2) fun r3 _ => ?_
 refine lQ eX eA (aaz _ _) fun r4 _ => ?_
 refine lQ eX sL (by (try simp only [EN]); exact xO r4.1 ((aC.mk 4 1 false (aA.mk [] [] 0 false 0 0 [] 0 []) [] [] false 0 0 0 (aU.mk false 0 (aA.mk [] [] 0 false 0 0 [] 0 [])) false 0 [] [] [])) 0) fun r5 _ => ?_
 refine lQ eX dH (sD _ _) fun r6 _ => ?_
 refine lQ eX eA (by (try simp only [EN]); exact xR r6 ((aC.mk 1 0 false (aA.mk [] [] 0 false 0 0 [] 0 []) ([99] : Str) [] false 0 0 1 (aU.mk false 0 (aA.mk [] [] 0 false 0 0 [] 0 [])) false 0 [] [] [])) 4 12) fun r7 _ => ?_
 refine lC ?_ ?_
 ·refine lC ?_ ?_
  ·refine lC ?_ ?_
   ·refine lD (by simp only [EN]) ?_ ?_
    ·refine lG (by simp only [EN]) ?_
     refine lD (by simp only [EN]) ?_ ?_
     ·refine lG (by simp only [EN]) ?_
      refine lD (by simp only [EN]) ?_ ?_
      ·refine lD (by simp only [EN]) ?_ ?_
       ·refine lG (by simp only [EN]) ?_
        refine lD (by simp only [EN]) ?_ ?_
        ·refine lC ?_ ?_
         ·refine lC ?_ ?_
          ·refine lQ eX aK (sM _ _) fun r8 _ => ?_
           refine lC ?_ ?_
           ·refine lQ eX aK (sM _ _) fun r9 _ => ?_
            refine lC ?_ ?_
            ·refine lC ?_ ?_
             ·refine lC ?_ ?_
              ·refine lD (by simp only [EN]) ?_ ?_
               ·refine lG (by simp only [EN]) ?_
                refine lD (by simp only [EN]) ?_ ?_
                ·refine lG (by simp only [EN]) ?_
                 exact aJ (by first | rfl | simp only [EN, aE] <;> rfl)
                ·exact aJ rfl
               ·exact aJ rfl
              ·exact aJ rfl
             ·exact aJ rfl
            ·exact aJ rfl
           ·exact aJ rfl
          ·exact aJ rfl
         ·exact aJ rfl
        ·exact aJ rfl
       ·exact aJ rfl
      ·exact aJ rfl
     ·exact aJ rfl
    ·exact aJ rfl
   ·exact aJ rfl
  ·exact aJ rfl
 ·exact aJ rfl
section
variable (Γ : Fun)  (Λ2 J : Lam)
def axq : aP := aQ Γ
theorem aD3 (p0 : Int) : bF SE (axq Γ) Λ2 J 116 [.d (.int .i64 p0)] [] [] =
 (some (.ret [.agg [.d (.int .i64 6), .d (.int .i64 p0), .d (.bool false), .d (.str []), .d (.str []), .d (.int .i64 0), .d (.bool false), .d (.int .i64 0), .d (.int .i64 0), .d (.str []), .d (.int .i64 0), .row 0, .d (.str []), .d (.str []), .d (.bool false), .d (.int .i64 0), .d (.int .i64 0), .d (.int .i64 0), .d (.bool false), .d (.int .i64 0), .d (.str []), .d (.str []), .d (.int .i64 0), .d (.bool false), .d (.int .i64 0), .d (.int .i64 0), .d (.str []), .d (.int .i64 0), .row 1, .d (.bool false), .d (.int .i64 0), .row 2, .row 3, .row 4]] [] [⟨aG.ks, 130, 32, (List.map aG.enc [])⟩, ⟨aG.ks, 130, 32, (List.map aG.enc [])⟩, ⟨aF.ks, 60, 32, (List.map aF.enc [])⟩, ⟨[.str], 9, 16, (List.map bL [])⟩, ⟨[.int .i64], 3, 8, (List.map eI [])⟩])) := by kernel_rfl
end
abbrev aDK : aP := axq gG
theorem aBh : aDK = aQ gG := rfl
theorem tH (p0 : Int) : Le (Option.map bW (lJ p0)) (bA SE 116 [.d (.int .i64 p0)] [] []) := by
 refine aV aBh rfl ?_
 refine Le.trans ?_ (le_of_eq (aD3 ..).symm)
 unfold lJ
 exact aJ rfl
section
variable (Γ : Fun)  (Λ2 J : Lam)
def aAk : aP := aQ Γ
theorem aFM (p0 : aI) (p1 : Int) : bF SE (aAk Γ) Λ2 J 117 [aI.av p0, .d (.int .i64 p1)] [] [] =
 cond (decide (0 ≤ p1) && decide (p1 ≤ ((lM aD.enc p0.Items) : Int))) (
 cond (decide ((lM aD.enc [] + List.length (bR (List.map aD.enc p0.Items) none (some p1))) * 128 ≤ 140737488355328)) (
  cond (iB p1 (lM aD.enc p0.Items : Int)) (
  cond (iB p1 (lM aD.enc p0.Items : Int)) (
   cond (decide ((List.length ((List.map aD.enc []) ++ (bR (List.map aD.enc p0.Items) none (some p1))) + List.length [[D.int .i64 (aR (cE aD.enc p0.Items p1 0)), D.int .i64 2, D.str (bD (cE aD.enc p0.Items p1 2)), D.str (bD (cE aD.enc p0.Items p1 3)), D.int .i64 (aR (cE aD.enc p0.Items p1 4)), D.bool (bN (cE aD.enc p0.Items p1 5)), D.int .i64 (aR (cE aD.enc p0.Items p1 6)), D.int .i64 (aR (cE aD.enc p0.Items p1 7)), D.str (bD (cE aD.enc p0.Items p1 8)), D.int .i64 (aR (cE aD.enc p0.Items p1 9)), D.sl aG.ks (dSl (cE aD.enc p0.Items p1 10))]]) * 128 ≤ 140737488355328)) (
   cond (decide (0 ≤ (w6 (p1 + 1))) && decide ((w6 (p1 + 1)) ≤ ((lM aD.enc p0.Items) : Int))) (
    cond (decide ((List.length (((List.map aD.enc []) ++ (bR (List.map aD.enc p0.Items) none (some p1))) ++ [[D.int .i64 (aR (cE aD.enc p0.Items p1 0)), D.int .i64 2, D.str (bD (cE aD.enc p0.Items p1 2)), D.str (bD (cE aD.enc p0.Items p1 3)), D.int .i64 (aR (cE aD.enc p0.Items p1 4)), D.bool (bN (cE aD.enc p0.Items p1 5)), D.int .i64 (aR (cE aD.enc p0.Items p1 6)), D.int .i64 (aR (cE aD.enc p0.Items p1 7)), D.str (bD (cE aD.enc p0.Items p1 8)), D.int .i64 (aR (cE aD.enc p0.Items p1 9)), D.sl aG.ks (dSl (cE aD.enc p0.Items p1 10))]]) + List.length (bR (List.map aD.enc p0.Items) (some (w6 (p1 + 1))) none)) * 128 ≤ 140737488355328)) (
    (some (.ret [.agg [.d (.int .i64 p0.Limit), .row 0, .d (.sl [.int .i64] (List.map eI p0.Pool.Used)), .d (.int .i64 p0.Pool.Last)]] [] [⟨aD.ks, 122, 128, ((((List.map aD.enc []) ++ (bR (List.map aD.enc p0.Items) none (some p1))) ++ [[D.int .i64 (aR (cE aD.enc p0.Items p1 0)), D.int .i64 2, D.str (bD (cE aD.enc p0.Items p1 2)), D.str (bD (cE aD.enc p0.Items p1 3)), D.int .i64 (aR (cE aD.enc p0.Items p1 4)), D.bool (bN (cE aD.enc p0.Items p1 5)), D.int .i64 (aR (cE aD.enc p0.Items p1 6)), D.int .i64 (aR (cE aD.enc p0.Items p1 7)), D.str (bD (cE aD.enc p0.Items p1 8)), D.int .i64 (aR (cE aD.enc p0.Items p1 9)), D.sl aG.ks (dSl (cE aD.enc p0.Items p1 10))]]) ++ (bR (List.map aD.enc p0.Items) (some (w6 (p1 + 1))) none))⟩]))) none) none) none) none) none) none) none := by kernel_rfl
end
abbrev aFH : aP := aAk gG
theorem aC9 : aFH = aQ gG := rfl
theorem adF (p0 : aI) (p1 : Int) : Le (Option.map fG (mG p0 p1)) (bA SE 117 [aI.av p0, .d (.int .i64 p1)] [] []) := by
 refine aV aC9 rfl ?_
 refine Le.trans ?_ (le_of_eq (aFM ..).symm)
 unfold mG
 refine lG (by simp only [EN]) ?_
 refine lG (by simp only [EN]) ?_
 refine lG (by simp only [EN]) ?_
 refine lG (by simp only [EN]) ?_
 refine lG (by simp only [EN]) ?_
 refine lG (by simp only [EN]) ?_
 refine lG (by simp only [EN]) ?_
 exact aJ (by first | rfl | simp only [EN, fG] <;> rfl)
def akK (C : aP) (Λ2 J : Lam) (a0 a1 : Int) (a2 a3 : List D) (a4 : List (List D)) : Res := lab SE C Λ2 J 158 0 [1, 1, 0, 1, 0] (aW [(1, .d (.int .i64 a0)), (2, .ptr 1000000000 0), (4, .ptr 1000000001 0), (6, .row 3006), (7, .d (.int .i64 a1))] [⟨27, (List.map AV.d a2)⟩, ⟨27, (List.map AV.d a3)⟩] [] [] [(3006, ⟨[.int .i64], 3, 8, a4⟩)])
section
variable (Γ : Fun)  (Λ2 J : Lam)
def alO : aP := aQ Γ
theorem aE9 (p0 : aO) (p1 : Int) : bF SE (alO Γ) Λ2 J 158 [aO.av p0, .d (.int .i64 p1)] [] [] =
 akK (alO Γ) Λ2 J p1 0 (aO.enc p0) [D.sl [.int .i64] (List.map eI []), D.int .i64 0] (List.map eI []) := by kernel_rfl
theorem ayO (x1 x7 : Int) (b0 b1 : aO) (w3006 : List Int) : bT SE (alO Γ) Λ2 J 158 0 [1, 1, 0, 1, 0] (aW [(1, .d (.int .i64 x1)), (2, .ptr 1000000000 0), (4, .ptr 1000000001 0), (6, .row 3006), (7, .d (.int .i64 x7))] [⟨27, (List.map AV.d (aO.enc b0))⟩, ⟨27, (List.map AV.d (aO.enc b1))⟩] [] [] [(3006, ⟨[.int .i64], 3, 8, (List.map eI w3006)⟩)]) =
 cond (decide (x7 < (lM eI b0.Used : Int))) (
 cond (iB x7 (lM eI b0.Used : Int)) (
  cond ((aR (cE eI b0.Used x7 0)) != x1) (
  cond (iB x7 (lM eI b0.Used : Int)) (
   cond (decide ((lM eI w3006 + List.length [[D.int .i64 (aR (cE eI b0.Used x7 0))]]) * 8 ≤ 140737488355328)) (
   akK (alO Γ) Λ2 J x1 (w6 (x7 + 1)) (aO.enc b0) (aO.enc b1) (((List.map eI w3006) ++ [[D.int .i64 (aR (cE eI b0.Used x7 0))]]))) none) none) (
  akK (alO Γ) Λ2 J x1 (w6 (x7 + 1)) (aO.enc b0) (aO.enc b1) (List.map eI w3006))) none) (
 (some (.ret [.agg [.row 0, .d (.int .i64 b0.Last)], .d (.bool (decide ((lM eI w3006 : Int) < (lM eI b0.Used : Int))))] [] [⟨[.int .i64], 3, 8, (List.map eI w3006)⟩]))) := by kernel_rfl
end
abbrev auX : aP := alO gG
theorem avx : auX = aQ gG := rfl
abbrev aw0 := akK auX (bP SE gG (SE.hl 158) (SE.hr 158)) (J0 SE auX)
theorem aep : ∀ (fu : Nat) (x1 x7 : Int) (b0 b1 : aO) (w3006 : List Int), Le (Option.map fY (gN fu x1 x7 b0 b1 w3006)) (aw0 x1 x7 (aO.enc b0) (aO.enc b1) (List.map eI w3006)) := by
 intro fu
 induction fu with
 | zero => intros; exact le_none
 | succ fu ih =>
  intro x1 x7 b0 b1 w3006
  refine Le.trans ?_ (le_of_eq ((aZ avx).trans (ayO ..)).symm)
  unfold gN
  refine lD (by simp only [EN]) ?_ ?_
  ·refine lG (by simp only [EN]) ?_
   refine lD (by simp only [EN]) ?_ ?_
   ·refine lG (by simp only [EN]) ?_
    refine lG (by simp only [EN]) ?_
    (try simp only [EN]); exact ih x1 (w6 (x7 + 1)) b0 b1 (w3006 ++ [(List.getD b0.Used (Int.toNat x7) default)])
   ·exact ih x1 (w6 (x7 + 1)) b0 b1 w3006
  ·exact aJ (by first | rfl | simp only [EN, fY] <;> rfl)
theorem agR (p0 : aO) (p1 : Int) : Le (Option.map fY (qV p0 p1)) (bA SE 158 [aO.av p0, .d (.int .i64 p1)] [] []) := by
 refine aV avx rfl ?_
 refine Le.trans ?_ (le_of_eq (aE9 ..).symm)
 unfold qV
 (try simp only [EN]); exact aep fuel p1 0 p0 (aO.mk [] 0) []
section
variable (Γ : Fun) (γ158 : Gm (aO × Bool)) (Λ2 J : Lam)
def atj : aP := aY (aQ Γ) 158 fY γ158
theorem aEK (p0 : aI) (p1 : Int) : bF SE (atj Γ γ158) Λ2 J 118 [aI.av p0, .d (.int .i64 p1)] [] [] =
 cond (iB p1 (lM aD.enc p0.Items : Int)) (
 γ158 [aO.av p0.Pool, .d (.int .i64 (aR (cE aD.enc p0.Items p1 0)))] [] [] fun r0 =>
 cond (decide (0 ≤ p1) && decide (p1 ≤ ((lM aD.enc p0.Items) : Int))) (
  cond (decide ((lM aD.enc [] + List.length (bR (List.map aD.enc p0.Items) none (some p1))) * 128 ≤ 140737488355328)) (
  cond (decide (0 ≤ (w6 (p1 + 1))) && decide ((w6 (p1 + 1)) ≤ ((lM aD.enc p0.Items) : Int))) (
   cond (decide ((List.length ((List.map aD.enc []) ++ (bR (List.map aD.enc p0.Items) none (some p1))) + List.length (bR (List.map aD.enc p0.Items) (some (w6 (p1 + 1))) none)) * 128 ≤ 140737488355328)) (
   (some (.ret [.agg [.d (.int .i64 p0.Limit), .row 0, .row 1, .d (.int .i64 r0.1.Last)]] [] [⟨aD.ks, 122, 128, (((List.map aD.enc []) ++ (bR (List.map aD.enc p0.Items) none (some p1))) ++ (bR (List.map aD.enc p0.Items) (some (w6 (p1 + 1))) none))⟩, ⟨[.int .i64], 3, 8, (List.map eI r0.1.Used)⟩]))) none) none) none) none) none := by kernel_rfl
end
abbrev aze : aP := atj gG (cT 158 fY)
theorem aCE : aze = aQ gG := by unfold aze atj; rw [bC fun _ h => h]
theorem aek (p0 : aI) (p1 : Int) : Le (Option.map bY (nM p0 p1)) (bA SE 118 [aI.av p0, .d (.int .i64 p1)] [] []) := by
 refine aV aCE rfl ?_
 refine Le.trans ?_ (le_of_eq (aEK ..).symm)
 unfold nM
 refine lG (by simp only [EN]) ?_
 refine lQ eX afh (by (try simp only [EN]); exact agR p0.Pool ((List.getD p0.Items (Int.toNat p1) default).ID)) fun r0 _ => ?_
 refine lG (by simp only [EN]) ?_
 refine lG (by simp only [EN]) ?_
 refine lG (by simp only [EN]) ?_
 refine lG (by simp only [EN]) ?_
 exact aJ (by first | rfl | simp only [EN, bY] <;> rfl)
def anK (C : aP) (Λ2 J : Lam) (a0 : Int) (a1 a2 a3 a4 : List D) : Res := lab SE C Λ2 J 62 0 [1, 1, 1, 1, 1, 1, 0, 0] (aW [(2, .ptr 1000000000 0), (3, .ptr 1000000001 0), (4, .ptr 1000000002 0), (7, .d (.int .i64 a0)), (8, .ptr 1000000003 0)] [⟨29, (List.map AV.d a1)⟩, ⟨49, (List.map AV.d a2)⟩, ⟨29, (List.map AV.d a3)⟩, ⟨122, (List.map AV.d a4)⟩] [] [] [])
def am3 (C : aP) (Λ2 J : Lam) (a0 a1 a2 : List D) : Res := lab SE C Λ2 J 62 0 [1, 1, 0] (aW [(2, .ptr 1000000000 0), (3, .ptr 1000000001 0), (4, .ptr 1000000002 0)] [⟨29, (List.map AV.d a0)⟩, ⟨49, (List.map AV.d a1)⟩, ⟨29, (List.map AV.d a2)⟩] [] [] [])
section
variable (Γ : Fun) (γ115 : Gm (Int)) (γ116 : Gm (aC)) (γ117 γ118 : Gm (aI)) (Λ2 J : Lam)
def C62 : aP := aY (aY (aY (aY (aQ Γ) 115 aH γ115) 116 bW γ116) 117 fG γ117) 118 bY γ118
theorem T62 (p0 : aI) (p1 : aC) : bF SE (C62 Γ γ115 γ116 γ117 γ118) Λ2 J 62 [aI.av p0, aC.av p1] [] [] =
 cond (p1.Kind != 4) (
 cond (p1.Kind != 5) (
  cond (p1.Kind != 7) (
  (some (.ret [.agg [.d (.int .i64 0), .d (.sl aD.ks (List.map aD.enc [])), .d (.sl [.int .i64] (List.map eI [])), .d (.int .i64 0)], .row 0, .d (.int .i64 10)] [] [⟨aC.ks, 49, 416, []⟩]))) (
  am3 (C62 Γ γ115 γ116 γ117 γ118) Λ2 J (aI.enc p0) (aC.enc p1) [D.int .i64 0, D.sl aD.ks (List.map aD.enc []), D.sl [.int .i64] (List.map eI []), D.int .i64 0])) (
 am3 (C62 Γ γ115 γ116 γ117 γ118) Λ2 J (aI.enc p0) (aC.enc p1) [D.int .i64 0, D.sl aD.ks (List.map aD.enc []), D.sl [.int .i64] (List.map eI []), D.int .i64 0])) (
 am3 (C62 Γ γ115 γ116 γ117 γ118) Λ2 J (aI.enc p0) (aC.enc p1) [D.int .i64 0, D.sl aD.ks (List.map aD.enc []), D.sl [.int .i64] (List.map eI []), D.int .i64 0]) := by kernel_rfl
theorem azp (x7 : Int) (b0 : aI) (b1 : aC) (b2 : aI) (b3 : aD) : bT SE (C62 Γ γ115 γ116 γ117 γ118) Λ2 J 62 0 [1, 1, 1, 1, 1, 1, 0, 0] (aW [(2, .ptr 1000000000 0), (3, .ptr 1000000001 0), (4, .ptr 1000000002 0), (7, .d (.int .i64 x7)), (8, .ptr 1000000003 0)] [⟨29, (List.map AV.d (aI.enc b0))⟩, ⟨49, (List.map AV.d (aC.enc b1))⟩, ⟨29, (List.map AV.d (aI.enc b2))⟩, ⟨122, (List.map AV.d (aD.enc b3))⟩] [] [] []) =
 cond (b1.Kind == 5) (
 γ117 [aI.av b0, .d (.int .i64 x7)] [] [] fun r2 =>
 γ116 [.d (.int .i64 b3.ID)] [] [] fun r3 =>
 (some (.ret [aI.av r2, .row 0, .d (.int .i64 0)] [] [⟨aC.ks, 49, 416, (List.map aC.enc [r3])⟩]))) (
 γ118 [aI.av b0, .d (.int .i64 x7)] [] [] fun r4 =>
 (some (.ret [aI.av r4, .row 0, .d (.int .i64 0)] [] [⟨aC.ks, 49, 416, []⟩]))) := by kernel_rfl
theorem aCs (b0 : aI) (b1 : aC) (b2 : aI) : bT SE (C62 Γ γ115 γ116 γ117 γ118) Λ2 J 62 0 [1, 1, 0] (aW [(2, .ptr 1000000000 0), (3, .ptr 1000000001 0), (4, .ptr 1000000002 0)] [⟨29, (List.map AV.d (aI.enc b0))⟩, ⟨49, (List.map AV.d (aC.enc b1))⟩, ⟨29, (List.map AV.d (aI.enc b2))⟩] [] [] []) =
 γ115 [.d (.sl aD.ks (List.map aD.enc b0.Items)), .d (.int .i64 b1.ID)] [] [] fun r0 =>
 cond (decide (r0 < 0)) (
 cond (b1.Kind == 5) (
  γ116 [.d (.int .i64 b1.ID)] [] [] fun r1 =>
  (some (.ret [aI.av b0, .row 0, .d (.int .i64 0)] [] [⟨aC.ks, 49, 416, (List.map aC.enc [r1])⟩]))) (
 (some (.ret [aI.av b0, .row 0, .d (.int .i64 0)] [] [⟨aC.ks, 49, 416, []⟩])))) (
 cond (iB r0 (lM aD.enc b0.Items : Int)) (
 cond ((b1.Kind == 4) != ((aR (cE aD.enc b0.Items r0 4)) == 1)) (
  (some (.ret [.agg [.d (.int .i64 0), .d (.sl aD.ks (List.map aD.enc [])), .d (.sl [.int .i64] (List.map eI [])), .d (.int .i64 0)], .row 0, .d (.int .i64 23)] [] [⟨aC.ks, 49, 416, []⟩]))) (
 cond (b1.Kind == 7) (
  cond ((aR (cE aD.enc b0.Items r0 1)) == 1) (
  (some (.ret [.agg [.d (.int .i64 0), .d (.sl aD.ks (List.map aD.enc [])), .d (.sl [.int .i64] (List.map eI [])), .d (.int .i64 0)], .row 0, .d (.int .i64 23)] [] [⟨aC.ks, 49, 416, []⟩]))) (
  anK (C62 Γ γ115 γ116 γ117 γ118) Λ2 J r0 (aI.enc b0) (aC.enc b1) (aI.enc b2) [D.int .i64 (aR (cE aD.enc b0.Items r0 0)), D.int .i64 (aR (cE aD.enc b0.Items r0 1)), D.str (bD (cE aD.enc b0.Items r0 2)), D.str (bD (cE aD.enc b0.Items r0 3)), D.int .i64 (aR (cE aD.enc b0.Items r0 4)), D.bool (bN (cE aD.enc b0.Items r0 5)), D.int .i64 (aR (cE aD.enc b0.Items r0 6)), D.int .i64 (aR (cE aD.enc b0.Items r0 7)), D.str (bD (cE aD.enc b0.Items r0 8)), D.int .i64 (aR (cE aD.enc b0.Items r0 9)), D.sl aG.ks (dSl (cE aD.enc b0.Items r0 10))])) (
 anK (C62 Γ γ115 γ116 γ117 γ118) Λ2 J r0 (aI.enc b0) (aC.enc b1) (aI.enc b2) [D.int .i64 (aR (cE aD.enc b0.Items r0 0)), D.int .i64 (aR (cE aD.enc b0.Items r0 1)), D.str (bD (cE aD.enc b0.Items r0 2)), D.str (bD (cE aD.enc b0.Items r0 3)), D.int .i64 (aR (cE aD.enc b0.Items r0 4)), D.bool (bN (cE aD.enc b0.Items r0 5)), D.int .i64 (aR (cE aD.enc b0.Items r0 6)), D.int .i64 (aR (cE aD.enc b0.Items r0 7)), D.str (bD (cE aD.enc b0.Items r0 8)), D.int .i64 (aR (cE aD.enc b0.Items r0 9)), D.sl aG.ks (dSl (cE aD.enc b0.Items r0 10))]))) none) := by kernel_rfl
end
abbrev X62 : aP := C62 gG (cT 115 aH) (cT 116 bW) (cT 117 fG) (cT 118 bY)
theorem atM : X62 = aQ gG := by unfold X62 C62; repeat rw [bC fun _ h => h]
abbrev awI := anK X62 (bP SE gG (SE.hl 62) (SE.hr 62)) (J0 SE X62)
abbrev aAK := am3 X62 (bP SE gG (SE.hl 62) (SE.hr 62)) (J0 SE X62)
theorem vV (x7 : Int) (b0 : aI) (b1 : aC) (b2 : aI) (b3 : aD) : Le (Option.map eU (kL x7 b0 b1 b2 b3)) (awI x7 (aI.enc b0) (aC.enc b1) (aI.enc b2) (aD.enc b3)) := by
 refine Le.trans ?_ (le_of_eq ((aZ atM).trans (azp ..)).symm)
 unfold kL
 refine lC ?_ ?_
 ·refine lQ eX ac6 (adF _ _) fun r2 _ => ?_
  refine lQ eX eP (tH _) fun r3 _ => ?_
  exact aJ rfl
 ·refine lQ eX fC (aek _ _) fun r4 _ => ?_
  exact aJ rfl
theorem qP (b0 : aI) (b1 : aC) (b2 : aI) : Le (Option.map eU (jE b0 b1 b2)) (aAK (aI.enc b0) (aC.enc b1) (aI.enc b2)) := by
 refine Le.trans ?_ (le_of_eq ((aZ atM).trans (aCs ..)).symm)
 unfold jE
 refine lQ eX aS (ab6 _ _) fun r0 _ => ?_
 refine lC ?_ ?_
 ·refine lC ?_ ?_
  ·refine lQ eX eP (tH _) fun r1 _ => ?_
   exact aJ rfl
  ·exact aJ rfl
 ·refine lG (by simp only [EN]) ?_
  refine lD (by simp only [EN]) ?_ ?_
  ·exact aJ rfl
  ·refine lC ?_ ?_
   ·refine lD (by simp only [EN]) ?_ ?_
    ·exact aJ rfl
    ·(try simp only [EN]); exact vV r0 b0 b1 b2 (List.getD b0.Items (Int.toNat r0) default)
   ·(try simp only [EN]); exact vV r0 b0 b1 b2 (List.getD b0.Items (Int.toNat r0) default)
theorem ae3 (p0 : aI) (p1 : aC) : Le (Option.map eU (oJ p0 p1)) (bA SE 62 [aI.av p0, aC.av p1] [] []) := by
 refine aV atM rfl ?_
 refine Le.trans ?_ (le_of_eq (T62 ..).symm)
 unfold oJ
 refine lC ?_ ?_
 ·refine lC ?_ ?_
  ·refine lC ?_ ?_
   ·exact aJ rfl
   ·(try simp only [EN]); exact qP p0 p1 ((aI.mk 0 [] (aO.mk [] 0)))
  ·(try simp only [EN]); exact qP p0 p1 ((aI.mk 0 [] (aO.mk [] 0)))
 ·(try simp only [EN]); exact qP p0 p1 ((aI.mk 0 [] (aO.mk [] 0)))
section
variable (Γ : Fun)  (Λ2 J : Lam)
def C88 : aP := aQ Γ
theorem T88 (p0 : aA) (p1 : Int) : bF SE (C88 Γ) Λ2 J 88 [aA.av p0, .d (.int .i64 p1)] [] [] =
 cond (p0.Expires != 0) (
 (rB (decide (p1 ≥ p0.Expires)))) (
 (rB false)) := by kernel_rfl
end
abbrev X88 : aP := C88 gG
theorem aFj : X88 = aQ gG := rfl
theorem aew (p0 : aA) (p1 : Int) : Le (Option.map aE (rQ p0 p1)) (bA SE 88 [aA.av p0, .d (.int .i64 p1)] [] []) := by
 refine aV aFj rfl ?_
 refine Le.trans ?_ (le_of_eq (T88 ..).symm)
 unfold rQ
 refine lC ?_ ?_
 ·exact aJ rfl
 ·exact aJ rfl
section
variable (Γ : Fun)  (Λ2 J : Lam)
def C53 : aP := aQ Γ
theorem T53 (p0 : aB) (p1 : Int) : bF SE (C53 Γ) Λ2 J 53 [aB.av p0, .d (.int .i64 p1)] [] [] =
 cond (decide ((w6 (p0.Dropped + p1)) > 1099511627776)) (
 (some (.ret [aB.av (aB.mk p0.Client p0.User p0.Online p0.Conn p0.Expiry p0.Until 1099511627776 p0.Subs p0.Queue p0.Out p0.In p0.Will)] [] []))) (
 (some (.ret [aB.av (aB.mk p0.Client p0.User p0.Online p0.Conn p0.Expiry p0.Until (w6 (p0.Dropped + p1)) p0.Subs p0.Queue p0.Out p0.In p0.Will)] [] []))) := by kernel_rfl
end
abbrev X53 : aP := C53 gG
theorem aFU : X53 = aQ gG := rfl
theorem n5 (p0 : aB) (p1 : Int) : Le (Option.map bQ (fH p0 p1)) (bA SE 53 [aB.av p0, .d (.int .i64 p1)] [] []) := by
 refine aV aFU rfl ?_
 refine Le.trans ?_ (le_of_eq (T53 ..).symm)
 unfold fH
 refine lC ?_ ?_
 ·exact aJ rfl
 ·exact aJ rfl
section
variable (Γ : Fun)  (Λ2 J : Lam)
def C89 : aP := aQ Γ
theorem T89 (p0 : aI) : bF SE (C89 Γ) Λ2 J 89 [aI.av p0] [] [] =
 cond (decide ((lM aD.enc p0.Items : Int) ≥ p0.Limit)) (
 (rI 0)) (
 (rI (w6 (p0.Limit - (lM aD.enc p0.Items : Int))))) := by kernel_rfl
end
abbrev X89 : aP := C89 gG
theorem aE2 : X89 = aQ gG := rfl
theorem aaL (p0 : aI) : Le (Option.map aH (nY p0)) (bA SE 89 [aI.av p0] [] []) := by
 refine aV aE2 rfl ?_
 refine Le.trans ?_ (le_of_eq (T89 ..).symm)
 unfold nY
 refine lD (by simp only [EN]) ?_ ?_
 ·exact aJ rfl
 ·exact aJ (by first | rfl | simp only [EN, aH] <;> rfl)
section
variable (Γ : Fun)  (Λ2 J : Lam)
def ayW : aP := aQ Γ
theorem aGi (p0 : Int) : bF SE (ayW Γ) Λ2 J 173 [.d (.int .i64 p0)] [] [] =
 cond (decide (p0 ≥ 65535)) (
 (rI 1)) (
 (rI (w6 (p0 + 1)))) := by kernel_rfl
end
abbrev aED : aP := ayW gG
theorem aA9 : aED = aQ gG := rfl
theorem aaB (p0 : Int) : Le (Option.map aH (mS p0)) (bA SE 173 [.d (.int .i64 p0)] [] []) := by
 refine aV aA9 rfl ?_
 refine Le.trans ?_ (le_of_eq (aGi ..).symm)
 unfold mS
 refine lC ?_ ?_
 ·exact aJ rfl
 ·exact aJ rfl
def asH (C : aP) (Λ2 J : Lam) (a0 : List (List D)) (a1 a2 : Int) (a3 : List (List D)) (a4 a5 a6 : Int) (a7 : Bool) (a8 : List (List D)) : Res := lab SE C Λ2 J 174 0 [1, 1, 1, 0, 0, 0, 1, 0, 0] (aW [(0, .d (.sl [.int .i64] a0)), (1, .d (.int .i64 a1)), (5, .row 3005), (6, .d (.int .i64 a2)), (12, .d (.sl [.int .i64] a3)), (13, .d (.int .i64 a4)), (15, .d (.int .i64 a5)), (16, .d (.int .i64 a6)), (17, .d (.bool a7))] [] [] [] [(3005, ⟨[.int .i64], 3, 8, a8⟩)])
def aor (C : aP) (Λ2 J : Lam) (a0 : List (List D)) (a1 a2 : Int) (a3 : List (List D)) : Res := lab SE C Λ2 J 174 0 [1, 1, 1, 1, 0] (aW [(0, .d (.sl [.int .i64] a0)), (1, .d (.int .i64 a1)), (5, .row 3005), (6, .d (.int .i64 a2))] [] [] [] [(3005, ⟨[.int .i64], 3, 8, a3⟩)])
def an2 (C : aP) (Λ2 J : Lam) (a0 : List (List D)) (a1 a2 : Int) (a3 : List (List D)) : Res := lab SE C Λ2 J 174 0 [1, 1, 1, 0, 0] (aW [(0, .d (.sl [.int .i64] a0)), (1, .d (.int .i64 a1)), (5, .row 3005), (6, .d (.int .i64 a2))] [] [] [] [(3005, ⟨[.int .i64], 3, 8, a3⟩)])
section
variable (Γ : Fun)  (Λ2 J : Lam)
def aes : aP := aQ Γ
theorem aEb (p0 : List Int) (p1 : Int) : bF SE (aes Γ) Λ2 J 174 [.d (.sl [.int .i64] (List.map eI p0)), .d (.int .i64 p1)] [] [] =
 an2 (aes Γ) Λ2 J (List.map eI p0) p1 0 (List.map eI []) := by kernel_rfl
theorem axi (x0 : List Int) (x1 x6 : Int) (x12 : List Int) (x13 x15 x16 : Int) (x17 : Bool) (w3005 : List Int) : bT SE (aes Γ) Λ2 J 174 0 [1, 1, 1, 0, 0, 0, 1, 0, 0] (aW [(0, .d (.sl [.int .i64] (List.map eI x0))), (1, .d (.int .i64 x1)), (5, .row 3005), (6, .d (.int .i64 x6)), (12, .d (.sl [.int .i64] (List.map eI x12))), (13, .d (.int .i64 x13)), (15, .d (.int .i64 x15)), (16, .d (.int .i64 x16)), (17, .d (.bool x17))] [] [] [] [(3005, ⟨[.int .i64], 3, 8, (List.map eI w3005)⟩)]) =
 cond (iB x6 (lM eI x0 : Int)) (
 cond (decide ((lM eI w3005 + List.length [[D.int .i64 (aR (cE eI x0 x6 0))]]) * 8 ≤ 140737488355328)) (
  an2 (aes Γ) Λ2 J (List.map eI x0) x1 (w6 (x6 + 1)) (((List.map eI w3005) ++ [[D.int .i64 (aR (cE eI x0 x6 0))]]))) none) none := by kernel_rfl
theorem azs (x0 : List Int) (x1 x6 : Int) (w3005 : List Int) : bT SE (aes Γ) Λ2 J 174 0 [1, 1, 1, 1, 0] (aW [(0, .d (.sl [.int .i64] (List.map eI x0))), (1, .d (.int .i64 x1)), (5, .row 3005), (6, .d (.int .i64 x6))] [] [] [] [(3005, ⟨[.int .i64], 3, 8, (List.map eI w3005)⟩)]) =
 cond (decide ((lM eI w3005 + lM eI [x1]) * 8 ≤ 140737488355328)) (
 cond (decide (0 ≤ x6) && decide (x6 ≤ ((lM eI x0) : Int))) (
  cond (decide ((List.length ((List.map eI w3005) ++ (List.map eI [x1])) + List.length (bR (List.map eI x0) (some x6) none)) * 8 ≤ 140737488355328)) (
  (some (.ret [.row 0] [] [⟨[.int .i64], 3, 8, (((List.map eI w3005) ++ (List.map eI [x1])) ++ (bR (List.map eI x0) (some x6) none))⟩]))) none) none) none := by kernel_rfl
theorem aAx (x0 : List Int) (x1 x6 : Int) (w3005 : List Int) : bT SE (aes Γ) Λ2 J 174 0 [1, 1, 1, 0, 0] (aW [(0, .d (.sl [.int .i64] (List.map eI x0))), (1, .d (.int .i64 x1)), (5, .row 3005), (6, .d (.int .i64 x6))] [] [] [] [(3005, ⟨[.int .i64], 3, 8, (List.map eI w3005)⟩)]) =
 cond (decide (x6 < (lM eI x0 : Int))) (
 cond (iB x6 (lM eI x0 : Int)) (
  cond (decide ((aR (cE eI x0 x6 0)) < x1)) (
  asH (aes Γ) Λ2 J (List.map eI x0) x1 x6 (List.map eI x0) x6 ((aR (cE eI x0 x6 0))) x1 ((decide ((aR (cE eI x0 x6 0)) < x1))) (List.map eI w3005)) (
  aor (aes Γ) Λ2 J (List.map eI x0) x1 x6 (List.map eI w3005))) none) (
 aor (aes Γ) Λ2 J (List.map eI x0) x1 x6 (List.map eI w3005)) := by kernel_rfl
end
abbrev aj2 : aP := aes gG
theorem ann : aj2 = aQ gG := rfl
abbrev awS := asH aj2 (bP SE gG (SE.hl 174) (SE.hr 174)) (J0 SE aj2)
abbrev ay8 := aor aj2 (bP SE gG (SE.hl 174) (SE.hr 174)) (J0 SE aj2)
abbrev arY := an2 aj2 (bP SE gG (SE.hl 174) (SE.hr 174)) (J0 SE aj2)
theorem aem (k3 : (List Int) → Int → Int → (List Int) → Option ((List Int))) (hk3 : ∀ (x0 : List Int) (x1 x6 : Int) (w3005 : List Int), Le (Option.map bI (k3 x0 x1 x6 w3005)) (arY (List.map eI x0) x1 x6 (List.map eI w3005))) (x0 : List Int) (x1 x6 : Int) (x12 : List Int) (x13 x15 x16 : Int) (x17 : Bool) (w3005 : List Int) : Le (Option.map bI (rP k3 x0 x1 x6 x12 x13 x15 x16 x17 w3005)) (awS (List.map eI x0) x1 x6 (List.map eI x12) x13 x15 x16 x17 (List.map eI w3005)) := by
 refine Le.trans ?_ (le_of_eq ((aZ ann).trans (axi ..)).symm)
 unfold rP
 refine lG (by simp only [EN]) ?_
 refine lG (by simp only [EN]) ?_
 (try simp only [EN]); exact hk3 x0 x1 (w6 (x6 + 1)) (w3005 ++ [(List.getD x0 (Int.toNat x6) default)])
theorem xV (x0 : List Int) (x1 x6 : Int) (w3005 : List Int) : Le (Option.map bI (kC x0 x1 x6 w3005)) (ay8 (List.map eI x0) x1 x6 (List.map eI w3005)) := by
 refine Le.trans ?_ (le_of_eq ((aZ ann).trans (azs ..)).symm)
 unfold kC
 refine lG (by simp only [EN]) ?_
 refine lG (by simp only [EN]) ?_
 refine lG (by simp only [EN]) ?_
 exact aJ (by first | rfl | simp only [EN, bI] <;> rfl)
theorem aeo : ∀ (fu : Nat) (x0 : List Int) (x1 x6 : Int) (w3005 : List Int), Le (Option.map bI (iS fu x0 x1 x6 w3005)) (arY (List.map eI x0) x1 x6 (List.map eI w3005)) := by
 intro fu
 induction fu with
 | zero => intros; exact le_none
 | succ fu ih =>
  intro x0 x1 x6 w3005
  refine Le.trans ?_ (le_of_eq ((aZ ann).trans (aAx ..)).symm)
  unfold iS
  refine lD (by simp only [EN]) ?_ ?_
  ·refine lG (by simp only [EN]) ?_
   refine lD (by simp only [EN]) ?_ ?_
   ·(try simp only [EN]); exact aem _ (ih) x0 x1 x6 x0 x6 (List.getD x0 (Int.toNat x6) default) x1 (decide ((List.getD x0 (Int.toNat x6) default) < x1)) w3005
   ·exact xV x0 x1 x6 w3005
  ·exact xV x0 x1 x6 w3005
theorem agZ (p0 : List Int) (p1 : Int) : Le (Option.map bI (rA p0 p1)) (bA SE 174 [.d (.sl [.int .i64] (List.map eI p0)), .d (.int .i64 p1)] [] []) := by
 refine aV ann rfl ?_
 refine Le.trans ?_ (le_of_eq (aEb ..).symm)
 unfold rA
 (try simp only [EN]); exact aeo fuel p0 p1 0 []
def anq (C : aP) (Λ2 J : Lam) (a0 : Int) (a1 a2 : List D) : Res := lab SE C Λ2 J 145 0 [1, 1, 1, 1, 0] (aW [(1, .ptr 1000000000 0), (3, .ptr 1000000001 0), (5, .d (.int .i64 a0))] [⟨27, (List.map AV.d a1)⟩, ⟨27, (List.map AV.d a2)⟩] [] [] [])
def apk (C : aP) (Λ2 J : Lam) (a0 a1 : Int) (a2 a3 : List D) : Res := lab SE C Λ2 J 145 0 [1, 1, 1, 0, 1, 0] (aW [(1, .ptr 1000000000 0), (3, .ptr 1000000001 0), (5, .d (.int .i64 a0)), (6, .d (.int .i64 a1))] [⟨27, (List.map AV.d a2)⟩, ⟨27, (List.map AV.d a3)⟩] [] [] [])
section
variable (Γ : Fun) (γ173 : Gm (Int)) (γ148 : Gm (Bool)) (γ174 : Gm ((List Int))) (Λ2 J : Lam)
def af1 : aP := aY (aY (aY (aQ Γ) 173 aH γ173) 148 aE γ148) 174 bI γ174
theorem aEz (p0 : aO) : bF SE (af1 Γ γ173 γ148 γ174) Λ2 J 145 [aO.av p0] [] [] =
 cond (decide ((lM eI p0.Used : Int) ≥ 32)) (
 (some (.ret [.d (.int .i64 0), .agg [.row 0, .d (.int .i64 0)], .d (.int .i64 6)] [] [⟨[.int .i64], 3, 8, (List.map eI [])⟩]))) (
 γ173 [.d (.int .i64 p0.Last)] [] [] fun r0 =>
 apk (af1 Γ γ173 γ148 γ174) Λ2 J r0 0 (aO.enc p0) [D.sl [.int .i64] (List.map eI []), D.int .i64 0]) := by kernel_rfl
theorem aAr (x5 : Int) (b0 b1 : aO) : bT SE (af1 Γ γ173 γ148 γ174) Λ2 J 145 0 [1, 1, 1, 1, 0] (aW [(1, .ptr 1000000000 0), (3, .ptr 1000000001 0), (5, .d (.int .i64 x5))] [⟨27, (List.map AV.d (aO.enc b0))⟩, ⟨27, (List.map AV.d (aO.enc b1))⟩] [] [] []) =
 γ174 [.d (.sl [.int .i64] (List.map eI b0.Used)), .d (.int .i64 x5)] [] [] fun r3 =>
 (some (.ret [.d (.int .i64 x5), .agg [.row 0, .d (.int .i64 x5)], .d (.int .i64 0)] [] [⟨[.int .i64], 3, 8, (List.map eI r3)⟩])) := by kernel_rfl
theorem ay1 (x5 x6 : Int) (b0 b1 : aO) : bT SE (af1 Γ γ173 γ148 γ174) Λ2 J 145 0 [1, 1, 1, 0, 1, 0] (aW [(1, .ptr 1000000000 0), (3, .ptr 1000000001 0), (5, .d (.int .i64 x5)), (6, .d (.int .i64 x6))] [⟨27, (List.map AV.d (aO.enc b0))⟩, ⟨27, (List.map AV.d (aO.enc b1))⟩] [] [] []) =
 cond (decide (x6 < 32)) (
 γ148 [aO.av b0, .d (.int .i64 x5)] [] [] fun r1 =>
 cond r1 (
  γ173 [.d (.int .i64 x5)] [] [] fun r2 =>
  apk (af1 Γ γ173 γ148 γ174) Λ2 J r2 (w6 (x6 + 1)) (aO.enc b0) (aO.enc b1)) (
 anq (af1 Γ γ173 γ148 γ174) Λ2 J x5 (aO.enc b0) (aO.enc b1))) (
 anq (af1 Γ γ173 γ148 γ174) Λ2 J x5 (aO.enc b0) (aO.enc b1)) := by kernel_rfl
end
abbrev alH : aP := af1 gG (cT 173 aH) (cT 148 aE) (cT 174 bI)
theorem aqZ : alH = aQ gG := by unfold alH af1; repeat rw [bC fun _ h => h]
abbrev awA := anq alH (bP SE gG (SE.hl 145) (SE.hr 145)) (J0 SE alH)
abbrev awX := apk alH (bP SE gG (SE.hl 145) (SE.hr 145)) (J0 SE alH)
theorem yJ (x5 : Int) (b0 b1 : aO) : Le (Option.map eZ (j9 x5 b0 b1)) (awA x5 (aO.enc b0) (aO.enc b1)) := by
 refine Le.trans ?_ (le_of_eq ((aZ aqZ).trans (aAr ..)).symm)
 unfold j9
 refine lQ eX dM (agZ _ _) fun r3 _ => ?_
 exact aJ rfl
theorem aen : ∀ (fu : Nat) (x5 x6 : Int) (b0 b1 : aO), Le (Option.map eZ (iV fu x5 x6 b0 b1)) (awX x5 x6 (aO.enc b0) (aO.enc b1)) := by
 intro fu
 induction fu with
 | zero => intros; exact le_none
 | succ fu ih =>
  intro x5 x6 b0 b1
  refine Le.trans ?_ (le_of_eq ((aZ aqZ).trans (ay1 ..)).symm)
  unfold iV
  refine lC ?_ ?_
  ·refine lQ eX aK (abN _ _) fun r1 _ => ?_
   refine lC ?_ ?_
   ·refine lQ eX aS (aaB _) fun r2 _ => ?_
    exact ih r2 (w6 (x6 + 1)) b0 b1
   ·exact yJ x5 b0 b1
  ·exact yJ x5 b0 b1
theorem agY (p0 : aO) : Le (Option.map eZ (rL p0)) (bA SE 145 [aO.av p0] [] []) := by
 refine aV aqZ rfl ?_
 refine Le.trans ?_ (le_of_eq (aEz ..).symm)
 unfold rL
 refine lD (by simp only [EN]) ?_ ?_
 ·exact aJ rfl
 ·refine lQ eX aS (aaB _) fun r0 _ => ?_
  (try simp only [EN]); exact aen fuel r0 0 p0 (aO.mk [] 0)
section
variable (Γ : Fun)  (Λ2 J : Lam)
def awK : aP := aQ Γ
theorem aEZ (p0 : aD) (p1 : Bool) : bF SE (awK Γ) Λ2 J 146 [aD.av p0, .d (.bool p1)] [] [] =
 (some (.ret [.agg [.d (.int .i64 3), .d (.int .i64 p0.ID), .d (.bool p1), .d (.str p0.Message.Topic), .d (.str p0.Message.Payload), .d (.int .i64 p0.Message.Level), .d (.bool p0.Message.Retain), .d (.int .i64 p0.Message.Priority), .d (.int .i64 p0.Message.Expires), .d (.str p0.Message.From), .d (.int .i64 p0.Message.Seq), .d (.sl aG.ks (List.map aG.enc p0.Message.Props)), .d (.str []), .d (.str []), .d (.bool false), .d (.int .i64 0), .d (.int .i64 0), .d (.int .i64 0), .d (.bool false), .d (.int .i64 0), .d (.str []), .d (.str []), .d (.int .i64 0), .d (.bool false), .d (.int .i64 0), .d (.int .i64 0), .d (.str []), .d (.int .i64 0), .row 0, .d (.bool false), .d (.int .i64 0), .row 1, .row 2, .row 3]] [] [⟨aG.ks, 130, 32, (List.map aG.enc [])⟩, ⟨aF.ks, 60, 32, (List.map aF.enc [])⟩, ⟨[.str], 9, 16, (List.map bL [])⟩, ⟨[.int .i64], 3, 8, (List.map eI [])⟩])) := by kernel_rfl
end
abbrev aFD : aP := awK gG
theorem aBj : aFD = aQ gG := rfl
theorem yG (p0 : aD) (p1 : Bool) : Le (Option.map eJ (nJ p0 p1)) (bA SE 146 [aD.av p0, .d (.bool p1)] [] []) := by
 refine aV aBj rfl ?_
 refine Le.trans ?_ (le_of_eq (aEZ ..).symm)
 unfold nJ
 exact aJ rfl
section
variable (Γ : Fun) (γ89 γ13 : Gm (Int)) (γ145 : Gm (Int × aO × Int)) (γ146 : Gm (aC)) (Λ2 J : Lam)
def C90 : aP := aY (aY (aY (aY (aQ Γ) 89 aH γ89) 13 aH γ13) 145 eZ γ145) 146 eJ γ146
theorem T90 (p0 : aI) (p1 : aA) : bF SE (C90 Γ γ89 γ13 γ145 γ146) Λ2 J 90 [aI.av p0, aA.av p1] [] [] =
 cond (p1.Level == 0) (
 (some (.ret [.agg [.d (.int .i64 0), .row 0, .row 1, .d (.int .i64 0)], .agg [.d (.int .i64 0), .d (.int .i64 0), .d (.bool false), .d (.str []), .d (.str []), .d (.int .i64 0), .d (.bool false), .d (.int .i64 0), .d (.int .i64 0), .d (.str []), .d (.int .i64 0), .d (.sl aG.ks (List.map aG.enc [])), .d (.str []), .d (.str []), .d (.bool false), .d (.int .i64 0), .d (.int .i64 0), .d (.int .i64 0), .d (.bool false), .d (.int .i64 0), .d (.str []), .d (.str []), .d (.int .i64 0), .d (.bool false), .d (.int .i64 0), .d (.int .i64 0), .d (.str []), .d (.int .i64 0), .row 2, .d (.bool false), .d (.int .i64 0), .row 3, .row 4, .row 5], .d (.int .i64 14)] [] [⟨aD.ks, 122, 128, (List.map aD.enc [])⟩, ⟨[.int .i64], 3, 8, (List.map eI [])⟩, ⟨aG.ks, 130, 32, (List.map aG.enc [])⟩, ⟨aF.ks, 60, 32, (List.map aF.enc [])⟩, ⟨[.str], 9, 16, (List.map bL [])⟩, ⟨[.int .i64], 3, 8, (List.map eI [])⟩]))) (
 γ89 [aI.av p0] [] [] fun r0 =>
 cond (r0 == 0) (
 (some (.ret [.agg [.d (.int .i64 0), .row 0, .row 1, .d (.int .i64 0)], .agg [.d (.int .i64 0), .d (.int .i64 0), .d (.bool false), .d (.str []), .d (.str []), .d (.int .i64 0), .d (.bool false), .d (.int .i64 0), .d (.int .i64 0), .d (.str []), .d (.int .i64 0), .d (.sl aG.ks (List.map aG.enc [])), .d (.str []), .d (.str []), .d (.bool false), .d (.int .i64 0), .d (.int .i64 0), .d (.int .i64 0), .d (.bool false), .d (.int .i64 0), .d (.str []), .d (.str []), .d (.int .i64 0), .d (.bool false), .d (.int .i64 0), .d (.int .i64 0), .d (.str []), .d (.int .i64 0), .row 2, .d (.bool false), .d (.int .i64 0), .row 3, .row 4, .row 5], .d (.int .i64 6)] [] [⟨aD.ks, 122, 128, (List.map aD.enc [])⟩, ⟨[.int .i64], 3, 8, (List.map eI [])⟩, ⟨aG.ks, 130, 32, (List.map aG.enc [])⟩, ⟨aF.ks, 60, 32, (List.map aF.enc [])⟩, ⟨[.str], 9, 16, (List.map bL [])⟩, ⟨[.int .i64], 3, 8, (List.map eI [])⟩]))) (
 γ13 [aA.av p1] [] [] fun r1 =>
 cond (r1 != 0) (
 (some (.ret [.agg [.d (.int .i64 0), .row 0, .row 1, .d (.int .i64 0)], .agg [.d (.int .i64 0), .d (.int .i64 0), .d (.bool false), .d (.str []), .d (.str []), .d (.int .i64 0), .d (.bool false), .d (.int .i64 0), .d (.int .i64 0), .d (.str []), .d (.int .i64 0), .d (.sl aG.ks (List.map aG.enc [])), .d (.str []), .d (.str []), .d (.bool false), .d (.int .i64 0), .d (.int .i64 0), .d (.int .i64 0), .d (.bool false), .d (.int .i64 0), .d (.str []), .d (.str []), .d (.int .i64 0), .d (.bool false), .d (.int .i64 0), .d (.int .i64 0), .d (.str []), .d (.int .i64 0), .row 2, .d (.bool false), .d (.int .i64 0), .row 3, .row 4, .row 5], .d (.int .i64 r1)] [] [⟨aD.ks, 122, 128, (List.map aD.enc [])⟩, ⟨[.int .i64], 3, 8, (List.map eI [])⟩, ⟨aG.ks, 130, 32, (List.map aG.enc [])⟩, ⟨aF.ks, 60, 32, (List.map aF.enc [])⟩, ⟨[.str], 9, 16, (List.map bL [])⟩, ⟨[.int .i64], 3, 8, (List.map eI [])⟩]))) (
 γ145 [aO.av p0.Pool] [] [] fun r2 =>
 cond (decide ((lM aD.enc [] + lM aD.enc p0.Items) * 128 ≤ 140737488355328)) (
 cond (decide ((List.length ((List.map aD.enc []) ++ (List.map aD.enc p0.Items)) + lM aD.enc [(aD.mk r2.1 1 p1)]) * 128 ≤ 140737488355328)) (
  γ146 [aD.av (aD.mk r2.1 1 p1), .d (.bool false)] [] [] fun r3 =>
  (some (.ret [.agg [.d (.int .i64 p0.Limit), .row 0, .row 1, .d (.int .i64 r2.2.1.Last)], .agg [.d (.int .i64 r3.Kind), .d (.int .i64 r3.ID), .d (.bool r3.Dup), .d (.str r3.Message.Topic), .d (.str r3.Message.Payload), .d (.int .i64 r3.Message.Level), .d (.bool r3.Message.Retain), .d (.int .i64 r3.Message.Priority), .d (.int .i64 r3.Message.Expires), .d (.str r3.Message.From), .d (.int .i64 r3.Message.Seq), .d (.sl aG.ks (List.map aG.enc r3.Message.Props)), .d (.str r3.Client), .d (.str r3.User), .d (.bool r3.Clean), .d (.int .i64 r3.Keep), .d (.int .i64 r3.Expiry), .d (.int .i64 r3.Window), .d (.bool r3.Will.Set), .d (.int .i64 r3.Will.Delay), .d (.str r3.Will.Message.Topic), .d (.str r3.Will.Message.Payload), .d (.int .i64 r3.Will.Message.Level), .d (.bool r3.Will.Message.Retain), .d (.int .i64 r3.Will.Message.Priority), .d (.int .i64 r3.Will.Message.Expires), .d (.str r3.Will.Message.From), .d (.int .i64 r3.Will.Message.Seq), .row 2, .d (.bool r3.Present), .d (.int .i64 r3.Code), .row 3, .row 4, .row 5], .d (.int .i64 0)] [] [⟨aD.ks, 122, 128, (((List.map aD.enc []) ++ (List.map aD.enc p0.Items)) ++ (List.map aD.enc [(aD.mk r2.1 1 p1)]))⟩, ⟨[.int .i64], 3, 8, (List.map eI r2.2.1.Used)⟩, ⟨aG.ks, 130, 32, (List.map aG.enc r3.Will.Message.Props)⟩, ⟨aF.ks, 60, 32, (List.map aF.enc r3.Subs)⟩, ⟨[.str], 9, 16, (List.map bL r3.Filters)⟩, ⟨[.int .i64], 3, 8, (List.map eI r3.Codes)⟩]))) none) none))) := by kernel_rfl
end
abbrev X90 : aP := C90 gG (cT 89 aH) (cT 13 aH) (cT 145 eZ) (cT 146 eJ)
theorem aGd : X90 = aQ gG := by unfold X90 C90; repeat rw [bC fun _ h => h]
theorem agd (p0 : aI) (p1 : aA) : Le (Option.map gQ (pR p0 p1)) (bA SE 90 [aI.av p0, aA.av p1] [] []) := by
 refine aV aGd rfl ?_
 refine Le.trans ?_ (le_of_eq (T90 ..).symm)
 unfold pR
 refine lC ?_ ?_
 ·exact aJ rfl
 ·refine lQ eX aS (aaL _) fun r0 _ => ?_
  refine lC ?_ ?_
  ·exact aJ rfl
  ·refine lQ eX aS (gZ _) fun r1 _ => ?_
   refine lC ?_ ?_
   ·exact aJ rfl
   ·refine lQ eX afC (agY _) fun r2 _ => ?_
    refine lG (by simp only [EN]) ?_
    refine lG (by simp only [EN]) ?_
    refine lQ eX xJ (yG _ _) fun r3 _ => ?_
    exact aJ (by first | rfl | simp only [EN, gQ] <;> rfl)
def akm (C : aP) (Λ2 J : Lam) (a0 : Int) (a1 a2 : List D) (a3 : List (List D)) : Res := lab SE C Λ2 J 35 0 [1, 1, 1, 0, 0] (aW [(1, .d (.int .i64 a0)), (2, .ptr 1000000000 0), (4, .ptr 1000000001 0), (6, .row 3006)] [⟨38, (List.map AV.d a1)⟩, ⟨38, (List.map AV.d a2)⟩] [] [] [(3006, ⟨aC.ks, 49, 416, a3⟩)])
section
variable (Γ : Fun) (γ88 : Gm (Bool)) (γ53 : Gm (aB)) (γ89 : Gm (Int)) (γ90 : Gm (aI × aC × Int)) (Λ2 J : Lam)
def C35 : aP := aY (aY (aY (aY (aQ Γ) 88 aE γ88) 53 bQ γ53) 89 aH γ89) 90 gQ γ90
theorem T35 (p0 : aB) (p1 : Int) : bF SE (C35 Γ γ88 γ53 γ89 γ90) Λ2 J 35 [aB.av p0, .d (.int .i64 p1)] [] [] =
 cond (!p0.Online) (
 (some (.ret [aB.av p0, .row 0] [] [⟨aC.ks, 49, 416, []⟩]))) (
 akm (C35 Γ γ88 γ53 γ89 γ90) Λ2 J p1 (aB.enc p0) [D.str [], D.str [], D.bool false, D.int .i64 0, D.int .i64 0, D.int .i64 0, D.int .i64 0, D.sl aF.ks (List.map aF.enc []), D.sl aA.ks (List.map aA.enc []), D.int .i64 0, D.sl aD.ks (List.map aD.enc []), D.sl [.int .i64] (List.map eI []), D.int .i64 0, D.sl [.int .i64] (List.map eI []), D.bool false, D.int .i64 0, D.str [], D.str [], D.int .i64 0, D.bool false, D.int .i64 0, D.int .i64 0, D.str [], D.int .i64 0, D.sl aG.ks (List.map aG.enc [])] (List.map aC.enc [])) := by kernel_rfl
theorem aA4 (x1 : Int) (b0 b1 : aB) (w3006 : List aC) : bT SE (C35 Γ γ88 γ53 γ89 γ90) Λ2 J 35 0 [1, 1, 1, 0, 0] (aW [(1, .d (.int .i64 x1)), (2, .ptr 1000000000 0), (4, .ptr 1000000001 0), (6, .row 3006)] [⟨38, (List.map AV.d (aB.enc b0))⟩, ⟨38, (List.map AV.d (aB.enc b1))⟩] [] [] [(3006, ⟨aC.ks, 49, 416, (List.map aC.enc w3006)⟩)]) =
 cond (decide ((lM aA.enc b0.Queue : Int) > 0)) (
 cond (decide (0 ≤ 0) && decide (0 < (lM aA.enc b0.Queue : Int))) (
  γ88 [.agg [.d (.str (bD (cE aA.enc b0.Queue 0 0))), .d (.str (bD (cE aA.enc b0.Queue 0 1))), .d (.int .i64 (aR (cE aA.enc b0.Queue 0 2))), .d (.bool (bN (cE aA.enc b0.Queue 0 3))), .d (.int .i64 (aR (cE aA.enc b0.Queue 0 4))), .d (.int .i64 (aR (cE aA.enc b0.Queue 0 5))), .d (.str (bD (cE aA.enc b0.Queue 0 6))), .d (.int .i64 (aR (cE aA.enc b0.Queue 0 7))), .d (.sl aG.ks (dSl (cE aA.enc b0.Queue 0 8)))], .d (.int .i64 x1)] [] [] fun r0 =>
  cond r0 (
  γ53 [aB.av b0, .d (.int .i64 1)] [] [] fun r1 =>
  cond (decide (0 ≤ 1) && decide (1 ≤ ((lM aA.enc r1.Queue) : Int))) (
   akm (C35 Γ γ88 γ53 γ89 γ90) Λ2 J x1 [D.str r1.Client, D.str r1.User, D.bool r1.Online, D.int .i64 r1.Conn, D.int .i64 r1.Expiry, D.int .i64 r1.Until, D.int .i64 r1.Dropped, D.sl aF.ks (List.map aF.enc r1.Subs), D.sl aA.ks (bR (List.map aA.enc r1.Queue) (some 1) none), D.int .i64 r1.Out.Limit, D.sl aD.ks (List.map aD.enc r1.Out.Items), D.sl [.int .i64] (List.map eI r1.Out.Pool.Used), D.int .i64 r1.Out.Pool.Last, D.sl [.int .i64] (List.map eI r1.In.IDs), D.bool r1.Will.Set, D.int .i64 r1.Will.Delay, D.str r1.Will.Message.Topic, D.str r1.Will.Message.Payload, D.int .i64 r1.Will.Message.Level, D.bool r1.Will.Message.Retain, D.int .i64 r1.Will.Message.Priority, D.int .i64 r1.Will.Message.Expires, D.str r1.Will.Message.From, D.int .i64 r1.Will.Message.Seq, D.sl aG.ks (List.map aG.enc r1.Will.Message.Props)] (aB.enc b1) (List.map aC.enc w3006)) none) (
  cond ((aR (cE aA.enc b0.Queue 0 2)) == 0) (
  cond (decide ((lM aC.enc w3006 + List.length [[D.int .i64 3, D.int .i64 0, D.bool false, D.str (bD (cE aA.enc b0.Queue 0 0)), D.str (bD (cE aA.enc b0.Queue 0 1)), D.int .i64 (aR (cE aA.enc b0.Queue 0 2)), D.bool (bN (cE aA.enc b0.Queue 0 3)), D.int .i64 (aR (cE aA.enc b0.Queue 0 4)), D.int .i64 (aR (cE aA.enc b0.Queue 0 5)), D.str (bD (cE aA.enc b0.Queue 0 6)), D.int .i64 (aR (cE aA.enc b0.Queue 0 7)), D.sl aG.ks (dSl (cE aA.enc b0.Queue 0 8)), D.str [], D.str [], D.bool false, D.int .i64 0, D.int .i64 0, D.int .i64 0, D.bool false, D.int .i64 0, D.str [], D.str [], D.int .i64 0, D.bool false, D.int .i64 0, D.int .i64 0, D.str [], D.int .i64 0, D.sl aG.ks (List.map aG.enc []), D.bool false, D.int .i64 0, D.sl aF.ks (List.map aF.enc []), D.sl [.str] (List.map bL []), D.sl [.int .i64] (List.map eI [])]]) * 416 ≤ 140737488355328)) (
   cond (decide (0 ≤ 1) && decide (1 ≤ ((lM aA.enc b0.Queue) : Int))) (
   akm (C35 Γ γ88 γ53 γ89 γ90) Λ2 J x1 [D.str b0.Client, D.str b0.User, D.bool b0.Online, D.int .i64 b0.Conn, D.int .i64 b0.Expiry, D.int .i64 b0.Until, D.int .i64 b0.Dropped, D.sl aF.ks (List.map aF.enc b0.Subs), D.sl aA.ks (bR (List.map aA.enc b0.Queue) (some 1) none), D.int .i64 b0.Out.Limit, D.sl aD.ks (List.map aD.enc b0.Out.Items), D.sl [.int .i64] (List.map eI b0.Out.Pool.Used), D.int .i64 b0.Out.Pool.Last, D.sl [.int .i64] (List.map eI b0.In.IDs), D.bool b0.Will.Set, D.int .i64 b0.Will.Delay, D.str b0.Will.Message.Topic, D.str b0.Will.Message.Payload, D.int .i64 b0.Will.Message.Level, D.bool b0.Will.Message.Retain, D.int .i64 b0.Will.Message.Priority, D.int .i64 b0.Will.Message.Expires, D.str b0.Will.Message.From, D.int .i64 b0.Will.Message.Seq, D.sl aG.ks (List.map aG.enc b0.Will.Message.Props)] (aB.enc b1) (((List.map aC.enc w3006) ++ [[D.int .i64 3, D.int .i64 0, D.bool false, D.str (bD (cE aA.enc b0.Queue 0 0)), D.str (bD (cE aA.enc b0.Queue 0 1)), D.int .i64 (aR (cE aA.enc b0.Queue 0 2)), D.bool (bN (cE aA.enc b0.Queue 0 3)), D.int .i64 (aR (cE aA.enc b0.Queue 0 4)), D.int .i64 (aR (cE aA.enc b0.Queue 0 5)), D.str (bD (cE aA.enc b0.Queue 0 6)), D.int .i64 (aR (cE aA.enc b0.Queue 0 7)), D.sl aG.ks (dSl (cE aA.enc b0.Queue 0 8)), D.str [], D.str [], D.bool false, D.int .i64 0, D.int .i64 0, D.int .i64 0, D.bool false, D.int .i64 0, D.str [], D.str [], D.int .i64 0, D.bool false, D.int .i64 0, D.int .i64 0, D.str [], D.int .i64 0, D.sl aG.ks (List.map aG.enc []), D.bool false, D.int .i64 0, D.sl aF.ks (List.map aF.enc []), D.sl [.str] (List.map bL []), D.sl [.int .i64] (List.map eI [])]]))) none) none) (
  γ89 [aI.av b0.Out] [] [] fun r2 =>
  cond (r2 == 0) (
  (some (.ret [aB.av b0, .row 0] [] [⟨aC.ks, 49, 416, (List.map aC.enc w3006)⟩]))) (
  γ90 [aI.av b0.Out, .agg [.d (.str (bD (cE aA.enc b0.Queue 0 0))), .d (.str (bD (cE aA.enc b0.Queue 0 1))), .d (.int .i64 (aR (cE aA.enc b0.Queue 0 2))), .d (.bool (bN (cE aA.enc b0.Queue 0 3))), .d (.int .i64 (aR (cE aA.enc b0.Queue 0 4))), .d (.int .i64 (aR (cE aA.enc b0.Queue 0 5))), .d (.str (bD (cE aA.enc b0.Queue 0 6))), .d (.int .i64 (aR (cE aA.enc b0.Queue 0 7))), .d (.sl aG.ks (dSl (cE aA.enc b0.Queue 0 8)))]] [] [] fun r3 =>
  cond (decide ((lM aC.enc w3006 + lM aC.enc [r3.2.1]) * 416 ≤ 140737488355328)) (
  cond (decide (0 ≤ 1) && decide (1 ≤ ((lM aA.enc b0.Queue) : Int))) (
   akm (C35 Γ γ88 γ53 γ89 γ90) Λ2 J x1 [D.str b0.Client, D.str b0.User, D.bool b0.Online, D.int .i64 b0.Conn, D.int .i64 b0.Expiry, D.int .i64 b0.Until, D.int .i64 b0.Dropped, D.sl aF.ks (List.map aF.enc b0.Subs), D.sl aA.ks (bR (List.map aA.enc b0.Queue) (some 1) none), D.int .i64 r3.1.Limit, D.sl aD.ks (List.map aD.enc r3.1.Items), D.sl [.int .i64] (List.map eI r3.1.Pool.Used), D.int .i64 r3.1.Pool.Last, D.sl [.int .i64] (List.map eI b0.In.IDs), D.bool b0.Will.Set, D.int .i64 b0.Will.Delay, D.str b0.Will.Message.Topic, D.str b0.Will.Message.Payload, D.int .i64 b0.Will.Message.Level, D.bool b0.Will.Message.Retain, D.int .i64 b0.Will.Message.Priority, D.int .i64 b0.Will.Message.Expires, D.str b0.Will.Message.From, D.int .i64 b0.Will.Message.Seq, D.sl aG.ks (List.map aG.enc b0.Will.Message.Props)] (aB.enc b1) (((List.map aC.enc w3006) ++ (List.map aC.enc [r3.2.1])))) none) none)))) none) (
 (some (.ret [aB.av b0, .row 0] [] [⟨aC.ks, 49, 416, (List.map aC.enc w3006)⟩]))) := by kernel_rfl
end
abbrev X35 : aP := C35 gG (cT 88 aE) (cT 53 bQ) (cT 89 aH) (cT 90 gQ)
theorem azl : X35 = aQ gG := by unfold X35 C35; repeat rw [bC fun _ h => h]
abbrev aDq := akm X35 (bP SE gG (SE.hl 35) (SE.hr 35)) (J0 SE X35)
theorem ael : ∀ (fu : Nat) (x1 : Int) (b0 b1 : aB) (w3006 : List aC), Le (Option.map bK (eF fu x1 b0 b1 w3006)) (aDq x1 (aB.enc b0) (aB.enc b1) (List.map aC.enc w3006)) := by
 intro fu
 induction fu with
 | zero => intros; exact le_none
 | succ fu ih =>
  intro x1 b0 b1 w3006
  refine Le.trans ?_ (le_of_eq ((aZ azl).trans (aA4 ..)).symm)
  unfold eF
  refine lD (by simp only [EN]) ?_ ?_
  ·refine lG (by simp only [EN]) ?_
   refine lQ eX aK (by (try simp only [EN]); exact aew (List.getD b0.Queue (Int.toNat 0) default) x1) fun r0 _ => ?_
   refine lC ?_ ?_
   ·refine lQ eX dH (n5 _ _) fun r1 _ => ?_
    refine lG (by simp only [EN]) ?_
    (try simp only [EN]); exact ih x1 (aB.mk r1.Client r1.User r1.Online r1.Conn r1.Expiry r1.Until r1.Dropped r1.Subs (bR r1.Queue (some 1) none) r1.Out r1.In r1.Will) b1 w3006
   ·refine lD (by simp only [EN]) ?_ ?_
    ·refine lG (by simp only [EN]) ?_
     refine lG (by simp only [EN]) ?_
     (try simp only [EN]); exact ih x1 (aB.mk b0.Client b0.User b0.Online b0.Conn b0.Expiry b0.Until b0.Dropped b0.Subs (bR b0.Queue (some 1) none) b0.Out b0.In b0.Will) b1 ((w3006 ++ [(aC.mk 3 0 false (List.getD b0.Queue (Int.toNat 0) default) [] [] false 0 0 0 (aU.mk false 0 (aA.mk [] [] 0 false 0 0 [] 0 [])) false 0 [] [] [])]))
    ·refine lQ eX aS (aaL _) fun r2 _ => ?_
     refine lC ?_ ?_
     ·exact aJ rfl
     ·refine lQ eX aeV (by (try simp only [EN]); exact agd b0.Out (List.getD b0.Queue (Int.toNat 0) default)) fun r3 _ => ?_
      refine lG (by simp only [EN]) ?_
      refine lG (by simp only [EN]) ?_
      (try simp only [EN]); exact ih x1 (aB.mk b0.Client b0.User b0.Online b0.Conn b0.Expiry b0.Until b0.Dropped b0.Subs (bR b0.Queue (some 1) none) r3.1 b0.In b0.Will) b1 (w3006 ++ [r3.2.1])
  ·exact aJ rfl
theorem vL (p0 : aB) (p1 : Int) : Le (Option.map bK (gY p0 p1)) (bA SE 35 [aB.av p0, .d (.int .i64 p1)] [] []) := by
 refine aV azl rfl ?_
 refine Le.trans ?_ (le_of_eq (T35 ..).symm)
 unfold gY
 refine lC ?_ ?_
 ·exact aJ rfl
 ·(try simp only [EN]); exact ael fuel p1 p0 ((aB.mk [] [] false 0 0 0 0 [] [] (aI.mk 0 [] (aO.mk [] 0)) (bE.mk []) (aU.mk false 0 (aA.mk [] [] 0 false 0 0 [] 0 [])))) []
section
variable (Γ : Fun) (γ62 : Gm (aI × (List aC) × Int)) (γ35 : Gm (aB × (List aC))) (Λ2 J : Lam)
def C20 : aP := aY (aY (aQ Γ) 62 eU γ62) 35 bK γ35
theorem T20 (p0 : aB) (p1 : aC) (p2 : Int) : bF SE (C20 Γ γ62 γ35) Λ2 J 20 [aB.av p0, aC.av p1, .d (.int .i64 p2)] [] [] =
 γ62 [aI.av p0.Out, aC.av p1] [] [] fun r0 =>
 cond (r0.2.2 != 0) (
 (some (.ret [.agg [.d (.str []), .d (.str []), .d (.bool false), .d (.int .i64 0), .d (.int .i64 0), .d (.int .i64 0), .d (.int .i64 0), .d (.sl aF.ks (List.map aF.enc [])), .d (.sl aA.ks (List.map aA.enc [])), .d (.int .i64 0), .d (.sl aD.ks (List.map aD.enc [])), .d (.sl [.int .i64] (List.map eI [])), .d (.int .i64 0), .d (.sl [.int .i64] (List.map eI [])), .d (.bool false), .d (.int .i64 0), .d (.str []), .d (.str []), .d (.int .i64 0), .d (.bool false), .d (.int .i64 0), .d (.int .i64 0), .d (.str []), .d (.int .i64 0), .d (.sl aG.ks (List.map aG.enc []))], .row 0, .d (.int .i64 r0.2.2)] [] [⟨aC.ks, 49, 416, []⟩]))) (
 γ35 [aB.av (aB.mk p0.Client p0.User p0.Online p0.Conn p0.Expiry p0.Until p0.Dropped p0.Subs p0.Queue r0.1 p0.In p0.Will), .d (.int .i64 p2)] [] [] fun r1 =>
 cond (decide ((lM aC.enc [] + lM aC.enc r0.2.1) * 416 ≤ 140737488355328)) (
 cond (decide ((List.length ((List.map aC.enc []) ++ (List.map aC.enc r0.2.1)) + lM aC.enc r1.2) * 416 ≤ 140737488355328)) (
  (some (.ret [aB.av r1.1, .row 0, .d (.int .i64 0)] [] [⟨aC.ks, 49, 416, (((List.map aC.enc []) ++ (List.map aC.enc r0.2.1)) ++ (List.map aC.enc r1.2))⟩]))) none) none) := by kernel_rfl
end
abbrev X20 : aP := C20 gG (cT 62 eU) (cT 35 bK)
theorem aEW : X20 = aQ gG := by unfold X20 C20; repeat rw [bC fun _ h => h]
theorem afp (p0 : aB) (p1 : aC) (p2 : Int) : Le (Option.map cX (oD p0 p1 p2)) (bA SE 20 [aB.av p0, aC.av p1, .d (.int .i64 p2)] [] []) := by
 refine aV aEW rfl ?_
 refine Le.trans ?_ (le_of_eq (T20 ..).symm)
 unfold oD
 refine lQ eX aeM (ae3 _ _) fun r0 _ => ?_
 refine lC ?_ ?_
 ·exact aJ rfl
 ·refine lQ eX eA (vL _ _) fun r1 _ => ?_
  refine lG (by simp only [EN]) ?_
  refine lG (by simp only [EN]) ?_
  exact aJ (by first | rfl | simp only [EN, cX] <;> rfl)
def aqu (C : aP) (Λ2 J : Lam) (a0 a1 : List (List D)) (a2 : Int) : Res := lab SE C Λ2 J 55 0 [1, 1, 0, 1, 0] (aW [(0, .d (.sl aF.ks a0)), (1, .d (.sl aF.ks a1)), (5, .d (.int .i64 a2))] [] [] [] [])
section
variable (Γ : Fun)  (Λ2 J : Lam)
def C55 : aP := aQ Γ
theorem T55 (p0 p1 : List aF) : bF SE (C55 Γ) Λ2 J 55 [.d (.sl aF.ks (List.map aF.enc p0)), .d (.sl aF.ks (List.map aF.enc p1))] [] [] =
 cond ((lM aF.enc p0 : Int) != (lM aF.enc p1 : Int)) (
 (rB false)) (
 aqu (C55 Γ) Λ2 J (List.map aF.enc p0) (List.map aF.enc p1) 0) := by kernel_rfl
theorem aA2 (x0 x1 : List aF) (x5 : Int) : bT SE (C55 Γ) Λ2 J 55 0 [1, 1, 0, 1, 0] (aW [(0, .d (.sl aF.ks (List.map aF.enc x0))), (1, .d (.sl aF.ks (List.map aF.enc x1))), (5, .d (.int .i64 x5))] [] [] [] []) =
 cond (decide (x5 < (lM aF.enc x0 : Int))) (
 cond (iB x5 (lM aF.enc x0 : Int)) (
  cond (iB x5 (lM aF.enc x1 : Int)) (
  cond (!((bD (cE aF.enc x0 x5 0)) == (bD (cE aF.enc x1 x5 0)))) (
   (rB false)) (
  cond (iB x5 (lM aF.enc x0 : Int)) (
   cond (iB x5 (lM aF.enc x1 : Int)) (
   cond ((aR (cE aF.enc x0 x5 1)) != (aR (cE aF.enc x1 x5 1))) (
    (rB false)) (
   cond (iB x5 (lM aF.enc x0 : Int)) (
    cond (iB x5 (lM aF.enc x1 : Int)) (
    cond ((bN (cE aF.enc x0 x5 2)) != (bN (cE aF.enc x1 x5 2))) (
     (rB false)) (
    aqu (C55 Γ) Λ2 J (List.map aF.enc x0) (List.map aF.enc x1) (w6 (x5 + 1)))) none) none)) none) none)) none) none) (
 (rB true)) := by kernel_rfl
end
abbrev X55 : aP := C55 gG
theorem axa : X55 = aQ gG := rfl
abbrev aCK := aqu X55 (bP SE gG (SE.hl 55) (SE.hr 55)) (J0 SE X55)
theorem aeC : ∀ (fu : Nat) (x0 x1 : List aF) (x5 : Int), Le (Option.map aE (iN fu x0 x1 x5)) (aCK (List.map aF.enc x0) (List.map aF.enc x1) x5) := by
 intro fu
 induction fu with
 | zero => intros; exact le_none
 | succ fu ih =>
  intro x0 x1 x5
  refine Le.trans ?_ (le_of_eq ((aZ axa).trans (aA2 ..)).symm)
  unfold iN
  refine lD (by simp only [EN]) ?_ ?_
  ·refine lG (by simp only [EN]) ?_
   refine lG (by simp only [EN]) ?_
   refine lD (by simp only [EN]) ?_ ?_
   ·exact aJ rfl
   ·refine lG (by simp only [EN]) ?_
    refine lG (by simp only [EN]) ?_
    refine lD (by simp only [EN]) ?_ ?_
    ·exact aJ rfl
    ·refine lG (by simp only [EN]) ?_
     refine lG (by simp only [EN]) ?_
     refine lD (by simp only [EN]) ?_ ?_
     ·exact aJ rfl
     ·exact ih x0 x1 (w6 (x5 + 1))
  ·exact aJ rfl
theorem ag7 (p0 p1 : List aF) : Le (Option.map aE (rK p0 p1)) (bA SE 55 [.d (.sl aF.ks (List.map aF.enc p0)), .d (.sl aF.ks (List.map aF.enc p1))] [] []) := by
 refine aV axa rfl ?_
 refine Le.trans ?_ (le_of_eq (T55 ..).symm)
 unfold rK
 refine lD (by simp only [EN]) ?_ ?_
 ·exact aJ rfl
 ·exact aeC fuel p0 p1 0
def aq8 (C : aP) (Λ2 J : Lam) (a0 a1 : List (List D)) (a2 : Int) : Res := lab SE C Λ2 J 56 0 [1, 1, 0, 1, 0] (aW [(0, .d (.sl aA.ks a0)), (1, .d (.sl aA.ks a1)), (5, .d (.int .i64 a2))] [] [] [] [])
section
variable (Γ : Fun) (γ97 : Gm (Bool)) (Λ2 J : Lam)
def C56 : aP := aY (aQ Γ) 97 aE γ97
theorem T56 (p0 p1 : List aA) : bF SE (C56 Γ γ97) Λ2 J 56 [.d (.sl aA.ks (List.map aA.enc p0)), .d (.sl aA.ks (List.map aA.enc p1))] [] [] =
 cond ((lM aA.enc p0 : Int) != (lM aA.enc p1 : Int)) (
 (rB false)) (
 aq8 (C56 Γ γ97) Λ2 J (List.map aA.enc p0) (List.map aA.enc p1) 0) := by kernel_rfl
theorem aCL (x0 x1 : List aA) (x5 : Int) : bT SE (C56 Γ γ97) Λ2 J 56 0 [1, 1, 0, 1, 0] (aW [(0, .d (.sl aA.ks (List.map aA.enc x0))), (1, .d (.sl aA.ks (List.map aA.enc x1))), (5, .d (.int .i64 x5))] [] [] [] []) =
 cond (decide (x5 < (lM aA.enc x0 : Int))) (
 cond (iB x5 (lM aA.enc x0 : Int)) (
  cond (iB x5 (lM aA.enc x1 : Int)) (
  γ97 [.agg [.d (.str (bD (cE aA.enc x0 x5 0))), .d (.str (bD (cE aA.enc x0 x5 1))), .d (.int .i64 (aR (cE aA.enc x0 x5 2))), .d (.bool (bN (cE aA.enc x0 x5 3))), .d (.int .i64 (aR (cE aA.enc x0 x5 4))), .d (.int .i64 (aR (cE aA.enc x0 x5 5))), .d (.str (bD (cE aA.enc x0 x5 6))), .d (.int .i64 (aR (cE aA.enc x0 x5 7))), .d (.sl aG.ks (dSl (cE aA.enc x0 x5 8)))], .agg [.d (.str (bD (cE aA.enc x1 x5 0))), .d (.str (bD (cE aA.enc x1 x5 1))), .d (.int .i64 (aR (cE aA.enc x1 x5 2))), .d (.bool (bN (cE aA.enc x1 x5 3))), .d (.int .i64 (aR (cE aA.enc x1 x5 4))), .d (.int .i64 (aR (cE aA.enc x1 x5 5))), .d (.str (bD (cE aA.enc x1 x5 6))), .d (.int .i64 (aR (cE aA.enc x1 x5 7))), .d (.sl aG.ks (dSl (cE aA.enc x1 x5 8)))]] [] [] fun r0 =>
  cond (!r0) (
   (rB false)) (
  aq8 (C56 Γ γ97) Λ2 J (List.map aA.enc x0) (List.map aA.enc x1) (w6 (x5 + 1)))) none) none) (
 (rB true)) := by kernel_rfl
end
abbrev X56 : aP := C56 gG (cT 97 aE)
theorem azJ : X56 = aQ gG := by unfold X56 C56; rw [bC fun _ h => h]
abbrev aAE := aq8 X56 (bP SE gG (SE.hl 56) (SE.hr 56)) (J0 SE X56)
theorem aeE : ∀ (fu : Nat) (x0 x1 : List aA) (x5 : Int), Le (Option.map aE (iP fu x0 x1 x5)) (aAE (List.map aA.enc x0) (List.map aA.enc x1) x5) := by
 intro fu
 induction fu with
 | zero => intros; exact le_none
 | succ fu ih =>
  intro x0 x1 x5
  refine Le.trans ?_ (le_of_eq ((aZ azJ).trans (aCL ..)).symm)
  unfold iP
  refine lD (by simp only [EN]) ?_ ?_
  ·refine lG (by simp only [EN]) ?_
   refine lG (by simp only [EN]) ?_
   refine lQ eX aK (by (try simp only [EN]); exact iL (List.getD x0 (Int.toNat x5) default) (List.getD x1 (Int.toNat x5) default)) fun r0 _ => ?_
   refine lC ?_ ?_
   ·exact aJ rfl
   ·exact ih x0 x1 (w6 (x5 + 1))
  ·exact aJ rfl
theorem ag8 (p0 p1 : List aA) : Le (Option.map aE (kX p0 p1)) (bA SE 56 [.d (.sl aA.ks (List.map aA.enc p0)), .d (.sl aA.ks (List.map aA.enc p1))] [] []) := by
 refine aV azJ rfl ?_
 refine Le.trans ?_ (le_of_eq (T56 ..).symm)
 unfold kX
 refine lD (by simp only [EN]) ?_ ?_
 ·exact aJ rfl
 ·exact aeE fuel p0 p1 0
def ao1 (C : aP) (Λ2 J : Lam) (a0 a1 : List (List D)) (a2 : Int) : Res := lab SE C Λ2 J 108 0 [1, 1, 0, 1, 0] (aW [(0, .d (.sl [.int .i64] a0)), (1, .d (.sl [.int .i64] a1)), (5, .d (.int .i64 a2))] [] [] [] [])
section
variable (Γ : Fun)  (Λ2 J : Lam)
def apl : aP := aQ Γ
theorem aDN (p0 p1 : List Int) : bF SE (apl Γ) Λ2 J 108 [.d (.sl [.int .i64] (List.map eI p0)), .d (.sl [.int .i64] (List.map eI p1))] [] [] =
 cond ((lM eI p0 : Int) != (lM eI p1 : Int)) (
 (rB false)) (
 ao1 (apl Γ) Λ2 J (List.map eI p0) (List.map eI p1) 0) := by kernel_rfl
theorem axs (x0 x1 : List Int) (x5 : Int) : bT SE (apl Γ) Λ2 J 108 0 [1, 1, 0, 1, 0] (aW [(0, .d (.sl [.int .i64] (List.map eI x0))), (1, .d (.sl [.int .i64] (List.map eI x1))), (5, .d (.int .i64 x5))] [] [] [] []) =
 cond (decide (x5 < (lM eI x0 : Int))) (
 cond (iB x5 (lM eI x0 : Int)) (
  cond (iB x5 (lM eI x1 : Int)) (
  cond ((aR (cE eI x0 x5 0)) != (aR (cE eI x1 x5 0))) (
   (rB false)) (
  ao1 (apl Γ) Λ2 J (List.map eI x0) (List.map eI x1) (w6 (x5 + 1)))) none) none) (
 (rB true)) := by kernel_rfl
end
abbrev atK : aP := apl gG
theorem avb : atK = aQ gG := rfl
abbrev axJ := ao1 atK (bP SE gG (SE.hl 108) (SE.hr 108)) (J0 SE atK)
theorem aee : ∀ (fu : Nat) (x0 x1 : List Int) (x5 : Int), Le (Option.map aE (iM fu x0 x1 x5)) (axJ (List.map eI x0) (List.map eI x1) x5) := by
 intro fu
 induction fu with
 | zero => intros; exact le_none
 | succ fu ih =>
  intro x0 x1 x5
  refine Le.trans ?_ (le_of_eq ((aZ avb).trans (axs ..)).symm)
  unfold iM
  refine lD (by simp only [EN]) ?_ ?_
  ·refine lG (by simp only [EN]) ?_
   refine lG (by simp only [EN]) ?_
   refine lD (by simp only [EN]) ?_ ?_
   ·exact aJ rfl
   ·exact ih x0 x1 (w6 (x5 + 1))
  ·exact aJ rfl
theorem aaK (p0 p1 : List Int) : Le (Option.map aE (nV p0 p1)) (bA SE 108 [.d (.sl [.int .i64] (List.map eI p0)), .d (.sl [.int .i64] (List.map eI p1))] [] []) := by
 refine aV avb rfl ?_
 refine Le.trans ?_ (le_of_eq (aDN ..).symm)
 unfold nV
 refine lD (by simp only [EN]) ?_ ?_
 ·exact aJ rfl
 ·exact aee fuel p0 p1 0
section
variable (Γ : Fun) (γ108 : Gm (Bool)) (Λ2 J : Lam)
def atU : aP := aY (aQ Γ) 108 aE γ108
theorem aGn (p0 p1 : aO) : bF SE (atU Γ γ108) Λ2 J 107 [aO.av p0, aO.av p1] [] [] =
 cond (p0.Last == p1.Last) (
 γ108 [.d (.sl [.int .i64] (List.map eI p0.Used)), .d (.sl [.int .i64] (List.map eI p1.Used))] [] [] fun r0 =>
 (rB r0)) (
 (rB false)) := by kernel_rfl
end
abbrev azo : aP := atU gG (cT 108 aE)
theorem aDb : azo = aQ gG := by unfold azo atU; rw [bC fun _ h => h]
theorem ahc (p0 p1 : aO) : Le (Option.map aE (uO p0 p1)) (bA SE 107 [aO.av p0, aO.av p1] [] []) := by
 refine aV aDb rfl ?_
 refine Le.trans ?_ (le_of_eq (aGn ..).symm)
 unfold uO
 refine lC ?_ ?_
 ·refine lQ eX aK (aaK _ _) fun r0 _ => ?_
  exact aJ rfl
 ·exact aJ rfl
def aqg (C : aP) (Λ2 J : Lam) (a0 : Int) (a1 a2 : List D) : Res := lab SE C Λ2 J 57 0 [1, 1, 0, 1, 0] (aW [(2, .ptr 1000000000 0), (3, .ptr 1000000001 0), (5, .d (.int .i64 a0))] [⟨29, (List.map AV.d a1)⟩, ⟨29, (List.map AV.d a2)⟩] [] [] [])
def avo (C : aP) (Λ2 J : Lam) (a0 a1 : List D) : Res := lab SE C Λ2 J 57 0 [1, 1, 0, 0] (aW [(2, .ptr 1000000000 0), (3, .ptr 1000000001 0)] [⟨29, (List.map AV.d a0)⟩, ⟨29, (List.map AV.d a1)⟩] [] [] [])
section
variable (Γ : Fun) (γ107 γ97 : Gm (Bool)) (Λ2 J : Lam)
def C57 : aP := aY (aY (aQ Γ) 107 aE γ107) 97 aE γ97
theorem T57 (p0 p1 : aI) : bF SE (C57 Γ γ107 γ97) Λ2 J 57 [aI.av p0, aI.av p1] [] [] =
 cond (p0.Limit != p1.Limit) (
 (rB false)) (
 γ107 [aO.av p0.Pool, aO.av p1.Pool] [] [] fun r0 =>
 cond (!r0) (
 (rB false)) (
 cond ((lM aD.enc p0.Items : Int) != (lM aD.enc p1.Items : Int)) (
 (rB false)) (
 avo (C57 Γ γ107 γ97) Λ2 J (aI.enc p0) (aI.enc p1)))) := by kernel_rfl
theorem aBg (x5 : Int) (b0 b1 : aI) : bT SE (C57 Γ γ107 γ97) Λ2 J 57 0 [1, 1, 0, 1, 0] (aW [(2, .ptr 1000000000 0), (3, .ptr 1000000001 0), (5, .d (.int .i64 x5))] [⟨29, (List.map AV.d (aI.enc b0))⟩, ⟨29, (List.map AV.d (aI.enc b1))⟩] [] [] []) =
 cond (decide (x5 < (lM aD.enc b0.Items : Int))) (
 cond (iB x5 (lM aD.enc b0.Items : Int)) (
  cond (iB x5 (lM aD.enc b1.Items : Int)) (
  cond ((aR (cE aD.enc b0.Items x5 0)) != (aR (cE aD.enc b1.Items x5 0))) (
   (rB false)) (
  cond (iB x5 (lM aD.enc b0.Items : Int)) (
   cond (iB x5 (lM aD.enc b1.Items : Int)) (
   cond ((aR (cE aD.enc b0.Items x5 1)) != (aR (cE aD.enc b1.Items x5 1))) (
    (rB false)) (
   cond (iB x5 (lM aD.enc b0.Items : Int)) (
    cond (iB x5 (lM aD.enc b1.Items : Int)) (
    γ97 [.agg [.d (.str (bD (cE aD.enc b0.Items x5 2))), .d (.str (bD (cE aD.enc b0.Items x5 3))), .d (.int .i64 (aR (cE aD.enc b0.Items x5 4))), .d (.bool (bN (cE aD.enc b0.Items x5 5))), .d (.int .i64 (aR (cE aD.enc b0.Items x5 6))), .d (.int .i64 (aR (cE aD.enc b0.Items x5 7))), .d (.str (bD (cE aD.enc b0.Items x5 8))), .d (.int .i64 (aR (cE aD.enc b0.Items x5 9))), .d (.sl aG.ks (dSl (cE aD.enc b0.Items x5 10)))], .agg [.d (.str (bD (cE aD.enc b1.Items x5 2))), .d (.str (bD (cE aD.enc b1.Items x5 3))), .d (.int .i64 (aR (cE aD.enc b1.Items x5 4))), .d (.bool (bN (cE aD.enc b1.Items x5 5))), .d (.int .i64 (aR (cE aD.enc b1.Items x5 6))), .d (.int .i64 (aR (cE aD.enc b1.Items x5 7))), .d (.str (bD (cE aD.enc b1.Items x5 8))), .d (.int .i64 (aR (cE aD.enc b1.Items x5 9))), .d (.sl aG.ks (dSl (cE aD.enc b1.Items x5 10)))]] [] [] fun r1 =>
    cond (!r1) (
     (rB false)) (
    aqg (C57 Γ γ107 γ97) Λ2 J (w6 (x5 + 1)) (aI.enc b0) (aI.enc b1))) none) none)) none) none)) none) none) (
 (rB true)) := by kernel_rfl
theorem aCC (b0 b1 : aI) : bT SE (C57 Γ γ107 γ97) Λ2 J 57 0 [1, 1, 0, 0] (aW [(2, .ptr 1000000000 0), (3, .ptr 1000000001 0)] [⟨29, (List.map AV.d (aI.enc b0))⟩, ⟨29, (List.map AV.d (aI.enc b1))⟩] [] [] []) =
 aqg (C57 Γ γ107 γ97) Λ2 J 0 (aI.enc b0) (aI.enc b1) := by kernel_rfl
end
abbrev X57 : aP := C57 gG (cT 107 aE) (cT 97 aE)
theorem aud : X57 = aQ gG := by unfold X57 C57; repeat rw [bC fun _ h => h]
abbrev aAT := aqg X57 (bP SE gG (SE.hl 57) (SE.hr 57)) (J0 SE X57)
abbrev aBF := avo X57 (bP SE gG (SE.hl 57) (SE.hr 57)) (J0 SE X57)
theorem aeN : ∀ (fu : Nat) (x5 : Int) (b0 b1 : aI), Le (Option.map aE (iK fu x5 b0 b1)) (aAT x5 (aI.enc b0) (aI.enc b1)) := by
 intro fu
 induction fu with
 | zero => intros; exact le_none
 | succ fu ih =>
  intro x5 b0 b1
  refine Le.trans ?_ (le_of_eq ((aZ aud).trans (aBg ..)).symm)
  unfold iK
  refine lD (by simp only [EN]) ?_ ?_
  ·refine lG (by simp only [EN]) ?_
   refine lG (by simp only [EN]) ?_
   refine lD (by simp only [EN]) ?_ ?_
   ·exact aJ rfl
   ·refine lG (by simp only [EN]) ?_
    refine lG (by simp only [EN]) ?_
    refine lD (by simp only [EN]) ?_ ?_
    ·exact aJ rfl
    ·refine lG (by simp only [EN]) ?_
     refine lG (by simp only [EN]) ?_
     refine lQ eX aK (by (try simp only [EN]); exact iL ((List.getD b0.Items (Int.toNat x5) default).Message) ((List.getD b1.Items (Int.toNat x5) default).Message)) fun r1 _ => ?_
     refine lC ?_ ?_
     ·exact aJ rfl
     ·exact ih (w6 (x5 + 1)) b0 b1
  ·exact aJ rfl
theorem aeS (b0 b1 : aI) : Le (Option.map aE (rT b0 b1)) (aBF (aI.enc b0) (aI.enc b1)) := by
 refine Le.trans ?_ (le_of_eq ((aZ aud).trans (aCC ..)).symm)
 unfold rT
 exact aeN fuel 0 b0 b1
theorem ahb (p0 p1 : aI) : Le (Option.map aE (qK p0 p1)) (bA SE 57 [aI.av p0, aI.av p1] [] []) := by
 refine aV aud rfl ?_
 refine Le.trans ?_ (le_of_eq (T57 ..).symm)
 unfold qK
 refine lC ?_ ?_
 ·exact aJ rfl
 ·refine lQ eX aK (ahc _ _) fun r0 _ => ?_
  refine lC ?_ ?_
  ·exact aJ rfl
  ·refine lD (by simp only [EN]) ?_ ?_
   ·exact aJ rfl
   ·exact aeS p0 p1
section
variable (Γ : Fun) (γ108 : Gm (Bool)) (Λ2 J : Lam)
def C58 : aP := aY (aQ Γ) 108 aE γ108
theorem T58 (p0 p1 : bE) : bF SE (C58 Γ γ108) Λ2 J 58 [bE.av p0, bE.av p1] [] [] =
 γ108 [.d (.sl [.int .i64] (List.map eI p0.IDs)), .d (.sl [.int .i64] (List.map eI p1.IDs))] [] [] fun r0 =>
 (rB r0) := by kernel_rfl
end
abbrev X58 : aP := C58 gG (cT 108 aE)
theorem aFB : X58 = aQ gG := by unfold X58 C58; rw [bC fun _ h => h]
theorem ag6 (p0 p1 : bE) : Le (Option.map aE (uU p0 p1)) (bA SE 58 [bE.av p0, bE.av p1] [] []) := by
 refine aV aFB rfl ?_
 refine Le.trans ?_ (le_of_eq (T58 ..).symm)
 unfold uU
 refine lQ eX aK (aaK _ _) fun r0 _ => ?_
 exact aJ rfl
section
variable (Γ : Fun) (γ97 : Gm (Bool)) (Λ2 J : Lam)
def C59 : aP := aY (aQ Γ) 97 aE γ97
theorem T59 (p0 p1 : aU) : bF SE (C59 Γ γ97) Λ2 J 59 [aU.av p0, aU.av p1] [] [] =
 cond (p0.Set == p1.Set) (
 cond (p0.Delay == p1.Delay) (
  γ97 [aA.av p0.Message, aA.av p1.Message] [] [] fun r0 =>
  (rB r0)) (
 (rB false))) (
 (rB false)) := by kernel_rfl
end
abbrev X59 : aP := C59 gG (cT 97 aE)
theorem aEN : X59 = aQ gG := by unfold X59 C59; rw [bC fun _ h => h]
theorem ag3 (p0 p1 : aU) : Le (Option.map aE (uJ p0 p1)) (bA SE 59 [aU.av p0, aU.av p1] [] []) := by
 refine aV aEN rfl ?_
 refine Le.trans ?_ (le_of_eq (T59 ..).symm)
 unfold uJ
 refine lC ?_ ?_
 ·refine lC ?_ ?_
  ·refine lQ eX aK (iL _ _) fun r0 _ => ?_
   exact aJ rfl
  ·exact aJ rfl
 ·exact aJ rfl
section
variable (Γ : Fun) (γ55 γ56 γ57 γ58 γ59 : Gm (Bool)) (Λ2 J : Lam)
def C17 : aP := aY (aY (aY (aY (aY (aQ Γ) 55 aE γ55) 56 aE γ56) 57 aE γ57) 58 aE γ58) 59 aE γ59
theorem T17 (p0 p1 : aB) : bF SE (C17 Γ γ55 γ56 γ57 γ58 γ59) Λ2 J 17 [aB.av p0, aB.av p1] [] [] =
 cond (p0.Client == p1.Client) (
 cond (p0.User == p1.User) (
  cond (p0.Online == p1.Online) (
  cond (p0.Conn == p1.Conn) (
   cond (p0.Expiry == p1.Expiry) (
   cond (p0.Until == p1.Until) (
    cond (p0.Dropped == p1.Dropped) (
    γ55 [.d (.sl aF.ks (List.map aF.enc p0.Subs)), .d (.sl aF.ks (List.map aF.enc p1.Subs))] [] [] fun r0 =>
    cond r0 (
     γ56 [.d (.sl aA.ks (List.map aA.enc p0.Queue)), .d (.sl aA.ks (List.map aA.enc p1.Queue))] [] [] fun r1 =>
     cond r1 (
     γ57 [aI.av p0.Out, aI.av p1.Out] [] [] fun r2 =>
     cond r2 (
      γ58 [bE.av p0.In, bE.av p1.In] [] [] fun r3 =>
      cond r3 (
      γ59 [aU.av p0.Will, aU.av p1.Will] [] [] fun r4 =>
      (rB r4)) (
      (rB false))) (
     (rB false))) (
     (rB false))) (
    (rB false))) (
    (rB false))) (
   (rB false))) (
   (rB false))) (
  (rB false))) (
  (rB false))) (
 (rB false))) (
 (rB false)) := by kernel_rfl
end
abbrev X17 : aP := C17 gG (cT 55 aE) (cT 56 aE) (cT 57 aE) (cT 58 aE) (cT 59 aE)
theorem aFJ : X17 = aQ gG := by unfold X17 C17; repeat rw [bC fun _ h => h]
theorem gJ (p0 p1 : aB) : Le (Option.map aE (eG p0 p1)) (bA SE 17 [aB.av p0, aB.av p1] [] []) := by
 refine aV aFJ rfl ?_
 refine Le.trans ?_ (le_of_eq (T17 ..).symm)
 unfold eG
 refine lC ?_ ?_
 ·refine lC ?_ ?_
  ·refine lC ?_ ?_
   ·refine lC ?_ ?_
    ·refine lC ?_ ?_
     ·refine lC ?_ ?_
      ·refine lC ?_ ?_
       ·refine lQ eX aK (ag7 _ _) fun r0 _ => ?_
        refine lC ?_ ?_
        ·refine lQ eX aK (ag8 _ _) fun r1 _ => ?_
         refine lC ?_ ?_
         ·refine lQ eX aK (ahb _ _) fun r2 _ => ?_
          refine lC ?_ ?_
          ·refine lQ eX aK (ag6 _ _) fun r3 _ => ?_
           refine lC ?_ ?_
           ·refine lQ eX aK (ag3 _ _) fun r4 _ => ?_
            exact aJ rfl
           ·exact aJ rfl
          ·exact aJ rfl
         ·exact aJ rfl
        ·exact aJ rfl
       ·exact aJ rfl
      ·exact aJ rfl
     ·exact aJ rfl
    ·exact aJ rfl
   ·exact aJ rfl
  ·exact aJ rfl
 ·exact aJ rfl
section
variable (Γ : Fun) (γ97 : Gm (Bool)) (Λ2 J : Lam)
def auO : aP := aY (aQ Γ) 97 aE γ97
theorem aEy (p0 p1 : aU) : bF SE (auO Γ γ97) Λ2 J 119 [aU.av p0, aU.av p1] [] [] =
 cond (p0.Set == p1.Set) (
 cond (p0.Delay == p1.Delay) (
  γ97 [aA.av p0.Message, aA.av p1.Message] [] [] fun r0 =>
  (rB r0)) (
 (rB false))) (
 (rB false)) := by kernel_rfl
end
abbrev ayM : aP := auO gG (cT 97 aE)
theorem aBv : ayM = aQ gG := by unfold ayM auO; rw [bC fun _ h => h]
theorem adC (p0 p1 : aU) : Le (Option.map aE (lY p0 p1)) (bA SE 119 [aU.av p0, aU.av p1] [] []) := by
 refine aV aBv rfl ?_
 refine Le.trans ?_ (le_of_eq (aEy ..).symm)
 unfold lY
 refine lC ?_ ?_
 ·refine lC ?_ ?_
  ·refine lQ eX aK (iL _ _) fun r0 _ => ?_
   exact aJ rfl
  ·exact aJ rfl
 ·exact aJ rfl
def aoi (C : aP) (Λ2 J : Lam) (a0 a1 : List (List D)) (a2 : Int) : Res := lab SE C Λ2 J 120 0 [1, 1, 0, 1, 0] (aW [(0, .d (.sl aF.ks a0)), (1, .d (.sl aF.ks a1)), (5, .d (.int .i64 a2))] [] [] [] [])
section
variable (Γ : Fun)  (Λ2 J : Lam)
def apv : aP := aQ Γ
theorem aEg (p0 p1 : List aF) : bF SE (apv Γ) Λ2 J 120 [.d (.sl aF.ks (List.map aF.enc p0)), .d (.sl aF.ks (List.map aF.enc p1))] [] [] =
 cond ((lM aF.enc p0 : Int) != (lM aF.enc p1 : Int)) (
 (rB false)) (
 aoi (apv Γ) Λ2 J (List.map aF.enc p0) (List.map aF.enc p1) 0) := by kernel_rfl
theorem awZ (x0 x1 : List aF) (x5 : Int) : bT SE (apv Γ) Λ2 J 120 0 [1, 1, 0, 1, 0] (aW [(0, .d (.sl aF.ks (List.map aF.enc x0))), (1, .d (.sl aF.ks (List.map aF.enc x1))), (5, .d (.int .i64 x5))] [] [] [] []) =
 cond (decide (x5 < (lM aF.enc x0 : Int))) (
 cond (iB x5 (lM aF.enc x0 : Int)) (
  cond (iB x5 (lM aF.enc x1 : Int)) (
  cond (!(((bD (cE aF.enc x0 x5 0)) == (bD (cE aF.enc x1 x5 0))) && (((aR (cE aF.enc x0 x5 1)) == (aR (cE aF.enc x1 x5 1))) && (((bN (cE aF.enc x0 x5 2)) == (bN (cE aF.enc x1 x5 2))) && true)))) (
   (rB false)) (
  aoi (apv Γ) Λ2 J (List.map aF.enc x0) (List.map aF.enc x1) (w6 (x5 + 1)))) none) none) (
 (rB true)) := by kernel_rfl
end
abbrev auq : aP := apv gG
theorem avC : auq = aQ gG := rfl
abbrev aAg := aoi auq (bP SE gG (SE.hl 120) (SE.hr 120)) (J0 SE auq)
theorem abZ : ∀ (fu : Nat) (x0 x1 : List aF) (x5 : Int), Le (Option.map aE (fV fu x0 x1 x5)) (aAg (List.map aF.enc x0) (List.map aF.enc x1) x5) := by
 intro fu
 induction fu with
 | zero => intros; exact le_none
 | succ fu ih =>
  intro x0 x1 x5
  refine Le.trans ?_ (le_of_eq ((aZ avC).trans (awZ ..)).symm)
  unfold fV
  refine lD (by simp only [EN]) ?_ ?_
  ·refine lG (by simp only [EN]) ?_
   refine lG (by simp only [EN]) ?_
   refine lD (by simp only [EN]) ?_ ?_
   ·exact aJ rfl
   ·exact ih x0 x1 (w6 (x5 + 1))
  ·exact aJ rfl
theorem adt (p0 p1 : List aF) : Le (Option.map aE (lX p0 p1)) (bA SE 120 [.d (.sl aF.ks (List.map aF.enc p0)), .d (.sl aF.ks (List.map aF.enc p1))] [] []) := by
 refine aV avC rfl ?_
 refine Le.trans ?_ (le_of_eq (aEg ..).symm)
 unfold lX
 refine lD (by simp only [EN]) ?_ ?_
 ·exact aJ rfl
 ·exact abZ fuel p0 p1 0
end Te
end PX
