import Derived.Test.YtojlmojebnlmdaaGreatDoorTre1
set_option linter.unusedVariables false
set_option linter.unusedSimpArgs false
set_option maxRecDepth 100000
noncomputable section
namespace PX
open Go
open Md
namespace Te
def arF (C : aP) (Λ2 J : Lam) (a0 : Int) (a1 a2 a3 a4 : List D) : Res := lab SE C Λ2 J 60 0 [1, 1, 1, 1, 0, 0] (aW [(2, .ptr 1000000000 0), (3, .ptr 1000000001 0), (4, .ptr 1000000002 0), (7, .d (.int .i64 a0)), (8, .ptr 1000000003 0)] [⟨29, (List.map AV.d a1)⟩, ⟨49, (List.map AV.d a2)⟩, ⟨29, (List.map AV.d a3)⟩, ⟨122, (List.map AV.d a4)⟩] [] [] [])
section
variable (Γ : Fun) (γ109 : Gm (Int)) (γ110 γ111 : Gm (aI)) (γ112 : Gm (aC)) (Λ2 J : Lam)
def C60 : aP := aY (aY (aY (aY (aQ Γ) 109 aH γ109) 110 bX γ110) 111 bX γ111) 112 bU γ112
theorem T60 (p0 : aI) (p1 : aC) : bF SE (C60 Γ γ109 γ110 γ111 γ112) Λ2 J 60 [aI.av p0, aC.av p1] [] [] =
 γ109 [.d (.sl aD.ks (List.map aD.enc p0.Items)), .d (.int .i64 p1.ID)] [] [] fun r0 =>
 cond (decide (r0 ≥ 0)) (
 cond (iB r0 (lM aD.enc p0.Items : Int)) (
  arF (C60 Γ γ109 γ110 γ111 γ112) Λ2 J r0 (aI.enc p0) (aC.enc p1) [D.int .i64 0, D.sl aD.ks (List.map aD.enc []), D.sl [.int .i64] (List.map eI []), D.int .i64 0] [D.int .i64 (aR (cE aD.enc p0.Items r0 0)), D.int .i64 (aR (cE aD.enc p0.Items r0 1)), D.str (bC (cE aD.enc p0.Items r0 2)), D.str (bC (cE aD.enc p0.Items r0 3)), D.int .i64 (aR (cE aD.enc p0.Items r0 4)), D.bool (bM (cE aD.enc p0.Items r0 5)), D.int .i64 (aR (cE aD.enc p0.Items r0 6)), D.int .i64 (aR (cE aD.enc p0.Items r0 7)), D.str (bC (cE aD.enc p0.Items r0 8)), D.int .i64 (aR (cE aD.enc p0.Items r0 9)), D.sl aG.ks (dSl (cE aD.enc p0.Items r0 10))]) none) (
 arF (C60 Γ γ109 γ110 γ111 γ112) Λ2 J r0 (aI.enc p0) (aC.enc p1) [D.int .i64 0, D.sl aD.ks (List.map aD.enc []), D.sl [.int .i64] (List.map eI []), D.int .i64 0] [D.int .i64 0, D.int .i64 0, D.str [], D.str [], D.int .i64 0, D.bool false, D.int .i64 0, D.int .i64 0, D.str [], D.int .i64 0, D.sl aG.ks (List.map aG.enc [])]) := by kernel_rfl
theorem aBF (x7 : Int) (b0 : aI) (b1 : aC) (b2 : aI) (b3 : aD) : bT SE (C60 Γ γ109 γ110 γ111 γ112) Λ2 J 60 0 [1, 1, 1, 1, 0, 0] (aW [(2, .ptr 1000000000 0), (3, .ptr 1000000001 0), (4, .ptr 1000000002 0), (7, .d (.int .i64 x7)), (8, .ptr 1000000003 0)] [⟨29, (List.map AV.d (aI.enc b0))⟩, ⟨49, (List.map AV.d (aC.enc b1))⟩, ⟨29, (List.map AV.d (aI.enc b2))⟩, ⟨122, (List.map AV.d (aD.enc b3))⟩] [] [] []) =
 cond (b1.Kind == 4) (
 cond (decide (x7 < 0)) (
  γ110 [aI.av b0] [] [] fun r1 =>
  (some (.ret [.agg [.d (.int .i64 r1.Limit), .row 0, .row 1, .d (.int .i64 r1.Pool.Last)], .row 2, .d (.int .i64 0)] [] [⟨aD.ks, 122, 128, (List.map aD.enc r1.Items)⟩, ⟨[.int .i64], 3, 8, (List.map eI r1.Pool.Used)⟩, ⟨aC.ks, 49, 416, []⟩]))) (
 cond (b3.Message.Level == 1) (
  γ111 [aI.av b0, .d (.int .i64 x7)] [] [] fun r2 =>
  (some (.ret [.agg [.d (.int .i64 r2.Limit), .row 0, .row 1, .d (.int .i64 r2.Pool.Last)], .row 2, .d (.int .i64 0)] [] [⟨aD.ks, 122, 128, (List.map aD.enc r2.Items)⟩, ⟨[.int .i64], 3, 8, (List.map eI r2.Pool.Used)⟩, ⟨aC.ks, 49, 416, []⟩]))) (
 (some (.ret [.agg [.d (.int .i64 0), .row 0, .row 1, .d (.int .i64 0)], .row 2, .d (.int .i64 23)] [] [⟨aD.ks, 122, 128, (List.map aD.enc [])⟩, ⟨[.int .i64], 3, 8, (List.map eI [])⟩, ⟨aC.ks, 49, 416, []⟩]))))) (
 cond (b1.Kind == 5) (
 cond (decide (x7 < 0)) (
  γ110 [aI.av b0] [] [] fun r3 =>
  γ112 [.d (.int .i64 b1.ID)] [] [] fun r4 =>
  (some (.ret [.agg [.d (.int .i64 r3.Limit), .row 0, .row 1, .d (.int .i64 r3.Pool.Last)], .row 2, .d (.int .i64 0)] [] [⟨aD.ks, 122, 128, (List.map aD.enc r3.Items)⟩, ⟨[.int .i64], 3, 8, (List.map eI r3.Pool.Used)⟩, ⟨aC.ks, 49, 416, (List.map aC.enc [r4])⟩]))) (
 cond (b3.Message.Level == 2) (
  γ110 [aI.av b0] [] [] fun r5 =>
  cond (iB x7 (lM aD.enc r5.Items : Int)) (
  γ112 [.d (.int .i64 b1.ID)] [] [] fun r6 =>
  (some (.ret [.agg [.d (.int .i64 r5.Limit), .row 0, .row 1, .d (.int .i64 r5.Pool.Last)], .row 2, .d (.int .i64 0)] [] [⟨aD.ks, 122, 128, (mY (List.map aD.enc r5.Items) (Int.toNat x7) 1 [D.int .i64 2])⟩, ⟨[.int .i64], 3, 8, (List.map eI r5.Pool.Used)⟩, ⟨aC.ks, 49, 416, (List.map aC.enc [r6])⟩]))) none) (
 (some (.ret [.agg [.d (.int .i64 0), .row 0, .row 1, .d (.int .i64 0)], .row 2, .d (.int .i64 23)] [] [⟨aD.ks, 122, 128, (List.map aD.enc [])⟩, ⟨[.int .i64], 3, 8, (List.map eI [])⟩, ⟨aC.ks, 49, 416, []⟩]))))) (
 cond (b1.Kind == 7) (
 cond (decide (x7 < 0)) (
  γ110 [aI.av b0] [] [] fun r7 =>
  (some (.ret [.agg [.d (.int .i64 r7.Limit), .row 0, .row 1, .d (.int .i64 r7.Pool.Last)], .row 2, .d (.int .i64 0)] [] [⟨aD.ks, 122, 128, (List.map aD.enc r7.Items)⟩, ⟨[.int .i64], 3, 8, (List.map eI r7.Pool.Used)⟩, ⟨aC.ks, 49, 416, []⟩]))) (
 cond (b3.State == 2) (
  γ111 [aI.av b0, .d (.int .i64 x7)] [] [] fun r8 =>
  (some (.ret [.agg [.d (.int .i64 r8.Limit), .row 0, .row 1, .d (.int .i64 r8.Pool.Last)], .row 2, .d (.int .i64 0)] [] [⟨aD.ks, 122, 128, (List.map aD.enc r8.Items)⟩, ⟨[.int .i64], 3, 8, (List.map eI r8.Pool.Used)⟩, ⟨aC.ks, 49, 416, []⟩]))) (
 (some (.ret [.agg [.d (.int .i64 0), .row 0, .row 1, .d (.int .i64 0)], .row 2, .d (.int .i64 23)] [] [⟨aD.ks, 122, 128, (List.map aD.enc [])⟩, ⟨[.int .i64], 3, 8, (List.map eI [])⟩, ⟨aC.ks, 49, 416, []⟩]))))) (
 (some (.ret [.agg [.d (.int .i64 0), .row 0, .row 1, .d (.int .i64 0)], .row 2, .d (.int .i64 10)] [] [⟨aD.ks, 122, 128, (List.map aD.enc [])⟩, ⟨[.int .i64], 3, 8, (List.map eI [])⟩, ⟨aC.ks, 49, 416, []⟩]))))) := by kernel_rfl
end
abbrev X60 : aP := C60 gG (cT 109 aH) (cT 110 bX) (cT 111 bX) (cT 112 bU)
theorem azJ : X60 = aQ gG := by unfold X60 C60; repeat rw [bB fun _ h => h]
abbrev aBJ := arF X60 (bP SE gG (SE.hl 60) (SE.hr 60)) (J0 SE X60)
theorem zD (x7 : Int) (b0 : aI) (b1 : aC) (b2 : aI) (b3 : aD) : Le (Option.map gK (eS x7 b0 b1 b2 b3)) (aBJ x7 (aI.enc b0) (aC.enc b1) (aI.enc b2) (aD.enc b3)) := by
 refine Le.trans ?_ (le_of_eq ((aZ azJ).trans (aBF ..)).symm)
 unfold eS
 refine lC ?_ ?_
 ·refine lC ?_ ?_
  ·refine lQ eX fE (mQ _) fun r1 _ => ?_
   exact aJ rfl
  ·refine lC ?_ ?_
   ·refine lQ eX fE (abl _ _) fun r2 _ => ?_
    exact aJ rfl
   ·exact aJ rfl
 ·refine lC ?_ ?_
  ·refine lC ?_ ?_
   ·refine lQ eX fE (mQ _) fun r3 _ => ?_
    refine lQ eX eO (wF _) fun r4 _ => ?_
    exact aJ rfl
   ·refine lC ?_ ?_
    ·refine lQ eX fE (mQ _) fun r5 _ => ?_
     refine lG (by simp only [EN]) ?_
     refine lQ eX eO (wF _) fun r6 _ => ?_
     exact aJ (by first | rfl | simp only [EN, gK] <;> rfl)
    ·exact aJ rfl
  ·refine lC ?_ ?_
   ·refine lC ?_ ?_
    ·refine lQ eX fE (mQ _) fun r7 _ => ?_
     exact aJ rfl
    ·refine lC ?_ ?_
     ·refine lQ eX fE (abl _ _) fun r8 _ => ?_
      exact aJ rfl
     ·exact aJ rfl
   ·exact aJ rfl
theorem ahL (p0 : aI) (p1 : aC) : Le (Option.map gK (j2 p0 p1)) (bA SE 60 [aI.av p0, aC.av p1] [] []) := by
 refine aV azJ rfl ?_
 refine Le.trans ?_ (le_of_eq (T60 ..).symm)
 unfold j2
 refine lQ eX aS (ac6 _ _) fun r0 _ => ?_
 refine lC ?_ ?_
 ·refine lG (by simp only [EN]) ?_
  (try simp only [EN]); exact zD r0 p0 p1 ((aI.mk 0 [] (aN.mk [] 0))) (List.getD p0.Items (Int.toNat r0) default)
 ·(try simp only [EN]); exact zD r0 p0 p1 ((aI.mk 0 [] (aN.mk [] 0))) ((aD.mk 0 0 (aA.mk [] [] 0 false 0 0 [] 0 [])))
section
variable (Γ : Fun) (γ60 : Gm (aI × (List aC) × Int)) (γ50 : Gm (aB)) (γ61 : Gm (aB × (List aC))) (Λ2 J : Lam)
def C19 : aP := aY (aY (aY (aQ Γ) 60 gK γ60) 50 cB γ50) 61 bK γ61
theorem T19 (p0 : aB) (p1 : aC) (p2 : Int) : bF SE (C19 Γ γ60 γ50 γ61) Λ2 J 19 [aB.av p0, aC.av p1, .d (.int .i64 p2)] [] [] =
 γ60 [aI.av p0.Out, aC.av p1] [] [] fun r0 =>
 cond (r0.2.2 != 0) (
 (some (.ret [.agg [.d (.str []), .d (.str []), .d (.bool false), .d (.int .i64 0), .d (.int .i64 0), .d (.int .i64 0), .d (.int .i64 0), .d (.sl aF.ks (List.map aF.enc [])), .d (.sl aA.ks (List.map aA.enc [])), .d (.int .i64 0), .d (.sl aD.ks (List.map aD.enc [])), .d (.sl [.int .i64] (List.map eI [])), .d (.int .i64 0), .d (.sl [.int .i64] (List.map eI [])), .d (.bool false), .d (.int .i64 0), .d (.str []), .d (.str []), .d (.int .i64 0), .d (.bool false), .d (.int .i64 0), .d (.int .i64 0), .d (.str []), .d (.int .i64 0), .d (.sl aG.ks (List.map aG.enc []))], .row 0, .d (.int .i64 r0.2.2)] [] [⟨aC.ks, 49, 416, []⟩]))) (
 γ50 [aB.av p0] [] [] fun r1 =>
 cond (!p0.Online) (
 (some (.ret [aB.av (aB.mk r1.Client r1.User r1.Online r1.Conn r1.Expiry r1.Until r1.Dropped r1.Subs r1.Queue r0.1 r1.In r1.Will), .row 0, .d (.int .i64 0)] [] [⟨aC.ks, 49, 416, (List.map aC.enc r0.2.1)⟩]))) (
 γ61 [aB.av (aB.mk r1.Client r1.User r1.Online r1.Conn r1.Expiry r1.Until r1.Dropped r1.Subs r1.Queue r0.1 r1.In r1.Will), .d (.int .i64 p2), .row 2000000000] [] [⟨aC.ks, 49, 416, (List.map aC.enc r0.2.1)⟩] fun r2 =>
 (some (.ret [aB.av r2.1, .row 0, .d (.int .i64 0)] [] [⟨aC.ks, 49, 416, (List.map aC.enc r2.2)⟩])))) := by kernel_rfl
end
abbrev X19 : aP := C19 gG (cT 60 gK) (cT 50 cB) (cT 61 bK)
theorem aGx : X19 = aQ gG := by unfold X19 C19; repeat rw [bB fun _ h => h]
theorem xQ (p0 : aB) (p1 : aC) (p2 : Int) : Le (Option.map cZ (jS p0 p1 p2)) (bA SE 19 [aB.av p0, aC.av p1, .d (.int .i64 p2)] [] []) := by
 refine aV aGx rfl ?_
 refine Le.trans ?_ (le_of_eq (T19 ..).symm)
 unfold jS
 refine lQ eX ag1 (ahL _ _) fun r0 _ => ?_
 refine lC ?_ ?_
 ·exact aJ rfl
 ·refine lQ eX gB (jI _) fun r1 _ => ?_
  refine lC ?_ ?_
  ·exact aJ rfl
  ·refine lQ eX dX (aad _ _ _) fun r2 _ => ?_
   exact aJ rfl
section
variable (Γ : Fun)  (Λ2 J : Lam)
def C65 : aP := aQ Γ
theorem T65 (p0 : aA) : bF SE (C65 Γ) Λ2 J 65 [aA.av p0] [] [] =
 (rB (p0.Level == 0)) := by kernel_rfl
end
abbrev X65 : aP := C65 gG
theorem aEw : X65 = aQ gG := rfl
theorem aao (p0 : aA) : Le (Option.map aE (mJ p0)) (bA SE 65 [aA.av p0] [] []) := by
 refine aV aEw rfl ?_
 refine Le.trans ?_ (le_of_eq (T65 ..).symm)
 unfold mJ
 exact aJ rfl
def anB (C : aP) (Λ2 J : Lam) (a0 : List (List D)) (a1 a2 : Int) : Res := lab SE C Λ2 J 123 0 [1, 0, 1, 0] (aW [(0, .d (.sl aA.ks a0)), (1, .fn 65 [] []), (7, .d (.int .i64 a1)), (8, .d (.int .i64 a2))] [] [] [] [])
section
variable (Γ : Fun) (γ65 : Gm (Bool)) (Λ2 J : Lam)
def alp : aP := aY (aQ Γ) 65 aE γ65
theorem aF4 (p0 : List aA) : bF SE (alp Γ γ65) Λ2 J 123 [.d (.sl aA.ks (List.map aA.enc p0)), .fn 65 [] []] [] [] =
 anB (alp Γ γ65) Λ2 J (List.map aA.enc p0) (lM aA.enc p0 : Int) 0 := by kernel_rfl
theorem aAg (x0 : List aA) (x7 x8 : Int) : bT SE (alp Γ γ65) Λ2 J 123 0 [1, 0, 1, 0] (aW [(0, .d (.sl aA.ks (List.map aA.enc x0))), (1, .fn 65 [] []), (7, .d (.int .i64 x7)), (8, .d (.int .i64 x8))] [] [] [] []) =
 cond (decide (x8 < x7)) (
 cond (iB x8 (lM aA.enc x0 : Int)) (
  γ65 [.agg [.d (.str (bC (cE aA.enc x0 x8 0))), .d (.str (bC (cE aA.enc x0 x8 1))), .d (.int .i64 (aR (cE aA.enc x0 x8 2))), .d (.bool (bM (cE aA.enc x0 x8 3))), .d (.int .i64 (aR (cE aA.enc x0 x8 4))), .d (.int .i64 (aR (cE aA.enc x0 x8 5))), .d (.str (bC (cE aA.enc x0 x8 6))), .d (.int .i64 (aR (cE aA.enc x0 x8 7))), .d (.sl aG.ks (dSl (cE aA.enc x0 x8 8)))]] [] [] fun r0 =>
  cond r0 (
  (rI x8)) (
  anB (alp Γ γ65) Λ2 J (List.map aA.enc x0) x7 (w6 (x8 + 1)))) none) (
 (rI (-1))) := by kernel_rfl
end
abbrev arj : aP := alp gG (cT 65 aE)
theorem avG : arj = aQ gG := by unfold arj alp; rw [bB fun _ h => h]
abbrev ayj := anB arj (bP SE gG (SE.hl 123) (SE.hr 123)) (J0 SE arj)
theorem qC : ∀ (fu : Nat) (x0 : List aA) (x7 x8 : Int), Le (Option.map aH (cH fu x0 x7 x8)) (ayj (List.map aA.enc x0) x7 x8) := by
 intro fu
 induction fu with
 | zero => intros; exact le_none
 | succ fu ih =>
  intro x0 x7 x8
  refine Le.trans ?_ (le_of_eq ((aZ avG).trans (aAg ..)).symm)
  unfold cH
  refine lC ?_ ?_
  ·refine lG (by simp only [EN]) ?_
   refine lQ eX aL (by (try simp only [EN]); exact aao (List.getD x0 (Int.toNat x8) default)) fun r0 _ => ?_
   refine lC ?_ ?_
   ·exact aJ rfl
   ·exact ih x0 x7 (w6 (x8 + 1))
  ·exact aJ rfl
theorem rR (p0 : List aA) : Le (Option.map aH (dE p0)) (bA SE 123 [.d (.sl aA.ks (List.map aA.enc p0)), .fn 65 [] []] [] []) := by
 refine aV avG rfl ?_
 refine Le.trans ?_ (le_of_eq (aF4 ..).symm)
 unfold dE
 (try simp only [EN]); exact qC fuel p0 (List.length p0 : Int) 0
def am8 (C : aP) (Λ2 J : Lam) (a0 a1 : Int) (a2 : List (List D)) : Res := lab SE C Λ2 J 64 0 [1, 1, 1, 0, 1, 0] (aW [(0, .row 3000), (1, .fn 65 [] []), (5, .d (.int .i64 a0)), (6, .d (.int .i64 a1))] [] [] [] [(3000, ⟨aA.ks, 34, 112, a2⟩)])
section
variable (Γ : Fun) (γ123 : Gm (Int)) (γ65 : Gm (Bool)) (Λ2 J : Lam)
def C64 : aP := aY (aY (aQ Γ) 123 aH γ123) 65 aE γ65
theorem T64 (p0 : List aA) : bF SE (C64 Γ γ123 γ65) Λ2 J 64 [.row 2000000000, .fn 65 [] []] [] [⟨aA.ks, 34, 112, (List.map aA.enc p0)⟩] =
 γ123 [.d (.sl aA.ks (List.map aA.enc p0)), .fn 65 [] []] [] [] fun r0 =>
 cond (r0 == (-1)) (
 (some (.ret [.row 0] [] [⟨aA.ks, 34, 112, (List.map aA.enc p0)⟩]))) (
 am8 (C64 Γ γ123 γ65) Λ2 J r0 (w6 (r0 + 1)) (List.map aA.enc p0)) := by kernel_rfl
theorem aDn (x5 x6 : Int) (w3000 : List aA) : bT SE (C64 Γ γ123 γ65) Λ2 J 64 0 [1, 1, 1, 0, 1, 0] (aW [(0, .row 3000), (1, .fn 65 [] []), (5, .d (.int .i64 x5)), (6, .d (.int .i64 x6))] [] [] [] [(3000, ⟨aA.ks, 34, 112, (List.map aA.enc w3000)⟩)]) =
 cond (decide (x6 < (lM aA.enc w3000 : Int))) (
 cond (iB x6 (lM aA.enc w3000 : Int)) (
  γ65 [.agg [.d (.str (bC (cE aA.enc w3000 x6 0))), .d (.str (bC (cE aA.enc w3000 x6 1))), .d (.int .i64 (aR (cE aA.enc w3000 x6 2))), .d (.bool (bM (cE aA.enc w3000 x6 3))), .d (.int .i64 (aR (cE aA.enc w3000 x6 4))), .d (.int .i64 (aR (cE aA.enc w3000 x6 5))), .d (.str (bC (cE aA.enc w3000 x6 6))), .d (.int .i64 (aR (cE aA.enc w3000 x6 7))), .d (.sl aG.ks (dSl (cE aA.enc w3000 x6 8)))]] [] [] fun r1 =>
  cond (!r1) (
  cond (iB x5 (lM aA.enc w3000 : Int)) (
   am8 (C64 Γ γ123 γ65) Λ2 J (w6 (x5 + 1)) (w6 (x6 + 1)) ((mY (List.map aA.enc w3000) (Int.toNat x5) 0 [D.str (bC (cE aA.enc w3000 x6 0)), D.str (bC (cE aA.enc w3000 x6 1)), D.int .i64 (aR (cE aA.enc w3000 x6 2)), D.bool (bM (cE aA.enc w3000 x6 3)), D.int .i64 (aR (cE aA.enc w3000 x6 4)), D.int .i64 (aR (cE aA.enc w3000 x6 5)), D.str (bC (cE aA.enc w3000 x6 6)), D.int .i64 (aR (cE aA.enc w3000 x6 7)), D.sl aG.ks (dSl (cE aA.enc w3000 x6 8))]))) none) (
  am8 (C64 Γ γ123 γ65) Λ2 J x5 (w6 (x6 + 1)) (List.map aA.enc w3000))) none) (
 cond (decide (0 ≤ x5) && decide (x5 ≤ ((lM aA.enc w3000) : Int))) (
 cond (decide (0 ≤ x5) && decide (x5 ≤ (List.length (List.take (Int.toNat x5) (List.map aA.enc w3000) ++ List.replicate ((lM aA.enc w3000) - (Int.toNat x5)) [D.str [], D.str [], D.int .i64 0, D.bool false, D.int .i64 0, D.int .i64 0, D.str [], D.int .i64 0, D.sl aG.ks (List.map aG.enc [])] ++ List.drop ((Int.toNat x5) + ((lM aA.enc w3000) - (Int.toNat x5))) (List.map aA.enc w3000)) : Int))) (
  (some (.ret [.row 0] [] [⟨aA.ks, 34, 112, (List.take (Int.toNat x5) (List.take (Int.toNat x5) (List.map aA.enc w3000) ++ List.replicate ((lM aA.enc w3000) - (Int.toNat x5)) [D.str [], D.str [], D.int .i64 0, D.bool false, D.int .i64 0, D.int .i64 0, D.str [], D.int .i64 0, D.sl aG.ks (List.map aG.enc [])] ++ List.drop ((Int.toNat x5) + ((lM aA.enc w3000) - (Int.toNat x5))) (List.map aA.enc w3000)))⟩]))) none) none) := by kernel_rfl
end
abbrev X64 : aP := C64 gG (cT 123 aH) (cT 65 aE)
theorem axv : X64 = aQ gG := by unfold X64 C64; repeat rw [bB fun _ h => h]
abbrev aCv := am8 X64 (bP SE gG (SE.hl 64) (SE.hr 64)) (J0 SE X64)
theorem pS : ∀ (fu : Nat) (x5 x6 : Int) (w3000 : List aA), Le (Option.map eY (cC fu x5 x6 w3000)) (aCv x5 x6 (List.map aA.enc w3000)) := by
 intro fu
 induction fu with
 | zero => intros; exact le_none
 | succ fu ih =>
  intro x5 x6 w3000
  refine Le.trans ?_ (le_of_eq ((aZ axv).trans (aDn ..)).symm)
  unfold cC
  refine lD (by simp only [EN]) ?_ ?_
  ·refine lG (by simp only [EN]) ?_
   refine lQ eX aL (by (try simp only [EN]); exact aao (List.getD w3000 (Int.toNat x6) default)) fun r1 _ => ?_
   refine lC ?_ ?_
   ·refine lG (by simp only [EN]) ?_
    (try simp only [EN]); exact ih (w6 (x5 + 1)) (w6 (x6 + 1)) ((List.set w3000 (Int.toNat x5) (List.getD w3000 (Int.toNat x6) default)))
   ·exact ih x5 (w6 (x6 + 1)) w3000
  ·refine lG (by simp only [EN]) ?_
   refine lG (by simp only [EN]) ?_
   exact aJ (by first | rfl | simp only [EN, eY] <;> rfl)
theorem rN (p0 : List aA) : Le (Option.map eY (dC p0)) (bA SE 64 [.row 2000000000, .fn 65 [] []] [] [⟨aA.ks, 34, 112, (List.map aA.enc p0)⟩]) := by
 refine aV axv rfl ?_
 refine Le.trans ?_ (le_of_eq (T64 ..).symm)
 unfold dC
 refine lQ eX aS (rR _) fun r0 _ => ?_
 refine lC ?_ ?_
 ·exact aJ rfl
 ·exact pS fuel r0 (w6 (r0 + 1)) p0
section
variable (Γ : Fun) (γ50 : Gm (aB)) (γ64 : Gm ((List aA))) (γ51 : Gm (aB)) (Λ2 J : Lam)
def C23 : aP := aY (aY (aY (aQ Γ) 50 cB γ50) 64 eY γ64) 51 bR γ51
theorem T23 (p0 : aB) (p1 : Int) : bF SE (C23 Γ γ50 γ64 γ51) Λ2 J 23 [aB.av p0, .d (.int .i64 p1)] [] [] =
 γ50 [aB.av p0] [] [] fun r0 =>
 γ64 [.row 2000000000, .fn 65 [] []] [] [⟨aA.ks, 34, 112, (List.map aA.enc r0.Queue)⟩] fun r1 =>
 γ51 [aB.av (aB.mk r0.Client r0.User false 0 r0.Expiry (if 1099511627776 < (w6 (p1 + p0.Expiry)) then 1099511627776 else (w6 (p1 + p0.Expiry))) r0.Dropped r0.Subs r1 r0.Out r0.In r0.Will), .d (.int .i64 (w6 ((lM aA.enc r0.Queue : Int) - (lM aA.enc r1 : Int))))] [] [] fun r2 =>
 (some (.ret [aB.av r2] [] [])) := by kernel_rfl
end
abbrev X23 : aP := C23 gG (cT 50 cB) (cT 64 eY) (cT 51 bR)
theorem aFC : X23 = aQ gG := by unfold X23 C23; repeat rw [bB fun _ h => h]
theorem sR (p0 : aB) (p1 : Int) : Le (Option.map bR (j5 p0 p1)) (bA SE 23 [aB.av p0, .d (.int .i64 p1)] [] []) := by
 refine aV aFC rfl ?_
 refine Le.trans ?_ (le_of_eq (T23 ..).symm)
 unfold j5
 refine lQ eX gB (jI _) fun r0 _ => ?_
 refine lQ eX afp (rN _) fun r1 _ => ?_
 refine lQ eX dK (by (try simp only [EN]); exact sI ((aB.mk r0.Client r0.User false 0 r0.Expiry (if 1099511627776 < (w6 (p1 + p0.Expiry)) then 1099511627776 else (w6 (p1 + p0.Expiry))) r0.Dropped r0.Subs r1 r0.Out r0.In r0.Will)) ((w6 ((List.length r0.Queue : Int) - (List.length r1 : Int))))) fun r2 _ => ?_
 exact aJ rfl
def amX (C : aP) (Λ2 J : Lam) (a0 a1 : Int) (a2 : List D) (a3 : List (List D)) : Res := lab SE C Λ2 J 91 0 [1, 1, 0, 1, 0] (aW [(1, .ptr 1000000000 0), (3, .row 3003), (9, .d (.int .i64 a0)), (10, .d (.int .i64 a1))] [⟨29, (List.map AV.d a2)⟩] [] [] [(3003, ⟨aC.ks, 49, 416, a3⟩)])
section
variable (Γ : Fun) (γ112 γ147 : Gm (aC)) (Λ2 J : Lam)
def C91 : aP := aY (aY (aQ Γ) 112 bU γ112) 147 bU γ147
theorem T91 (p0 : aI) : bF SE (C91 Γ γ112 γ147) Λ2 J 91 [aI.av p0] [] [] =
 amX (C91 Γ γ112 γ147) Λ2 J (lM aD.enc p0.Items : Int) 0 (aI.enc p0) (List.map aC.enc []) := by kernel_rfl
theorem aA5 (x9 x10 : Int) (b0 : aI) (w3003 : List aC) : bT SE (C91 Γ γ112 γ147) Λ2 J 91 0 [1, 1, 0, 1, 0] (aW [(1, .ptr 1000000000 0), (3, .row 3003), (9, .d (.int .i64 x9)), (10, .d (.int .i64 x10))] [⟨29, (List.map AV.d (aI.enc b0))⟩] [] [] [(3003, ⟨aC.ks, 49, 416, (List.map aC.enc w3003)⟩)]) =
 cond (decide (x10 < x9)) (
 cond (iB x10 (lM aD.enc b0.Items : Int)) (
  cond ((aR (cE aD.enc b0.Items x10 1)) == 2) (
  γ112 [.d (.int .i64 (aR (cE aD.enc b0.Items x10 0)))] [] [] fun r0 =>
  cond (decide ((lM aC.enc w3003 + lM aC.enc [r0]) * 416 ≤ 140737488355328)) (
   amX (C91 Γ γ112 γ147) Λ2 J x9 (w6 (x10 + 1)) (aI.enc b0) (((List.map aC.enc w3003) ++ (List.map aC.enc [r0])))) none) (
  γ147 [.agg [.d (.int .i64 (aR (cE aD.enc b0.Items x10 0))), .d (.int .i64 (aR (cE aD.enc b0.Items x10 1))), .d (.str (bC (cE aD.enc b0.Items x10 2))), .d (.str (bC (cE aD.enc b0.Items x10 3))), .d (.int .i64 (aR (cE aD.enc b0.Items x10 4))), .d (.bool (bM (cE aD.enc b0.Items x10 5))), .d (.int .i64 (aR (cE aD.enc b0.Items x10 6))), .d (.int .i64 (aR (cE aD.enc b0.Items x10 7))), .d (.str (bC (cE aD.enc b0.Items x10 8))), .d (.int .i64 (aR (cE aD.enc b0.Items x10 9))), .d (.sl aG.ks (dSl (cE aD.enc b0.Items x10 10)))]] [] [] fun r1 =>
  cond (decide ((lM aC.enc w3003 + lM aC.enc [(aC.mk r1.Kind r1.ID true r1.Message r1.Client r1.User r1.Clean r1.Keep r1.Expiry r1.Window r1.Will r1.Present r1.Code r1.Subs r1.Filters r1.Codes)]) * 416 ≤ 140737488355328)) (
  amX (C91 Γ γ112 γ147) Λ2 J x9 (w6 (x10 + 1)) (aI.enc b0) (((List.map aC.enc w3003) ++ (List.map aC.enc [(aC.mk r1.Kind r1.ID true r1.Message r1.Client r1.User r1.Clean r1.Keep r1.Expiry r1.Window r1.Will r1.Present r1.Code r1.Subs r1.Filters r1.Codes)])))) none)) none) (
 (some (.ret [.row 0] [] [⟨aC.ks, 49, 416, (List.map aC.enc w3003)⟩]))) := by kernel_rfl
end
abbrev X91 : aP := C91 gG (cT 112 bU) (cT 147 bU)
theorem ayw : X91 = aQ gG := by unfold X91 C91; repeat rw [bB fun _ h => h]
abbrev aCw := amX X91 (bP SE gG (SE.hl 91) (SE.hr 91)) (J0 SE X91)
theorem afk : ∀ (fu : Nat) (x9 x10 : Int) (b0 : aI) (w3003 : List aC), Le (Option.map dL (gU fu x9 x10 b0 w3003)) (aCw x9 x10 (aI.enc b0) (List.map aC.enc w3003)) := by
 intro fu
 induction fu with
 | zero => intros; exact le_none
 | succ fu ih =>
  intro x9 x10 b0 w3003
  refine Le.trans ?_ (le_of_eq ((aZ ayw).trans (aA5 ..)).symm)
  unfold gU
  refine lC ?_ ?_
  ·refine lG (by simp only [EN]) ?_
   refine lD (by simp only [EN]) ?_ ?_
   ·refine lQ eX eO (by (try simp only [EN]); exact wF ((List.getD b0.Items (Int.toNat x10) default).ID)) fun r0 _ => ?_
    refine lG (by simp only [EN]) ?_
    (try simp only [EN]); exact ih x9 (w6 (x10 + 1)) b0 (w3003 ++ [r0])
   ·refine lQ eX eO (by (try simp only [EN]); exact aaI (List.getD b0.Items (Int.toNat x10) default)) fun r1 _ => ?_
    refine lG (by simp only [EN]) ?_
    (try simp only [EN]); exact ih x9 (w6 (x10 + 1)) b0 (w3003 ++ [(aC.mk r1.Kind r1.ID true r1.Message r1.Client r1.User r1.Clean r1.Keep r1.Expiry r1.Window r1.Will r1.Present r1.Code r1.Subs r1.Filters r1.Codes)])
  ·exact aJ rfl
theorem ahm (p0 : aI) : Le (Option.map dL (lP p0)) (bA SE 91 [aI.av p0] [] []) := by
 refine aV ayw rfl ?_
 refine Le.trans ?_ (le_of_eq (T91 ..).symm)
 unfold lP
 (try simp only [EN]); exact afk fuel (List.length p0.Items : Int) 0 p0 []
section
variable (Γ : Fun) (γ50 : Gm (aB)) (γ80 : Gm (aA)) (γ91 : Gm ((List aC))) (γ61 : Gm (aB × (List aC))) (Λ2 J : Lam)
def C36 : aP := aY (aY (aY (aY (aQ Γ) 50 cB γ50) 80 bW γ80) 91 dL γ91) 61 bK γ61
theorem T36 (p0 : aB) (p1 : aC) (p2 p3 : Int) : bF SE (C36 Γ γ50 γ80 γ91 γ61) Λ2 J 36 [aB.av p0, aC.av p1, .d (.int .i64 p2), .d (.int .i64 p3)] [] [] =
 γ50 [aB.av p0] [] [] fun r0 =>
 γ80 [aA.av p1.Will.Message] [] [] fun r1 =>
 γ91 [aI.av (aI.mk p1.Window r0.Out.Items r0.Out.Pool)] [] [] fun r2 =>
 γ61 [aB.av (aB.mk r0.Client p1.User true p2 p1.Expiry 0 r0.Dropped r0.Subs r0.Queue (aI.mk p1.Window r0.Out.Items r0.Out.Pool) r0.In (aT.mk p1.Will.Set p1.Will.Delay r1)), .d (.int .i64 p3), .row 2000000000] [] [⟨aC.ks, 49, 416, (List.map aC.enc r2)⟩] fun r3 =>
 (some (.ret [aB.av r3.1, .row 0] [] [⟨aC.ks, 49, 416, (List.map aC.enc r3.2)⟩])) := by kernel_rfl
end
abbrev X36 : aP := C36 gG (cT 50 cB) (cT 80 bW) (cT 91 dL) (cT 61 bK)
theorem aFx : X36 = aQ gG := by unfold X36 C36; repeat rw [bB fun _ h => h]
theorem xP (p0 : aB) (p1 : aC) (p2 p3 : Int) : Le (Option.map bK (iC p0 p1 p2 p3)) (bA SE 36 [aB.av p0, aC.av p1, .d (.int .i64 p2), .d (.int .i64 p3)] [] []) := by
 refine aV aFx rfl ?_
 refine Le.trans ?_ (le_of_eq (T36 ..).symm)
 unfold iC
 refine lQ eX gB (jI _) fun r0 _ => ?_
 refine lQ eX dB (mP _) fun r1 _ => ?_
 refine lQ eX aaG (ahm _) fun r2 _ => ?_
 refine lQ eX dX (aad _ _ _) fun r3 _ => ?_
 exact aJ rfl
section
variable (Γ : Fun)  (Λ2 J : Lam)
def C24 : aP := aQ Γ
theorem T24 (p0 : aB) (p1 : Int) : bF SE (C24 Γ) Λ2 J 24 [aB.av p0, .d (.int .i64 p1)] [] [] =
 cond (!p0.Online) (
 (rB (decide (p1 ≥ p0.Until)))) (
 (rB false)) := by kernel_rfl
end
abbrev X24 : aP := C24 gG
theorem aE8 : X24 = aQ gG := rfl
theorem sO (p0 : aB) (p1 : Int) : Le (Option.map aE (oJ p0 p1)) (bA SE 24 [aB.av p0, .d (.int .i64 p1)] [] []) := by
 refine aV aE8 rfl ?_
 refine Le.trans ?_ (le_of_eq (T24 ..).symm)
 unfold oJ
 refine lC ?_ ?_
 ·exact aJ rfl
 ·exact aJ rfl
section
variable (Γ : Fun) (γ31 : Gm (aB)) (γ26 : Gm (aB × Bool × Int)) (γ15 : Gm (aB × Bool)) (γ34 : Gm (aB × (List aC))) (γ19 : Gm (aB × (List aC) × Int)) (γ23 : Gm (aB)) (γ36 : Gm (aB × (List aC))) (γ24 : Gm (Bool)) (Λ2 J : Lam)
def C14 : aP := aY (aY (aY (aY (aY (aY (aY (aY (aQ Γ) 31 cB γ31) 26 dS γ26) 15 cW γ15) 34 bK γ34) 19 cZ γ19) 23 bR γ23) 36 bK γ36) 24 aE γ24
theorem T14 : bF SE (C14 Γ γ31 γ26 γ15 γ34 γ19 γ23 γ36 γ24) Λ2 J 14 [] [] [] =
 γ31 [.agg [.d (.int .i64 1), .d (.int .i64 0), .d (.bool false), .d (.str []), .d (.str []), .d (.int .i64 0), .d (.bool false), .d (.int .i64 0), .d (.int .i64 0), .d (.str []), .d (.int .i64 0), .d (.sl aG.ks (List.map aG.enc [])), .d (.str ([99] : Str)), .d (.str []), .d (.bool false), .d (.int .i64 0), .d (.int .i64 5), .d (.int .i64 1), .d (.bool false), .d (.int .i64 0), .d (.str []), .d (.str []), .d (.int .i64 0), .d (.bool false), .d (.int .i64 0), .d (.int .i64 0), .d (.str []), .d (.int .i64 0), .d (.sl aG.ks (List.map aG.enc [])), .d (.bool false), .d (.int .i64 0), .d (.sl aF.ks (List.map aF.enc [])), .d (.sl [.str] (List.map bL [])), .d (.sl [.int .i64] (List.map eI []))], .d (.int .i64 3)] [] [] fun r0 =>
 γ26 [aB.av r0, aF.av (aF.mk ([116] : Str) 0 false)] [] [] fun r1 =>
 γ15 [aB.av r1.1, .agg [.d (.str ([116] : Str)), .d (.str []), .d (.int .i64 1), .d (.bool false), .d (.int .i64 0), .d (.int .i64 0), .d (.str []), .d (.int .i64 1), .d (.sl aG.ks (List.map aG.enc []))], .d (.int .i64 9), .d (.int .i64 2)] [] [] fun r2 =>
 γ15 [aB.av r2.1, .agg [.d (.str ([116] : Str)), .d (.str []), .d (.int .i64 1), .d (.bool false), .d (.int .i64 0), .d (.int .i64 0), .d (.str []), .d (.int .i64 2), .d (.sl aG.ks (List.map aG.enc []))], .d (.int .i64 9), .d (.int .i64 2)] [] [] fun r3 =>
 γ34 [aB.av r3.1, .d (.int .i64 0)] [] [] fun r4 =>
 γ19 [aB.av r4.1, .agg [.d (.int .i64 4), .d (.int .i64 1), .d (.bool false), .d (.str []), .d (.str []), .d (.int .i64 0), .d (.bool false), .d (.int .i64 0), .d (.int .i64 0), .d (.str []), .d (.int .i64 0), .d (.sl aG.ks (List.map aG.enc [])), .d (.str []), .d (.str []), .d (.bool false), .d (.int .i64 0), .d (.int .i64 0), .d (.int .i64 0), .d (.bool false), .d (.int .i64 0), .d (.str []), .d (.str []), .d (.int .i64 0), .d (.bool false), .d (.int .i64 0), .d (.int .i64 0), .d (.str []), .d (.int .i64 0), .d (.sl aG.ks (List.map aG.enc [])), .d (.bool false), .d (.int .i64 0), .d (.sl aF.ks (List.map aF.enc [])), .d (.sl [.str] (List.map bL [])), .d (.sl [.int .i64] (List.map eI []))], .d (.int .i64 0)] [] [] fun r5 =>
 γ23 [aB.av r5.1, .d (.int .i64 10)] [] [] fun r6 =>
 γ36 [aB.av r6, .agg [.d (.int .i64 1), .d (.int .i64 0), .d (.bool false), .d (.str []), .d (.str []), .d (.int .i64 0), .d (.bool false), .d (.int .i64 0), .d (.int .i64 0), .d (.str []), .d (.int .i64 0), .d (.sl aG.ks (List.map aG.enc [])), .d (.str ([99] : Str)), .d (.str []), .d (.bool false), .d (.int .i64 0), .d (.int .i64 0), .d (.int .i64 1), .d (.bool false), .d (.int .i64 0), .d (.str []), .d (.str []), .d (.int .i64 0), .d (.bool false), .d (.int .i64 0), .d (.int .i64 0), .d (.str []), .d (.int .i64 0), .d (.sl aG.ks (List.map aG.enc [])), .d (.bool false), .d (.int .i64 0), .d (.sl aF.ks (List.map aF.enc [])), .d (.sl [.str] (List.map bL [])), .d (.sl [.int .i64] (List.map eI []))], .d (.int .i64 4), .d (.int .i64 12)] [] [] fun r7 =>
 cond (!r1.2.1) (
 cond (r1.2.2 == 0) (
  cond (!r2.2) (
  cond ((lM aC.enc r4.2 : Int) == 1) (
   cond (decide (0 ≤ 0) && decide (0 < (lM aC.enc r4.2 : Int))) (
   cond ((aR (cE aC.enc r4.2 0 1)) == 1) (
    cond (decide (0 ≤ 0) && decide (0 < (lM aC.enc r4.2 : Int))) (
    cond ((aR (cE aC.enc r4.2 0 10)) == 1) (
     cond ((lM aC.enc r5.2.1 : Int) == 1) (
     cond (decide (0 ≤ 0) && decide (0 < (lM aC.enc r5.2.1 : Int))) (
      cond ((aR (cE aC.enc r5.2.1 0 1)) == 2) (
      cond (r5.2.2 == 0) (
       cond (r6.Until == 15) (
       γ24 [aB.av r6, .d (.int .i64 14)] [] [] fun r8 =>
       cond (!r8) (
        γ24 [aB.av r6, .d (.int .i64 15)] [] [] fun r9 =>
        cond r9 (
        cond r7.1.Online (
         cond (r7.1.Conn == 4) (
         cond ((lM aC.enc r7.2 : Int) == 1) (
          cond (decide (0 ≤ 0) && decide (0 < (lM aC.enc r7.2 : Int))) (
          cond (bM (cE aC.enc r7.2 0 2)) (
           cond (decide (0 ≤ 0) && decide (0 < (lM aC.enc r7.2 : Int))) (
           (rB ((aR (cE aC.enc r7.2 0 1)) == 2))) none) (
          (rB false))) none) (
         (rB false))) (
         (rB false))) (
        (rB false))) (
        (rB false))) (
       (rB false))) (
       (rB false))) (
      (rB false))) (
      (rB false))) none) (
     (rB false))) (
    (rB false))) none) (
   (rB false))) none) (
  (rB false))) (
  (rB false))) (
 (rB false))) (
 (rB false)) := by kernel_rfl
end
abbrev X14 : aP := C14 gG (cT 31 cB) (cT 26 dS) (cT 15 cW) (cT 34 bK) (cT 19 cZ) (cT 23 bR) (cT 36 bK) (cT 24 aE)
theorem aGt : X14 = aQ gG := by unfold X14 C14; repeat rw [bB fun _ h => h]
theorem bY : Le (Option.map aE (bZ)) (bA SE 14 [] [] []) := by
 refine aV aGt rfl ?_
 refine Le.trans ?_ (le_of_eq (T14 _ _ _ _ _ _ _ _ _ _ _ ).symm)
 unfold bZ
 refine lQ eX gB (by (try simp only [EN]); exact aaT ((aC.mk 1 0 false (aA.mk [] [] 0 false 0 0 [] 0 []) ([99] : Str) [] false 0 5 1 (aT.mk false 0 (aA.mk [] [] 0 false 0 0 [] 0 [])) false 0 [] [] [])) 3) fun r0 _ => ?_
 refine lQ eX yZ (aak _ _) fun r1 _ => ?_
 refine lQ eX pF (by (try simp only [EN]); exact uK r1.1 ((aA.mk ([116] : Str) [] 1 false 0 0 [] 1 [])) 9 2) fun r2 _ => ?_
 refine lQ eX pF (by (try simp only [EN]); exact uK r2.1 ((aA.mk ([116] : Str) [] 1 false 0 0 [] 2 [])) 9 2) fun r3 _ => ?_
 refine lQ eX dX (zM _ _) fun r4 _ => ?_
 refine lQ eX sF (by (try simp only [EN]); exact xQ r4.1 ((aC.mk 4 1 false (aA.mk [] [] 0 false 0 0 [] 0 []) [] [] false 0 0 0 (aT.mk false 0 (aA.mk [] [] 0 false 0 0 [] 0 [])) false 0 [] [] [])) 0) fun r5 _ => ?_
 refine lQ eX dK (sR _ _) fun r6 _ => ?_
 refine lQ eX dX (by (try simp only [EN]); exact xP r6 ((aC.mk 1 0 false (aA.mk [] [] 0 false 0 0 [] 0 []) ([99] : Str) [] false 0 0 1 (aT.mk false 0 (aA.mk [] [] 0 false 0 0 [] 0 [])) false 0 [] [] [])) 4 12) fun r7 _ => ?_
 refine lC ?_ ?_
 ·refine lC ?_ ?_
  ·refine lC ?_ ?_
   ·refine lD (by simp only [EN]) ?_ ?_
    ·refine lG (by simp only [EN]) ?_
     refine lD (by simp only [EN]) ?_ ?_
     ·refine lG (by simp only [EN]) ?_
      refine lD (by simp only [EN]) ?_ ?_
      ·refine lD (by simp only [EN]) ?_ ?_
       ·refine lG (by simp only [EN]) ?_
        refine lD (by simp only [EN]) ?_ ?_
        ·refine lC ?_ ?_
         ·refine lC ?_ ?_
          ·refine lQ eX aL (sO _ _) fun r8 _ => ?_
           refine lC ?_ ?_
           ·refine lQ eX aL (sO _ _) fun r9 _ => ?_
            refine lC ?_ ?_
            ·refine lC ?_ ?_
             ·refine lC ?_ ?_
              ·refine lD (by simp only [EN]) ?_ ?_
               ·refine lG (by simp only [EN]) ?_
                refine lD (by simp only [EN]) ?_ ?_
                ·refine lG (by simp only [EN]) ?_
                 exact aJ (by first | rfl | simp only [EN, aE] <;> rfl)
                ·exact aJ rfl
               ·exact aJ rfl
              ·exact aJ rfl
             ·exact aJ rfl
            ·exact aJ rfl
           ·exact aJ rfl
          ·exact aJ rfl
         ·exact aJ rfl
        ·exact aJ rfl
       ·exact aJ rfl
      ·exact aJ rfl
     ·exact aJ rfl
    ·exact aJ rfl
   ·exact aJ rfl
  ·exact aJ rfl
 ·exact aJ rfl
def anY (C : aP) (Λ2 J : Lam) (a0 a1 a2 : List D) : Res := lab SE C Λ2 J 73 0 [1, 1, 1, 1, 1, 1, 1, 1, 1, 0, 0] (aW [(1, .ptr 1000000000 0), (2, .ptr 1000000001 0), (3, .ptr 1000000002 0)] [⟨49, (List.map AV.d a0)⟩, ⟨49, (List.map AV.d a1)⟩, ⟨49, (List.map AV.d a2)⟩] [] [] [])
def aoP (C : aP) (Λ2 J : Lam) (a0 a1 a2 : List D) : Res := lab SE C Λ2 J 73 0 [1, 1, 1, 1, 1, 1, 1, 1, 0, 0] (aW [(1, .ptr 1000000000 0), (2, .ptr 1000000001 0), (3, .ptr 1000000002 0)] [⟨49, (List.map AV.d a0)⟩, ⟨49, (List.map AV.d a1)⟩, ⟨49, (List.map AV.d a2)⟩] [] [] [])
def anl (C : aP) (Λ2 J : Lam) (a0 a1 a2 : List D) : Res := lab SE C Λ2 J 73 0 [1, 1, 1, 1, 1, 1, 1, 0, 0] (aW [(1, .ptr 1000000000 0), (2, .ptr 1000000001 0), (3, .ptr 1000000002 0)] [⟨49, (List.map AV.d a0)⟩, ⟨49, (List.map AV.d a1)⟩, ⟨49, (List.map AV.d a2)⟩] [] [] [])
def ak1 (C : aP) (Λ2 J : Lam) (a0 a1 a2 : List D) : Res := lab SE C Λ2 J 73 0 [1, 1, 1, 1, 1, 1, 0, 0] (aW [(1, .ptr 1000000000 0), (2, .ptr 1000000001 0), (3, .ptr 1000000002 0)] [⟨49, (List.map AV.d a0)⟩, ⟨49, (List.map AV.d a1)⟩, ⟨49, (List.map AV.d a2)⟩] [] [] [])
def anR (C : aP) (Λ2 J : Lam) (a0 a1 a2 : List D) : Res := lab SE C Λ2 J 73 0 [1, 1, 1, 1, 1, 0, 0] (aW [(1, .ptr 1000000000 0), (2, .ptr 1000000001 0), (3, .ptr 1000000002 0)] [⟨49, (List.map AV.d a0)⟩, ⟨49, (List.map AV.d a1)⟩, ⟨49, (List.map AV.d a2)⟩] [] [] [])
def apk (C : aP) (Λ2 J : Lam) (a0 a1 a2 : List D) : Res := lab SE C Λ2 J 73 0 [1, 1, 1, 1, 0, 0] (aW [(1, .ptr 1000000000 0), (2, .ptr 1000000001 0), (3, .ptr 1000000002 0)] [⟨49, (List.map AV.d a0)⟩, ⟨49, (List.map AV.d a1)⟩, ⟨49, (List.map AV.d a2)⟩] [] [] [])
def ajX (C : aP) (Λ2 J : Lam) (a0 a1 a2 : List D) : Res := lab SE C Λ2 J 73 0 [1, 1, 1, 0, 0] (aW [(1, .ptr 1000000000 0), (2, .ptr 1000000001 0), (3, .ptr 1000000002 0)] [⟨49, (List.map AV.d a0)⟩, ⟨49, (List.map AV.d a1)⟩, ⟨49, (List.map AV.d a2)⟩] [] [] [])
section
variable (Γ : Fun)  (Λ2 J : Lam)
def C73 : aP := aQ Γ
theorem T73 (p0 : aC) : bF SE (C73 Γ) Λ2 J 73 [aC.av p0] [] [] =
 cond (p0.Kind == 3) (
 ajX (C73 Γ) Λ2 J (aC.enc p0) [D.int .i64 0, D.int .i64 0, D.bool false, D.str [], D.str [], D.int .i64 0, D.bool false, D.int .i64 0, D.int .i64 0, D.str [], D.int .i64 0, D.sl aG.ks (List.map aG.enc []), D.str [], D.str [], D.bool false, D.int .i64 0, D.int .i64 0, D.int .i64 0, D.bool false, D.int .i64 0, D.str [], D.str [], D.int .i64 0, D.bool false, D.int .i64 0, D.int .i64 0, D.str [], D.int .i64 0, D.sl aG.ks (List.map aG.enc []), D.bool false, D.int .i64 0, D.sl aF.ks (List.map aF.enc []), D.sl [.str] (List.map bL []), D.sl [.int .i64] (List.map eI [])] [D.int .i64 p0.Kind, D.int .i64 p0.ID, D.bool false, D.str [], D.str [], D.int .i64 0, D.bool false, D.int .i64 0, D.int .i64 0, D.str [], D.int .i64 0, D.sl aG.ks (List.map aG.enc []), D.str [], D.str [], D.bool false, D.int .i64 0, D.int .i64 0, D.int .i64 0, D.bool false, D.int .i64 0, D.str [], D.str [], D.int .i64 0, D.bool false, D.int .i64 0, D.int .i64 0, D.str [], D.int .i64 0, D.sl aG.ks (List.map aG.enc []), D.bool false, D.int .i64 0, D.sl aF.ks (List.map aF.enc []), D.sl [.str] (List.map bL []), D.sl [.int .i64] (List.map eI [])]) (
 cond (decide (p0.Kind ≥ 4)) (
 cond (decide (p0.Kind ≤ 11)) (
  ajX (C73 Γ) Λ2 J (aC.enc p0) [D.int .i64 0, D.int .i64 0, D.bool false, D.str [], D.str [], D.int .i64 0, D.bool false, D.int .i64 0, D.int .i64 0, D.str [], D.int .i64 0, D.sl aG.ks (List.map aG.enc []), D.str [], D.str [], D.bool false, D.int .i64 0, D.int .i64 0, D.int .i64 0, D.bool false, D.int .i64 0, D.str [], D.str [], D.int .i64 0, D.bool false, D.int .i64 0, D.int .i64 0, D.str [], D.int .i64 0, D.sl aG.ks (List.map aG.enc []), D.bool false, D.int .i64 0, D.sl aF.ks (List.map aF.enc []), D.sl [.str] (List.map bL []), D.sl [.int .i64] (List.map eI [])] [D.int .i64 p0.Kind, D.int .i64 p0.ID, D.bool false, D.str [], D.str [], D.int .i64 0, D.bool false, D.int .i64 0, D.int .i64 0, D.str [], D.int .i64 0, D.sl aG.ks (List.map aG.enc []), D.str [], D.str [], D.bool false, D.int .i64 0, D.int .i64 0, D.int .i64 0, D.bool false, D.int .i64 0, D.str [], D.str [], D.int .i64 0, D.bool false, D.int .i64 0, D.int .i64 0, D.str [], D.int .i64 0, D.sl aG.ks (List.map aG.enc []), D.bool false, D.int .i64 0, D.sl aF.ks (List.map aF.enc []), D.sl [.str] (List.map bL []), D.sl [.int .i64] (List.map eI [])]) (
 ajX (C73 Γ) Λ2 J (aC.enc p0) [D.int .i64 0, D.int .i64 0, D.bool false, D.str [], D.str [], D.int .i64 0, D.bool false, D.int .i64 0, D.int .i64 0, D.str [], D.int .i64 0, D.sl aG.ks (List.map aG.enc []), D.str [], D.str [], D.bool false, D.int .i64 0, D.int .i64 0, D.int .i64 0, D.bool false, D.int .i64 0, D.str [], D.str [], D.int .i64 0, D.bool false, D.int .i64 0, D.int .i64 0, D.str [], D.int .i64 0, D.sl aG.ks (List.map aG.enc []), D.bool false, D.int .i64 0, D.sl aF.ks (List.map aF.enc []), D.sl [.str] (List.map bL []), D.sl [.int .i64] (List.map eI [])] [D.int .i64 p0.Kind, D.int .i64 0, D.bool false, D.str [], D.str [], D.int .i64 0, D.bool false, D.int .i64 0, D.int .i64 0, D.str [], D.int .i64 0, D.sl aG.ks (List.map aG.enc []), D.str [], D.str [], D.bool false, D.int .i64 0, D.int .i64 0, D.int .i64 0, D.bool false, D.int .i64 0, D.str [], D.str [], D.int .i64 0, D.bool false, D.int .i64 0, D.int .i64 0, D.str [], D.int .i64 0, D.sl aG.ks (List.map aG.enc []), D.bool false, D.int .i64 0, D.sl aF.ks (List.map aF.enc []), D.sl [.str] (List.map bL []), D.sl [.int .i64] (List.map eI [])])) (
 ajX (C73 Γ) Λ2 J (aC.enc p0) [D.int .i64 0, D.int .i64 0, D.bool false, D.str [], D.str [], D.int .i64 0, D.bool false, D.int .i64 0, D.int .i64 0, D.str [], D.int .i64 0, D.sl aG.ks (List.map aG.enc []), D.str [], D.str [], D.bool false, D.int .i64 0, D.int .i64 0, D.int .i64 0, D.bool false, D.int .i64 0, D.str [], D.str [], D.int .i64 0, D.bool false, D.int .i64 0, D.int .i64 0, D.str [], D.int .i64 0, D.sl aG.ks (List.map aG.enc []), D.bool false, D.int .i64 0, D.sl aF.ks (List.map aF.enc []), D.sl [.str] (List.map bL []), D.sl [.int .i64] (List.map eI [])] [D.int .i64 p0.Kind, D.int .i64 0, D.bool false, D.str [], D.str [], D.int .i64 0, D.bool false, D.int .i64 0, D.int .i64 0, D.str [], D.int .i64 0, D.sl aG.ks (List.map aG.enc []), D.str [], D.str [], D.bool false, D.int .i64 0, D.int .i64 0, D.int .i64 0, D.bool false, D.int .i64 0, D.str [], D.str [], D.int .i64 0, D.bool false, D.int .i64 0, D.int .i64 0, D.str [], D.int .i64 0, D.sl aG.ks (List.map aG.enc []), D.bool false, D.int .i64 0, D.sl aF.ks (List.map aF.enc []), D.sl [.str] (List.map bL []), D.sl [.int .i64] (List.map eI [])])) := by kernel_rfl
theorem awU (b0 b1 b2 : aC) : bT SE (C73 Γ) Λ2 J 73 0 [1, 1, 1, 1, 1, 1, 1, 1, 1, 0, 0] (aW [(1, .ptr 1000000000 0), (2, .ptr 1000000001 0), (3, .ptr 1000000002 0)] [⟨49, (List.map AV.d (aC.enc b0))⟩, ⟨49, (List.map AV.d (aC.enc b1))⟩, ⟨49, (List.map AV.d (aC.enc b2))⟩] [] [] []) =
 cond (b0.Kind == 9) (
 (some (.ret [aC.av (aC.mk b2.Kind b2.ID b2.Dup b2.Message b2.Client b2.User b2.Clean b2.Keep b2.Expiry b2.Window b2.Will b2.Present b2.Code b2.Subs b2.Filters b0.Codes)] [] []))) (
 cond (b0.Kind == 11) (
 (some (.ret [aC.av (aC.mk b2.Kind b2.ID b2.Dup b2.Message b2.Client b2.User b2.Clean b2.Keep b2.Expiry b2.Window b2.Will b2.Present b2.Code b2.Subs b2.Filters b0.Codes)] [] []))) (
 (some (.ret [aC.av b2] [] [])))) := by kernel_rfl
theorem ax8 (b0 b1 b2 : aC) : bT SE (C73 Γ) Λ2 J 73 0 [1, 1, 1, 1, 1, 1, 1, 1, 0, 0] (aW [(1, .ptr 1000000000 0), (2, .ptr 1000000001 0), (3, .ptr 1000000002 0)] [⟨49, (List.map AV.d (aC.enc b0))⟩, ⟨49, (List.map AV.d (aC.enc b1))⟩, ⟨49, (List.map AV.d (aC.enc b2))⟩] [] [] []) =
 cond (b0.Kind == 10) (
 anY (C73 Γ) Λ2 J (aC.enc b0) (aC.enc b1) (aC.enc (aC.mk b2.Kind b2.ID b2.Dup b2.Message b2.Client b2.User b2.Clean b2.Keep b2.Expiry b2.Window b2.Will b2.Present b2.Code b2.Subs b0.Filters b2.Codes))) (
 anY (C73 Γ) Λ2 J (aC.enc b0) (aC.enc b1) (aC.enc b2)) := by kernel_rfl
theorem az5 (b0 b1 b2 : aC) : bT SE (C73 Γ) Λ2 J 73 0 [1, 1, 1, 1, 1, 1, 1, 0, 0] (aW [(1, .ptr 1000000000 0), (2, .ptr 1000000001 0), (3, .ptr 1000000002 0)] [⟨49, (List.map AV.d (aC.enc b0))⟩, ⟨49, (List.map AV.d (aC.enc b1))⟩, ⟨49, (List.map AV.d (aC.enc b2))⟩] [] [] []) =
 cond (b0.Kind == 8) (
 aoP (C73 Γ) Λ2 J (aC.enc b0) (aC.enc b1) (aC.enc (aC.mk b2.Kind b2.ID b2.Dup b2.Message b2.Client b2.User b2.Clean b2.Keep b2.Expiry b2.Window b2.Will b2.Present b2.Code b0.Subs b2.Filters b2.Codes))) (
 aoP (C73 Γ) Λ2 J (aC.enc b0) (aC.enc b1) (aC.enc b2)) := by kernel_rfl
theorem aAz (b0 b1 b2 : aC) : bT SE (C73 Γ) Λ2 J 73 0 [1, 1, 1, 1, 1, 1, 0, 0] (aW [(1, .ptr 1000000000 0), (2, .ptr 1000000001 0), (3, .ptr 1000000002 0)] [⟨49, (List.map AV.d (aC.enc b0))⟩, ⟨49, (List.map AV.d (aC.enc b1))⟩, ⟨49, (List.map AV.d (aC.enc b2))⟩] [] [] []) =
 cond (b0.Kind == 3) (
 anl (C73 Γ) Λ2 J (aC.enc b0) (aC.enc b1) (aC.enc (aC.mk b2.Kind b2.ID b0.Dup b0.Message b2.Client b2.User b2.Clean b2.Keep b2.Expiry b2.Window b2.Will b2.Present b2.Code b2.Subs b2.Filters b2.Codes))) (
 anl (C73 Γ) Λ2 J (aC.enc b0) (aC.enc b1) (aC.enc b2)) := by kernel_rfl
theorem aAj (b0 b1 b2 : aC) : bT SE (C73 Γ) Λ2 J 73 0 [1, 1, 1, 1, 1, 0, 0] (aW [(1, .ptr 1000000000 0), (2, .ptr 1000000001 0), (3, .ptr 1000000002 0)] [⟨49, (List.map AV.d (aC.enc b0))⟩, ⟨49, (List.map AV.d (aC.enc b1))⟩, ⟨49, (List.map AV.d (aC.enc b2))⟩] [] [] []) =
 cond (b0.Kind == 2) (
 ak1 (C73 Γ) Λ2 J (aC.enc b0) (aC.enc b1) (aC.enc (aC.mk b2.Kind b2.ID b2.Dup b2.Message b2.Client b2.User b2.Clean b2.Keep b2.Expiry b2.Window b2.Will b2.Present b0.Code b2.Subs b2.Filters b2.Codes))) (
 cond (b0.Kind == 14) (
 ak1 (C73 Γ) Λ2 J (aC.enc b0) (aC.enc b1) (aC.enc (aC.mk b2.Kind b2.ID b2.Dup b2.Message b2.Client b2.User b2.Clean b2.Keep b2.Expiry b2.Window b2.Will b2.Present b0.Code b2.Subs b2.Filters b2.Codes))) (
 ak1 (C73 Γ) Λ2 J (aC.enc b0) (aC.enc b1) (aC.enc b2))) := by kernel_rfl
theorem az6 (b0 b1 b2 : aC) : bT SE (C73 Γ) Λ2 J 73 0 [1, 1, 1, 1, 0, 0] (aW [(1, .ptr 1000000000 0), (2, .ptr 1000000001 0), (3, .ptr 1000000002 0)] [⟨49, (List.map AV.d (aC.enc b0))⟩, ⟨49, (List.map AV.d (aC.enc b1))⟩, ⟨49, (List.map AV.d (aC.enc b2))⟩] [] [] []) =
 cond (b0.Kind == 2) (
 anR (C73 Γ) Λ2 J (aC.enc b0) (aC.enc b1) (aC.enc (aC.mk b2.Kind b2.ID b2.Dup b2.Message b2.Client b2.User b2.Clean b2.Keep b2.Expiry b2.Window b2.Will b0.Present b2.Code b2.Subs b2.Filters b2.Codes))) (
 anR (C73 Γ) Λ2 J (aC.enc b0) (aC.enc b1) (aC.enc b2)) := by kernel_rfl
theorem aB5 (b0 b1 b2 : aC) : bT SE (C73 Γ) Λ2 J 73 0 [1, 1, 1, 0, 0] (aW [(1, .ptr 1000000000 0), (2, .ptr 1000000001 0), (3, .ptr 1000000002 0)] [⟨49, (List.map AV.d (aC.enc b0))⟩, ⟨49, (List.map AV.d (aC.enc b1))⟩, ⟨49, (List.map AV.d (aC.enc b2))⟩] [] [] []) =
 cond (b0.Kind == 1) (
 apk (C73 Γ) Λ2 J (aC.enc b0) (aC.enc b1) (aC.enc (aC.mk b2.Kind b2.ID b2.Dup b2.Message b0.Client b0.User b0.Clean b0.Keep b0.Expiry b0.Window b0.Will b2.Present b2.Code b2.Subs b2.Filters b2.Codes))) (
 apk (C73 Γ) Λ2 J (aC.enc b0) (aC.enc b1) (aC.enc b2)) := by kernel_rfl
end
abbrev X73 : aP := C73 gG
theorem ah3 : X73 = aQ gG := rfl
abbrev azw := anY X73 (bP SE gG (SE.hl 73) (SE.hr 73)) (J0 SE X73)
abbrev axR := aoP X73 (bP SE gG (SE.hl 73) (SE.hr 73)) (J0 SE X73)
abbrev axp := anl X73 (bP SE gG (SE.hl 73) (SE.hr 73)) (J0 SE X73)
abbrev azr := ak1 X73 (bP SE gG (SE.hl 73) (SE.hr 73)) (J0 SE X73)
abbrev aAs := anR X73 (bP SE gG (SE.hl 73) (SE.hr 73)) (J0 SE X73)
abbrev awM := apk X73 (bP SE gG (SE.hl 73) (SE.hr 73)) (J0 SE X73)
abbrev aBw := ajX X73 (bP SE gG (SE.hl 73) (SE.hr 73)) (J0 SE X73)
theorem xG (b0 b1 b2 : aC) : Le (Option.map c7 (pL b0 b1 b2)) (azw (aC.enc b0) (aC.enc b1) (aC.enc b2)) := by
 refine Le.trans ?_ (le_of_eq ((aZ ah3).trans (awU ..)).symm)
 unfold pL
 refine lC ?_ ?_
 ·exact aJ rfl
 ·refine lC ?_ ?_
  ·exact aJ rfl
  ·exact aJ rfl
theorem xH (b0 b1 b2 : aC) : Le (Option.map c7 (pX b0 b1 b2)) (axR (aC.enc b0) (aC.enc b1) (aC.enc b2)) := by
 refine Le.trans ?_ (le_of_eq ((aZ ah3).trans (ax8 ..)).symm)
 unfold pX
 refine lC ?_ ?_
 ·exact xG b0 b1 (aC.mk b2.Kind b2.ID b2.Dup b2.Message b2.Client b2.User b2.Clean b2.Keep b2.Expiry b2.Window b2.Will b2.Present b2.Code b2.Subs b0.Filters b2.Codes)
 ·exact xG b0 b1 b2
theorem xE (b0 b1 b2 : aC) : Le (Option.map c7 (pZ b0 b1 b2)) (axp (aC.enc b0) (aC.enc b1) (aC.enc b2)) := by
 refine Le.trans ?_ (le_of_eq ((aZ ah3).trans (az5 ..)).symm)
 unfold pZ
 refine lC ?_ ?_
 ·exact xH b0 b1 (aC.mk b2.Kind b2.ID b2.Dup b2.Message b2.Client b2.User b2.Clean b2.Keep b2.Expiry b2.Window b2.Will b2.Present b2.Code b0.Subs b2.Filters b2.Codes)
 ·exact xH b0 b1 b2
theorem rP (b0 b1 b2 : aC) : Le (Option.map c7 (mG b0 b1 b2)) (azr (aC.enc b0) (aC.enc b1) (aC.enc b2)) := by
 refine Le.trans ?_ (le_of_eq ((aZ ah3).trans (aAz ..)).symm)
 unfold mG
 refine lC ?_ ?_
 ·exact xE b0 b1 (aC.mk b2.Kind b2.ID b0.Dup b0.Message b2.Client b2.User b2.Clean b2.Keep b2.Expiry b2.Window b2.Will b2.Present b2.Code b2.Subs b2.Filters b2.Codes)
 ·exact xE b0 b1 b2
theorem xN (b0 b1 b2 : aC) : Le (Option.map c7 (pM b0 b1 b2)) (aAs (aC.enc b0) (aC.enc b1) (aC.enc b2)) := by
 refine Le.trans ?_ (le_of_eq ((aZ ah3).trans (aAj ..)).symm)
 unfold pM
 refine lC ?_ ?_
 ·exact rP b0 b1 (aC.mk b2.Kind b2.ID b2.Dup b2.Message b2.Client b2.User b2.Clean b2.Keep b2.Expiry b2.Window b2.Will b2.Present b0.Code b2.Subs b2.Filters b2.Codes)
 ·refine lC ?_ ?_
  ·exact rP b0 b1 (aC.mk b2.Kind b2.ID b2.Dup b2.Message b2.Client b2.User b2.Clean b2.Keep b2.Expiry b2.Window b2.Will b2.Present b0.Code b2.Subs b2.Filters b2.Codes)
  ·exact rP b0 b1 b2
theorem xC (b0 b1 b2 : aC) : Le (Option.map c7 (pQ b0 b1 b2)) (awM (aC.enc b0) (aC.enc b1) (aC.enc b2)) := by
 refine Le.trans ?_ (le_of_eq ((aZ ah3).trans (az6 ..)).symm)
 unfold pQ
 refine lC ?_ ?_
 ·exact xN b0 b1 (aC.mk b2.Kind b2.ID b2.Dup b2.Message b2.Client b2.User b2.Clean b2.Keep b2.Expiry b2.Window b2.Will b0.Present b2.Code b2.Subs b2.Filters b2.Codes)
 ·exact xN b0 b1 b2
theorem nZ (b0 b1 b2 : aC) : Le (Option.map c7 (j9 b0 b1 b2)) (aBw (aC.enc b0) (aC.enc b1) (aC.enc b2)) := by
 refine Le.trans ?_ (le_of_eq ((aZ ah3).trans (aB5 ..)).symm)
 unfold j9
 refine lC ?_ ?_
 ·exact xC b0 b1 (aC.mk b2.Kind b2.ID b2.Dup b2.Message b0.Client b0.User b0.Clean b0.Keep b0.Expiry b0.Window b0.Will b2.Present b2.Code b2.Subs b2.Filters b2.Codes)
 ·exact xC b0 b1 b2
theorem agP (p0 : aC) : Le (Option.map c7 (uD p0)) (bA SE 73 [aC.av p0] [] []) := by
 refine aV ah3 rfl ?_
 refine Le.trans ?_ (le_of_eq (T73 ..).symm)
 unfold uD
 refine lC ?_ ?_
 ·(try simp only [EN]); exact nZ p0 ((aC.mk 0 0 false (aA.mk [] [] 0 false 0 0 [] 0 []) [] [] false 0 0 0 (aT.mk false 0 (aA.mk [] [] 0 false 0 0 [] 0 [])) false 0 [] [] [])) ((aC.mk p0.Kind p0.ID false (aA.mk [] [] 0 false 0 0 [] 0 []) [] [] false 0 0 0 (aT.mk false 0 (aA.mk [] [] 0 false 0 0 [] 0 [])) false 0 [] [] []))
 ·refine lC ?_ ?_
  ·refine lC ?_ ?_
   ·(try simp only [EN]); exact nZ p0 ((aC.mk 0 0 false (aA.mk [] [] 0 false 0 0 [] 0 []) [] [] false 0 0 0 (aT.mk false 0 (aA.mk [] [] 0 false 0 0 [] 0 [])) false 0 [] [] [])) ((aC.mk p0.Kind p0.ID false (aA.mk [] [] 0 false 0 0 [] 0 []) [] [] false 0 0 0 (aT.mk false 0 (aA.mk [] [] 0 false 0 0 [] 0 [])) false 0 [] [] []))
   ·(try simp only [EN]); exact nZ p0 ((aC.mk 0 0 false (aA.mk [] [] 0 false 0 0 [] 0 []) [] [] false 0 0 0 (aT.mk false 0 (aA.mk [] [] 0 false 0 0 [] 0 [])) false 0 [] [] [])) ((aC.mk p0.Kind 0 false (aA.mk [] [] 0 false 0 0 [] 0 []) [] [] false 0 0 0 (aT.mk false 0 (aA.mk [] [] 0 false 0 0 [] 0 [])) false 0 [] [] []))
  ·(try simp only [EN]); exact nZ p0 ((aC.mk 0 0 false (aA.mk [] [] 0 false 0 0 [] 0 []) [] [] false 0 0 0 (aT.mk false 0 (aA.mk [] [] 0 false 0 0 [] 0 [])) false 0 [] [] [])) ((aC.mk p0.Kind 0 false (aA.mk [] [] 0 false 0 0 [] 0 []) [] [] false 0 0 0 (aT.mk false 0 (aA.mk [] [] 0 false 0 0 [] 0 [])) false 0 [] [] []))
section
variable (Γ : Fun) (γ97 : Gm (Bool)) (Λ2 J : Lam)
def atI : aP := aY (aQ Γ) 97 aE γ97
theorem aFO (p0 p1 : aT) : bF SE (atI Γ γ97) Λ2 J 119 [aT.av p0, aT.av p1] [] [] =
 cond (p0.Set == p1.Set) (
 cond (p0.Delay == p1.Delay) (
  γ97 [aA.av p0.Message, aA.av p1.Message] [] [] fun r0 =>
  (rB r0)) (
 (rB false))) (
 (rB false)) := by kernel_rfl
end
abbrev awO : aP := atI gG (cT 97 aE)
theorem aDh : awO = aQ gG := by unfold awO atI; rw [bB fun _ h => h]
theorem adv (p0 p1 : aT) : Le (Option.map aE (mA p0 p1)) (bA SE 119 [aT.av p0, aT.av p1] [] []) := by
 refine aV aDh rfl ?_
 refine Le.trans ?_ (le_of_eq (aFO ..).symm)
 unfold mA
 refine lC ?_ ?_
 ·refine lC ?_ ?_
  ·refine lQ eX aL (iL _ _) fun r0 _ => ?_
   exact aJ rfl
  ·exact aJ rfl
 ·exact aJ rfl
def anz (C : aP) (Λ2 J : Lam) (a0 a1 : List (List D)) (a2 : Int) : Res := lab SE C Λ2 J 120 0 [1, 1, 0, 1, 0] (aW [(0, .d (.sl aF.ks a0)), (1, .d (.sl aF.ks a1)), (5, .d (.int .i64 a2))] [] [] [] [])
section
variable (Γ : Fun)  (Λ2 J : Lam)
def ape : aP := aQ Γ
theorem aEM (p0 p1 : List aF) : bF SE (ape Γ) Λ2 J 120 [.d (.sl aF.ks (List.map aF.enc p0)), .d (.sl aF.ks (List.map aF.enc p1))] [] [] =
 cond ((lM aF.enc p0 : Int) != (lM aF.enc p1 : Int)) (
 (rB false)) (
 anz (ape Γ) Λ2 J (List.map aF.enc p0) (List.map aF.enc p1) 0) := by kernel_rfl
theorem ayX (x0 x1 : List aF) (x5 : Int) : bT SE (ape Γ) Λ2 J 120 0 [1, 1, 0, 1, 0] (aW [(0, .d (.sl aF.ks (List.map aF.enc x0))), (1, .d (.sl aF.ks (List.map aF.enc x1))), (5, .d (.int .i64 x5))] [] [] [] []) =
 cond (decide (x5 < (lM aF.enc x0 : Int))) (
 cond (iB x5 (lM aF.enc x0 : Int)) (
  cond (iB x5 (lM aF.enc x1 : Int)) (
  cond (!(((bC (cE aF.enc x0 x5 0)) == (bC (cE aF.enc x1 x5 0))) && (((aR (cE aF.enc x0 x5 1)) == (aR (cE aF.enc x1 x5 1))) && (((bM (cE aF.enc x0 x5 2)) == (bM (cE aF.enc x1 x5 2))) && true)))) (
   (rB false)) (
  anz (ape Γ) Λ2 J (List.map aF.enc x0) (List.map aF.enc x1) (w6 (x5 + 1)))) none) none) (
 (rB true)) := by kernel_rfl
end
abbrev atV : aP := ape gG
theorem avw : atV = aQ gG := rfl
abbrev aAB := anz atV (bP SE gG (SE.hl 120) (SE.hr 120)) (J0 SE atV)
theorem abP : ∀ (fu : Nat) (x0 x1 : List aF) (x5 : Int), Le (Option.map aE (fU fu x0 x1 x5)) (aAB (List.map aF.enc x0) (List.map aF.enc x1) x5) := by
 intro fu
 induction fu with
 | zero => intros; exact le_none
 | succ fu ih =>
  intro x0 x1 x5
  refine Le.trans ?_ (le_of_eq ((aZ avw).trans (ayX ..)).symm)
  unfold fU
  refine lD (by simp only [EN]) ?_ ?_
  ·refine lG (by simp only [EN]) ?_
   refine lG (by simp only [EN]) ?_
   refine lD (by simp only [EN]) ?_ ?_
   ·exact aJ rfl
   ·exact ih x0 x1 (w6 (x5 + 1))
  ·exact aJ rfl
theorem adu (p0 p1 : List aF) : Le (Option.map aE (mD p0 p1)) (bA SE 120 [.d (.sl aF.ks (List.map aF.enc p0)), .d (.sl aF.ks (List.map aF.enc p1))] [] []) := by
 refine aV avw rfl ?_
 refine Le.trans ?_ (le_of_eq (aEM ..).symm)
 unfold mD
 refine lD (by simp only [EN]) ?_ ?_
 ·exact aJ rfl
 ·exact abP fuel p0 p1 0
def apa (C : aP) (Λ2 J : Lam) (a0 a1 : List (List D)) (a2 : Int) : Res := lab SE C Λ2 J 121 0 [1, 1, 0, 1, 0] (aW [(0, .d (.sl [.str] a0)), (1, .d (.sl [.str] a1)), (5, .d (.int .i64 a2))] [] [] [] [])
section
variable (Γ : Fun)  (Λ2 J : Lam)
def aoa : aP := aQ Γ
theorem aFh (p0 p1 : List Str) : bF SE (aoa Γ) Λ2 J 121 [.d (.sl [.str] (List.map bL p0)), .d (.sl [.str] (List.map bL p1))] [] [] =
 cond ((lM bL p0 : Int) != (lM bL p1 : Int)) (
 (rB false)) (
 apa (aoa Γ) Λ2 J (List.map bL p0) (List.map bL p1) 0) := by kernel_rfl
theorem axs (x0 x1 : List Str) (x5 : Int) : bT SE (aoa Γ) Λ2 J 121 0 [1, 1, 0, 1, 0] (aW [(0, .d (.sl [.str] (List.map bL x0))), (1, .d (.sl [.str] (List.map bL x1))), (5, .d (.int .i64 x5))] [] [] [] []) =
 cond (decide (x5 < (lM bL x0 : Int))) (
 cond (iB x5 (lM bL x0 : Int)) (
  cond (iB x5 (lM bL x1 : Int)) (
  cond (!((bC (cE bL x0 x5 0)) == (bC (cE bL x1 x5 0)))) (
   (rB false)) (
  apa (aoa Γ) Λ2 J (List.map bL x0) (List.map bL x1) (w6 (x5 + 1)))) none) none) (
 (rB true)) := by kernel_rfl
end
abbrev aul : aP := aoa gG
theorem avj : aul = aQ gG := rfl
abbrev awS := apa aul (bP SE gG (SE.hl 121) (SE.hr 121)) (J0 SE aul)
theorem aer : ∀ (fu : Nat) (x0 x1 : List Str) (x5 : Int), Le (Option.map aE (iP fu x0 x1 x5)) (awS (List.map bL x0) (List.map bL x1) x5) := by
 intro fu
 induction fu with
 | zero => intros; exact le_none
 | succ fu ih =>
  intro x0 x1 x5
  refine Le.trans ?_ (le_of_eq ((aZ avj).trans (axs ..)).symm)
  unfold iP
  refine lD (by simp only [EN]) ?_ ?_
  ·refine lG (by simp only [EN]) ?_
   refine lG (by simp only [EN]) ?_
   refine lD (by simp only [EN]) ?_ ?_
   ·exact aJ rfl
   ·exact ih x0 x1 (w6 (x5 + 1))
  ·exact aJ rfl
theorem agS (p0 p1 : List Str) : Le (Option.map aE (qP p0 p1)) (bA SE 121 [.d (.sl [.str] (List.map bL p0)), .d (.sl [.str] (List.map bL p1))] [] []) := by
 refine aV avj rfl ?_
 refine Le.trans ?_ (le_of_eq (aFh ..).symm)
 unfold qP
 refine lD (by simp only [EN]) ?_ ?_
 ·exact aJ rfl
 ·exact aer fuel p0 p1 0
def an7 (C : aP) (Λ2 J : Lam) (a0 a1 : List (List D)) (a2 : Int) : Res := lab SE C Λ2 J 122 0 [1, 1, 0, 1, 0] (aW [(0, .d (.sl [.int .i64] a0)), (1, .d (.sl [.int .i64] a1)), (5, .d (.int .i64 a2))] [] [] [] [])
section
variable (Γ : Fun)  (Λ2 J : Lam)
def aoq : aP := aQ Γ
theorem aEP (p0 p1 : List Int) : bF SE (aoq Γ) Λ2 J 122 [.d (.sl [.int .i64] (List.map eI p0)), .d (.sl [.int .i64] (List.map eI p1))] [] [] =
 cond ((lM eI p0 : Int) != (lM eI p1 : Int)) (
 (rB false)) (
 an7 (aoq Γ) Λ2 J (List.map eI p0) (List.map eI p1) 0) := by kernel_rfl
theorem ay5 (x0 x1 : List Int) (x5 : Int) : bT SE (aoq Γ) Λ2 J 122 0 [1, 1, 0, 1, 0] (aW [(0, .d (.sl [.int .i64] (List.map eI x0))), (1, .d (.sl [.int .i64] (List.map eI x1))), (5, .d (.int .i64 x5))] [] [] [] []) =
 cond (decide (x5 < (lM eI x0 : Int))) (
 cond (iB x5 (lM eI x0 : Int)) (
  cond (iB x5 (lM eI x1 : Int)) (
  cond ((aR (cE eI x0 x5 0)) != (aR (cE eI x1 x5 0))) (
   (rB false)) (
  an7 (aoq Γ) Λ2 J (List.map eI x0) (List.map eI x1) (w6 (x5 + 1)))) none) none) (
 (rB true)) := by kernel_rfl
end
abbrev att : aP := aoq gG
theorem avL : att = aQ gG := rfl
abbrev ayP := an7 att (bP SE gG (SE.hl 122) (SE.hr 122)) (J0 SE att)
theorem aaC : ∀ (fu : Nat) (x0 x1 : List Int) (x5 : Int), Le (Option.map aE (eG fu x0 x1 x5)) (ayP (List.map eI x0) (List.map eI x1) x5) := by
 intro fu
 induction fu with
 | zero => intros; exact le_none
 | succ fu ih =>
  intro x0 x1 x5
  refine Le.trans ?_ (le_of_eq ((aZ avL).trans (ay5 ..)).symm)
  unfold eG
  refine lD (by simp only [EN]) ?_ ?_
  ·refine lG (by simp only [EN]) ?_
   refine lG (by simp only [EN]) ?_
   refine lD (by simp only [EN]) ?_ ?_
   ·exact aJ rfl
   ·exact ih x0 x1 (w6 (x5 + 1))
  ·exact aJ rfl
theorem abI (p0 p1 : List Int) : Le (Option.map aE (jU p0 p1)) (bA SE 122 [.d (.sl [.int .i64] (List.map eI p0)), .d (.sl [.int .i64] (List.map eI p1))] [] []) := by
 refine aV avL rfl ?_
 refine Le.trans ?_ (le_of_eq (aEP ..).symm)
 unfold jU
 refine lD (by simp only [EN]) ?_ ?_
 ·exact aJ rfl
 ·exact aaC fuel p0 p1 0
def avO (C : aP) (Λ2 J : Lam) (a0 a1 : List D) : Res := lab SE C Λ2 J 63 0 [1, 1, 1, 0] (aW [(2, .ptr 1000000000 0), (3, .ptr 1000000001 0)] [⟨49, (List.map AV.d a0)⟩, ⟨49, (List.map AV.d a1)⟩] [] [] [])
def avc (C : aP) (Λ2 J : Lam) (a0 a1 : List D) : Res := lab SE C Λ2 J 63 0 [1, 1, 0, 0] (aW [(2, .ptr 1000000000 0), (3, .ptr 1000000001 0)] [⟨49, (List.map AV.d a0)⟩, ⟨49, (List.map AV.d a1)⟩] [] [] [])
section
variable (Γ : Fun) (γ97 γ119 γ120 γ121 γ122 : Gm (Bool)) (Λ2 J : Lam)
def C63 : aP := aY (aY (aY (aY (aY (aQ Γ) 97 aE γ97) 119 aE γ119) 120 aE γ120) 121 aE γ121) 122 aE γ122
theorem T63 (p0 p1 : aC) : bF SE (C63 Γ γ97 γ119 γ120 γ121 γ122) Λ2 J 63 [aC.av p0, aC.av p1] [] [] =
 cond (p0.Kind != p1.Kind) (
 (rB false)) (
 cond (p0.ID != p1.ID) (
 (rB false)) (
 cond (p0.Dup != p1.Dup) (
 (rB false)) (
 γ97 [aA.av p0.Message, aA.av p1.Message] [] [] fun r0 =>
 cond (!r0) (
 (rB false)) (
 cond (!(p0.Client == p1.Client)) (
 (rB false)) (
 cond (!(p0.User == p1.User)) (
 (rB false)) (
 avc (C63 Γ γ97 γ119 γ120 γ121 γ122) Λ2 J (aC.enc p0) (aC.enc p1))))))) := by kernel_rfl
theorem aC1 (b0 b1 : aC) : bT SE (C63 Γ γ97 γ119 γ120 γ121 γ122) Λ2 J 63 0 [1, 1, 1, 0] (aW [(2, .ptr 1000000000 0), (3, .ptr 1000000001 0)] [⟨49, (List.map AV.d (aC.enc b0))⟩, ⟨49, (List.map AV.d (aC.enc b1))⟩] [] [] []) =
 cond (b0.Present == b1.Present) (
 cond (b0.Code == b1.Code) (
  γ120 [.d (.sl aF.ks (List.map aF.enc b0.Subs)), .d (.sl aF.ks (List.map aF.enc b1.Subs))] [] [] fun r2 =>
  cond r2 (
  γ121 [.d (.sl [.str] (List.map bL b0.Filters)), .d (.sl [.str] (List.map bL b1.Filters))] [] [] fun r3 =>
  cond r3 (
   γ122 [.d (.sl [.int .i64] (List.map eI b0.Codes)), .d (.sl [.int .i64] (List.map eI b1.Codes))] [] [] fun r4 =>
   (rB r4)) (
  (rB false))) (
  (rB false))) (
 (rB false))) (
 (rB false)) := by kernel_rfl
theorem aCs (b0 b1 : aC) : bT SE (C63 Γ γ97 γ119 γ120 γ121 γ122) Λ2 J 63 0 [1, 1, 0, 0] (aW [(2, .ptr 1000000000 0), (3, .ptr 1000000001 0)] [⟨49, (List.map AV.d (aC.enc b0))⟩, ⟨49, (List.map AV.d (aC.enc b1))⟩] [] [] []) =
 cond (b0.Clean != b1.Clean) (
 (rB false)) (
 cond (b0.Keep != b1.Keep) (
 (rB false)) (
 cond (b0.Expiry != b1.Expiry) (
 (rB false)) (
 cond (b0.Window != b1.Window) (
 (rB false)) (
 γ119 [aT.av b0.Will, aT.av b1.Will] [] [] fun r1 =>
 cond (!r1) (
 (rB false)) (
 avO (C63 Γ γ97 γ119 γ120 γ121 γ122) Λ2 J (aC.enc b0) (aC.enc b1)))))) := by kernel_rfl
end
abbrev X63 : aP := C63 gG (cT 97 aE) (cT 119 aE) (cT 120 aE) (cT 121 aE) (cT 122 aE)
theorem atS : X63 = aQ gG := by unfold X63 C63; repeat rw [bB fun _ h => h]
abbrev aDg := avO X63 (bP SE gG (SE.hl 63) (SE.hr 63)) (J0 SE X63)
abbrev aBV := avc X63 (bP SE gG (SE.hl 63) (SE.hr 63)) (J0 SE X63)
theorem aeK (b0 b1 : aC) : Le (Option.map aE (m7 b0 b1)) (aDg (aC.enc b0) (aC.enc b1)) := by
 refine Le.trans ?_ (le_of_eq ((aZ atS).trans (aC1 ..)).symm)
 unfold m7
 refine lC ?_ ?_
 ·refine lC ?_ ?_
  ·refine lQ eX aL (adu _ _) fun r2 _ => ?_
   refine lC ?_ ?_
   ·refine lQ eX aL (agS _ _) fun r3 _ => ?_
    refine lC ?_ ?_
    ·refine lQ eX aL (abI _ _) fun r4 _ => ?_
     exact aJ rfl
    ·exact aJ rfl
   ·exact aJ rfl
  ·exact aJ rfl
 ·exact aJ rfl
theorem aeu (b0 b1 : aC) : Le (Option.map aE (nA b0 b1)) (aBV (aC.enc b0) (aC.enc b1)) := by
 refine Le.trans ?_ (le_of_eq ((aZ atS).trans (aCs ..)).symm)
 unfold nA
 refine lC ?_ ?_
 ·exact aJ rfl
 ·refine lC ?_ ?_
  ·exact aJ rfl
  ·refine lC ?_ ?_
   ·exact aJ rfl
   ·refine lC ?_ ?_
    ·exact aJ rfl
    ·refine lQ eX aL (adv _ _) fun r1 _ => ?_
     refine lC ?_ ?_
     ·exact aJ rfl
     ·exact aeK b0 b1
theorem aaJ (p0 p1 : aC) : Le (Option.map aE (jN p0 p1)) (bA SE 63 [aC.av p0, aC.av p1] [] []) := by
 refine aV atS rfl ?_
 refine Le.trans ?_ (le_of_eq (T63 ..).symm)
 unfold jN
 refine lC ?_ ?_
 ·exact aJ rfl
 ·refine lC ?_ ?_
  ·exact aJ rfl
  ·refine lC ?_ ?_
   ·exact aJ rfl
   ·refine lQ eX aL (iL _ _) fun r0 _ => ?_
    refine lC ?_ ?_
    ·exact aJ rfl
    ·refine lC ?_ ?_
     ·exact aJ rfl
     ·refine lC ?_ ?_
      ·exact aJ rfl
      ·exact aeu p0 p1
section
variable (Γ : Fun) (γ97 : Gm (Bool)) (γ13 : Gm (Int)) (Λ2 J : Lam)
def atr : aP := aY (aY (aQ Γ) 97 aE γ97) 13 aH γ13
theorem aF9 (p0 : aT) : bF SE (atr Γ γ97 γ13) Λ2 J 136 [aT.av p0] [] [] =
 cond (!p0.Set) (
 cond (p0.Delay != 0) (
  (rI 28)) (
 γ97 [aA.av p0.Message, .agg [.d (.str []), .d (.str []), .d (.int .i64 0), .d (.bool false), .d (.int .i64 0), .d (.int .i64 0), .d (.str []), .d (.int .i64 0), .d (.sl aG.ks (List.map aG.enc []))]] [] [] fun r0 =>
 cond (!r0) (
  (rI 28)) (
 (rI 0)))) (
 cond (decide (p0.Delay < 0)) (
 (rI 1)) (
 cond (decide (p0.Delay > 1099511627776)) (
 (rI 1)) (
 γ13 [aA.av p0.Message] [] [] fun r1 =>
 (rI r1)))) := by kernel_rfl
end
abbrev azz : aP := atr gG (cT 97 aE) (cT 13 aH)
theorem aBK : azz = aQ gG := by unfold azz atr; repeat rw [bB fun _ h => h]
theorem agO (p0 : aT) : Le (Option.map aH (qV p0)) (bA SE 136 [aT.av p0] [] []) := by
 refine aV aBK rfl ?_
 refine Le.trans ?_ (le_of_eq (aF9 ..).symm)
 unfold qV
 refine lC ?_ ?_
 ·refine lC ?_ ?_
  ·exact aJ rfl
  ·refine lQ eX aL (by (try simp only [EN]); exact iL p0.Message ((aA.mk [] [] 0 false 0 0 [] 0 []))) fun r0 _ => ?_
   refine lC ?_ ?_
   ·exact aJ rfl
   ·exact aJ rfl
 ·refine lC ?_ ?_
  ·exact aJ rfl
  ·refine lC ?_ ?_
   ·exact aJ rfl
   ·refine lQ eX aS (gZ _) fun r1 _ => ?_
    exact aJ rfl
def aqs (C : aP) (Λ2 J : Lam) (a0 : List D) : Res := lab SE C Λ2 J 74 0 [1, 1, 0, 0] (aW [(1, .ptr 1000000000 0)] [⟨49, (List.map AV.d a0)⟩] [] [] [])
section
variable (Γ : Fun) (γ48 : Gm (Bool)) (γ136 : Gm (Int)) (Λ2 J : Lam)
def C74 : aP := aY (aY (aQ Γ) 48 aE γ48) 136 aH γ136
theorem T74 (p0 : aC) : bF SE (C74 Γ γ48 γ136) Λ2 J 74 [aC.av p0] [] [] =
 γ48 [.d (.str p0.Client)] [] [] fun r0 =>
 cond (!r0) (
 (rI 11)) (
 cond (!(p0.User == ([] : Str))) (
 γ48 [.d (.str p0.User)] [] [] fun r1 =>
 cond (!r1) (
  (rI 11)) (
 aqs (C74 Γ γ48 γ136) Λ2 J (aC.enc p0))) (
 aqs (C74 Γ γ48 γ136) Λ2 J (aC.enc p0))) := by kernel_rfl
theorem aCu (b0 : aC) : bT SE (C74 Γ γ48 γ136) Λ2 J 74 0 [1, 1, 0, 0] (aW [(1, .ptr 1000000000 0)] [⟨49, (List.map AV.d (aC.enc b0))⟩] [] [] []) =
 cond (decide (b0.Keep < 0)) (
 (rI 1)) (
 cond (decide (b0.Keep > 1099511627776)) (
 (rI 1)) (
 cond (decide (b0.Expiry < 0)) (
 (rI 1)) (
 cond (decide (b0.Expiry > 1099511627776)) (
 (rI 1)) (
 cond (decide (b0.Window < 1)) (
 (rI 1)) (
 cond (decide (b0.Window > 32)) (
 (rI 1)) (
 γ136 [aT.av b0.Will] [] [] fun r2 =>
 (rI r2))))))) := by kernel_rfl
end
abbrev X74 : aP := C74 gG (cT 48 aE) (cT 136 aH)
theorem aAo : X74 = aQ gG := by unfold X74 C74; repeat rw [bB fun _ h => h]
abbrev aCd := aqs X74 (bP SE gG (SE.hl 74) (SE.hr 74)) (J0 SE X74)
theorem vP (b0 : aC) : Le (Option.map aH (kH b0)) (aCd (aC.enc b0)) := by
 refine Le.trans ?_ (le_of_eq ((aZ aAo).trans (aCu ..)).symm)
 unfold kH
 refine lC ?_ ?_
 ·exact aJ rfl
 ·refine lC ?_ ?_
  ·exact aJ rfl
  ·refine lC ?_ ?_
   ·exact aJ rfl
   ·refine lC ?_ ?_
    ·exact aJ rfl
    ·refine lC ?_ ?_
     ·exact aJ rfl
     ·refine lC ?_ ?_
      ·exact aJ rfl
      ·refine lQ eX aS (agO _) fun r2 _ => ?_
       exact aJ rfl
theorem aeH (p0 : aC) : Le (Option.map aH (m9 p0)) (bA SE 74 [aC.av p0] [] []) := by
 refine aV aAo rfl ?_
 refine Le.trans ?_ (le_of_eq (T74 ..).symm)
 unfold m9
 refine lQ eX aL (kC _) fun r0 _ => ?_
 refine lC ?_ ?_
 ·exact aJ rfl
 ·refine lC ?_ ?_
  ·refine lQ eX aL (kC _) fun r1 _ => ?_
   refine lC ?_ ?_
   ·exact aJ rfl
   ·exact vP p0
  ·exact vP p0
section
variable (Γ : Fun)  (Λ2 J : Lam)
def C77 : aP := aQ Γ
theorem T77 (p0 : Int) : bF SE (C77 Γ) Λ2 J 77 [.d (.int .i64 p0)] [] [] =
 cond (decide (p0 < 1)) (
 (rI 15)) (
 cond (decide (p0 > 65535)) (
 (rI 15)) (
 (rI 0))) := by kernel_rfl
end
abbrev X77 : aP := C77 gG
theorem aER : X77 = aQ gG := rfl
theorem aah (p0 : Int) : Le (Option.map aH (mI p0)) (bA SE 77 [.d (.int .i64 p0)] [] []) := by
 refine aV aER rfl ?_
 refine Le.trans ?_ (le_of_eq (T77 ..).symm)
 unfold mI
 refine lC ?_ ?_
 ·exact aJ rfl
 ·refine lC ?_ ?_
  ·exact aJ rfl
  ·exact aJ rfl
section
variable (Γ : Fun) (γ13 γ77 : Gm (Int)) (Λ2 J : Lam)
def C75 : aP := aY (aY (aQ Γ) 13 aH γ13) 77 aH γ77
theorem T75 (p0 : aC) : bF SE (C75 Γ γ13 γ77) Λ2 J 75 [aC.av p0] [] [] =
 γ13 [aA.av p0.Message] [] [] fun r0 =>
 cond (r0 != 0) (
 (rI r0)) (
 cond (p0.Message.Level == 0) (
 cond (p0.ID != 0) (
  (rI 15)) (
 cond p0.Dup (
  (rI 28)) (
 (rI 0)))) (
 γ77 [.d (.int .i64 p0.ID)] [] [] fun r1 =>
 (rI r1))) := by kernel_rfl
end
abbrev X75 : aP := C75 gG (cT 13 aH) (cT 77 aH)
theorem aFS : X75 = aQ gG := by unfold X75 C75; repeat rw [bB fun _ h => h]
theorem aeJ (p0 : aC) : Le (Option.map aH (m5 p0)) (bA SE 75 [aC.av p0] [] []) := by
 refine aV aFS rfl ?_
 refine Le.trans ?_ (le_of_eq (T75 ..).symm)
 unfold m5
 refine lQ eX aS (gZ _) fun r0 _ => ?_
 refine lC ?_ ?_
 ·exact aJ rfl
 ·refine lC ?_ ?_
  ·refine lC ?_ ?_
   ·exact aJ rfl
   ·refine lC ?_ ?_
    ·exact aJ rfl
    ·exact aJ rfl
  ·refine lQ eX aS (aah _) fun r1 _ => ?_
   exact aJ rfl
section
variable (Γ : Fun)  (Λ2 J : Lam)
def C76 : aP := aQ Γ
theorem T76 (p0 : Int) : bF SE (C76 Γ) Λ2 J 76 [.d (.int .i64 p0)] [] [] =
 cond (decide (p0 ≥ 0)) (
 (rB (decide (p0 ≤ 29)))) (
 (rB false)) := by kernel_rfl
end
abbrev X76 : aP := C76 gG
theorem aEN : X76 = aQ gG := rfl
theorem vL (p0 : Int) : Le (Option.map aE (kR p0)) (bA SE 76 [.d (.int .i64 p0)] [] []) := by
 refine aV aEN rfl ?_
 refine Le.trans ?_ (le_of_eq (T76 ..).symm)
 unfold kR
 refine lC ?_ ?_
 ·exact aJ rfl
 ·exact aJ rfl
section
variable (Γ : Fun)  (Λ2 J : Lam)
def C78 : aP := aQ Γ
theorem T78 (p0 : Int) : bF SE (C78 Γ) Λ2 J 78 [.d (.int .i64 p0)] [] [] =
 cond (p0 == 0) (
 (rI 1)) (
 cond (decide (p0 > 32)) (
 (rI 5)) (
 (rI 0))) := by kernel_rfl
end
abbrev X78 : aP := C78 gG
theorem aEi : X78 = aQ gG := rfl
theorem afU (p0 : Int) : Le (Option.map aH (pC p0)) (bA SE 78 [.d (.int .i64 p0)] [] []) := by
 refine aV aEi rfl ?_
 refine Le.trans ?_ (le_of_eq (T78 ..).symm)
 unfold pC
 refine lC ?_ ?_
 ·exact aJ rfl
 ·refine lC ?_ ?_
  ·exact aJ rfl
  ·exact aJ rfl
def asG (C : aP) (Λ2 J : Lam) (a0 : List D) : Res := lab SE C Λ2 J 137 0 [1, 1, 1, 0] (aW [(1, .ptr 1000000000 0)] [⟨60, (List.map AV.d a0)⟩] [] [] [])
section
variable (Γ : Fun) (γ133 : Gm (Bool)) (γ166 : Gm (Str × Str × Bool)) (Λ2 J : Lam)
def aov : aP := aY (aY (aQ Γ) 133 aE γ133) 166 bO γ166
theorem aGf (p0 : aF) : bF SE (aov Γ γ133 γ166) Λ2 J 137 [aF.av p0] [] [] =
 γ133 [.d (.str p0.Filter)] [] [] fun r0 =>
 cond (!r0) (
 (rI 13)) (
 cond (decide (p0.Level < 0)) (
 (rI 14)) (
 cond (decide (p0.Level > 2)) (
 (rI 14)) (
 asG (aov Γ γ133 γ166) Λ2 J (aF.enc p0)))) := by kernel_rfl
theorem ayd (b0 : aF) : bT SE (aov Γ γ133 γ166) Λ2 J 137 0 [1, 1, 1, 0] (aW [(1, .ptr 1000000000 0)] [⟨60, (List.map AV.d (aF.enc b0))⟩] [] [] []) =
 γ166 [.d (.str b0.Filter)] [] [] fun r1 =>
 cond b0.NoLocal (
 cond r1.2.2 (
  (rI 28)) (
 (rI 0))) (
 (rI 0)) := by kernel_rfl
end
abbrev aqr : aP := aov gG (cT 133 aE) (cT 166 bO)
theorem au8 : aqr = aQ gG := by unfold aqr aov; repeat rw [bB fun _ h => h]
abbrev ayr := asG aqr (bP SE gG (SE.hl 137) (SE.hr 137)) (J0 SE aqr)
theorem afw (b0 : aF) : Le (Option.map aH (sC b0)) (ayr (aF.enc b0)) := by
 refine Le.trans ?_ (le_of_eq ((aZ au8).trans (ayd ..)).symm)
 unfold sC
 refine lQ eX iD (tJ _) fun r1 _ => ?_
 refine lC ?_ ?_
 ·refine lC ?_ ?_
  ·exact aJ rfl
  ·exact aJ rfl
 ·exact aJ rfl
theorem ahR (p0 : aF) : Le (Option.map aH (sN p0)) (bA SE 137 [aF.av p0] [] []) := by
 refine aV au8 rfl ?_
 refine Le.trans ?_ (le_of_eq (aGf ..).symm)
 unfold sN
 refine lQ eX aL (tC _) fun r0 _ => ?_
 refine lC ?_ ?_
 ·exact aJ rfl
 ·refine lC ?_ ?_
  ·exact aJ rfl
  ·refine lC ?_ ?_
   ·exact aJ rfl
   ·exact afw p0
def ao8 (C : aP) (Λ2 J : Lam) (a0 : Int) (a1 : List D) : Res := lab SE C Λ2 J 79 0 [1, 1, 1, 0, 1, 0] (aW [(1, .ptr 1000000000 0), (6, .d (.int .i64 a0))] [⟨49, (List.map AV.d a1)⟩] [] [] [])
def aqw (C : aP) (Λ2 J : Lam) (a0 : Int) (a1 : List D) : Res := lab SE C Λ2 J 79 0 [1, 1, 0, 1, 0] (aW [(1, .ptr 1000000000 0), (5, .d (.int .i64 a0))] [⟨49, (List.map AV.d a1)⟩] [] [] [])
def aq5 (C : aP) (Λ2 J : Lam) (a0 : Int) (a1 : List D) : Res := lab SE C Λ2 J 79 0 [1, 0, 1, 0] (aW [(1, .ptr 1000000000 0), (3, .d (.int .i64 a0))] [⟨49, (List.map AV.d a1)⟩] [] [] [])
section
variable (Γ : Fun) (γ137 : Gm (Int)) (γ133 γ76 : Gm (Bool)) (Λ2 J : Lam)
def C79 : aP := aY (aY (aY (aQ Γ) 137 aH γ137) 133 aE γ133) 76 aE γ76
theorem T79 (p0 : aC) : bF SE (C79 Γ γ137 γ133 γ76) Λ2 J 79 [aC.av p0] [] [] =
 aq5 (C79 Γ γ137 γ133 γ76) Λ2 J 0 (aC.enc p0) := by kernel_rfl
theorem ayz (x6 : Int) (b0 : aC) : bT SE (C79 Γ γ137 γ133 γ76) Λ2 J 79 0 [1, 1, 1, 0, 1, 0] (aW [(1, .ptr 1000000000 0), (6, .d (.int .i64 x6))] [⟨49, (List.map AV.d (aC.enc b0))⟩] [] [] []) =
 cond (decide (x6 < (lM eI b0.Codes : Int))) (
 cond (iB x6 (lM eI b0.Codes : Int)) (
  γ76 [.d (.int .i64 (aR (cE eI b0.Codes x6 0)))] [] [] fun r2 =>
  cond (!r2) (
  (rI 1)) (
  ao8 (C79 Γ γ137 γ133 γ76) Λ2 J (w6 (x6 + 1)) (aC.enc b0))) none) (
 (rI 0)) := by kernel_rfl
theorem aDG (x5 : Int) (b0 : aC) : bT SE (C79 Γ γ137 γ133 γ76) Λ2 J 79 0 [1, 1, 0, 1, 0] (aW [(1, .ptr 1000000000 0), (5, .d (.int .i64 x5))] [⟨49, (List.map AV.d (aC.enc b0))⟩] [] [] []) =
 cond (decide (x5 < (lM bL b0.Filters : Int))) (
 cond (iB x5 (lM bL b0.Filters : Int)) (
  γ133 [.d (.str (bC (cE bL b0.Filters x5 0)))] [] [] fun r1 =>
  cond (!r1) (
  (rI 13)) (
  aqw (C79 Γ γ137 γ133 γ76) Λ2 J (w6 (x5 + 1)) (aC.enc b0))) none) (
 ao8 (C79 Γ γ137 γ133 γ76) Λ2 J 0 (aC.enc b0)) := by kernel_rfl
theorem aB1 (x3 : Int) (b0 : aC) : bT SE (C79 Γ γ137 γ133 γ76) Λ2 J 79 0 [1, 0, 1, 0] (aW [(1, .ptr 1000000000 0), (3, .d (.int .i64 x3))] [⟨49, (List.map AV.d (aC.enc b0))⟩] [] [] []) =
 cond (decide (x3 < (lM aF.enc b0.Subs : Int))) (
 cond (iB x3 (lM aF.enc b0.Subs : Int)) (
  γ137 [.agg [.d (.str (bC (cE aF.enc b0.Subs x3 0))), .d (.int .i64 (aR (cE aF.enc b0.Subs x3 1))), .d (.bool (bM (cE aF.enc b0.Subs x3 2)))]] [] [] fun r0 =>
  cond (r0 != 0) (
  (rI r0)) (
  aq5 (C79 Γ γ137 γ133 γ76) Λ2 J (w6 (x3 + 1)) (aC.enc b0))) none) (
 aqw (C79 Γ γ137 γ133 γ76) Λ2 J 0 (aC.enc b0)) := by kernel_rfl
end
abbrev X79 : aP := C79 gG (cT 137 aH) (cT 133 aE) (cT 76 aE)
theorem arh : X79 = aQ gG := by unfold X79 C79; repeat rw [bB fun _ h => h]
abbrev aAb := ao8 X79 (bP SE gG (SE.hl 79) (SE.hr 79)) (J0 SE X79)
abbrev aB8 := aqw X79 (bP SE gG (SE.hl 79) (SE.hr 79)) (J0 SE X79)
abbrev aB6 := aq5 X79 (bP SE gG (SE.hl 79) (SE.hr 79)) (J0 SE X79)
theorem aby : ∀ (fu : Nat) (x6 : Int) (b0 : aC), Le (Option.map aH (dZ fu x6 b0)) (aAb x6 (aC.enc b0)) := by
 intro fu
 induction fu with
 | zero => intros; exact le_none
 | succ fu ih =>
  intro x6 b0
  refine Le.trans ?_ (le_of_eq ((aZ arh).trans (ayz ..)).symm)
  unfold dZ
  refine lD (by simp only [EN]) ?_ ?_
  ·refine lG (by simp only [EN]) ?_
   refine lQ eX aL (by (try simp only [EN]); exact vL (List.getD b0.Codes (Int.toNat x6) default)) fun r2 _ => ?_
   refine lC ?_ ?_
   ·exact aJ rfl
   ·exact ih (w6 (x6 + 1)) b0
  ·exact aJ rfl
theorem abO : ∀ (fu : Nat) (x5 : Int) (b0 : aC), Le (Option.map aH (eJ fu x5 b0)) (aB8 x5 (aC.enc b0)) := by
 intro fu
 induction fu with
 | zero => intros; exact le_none
 | succ fu ih =>
  intro x5 b0
  refine Le.trans ?_ (le_of_eq ((aZ arh).trans (aDG ..)).symm)
  unfold eJ
  refine lD (by simp only [EN]) ?_ ?_
  ·refine lG (by simp only [EN]) ?_
   refine lQ eX aL (by (try simp only [EN]); exact tC (List.getD b0.Filters (Int.toNat x5) default)) fun r1 _ => ?_
   refine lC ?_ ?_
   ·exact aJ rfl
   ·exact ih (w6 (x5 + 1)) b0
  ·exact aby fuel 0 b0
theorem abM : ∀ (fu : Nat) (x3 : Int) (b0 : aC), Le (Option.map aH (fW fu x3 b0)) (aB6 x3 (aC.enc b0)) := by
 intro fu
 induction fu with
 | zero => intros; exact le_none
 | succ fu ih =>
  intro x3 b0
  refine Le.trans ?_ (le_of_eq ((aZ arh).trans (aB1 ..)).symm)
  unfold fW
  refine lD (by simp only [EN]) ?_ ?_
  ·refine lG (by simp only [EN]) ?_
   refine lQ eX aS (by (try simp only [EN]); exact ahR (List.getD b0.Subs (Int.toNat x3) default)) fun r0 _ => ?_
   refine lC ?_ ?_
   ·exact aJ rfl
   ·exact ih (w6 (x3 + 1)) b0
  ·exact abO fuel 0 b0
theorem adA (p0 : aC) : Le (Option.map aH (l4 p0)) (bA SE 79 [aC.av p0] [] []) := by
 refine aV arh rfl ?_
 refine Le.trans ?_ (le_of_eq (T79 ..).symm)
 unfold l4
 exact abM fuel 0 p0
def ar1 (C : aP) (Λ2 J : Lam) (a0 : List D) : Res := lab SE C Λ2 J 30 0 [1, 1, 1, 1, 1, 1, 1, 1, 1, 0] (aW [(1, .ptr 1000000000 0)] [⟨49, (List.map AV.d a0)⟩] [] [] [])
def asE (C : aP) (Λ2 J : Lam) (a0 : List D) : Res := lab SE C Λ2 J 30 0 [1, 1, 1, 1, 1, 1, 1, 0] (aW [(1, .ptr 1000000000 0)] [⟨49, (List.map AV.d a0)⟩] [] [] [])
def asd (C : aP) (Λ2 J : Lam) (a0 : List D) : Res := lab SE C Λ2 J 30 0 [1, 1, 1, 1, 1, 1, 0, 0] (aW [(1, .ptr 1000000000 0)] [⟨49, (List.map AV.d a0)⟩] [] [] [])
def avq (C : aP) (Λ2 J : Lam) (a0 : List D) : Res := lab SE C Λ2 J 30 0 [1, 1, 0, 0] (aW [(1, .ptr 1000000000 0)] [⟨49, (List.map AV.d a0)⟩] [] [] [])
section
variable (Γ : Fun) (γ73 : Gm (aC)) (γ63 : Gm (Bool)) (γ74 γ75 : Gm (Int)) (γ76 : Gm (Bool)) (γ77 γ78 γ79 : Gm (Int)) (Λ2 J : Lam)
def C30 : aP := aY (aY (aY (aY (aY (aY (aY (aY (aQ Γ) 73 c7 γ73) 63 aE γ63) 74 aH γ74) 75 aH γ75) 76 aE γ76) 77 aH γ77) 78 aH γ78) 79 aH γ79
theorem T30 (p0 : aC) : bF SE (C30 Γ γ73 γ63 γ74 γ75 γ76 γ77 γ78 γ79) Λ2 J 30 [aC.av p0] [] [] =
 cond (decide (p0.Kind < 1)) (
 (rI 10)) (
 cond (decide (p0.Kind > 14)) (
 (rI 10)) (
 avq (C30 Γ γ73 γ63 γ74 γ75 γ76 γ77 γ78 γ79) Λ2 J (aC.enc p0))) := by kernel_rfl
theorem axI (b0 : aC) : bT SE (C30 Γ γ73 γ63 γ74 γ75 γ76 γ77 γ78 γ79) Λ2 J 30 0 [1, 1, 1, 1, 1, 1, 1, 1, 1, 0] (aW [(1, .ptr 1000000000 0)] [⟨49, (List.map AV.d (aC.enc b0))⟩] [] [] []) =
 γ78 [.d (.int .i64 (w6 ((w6 ((lM aF.enc b0.Subs : Int) + (lM bL b0.Filters : Int))) + (lM eI b0.Codes : Int))))] [] [] fun r7 =>
 cond (r7 != 0) (
 (rI r7)) (
 γ79 [aC.av b0] [] [] fun r8 =>
 (rI r8)) := by kernel_rfl
theorem ax7 (b0 : aC) : bT SE (C30 Γ γ73 γ63 γ74 γ75 γ76 γ77 γ78 γ79) Λ2 J 30 0 [1, 1, 1, 1, 1, 1, 1, 0] (aW [(1, .ptr 1000000000 0)] [⟨49, (List.map AV.d (aC.enc b0))⟩] [] [] []) =
 γ77 [.d (.int .i64 b0.ID)] [] [] fun r6 =>
 cond (r6 != 0) (
 (rI r6)) (
 cond (decide (b0.Kind ≤ 7)) (
 (rI r6)) (
 ar1 (C30 Γ γ73 γ63 γ74 γ75 γ76 γ77 γ78 γ79) Λ2 J (aC.enc b0))) := by kernel_rfl
theorem aAv (b0 : aC) : bT SE (C30 Γ γ73 γ63 γ74 γ75 γ76 γ77 γ78 γ79) Λ2 J 30 0 [1, 1, 1, 1, 1, 1, 0, 0] (aW [(1, .ptr 1000000000 0)] [⟨49, (List.map AV.d (aC.enc b0))⟩] [] [] []) =
 cond (b0.Kind == 12) (
 (rI 0)) (
 cond (b0.Kind == 13) (
 (rI 0)) (
 asE (C30 Γ γ73 γ63 γ74 γ75 γ76 γ77 γ78 γ79) Λ2 J (aC.enc b0))) := by kernel_rfl
theorem aDd (b0 : aC) : bT SE (C30 Γ γ73 γ63 γ74 γ75 γ76 γ77 γ78 γ79) Λ2 J 30 0 [1, 1, 0, 0] (aW [(1, .ptr 1000000000 0)] [⟨49, (List.map AV.d (aC.enc b0))⟩] [] [] []) =
 γ73 [aC.av b0] [] [] fun r0 =>
 γ63 [aC.av b0, aC.av r0] [] [] fun r1 =>
 cond (!r1) (
 (rI 28)) (
 cond (b0.Kind == 1) (
 γ74 [aC.av b0] [] [] fun r2 =>
 (rI r2)) (
 cond (b0.Kind == 3) (
 γ75 [aC.av b0] [] [] fun r3 =>
 (rI r3)) (
 cond (b0.Kind == 2) (
 γ76 [.d (.int .i64 b0.Code)] [] [] fun r4 =>
 cond (!r4) (
  (rI 1)) (
 cond b0.Present (
  cond (b0.Code != 0) (
  (rI 28)) (
  (rI 0))) (
 (rI 0)))) (
 cond (b0.Kind == 14) (
 γ76 [.d (.int .i64 b0.Code)] [] [] fun r5 =>
 cond (!r5) (
  (rI 1)) (
 cond b0.Present (
  cond (b0.Code != 0) (
  (rI 28)) (
  (rI 0))) (
 (rI 0)))) (
 asd (C30 Γ γ73 γ63 γ74 γ75 γ76 γ77 γ78 γ79) Λ2 J (aC.enc b0)))))) := by kernel_rfl
end
abbrev X30 : aP := C30 gG (cT 73 c7) (cT 63 aE) (cT 74 aH) (cT 75 aH) (cT 76 aE) (cT 77 aH) (cT 78 aH) (cT 79 aH)
theorem aoM : X30 = aQ gG := by unfold X30 C30; repeat rw [bB fun _ h => h]
abbrev azd := ar1 X30 (bP SE gG (SE.hl 30) (SE.hr 30)) (J0 SE X30)
abbrev axJ := asE X30 (bP SE gG (SE.hl 30) (SE.hr 30)) (J0 SE X30)
abbrev ayO := asd X30 (bP SE gG (SE.hl 30) (SE.hr 30)) (J0 SE X30)
abbrev aC6 := avq X30 (bP SE gG (SE.hl 30) (SE.hr 30)) (J0 SE X30)
theorem acD (b0 : aC) : Le (Option.map aH (tW b0)) (azd (aC.enc b0)) := by
 refine Le.trans ?_ (le_of_eq ((aZ aoM).trans (axI ..)).symm)
 unfold tW
 refine lQ eX aS (by (try simp only [EN]); exact afU ((w6 ((w6 ((List.length b0.Subs : Int) + (List.length b0.Filters : Int))) + (List.length b0.Codes : Int))))) fun r7 _ => ?_
 refine lC ?_ ?_
 ·exact aJ rfl
 ·refine lQ eX aS (adA _) fun r8 _ => ?_
  exact aJ rfl
theorem acG (b0 : aC) : Le (Option.map aH (tO b0)) (axJ (aC.enc b0)) := by
 refine Le.trans ?_ (le_of_eq ((aZ aoM).trans (ax7 ..)).symm)
 unfold tO
 refine lQ eX aS (aah _) fun r6 _ => ?_
 refine lC ?_ ?_
 ·exact aJ rfl
 ·refine lC ?_ ?_
  ·exact aJ rfl
  ·exact acD b0
theorem acS (b0 : aC) : Le (Option.map aH (tN b0)) (ayO (aC.enc b0)) := by
 refine Le.trans ?_ (le_of_eq ((aZ aoM).trans (aAv ..)).symm)
 unfold tN
 refine lC ?_ ?_
 ·exact aJ rfl
 ·refine lC ?_ ?_
  ·exact aJ rfl
  ·exact acG b0
theorem ads (b0 : aC) : Le (Option.map aH (pN b0)) (aC6 (aC.enc b0)) := by
 refine Le.trans ?_ (le_of_eq ((aZ aoM).trans (aDd ..)).symm)
 unfold pN
 refine lQ eX agr (agP _) fun r0 _ => ?_
 refine lQ eX aL (aaJ _ _) fun r1 _ => ?_
 refine lC ?_ ?_
 ·exact aJ rfl
 ·refine lC ?_ ?_
  ·refine lQ eX aS (aeH _) fun r2 _ => ?_
   exact aJ rfl
  ·refine lC ?_ ?_
   ·refine lQ eX aS (aeJ _) fun r3 _ => ?_
    exact aJ rfl
   ·refine lC ?_ ?_
    ·refine lQ eX aL (vL _) fun r4 _ => ?_
     refine lC ?_ ?_
     ·exact aJ rfl
     ·refine lC ?_ ?_
      ·refine lC ?_ ?_
       ·exact aJ rfl
       ·exact aJ rfl
      ·exact aJ rfl
    ·refine lC ?_ ?_
     ·refine lQ eX aL (vL _) fun r5 _ => ?_
      refine lC ?_ ?_
      ·exact aJ rfl
      ·refine lC ?_ ?_
       ·refine lC ?_ ?_
        ·exact aJ rfl
        ·exact aJ rfl
       ·exact aJ rfl
     ·exact acS b0
theorem zW (p0 : aC) : Le (Option.map aH (jY p0)) (bA SE 30 [aC.av p0] [] []) := by
 refine aV aoM rfl ?_
 refine Le.trans ?_ (le_of_eq (T30 ..).symm)
 unfold jY
 refine lC ?_ ?_
 ·exact aJ rfl
 ·refine lC ?_ ?_
  ·exact aJ rfl
  ·exact ads p0
section
variable (Γ : Fun)  (Λ2 J : Lam)
def awP : aP := aQ Γ
theorem aE5 (p0 : Int) : bF SE (awP Γ) Λ2 J 116 [.d (.int .i64 p0)] [] [] =
 (some (.ret [.agg [.d (.int .i64 6), .d (.int .i64 p0), .d (.bool false), .d (.str []), .d (.str []), .d (.int .i64 0), .d (.bool false), .d (.int .i64 0), .d (.int .i64 0), .d (.str []), .d (.int .i64 0), .row 0, .d (.str []), .d (.str []), .d (.bool false), .d (.int .i64 0), .d (.int .i64 0), .d (.int .i64 0), .d (.bool false), .d (.int .i64 0), .d (.str []), .d (.str []), .d (.int .i64 0), .d (.bool false), .d (.int .i64 0), .d (.int .i64 0), .d (.str []), .d (.int .i64 0), .row 1, .d (.bool false), .d (.int .i64 0), .row 2, .row 3, .row 4]] [] [⟨aG.ks, 130, 32, (List.map aG.enc [])⟩, ⟨aG.ks, 130, 32, (List.map aG.enc [])⟩, ⟨aF.ks, 60, 32, (List.map aF.enc [])⟩, ⟨[.str], 9, 16, (List.map bL [])⟩, ⟨[.int .i64], 3, 8, (List.map eI [])⟩])) := by kernel_rfl
end
abbrev aFH : aP := awP gG
theorem aDt : aFH = aQ gG := rfl
theorem tB (p0 : Int) : Le (Option.map bU (kZ p0)) (bA SE 116 [.d (.int .i64 p0)] [] []) := by
 refine aV aDt rfl ?_
 refine Le.trans ?_ (le_of_eq (aE5 ..).symm)
 unfold kZ
 exact aJ rfl
section
variable (Γ : Fun)  (Λ2 J : Lam)
def axT : aP := aQ Γ
theorem aGg (p0 : aD) (p1 : Bool) : bF SE (axT Γ) Λ2 J 146 [aD.av p0, .d (.bool p1)] [] [] =
 (some (.ret [.agg [.d (.int .i64 3), .d (.int .i64 p0.ID), .d (.bool p1), .d (.str p0.Message.Topic), .d (.str p0.Message.Payload), .d (.int .i64 p0.Message.Level), .d (.bool p0.Message.Retain), .d (.int .i64 p0.Message.Priority), .d (.int .i64 p0.Message.Expires), .d (.str p0.Message.From), .d (.int .i64 p0.Message.Seq), .d (.sl aG.ks (List.map aG.enc p0.Message.Props)), .d (.str []), .d (.str []), .d (.bool false), .d (.int .i64 0), .d (.int .i64 0), .d (.int .i64 0), .d (.bool false), .d (.int .i64 0), .d (.str []), .d (.str []), .d (.int .i64 0), .d (.bool false), .d (.int .i64 0), .d (.int .i64 0), .d (.str []), .d (.int .i64 0), .row 0, .d (.bool false), .d (.int .i64 0), .row 1, .row 2, .row 3]] [] [⟨aG.ks, 130, 32, (List.map aG.enc [])⟩, ⟨aF.ks, 60, 32, (List.map aF.enc [])⟩, ⟨[.str], 9, 16, (List.map bL [])⟩, ⟨[.int .i64], 3, 8, (List.map eI [])⟩])) := by kernel_rfl
end
abbrev aEl : aP := axT gG
theorem aCL : aEl = aQ gG := rfl
theorem yH (p0 : aD) (p1 : Bool) : Le (Option.map eK (nE p0 p1)) (bA SE 146 [aD.av p0, .d (.bool p1)] [] []) := by
 refine aV aCL rfl ?_
 refine Le.trans ?_ (le_of_eq (aGg ..).symm)
 unfold nE
 exact aJ rfl
def amU (C : aP) (Λ2 J : Lam) (a0 : Int) (a1 : List D) (a2 : List (List D)) : Res := lab SE C Λ2 J 92 0 [1, 1, 0, 1, 0] (aW [(1, .ptr 1000000000 0), (3, .row 3003), (4, .d (.int .i64 a0))] [⟨29, (List.map AV.d a1)⟩] [] [] [(3003, ⟨aC.ks, 49, 416, a2⟩)])
section
variable (Γ : Fun) (γ116 γ146 : Gm (aC)) (Λ2 J : Lam)
def C92 : aP := aY (aY (aQ Γ) 116 bU γ116) 146 eK γ146
theorem T92 (p0 : aI) : bF SE (C92 Γ γ116 γ146) Λ2 J 92 [aI.av p0] [] [] =
 amU (C92 Γ γ116 γ146) Λ2 J 0 (aI.enc p0) (List.map aC.enc []) := by kernel_rfl
theorem aBB (x4 : Int) (b0 : aI) (w3003 : List aC) : bT SE (C92 Γ γ116 γ146) Λ2 J 92 0 [1, 1, 0, 1, 0] (aW [(1, .ptr 1000000000 0), (3, .row 3003), (4, .d (.int .i64 x4))] [⟨29, (List.map AV.d (aI.enc b0))⟩] [] [] [(3003, ⟨aC.ks, 49, 416, (List.map aC.enc w3003)⟩)]) =
 cond (decide (x4 < (lM aD.enc b0.Items : Int))) (
 cond (iB x4 (lM aD.enc b0.Items : Int)) (
  cond ((aR (cE aD.enc b0.Items x4 1)) == 2) (
  cond (iB x4 (lM aD.enc b0.Items : Int)) (
   γ116 [.d (.int .i64 (aR (cE aD.enc b0.Items x4 0)))] [] [] fun r0 =>
   cond (decide ((lM aC.enc w3003 + lM aC.enc [r0]) * 416 ≤ 140737488355328)) (
   amU (C92 Γ γ116 γ146) Λ2 J (w6 (x4 + 1)) (aI.enc b0) (((List.map aC.enc w3003) ++ (List.map aC.enc [r0])))) none) none) (
  cond (iB x4 (lM aD.enc b0.Items : Int)) (
  γ146 [.agg [.d (.int .i64 (aR (cE aD.enc b0.Items x4 0))), .d (.int .i64 (aR (cE aD.enc b0.Items x4 1))), .d (.str (bC (cE aD.enc b0.Items x4 2))), .d (.str (bC (cE aD.enc b0.Items x4 3))), .d (.int .i64 (aR (cE aD.enc b0.Items x4 4))), .d (.bool (bM (cE aD.enc b0.Items x4 5))), .d (.int .i64 (aR (cE aD.enc b0.Items x4 6))), .d (.int .i64 (aR (cE aD.enc b0.Items x4 7))), .d (.str (bC (cE aD.enc b0.Items x4 8))), .d (.int .i64 (aR (cE aD.enc b0.Items x4 9))), .d (.sl aG.ks (dSl (cE aD.enc b0.Items x4 10)))], .d (.bool true)] [] [] fun r1 =>
  cond (decide ((lM aC.enc w3003 + lM aC.enc [r1]) * 416 ≤ 140737488355328)) (
   amU (C92 Γ γ116 γ146) Λ2 J (w6 (x4 + 1)) (aI.enc b0) (((List.map aC.enc w3003) ++ (List.map aC.enc [r1])))) none) none)) none) (
 (some (.ret [.row 0] [] [⟨aC.ks, 49, 416, (List.map aC.enc w3003)⟩]))) := by kernel_rfl
end
abbrev X92 : aP := C92 gG (cT 116 bU) (cT 146 eK)
theorem az1 : X92 = aQ gG := by unfold X92 C92; repeat rw [bB fun _ h => h]
abbrev aCR := amU X92 (bP SE gG (SE.hl 92) (SE.hr 92)) (J0 SE X92)
theorem acR : ∀ (fu : Nat) (x4 : Int) (b0 : aI) (w3003 : List aC), Le (Option.map dL (fL fu x4 b0 w3003)) (aCR x4 (aI.enc b0) (List.map aC.enc w3003)) := by
 intro fu
 induction fu with
 | zero => intros; exact le_none
 | succ fu ih =>
  intro x4 b0 w3003
  refine Le.trans ?_ (le_of_eq ((aZ az1).trans (aBB ..)).symm)
  unfold fL
  refine lD (by simp only [EN]) ?_ ?_
  ·refine lG (by simp only [EN]) ?_
   refine lD (by simp only [EN]) ?_ ?_
   ·refine lG (by simp only [EN]) ?_
    refine lQ eX eO (by (try simp only [EN]); exact tB ((List.getD b0.Items (Int.toNat x4) default).ID)) fun r0 _ => ?_
    refine lG (by simp only [EN]) ?_
    (try simp only [EN]); exact ih (w6 (x4 + 1)) b0 (w3003 ++ [r0])
   ·refine lG (by simp only [EN]) ?_
    refine lQ eX xK (by (try simp only [EN]); exact yH (List.getD b0.Items (Int.toNat x4) default) true) fun r1 _ => ?_
    refine lG (by simp only [EN]) ?_
    (try simp only [EN]); exact ih (w6 (x4 + 1)) b0 (w3003 ++ [r1])
  ·exact aJ rfl
theorem ae3 (p0 : aI) : Le (Option.map dL (kU p0)) (bA SE 92 [aI.av p0] [] []) := by
 refine aV az1 rfl ?_
 refine Le.trans ?_ (le_of_eq (T92 ..).symm)
 unfold kU
 (try simp only [EN]); exact acR fuel 0 p0 []
section
variable (Γ : Fun)  (Λ2 J : Lam)
def C88 : aP := aQ Γ
theorem T88 (p0 : aA) (p1 : Int) : bF SE (C88 Γ) Λ2 J 88 [aA.av p0, .d (.int .i64 p1)] [] [] =
 cond (p0.Expires != 0) (
 (rB (decide (p1 ≥ p0.Expires)))) (
 (rB false)) := by kernel_rfl
end
abbrev X88 : aP := C88 gG
theorem aDQ : X88 = aQ gG := rfl
theorem aee (p0 : aA) (p1 : Int) : Le (Option.map aE (rD p0 p1)) (bA SE 88 [aA.av p0, .d (.int .i64 p1)] [] []) := by
 refine aV aDQ rfl ?_
 refine Le.trans ?_ (le_of_eq (T88 ..).symm)
 unfold rD
 refine lC ?_ ?_
 ·exact aJ rfl
 ·exact aJ rfl
section
variable (Γ : Fun)  (Λ2 J : Lam)
def C53 : aP := aQ Γ
theorem T53 (p0 : aB) (p1 : Int) : bF SE (C53 Γ) Λ2 J 53 [aB.av p0, .d (.int .i64 p1)] [] [] =
 cond (decide ((w6 (p0.Dropped + p1)) > 1099511627776)) (
 (some (.ret [aB.av (aB.mk p0.Client p0.User p0.Online p0.Conn p0.Expiry p0.Until 1099511627776 p0.Subs p0.Queue p0.Out p0.In p0.Will)] [] []))) (
 (some (.ret [aB.av (aB.mk p0.Client p0.User p0.Online p0.Conn p0.Expiry p0.Until (w6 (p0.Dropped + p1)) p0.Subs p0.Queue p0.Out p0.In p0.Will)] [] []))) := by kernel_rfl
end
abbrev X53 : aP := C53 gG
theorem aET : X53 = aQ gG := rfl
theorem nW (p0 : aB) (p1 : Int) : Le (Option.map bR (fK p0 p1)) (bA SE 53 [aB.av p0, .d (.int .i64 p1)] [] []) := by
 refine aV aET rfl ?_
 refine Le.trans ?_ (le_of_eq (T53 ..).symm)
 unfold fK
 refine lC ?_ ?_
 ·exact aJ rfl
 ·exact aJ rfl
section
variable (Γ : Fun)  (Λ2 J : Lam)
def C89 : aP := aQ Γ
theorem T89 (p0 : aI) : bF SE (C89 Γ) Λ2 J 89 [aI.av p0] [] [] =
 cond (decide ((lM aD.enc p0.Items : Int) ≥ p0.Limit)) (
 (rI 0)) (
 (rI (w6 (p0.Limit - (lM aD.enc p0.Items : Int))))) := by kernel_rfl
end
abbrev X89 : aP := C89 gG
theorem aFq : X89 = aQ gG := rfl
theorem aaF (p0 : aI) : Le (Option.map aH (nR p0)) (bA SE 89 [aI.av p0] [] []) := by
 refine aV aFq rfl ?_
 refine Le.trans ?_ (le_of_eq (T89 ..).symm)
 unfold nR
 refine lD (by simp only [EN]) ?_ ?_
 ·exact aJ rfl
 ·exact aJ (by first | rfl | simp only [EN, aH] <;> rfl)
section
variable (Γ : Fun)  (Λ2 J : Lam)
def azG : aP := aQ Γ
theorem aDX (p0 : Int) : bF SE (azG Γ) Λ2 J 173 [.d (.int .i64 p0)] [] [] =
 cond (decide (p0 ≥ 65535)) (
 (rI 1)) (
 (rI (w6 (p0 + 1)))) := by kernel_rfl
end
abbrev aGi : aP := azG gG
theorem aCj : aGi = aQ gG := rfl
theorem aal (p0 : Int) : Le (Option.map aH (mM p0)) (bA SE 173 [.d (.int .i64 p0)] [] []) := by
 refine aV aCj rfl ?_
 refine Le.trans ?_ (le_of_eq (aDX ..).symm)
 unfold mM
 refine lC ?_ ?_
 ·exact aJ rfl
 ·exact aJ rfl
def as4 (C : aP) (Λ2 J : Lam) (a0 : List (List D)) (a1 a2 : Int) (a3 : List (List D)) (a4 a5 a6 : Int) (a7 : Bool) (a8 : List (List D)) : Res := lab SE C Λ2 J 174 0 [1, 1, 1, 0, 0, 0, 1, 0, 0] (aW [(0, .d (.sl [.int .i64] a0)), (1, .d (.int .i64 a1)), (5, .row 3005), (6, .d (.int .i64 a2)), (12, .d (.sl [.int .i64] a3)), (13, .d (.int .i64 a4)), (15, .d (.int .i64 a5)), (16, .d (.int .i64 a6)), (17, .d (.bool a7))] [] [] [] [(3005, ⟨[.int .i64], 3, 8, a8⟩)])
def apc (C : aP) (Λ2 J : Lam) (a0 : List (List D)) (a1 a2 : Int) (a3 : List (List D)) : Res := lab SE C Λ2 J 174 0 [1, 1, 1, 1, 0] (aW [(0, .d (.sl [.int .i64] a0)), (1, .d (.int .i64 a1)), (5, .row 3005), (6, .d (.int .i64 a2))] [] [] [] [(3005, ⟨[.int .i64], 3, 8, a3⟩)])
def apl (C : aP) (Λ2 J : Lam) (a0 : List (List D)) (a1 a2 : Int) (a3 : List (List D)) : Res := lab SE C Λ2 J 174 0 [1, 1, 1, 0, 0] (aW [(0, .d (.sl [.int .i64] a0)), (1, .d (.int .i64 a1)), (5, .row 3005), (6, .d (.int .i64 a2))] [] [] [] [(3005, ⟨[.int .i64], 3, 8, a3⟩)])
section
variable (Γ : Fun)  (Λ2 J : Lam)
def ad8 : aP := aQ Γ
theorem aEQ (p0 : List Int) (p1 : Int) : bF SE (ad8 Γ) Λ2 J 174 [.d (.sl [.int .i64] (List.map eI p0)), .d (.int .i64 p1)] [] [] =
 apl (ad8 Γ) Λ2 J (List.map eI p0) p1 0 (List.map eI []) := by kernel_rfl
theorem axl (x0 : List Int) (x1 x6 : Int) (x12 : List Int) (x13 x15 x16 : Int) (x17 : Bool) (w3005 : List Int) : bT SE (ad8 Γ) Λ2 J 174 0 [1, 1, 1, 0, 0, 0, 1, 0, 0] (aW [(0, .d (.sl [.int .i64] (List.map eI x0))), (1, .d (.int .i64 x1)), (5, .row 3005), (6, .d (.int .i64 x6)), (12, .d (.sl [.int .i64] (List.map eI x12))), (13, .d (.int .i64 x13)), (15, .d (.int .i64 x15)), (16, .d (.int .i64 x16)), (17, .d (.bool x17))] [] [] [] [(3005, ⟨[.int .i64], 3, 8, (List.map eI w3005)⟩)]) =
 cond (iB x6 (lM eI x0 : Int)) (
 cond (decide ((lM eI w3005 + List.length [[D.int .i64 (aR (cE eI x0 x6 0))]]) * 8 ≤ 140737488355328)) (
  apl (ad8 Γ) Λ2 J (List.map eI x0) x1 (w6 (x6 + 1)) (((List.map eI w3005) ++ [[D.int .i64 (aR (cE eI x0 x6 0))]]))) none) none := by kernel_rfl
theorem axW (x0 : List Int) (x1 x6 : Int) (w3005 : List Int) : bT SE (ad8 Γ) Λ2 J 174 0 [1, 1, 1, 1, 0] (aW [(0, .d (.sl [.int .i64] (List.map eI x0))), (1, .d (.int .i64 x1)), (5, .row 3005), (6, .d (.int .i64 x6))] [] [] [] [(3005, ⟨[.int .i64], 3, 8, (List.map eI w3005)⟩)]) =
 cond (decide ((lM eI w3005 + lM eI [x1]) * 8 ≤ 140737488355328)) (
 cond (decide (0 ≤ x6) && decide (x6 ≤ ((lM eI x0) : Int))) (
  cond (decide ((List.length ((List.map eI w3005) ++ (List.map eI [x1])) + List.length (bQ (List.map eI x0) (some x6) none)) * 8 ≤ 140737488355328)) (
  (some (.ret [.row 0] [] [⟨[.int .i64], 3, 8, (((List.map eI w3005) ++ (List.map eI [x1])) ++ (bQ (List.map eI x0) (some x6) none))⟩]))) none) none) none := by kernel_rfl
theorem axG (x0 : List Int) (x1 x6 : Int) (w3005 : List Int) : bT SE (ad8 Γ) Λ2 J 174 0 [1, 1, 1, 0, 0] (aW [(0, .d (.sl [.int .i64] (List.map eI x0))), (1, .d (.int .i64 x1)), (5, .row 3005), (6, .d (.int .i64 x6))] [] [] [] [(3005, ⟨[.int .i64], 3, 8, (List.map eI w3005)⟩)]) =
 cond (decide (x6 < (lM eI x0 : Int))) (
 cond (iB x6 (lM eI x0 : Int)) (
  cond (decide ((aR (cE eI x0 x6 0)) < x1)) (
  as4 (ad8 Γ) Λ2 J (List.map eI x0) x1 x6 (List.map eI x0) x6 ((aR (cE eI x0 x6 0))) x1 ((decide ((aR (cE eI x0 x6 0)) < x1))) (List.map eI w3005)) (
  apc (ad8 Γ) Λ2 J (List.map eI x0) x1 x6 (List.map eI w3005))) none) (
 apc (ad8 Γ) Λ2 J (List.map eI x0) x1 x6 (List.map eI w3005)) := by kernel_rfl
end
abbrev ajJ : aP := ad8 gG
theorem am1 : ajJ = aQ gG := rfl
abbrev axi := as4 ajJ (bP SE gG (SE.hl 174) (SE.hr 174)) (J0 SE ajJ)
abbrev azb := apc ajJ (bP SE gG (SE.hl 174) (SE.hr 174)) (J0 SE ajJ)
abbrev asR := apl ajJ (bP SE gG (SE.hl 174) (SE.hr 174)) (J0 SE ajJ)
theorem aeg (k3 : (List Int) → Int → Int → (List Int) → Option ((List Int))) (hk3 : ∀ (x0 : List Int) (x1 x6 : Int) (w3005 : List Int), Le (Option.map bI (k3 x0 x1 x6 w3005)) (asR (List.map eI x0) x1 x6 (List.map eI w3005))) (x0 : List Int) (x1 x6 : Int) (x12 : List Int) (x13 x15 x16 : Int) (x17 : Bool) (w3005 : List Int) : Le (Option.map bI (rL k3 x0 x1 x6 x12 x13 x15 x16 x17 w3005)) (axi (List.map eI x0) x1 x6 (List.map eI x12) x13 x15 x16 x17 (List.map eI w3005)) := by
 refine Le.trans ?_ (le_of_eq ((aZ am1).trans (axl ..)).symm)
 unfold rL
 refine lG (by simp only [EN]) ?_
 refine lG (by simp only [EN]) ?_
 (try simp only [EN]); exact hk3 x0 x1 (w6 (x6 + 1)) (w3005 ++ [(List.getD x0 (Int.toNat x6) default)])
theorem yK (x0 : List Int) (x1 x6 : Int) (w3005 : List Int) : Le (Option.map bI (kG x0 x1 x6 w3005)) (azb (List.map eI x0) x1 x6 (List.map eI w3005)) := by
 refine Le.trans ?_ (le_of_eq ((aZ am1).trans (axW ..)).symm)
 unfold kG
 refine lG (by simp only [EN]) ?_
 refine lG (by simp only [EN]) ?_
 refine lG (by simp only [EN]) ?_
 exact aJ (by first | rfl | simp only [EN, bI] <;> rfl)
theorem aep : ∀ (fu : Nat) (x0 : List Int) (x1 x6 : Int) (w3005 : List Int), Le (Option.map bI (iS fu x0 x1 x6 w3005)) (asR (List.map eI x0) x1 x6 (List.map eI w3005)) := by
 intro fu
 induction fu with
 | zero => intros; exact le_none
 | succ fu ih =>
  intro x0 x1 x6 w3005
  refine Le.trans ?_ (le_of_eq ((aZ am1).trans (axG ..)).symm)
  unfold iS
  refine lD (by simp only [EN]) ?_ ?_
  ·refine lG (by simp only [EN]) ?_
   refine lD (by simp only [EN]) ?_ ?_
   ·(try simp only [EN]); exact aeg _ (ih) x0 x1 x6 x0 x6 (List.getD x0 (Int.toNat x6) default) x1 (decide ((List.getD x0 (Int.toNat x6) default) < x1)) w3005
   ·exact yK x0 x1 x6 w3005
  ·exact yK x0 x1 x6 w3005
theorem ag5 (p0 : List Int) (p1 : Int) : Le (Option.map bI (qN p0 p1)) (bA SE 174 [.d (.sl [.int .i64] (List.map eI p0)), .d (.int .i64 p1)] [] []) := by
 refine aV am1 rfl ?_
 refine Le.trans ?_ (le_of_eq (aEQ ..).symm)
 unfold qN
 (try simp only [EN]); exact aep fuel p0 p1 0 []
def anP (C : aP) (Λ2 J : Lam) (a0 : Int) (a1 a2 : List D) : Res := lab SE C Λ2 J 145 0 [1, 1, 1, 1, 0] (aW [(1, .ptr 1000000000 0), (3, .ptr 1000000001 0), (5, .d (.int .i64 a0))] [⟨27, (List.map AV.d a1)⟩, ⟨27, (List.map AV.d a2)⟩] [] [] [])
def aoU (C : aP) (Λ2 J : Lam) (a0 a1 : Int) (a2 a3 : List D) : Res := lab SE C Λ2 J 145 0 [1, 1, 1, 0, 1, 0] (aW [(1, .ptr 1000000000 0), (3, .ptr 1000000001 0), (5, .d (.int .i64 a0)), (6, .d (.int .i64 a1))] [⟨27, (List.map AV.d a2)⟩, ⟨27, (List.map AV.d a3)⟩] [] [] [])
section
variable (Γ : Fun) (γ173 : Gm (Int)) (γ148 : Gm (Bool)) (γ174 : Gm ((List Int))) (Λ2 J : Lam)
def afY : aP := aY (aY (aY (aQ Γ) 173 aH γ173) 148 aE γ148) 174 bI γ174
theorem aF0 (p0 : aN) : bF SE (afY Γ γ173 γ148 γ174) Λ2 J 145 [aN.av p0] [] [] =
 cond (decide ((lM eI p0.Used : Int) ≥ 32)) (
 (some (.ret [.d (.int .i64 0), .agg [.row 0, .d (.int .i64 0)], .d (.int .i64 6)] [] [⟨[.int .i64], 3, 8, (List.map eI [])⟩]))) (
 γ173 [.d (.int .i64 p0.Last)] [] [] fun r0 =>
 aoU (afY Γ γ173 γ148 γ174) Λ2 J r0 0 (aN.enc p0) [D.sl [.int .i64] (List.map eI []), D.int .i64 0]) := by kernel_rfl
theorem ayD (x5 : Int) (b0 b1 : aN) : bT SE (afY Γ γ173 γ148 γ174) Λ2 J 145 0 [1, 1, 1, 1, 0] (aW [(1, .ptr 1000000000 0), (3, .ptr 1000000001 0), (5, .d (.int .i64 x5))] [⟨27, (List.map AV.d (aN.enc b0))⟩, ⟨27, (List.map AV.d (aN.enc b1))⟩] [] [] []) =
 γ174 [.d (.sl [.int .i64] (List.map eI b0.Used)), .d (.int .i64 x5)] [] [] fun r3 =>
 (some (.ret [.d (.int .i64 x5), .agg [.row 0, .d (.int .i64 x5)], .d (.int .i64 0)] [] [⟨[.int .i64], 3, 8, (List.map eI r3)⟩])) := by kernel_rfl
theorem ayV (x5 x6 : Int) (b0 b1 : aN) : bT SE (afY Γ γ173 γ148 γ174) Λ2 J 145 0 [1, 1, 1, 0, 1, 0] (aW [(1, .ptr 1000000000 0), (3, .ptr 1000000001 0), (5, .d (.int .i64 x5)), (6, .d (.int .i64 x6))] [⟨27, (List.map AV.d (aN.enc b0))⟩, ⟨27, (List.map AV.d (aN.enc b1))⟩] [] [] []) =
 cond (decide (x6 < 32)) (
 γ148 [aN.av b0, .d (.int .i64 x5)] [] [] fun r1 =>
 cond r1 (
  γ173 [.d (.int .i64 x5)] [] [] fun r2 =>
  aoU (afY Γ γ173 γ148 γ174) Λ2 J r2 (w6 (x6 + 1)) (aN.enc b0) (aN.enc b1)) (
 anP (afY Γ γ173 γ148 γ174) Λ2 J x5 (aN.enc b0) (aN.enc b1))) (
 anP (afY Γ γ173 γ148 γ174) Λ2 J x5 (aN.enc b0) (aN.enc b1)) := by kernel_rfl
end
abbrev ali : aP := afY gG (cT 173 aH) (cT 148 aE) (cT 174 bI)
theorem art : ali = aQ gG := by unfold ali afY; repeat rw [bB fun _ h => h]
abbrev aAm := anP ali (bP SE gG (SE.hl 145) (SE.hr 145)) (J0 SE ali)
abbrev azh := aoU ali (bP SE gG (SE.hl 145) (SE.hr 145)) (J0 SE ali)
theorem xX (x5 : Int) (b0 b1 : aN) : Le (Option.map eZ (j7 x5 b0 b1)) (aAm x5 (aN.enc b0) (aN.enc b1)) := by
 refine Le.trans ?_ (le_of_eq ((aZ art).trans (ayD ..)).symm)
 unfold j7
 refine lQ eX dN (ag5 _ _) fun r3 _ => ?_
 exact aJ rfl
theorem aeN : ∀ (fu : Nat) (x5 x6 : Int) (b0 b1 : aN), Le (Option.map eZ (iX fu x5 x6 b0 b1)) (azh x5 x6 (aN.enc b0) (aN.enc b1)) := by
 intro fu
 induction fu with
 | zero => intros; exact le_none
 | succ fu ih =>
  intro x5 x6 b0 b1
  refine Le.trans ?_ (le_of_eq ((aZ art).trans (ayV ..)).symm)
  unfold iX
  refine lC ?_ ?_
  ·refine lQ eX aL (abu _ _) fun r1 _ => ?_
   refine lC ?_ ?_
   ·refine lQ eX aS (aal _) fun r2 _ => ?_
    exact ih r2 (w6 (x6 + 1)) b0 b1
   ·exact xX x5 b0 b1
  ·exact xX x5 b0 b1
theorem agL (p0 : aN) : Le (Option.map eZ (qR p0)) (bA SE 145 [aN.av p0] [] []) := by
 refine aV art rfl ?_
 refine Le.trans ?_ (le_of_eq (aF0 ..).symm)
 unfold qR
 refine lD (by simp only [EN]) ?_ ?_
 ·exact aJ rfl
 ·refine lQ eX aS (aal _) fun r0 _ => ?_
  (try simp only [EN]); exact aeN fuel r0 0 p0 (aN.mk [] 0)
end Te
end PX
