import Derived.Test.YtmcpanmcgpjfiaaGreatDoorTre1
set_option linter.unusedVariables false
set_option linter.unusedSimpArgs false
set_option maxRecDepth 100000
noncomputable section
namespace PX
open Go
open Md
namespace Te
def apg (C : aN) (Λ2 J : Lam) (a0 : List (List D)) (a1 : Int) (a2 : List (List D)) (a3 a4 a5 : Int) (a6 a7 : Bool) (a8 : List D) : Res := lab SE C Λ2 J 14 0 [1, 1, 0, 1, 0, 0, 1, 1, 0, 0, 1, 1, 1, 0] (aU [(0, .d (.sl aA.ks a0)), (3, .d (.int .i64 a1)), (4, .ptr 1000000000 0), (8, .d (.sl aA.ks a2)), (9, .d (.int .i64 a3)), (10, .d (.int .i64 a4)), (24, .ptr 1000000000 2), (25, .d (.int .i64 a5)), (26, .d (.bool a6)), (27, .d (.bool a7))] [⟨24, (List.map AV.d a8)⟩] [] [] [])
def ak0 (C : aN) (Λ2 J : Lam) (a0 a1 : List (List D)) (a2 a3 : Int) : Res := lab SE C Λ2 J 14 0 [1, 1, 0, 1, 0] (aU [(0, .d (.sl aA.ks a0)), (8, .d (.sl aA.ks a1)), (9, .d (.int .i64 a2)), (10, .d (.int .i64 a3))] [] [] [] [])
section
variable (Γ : Fun) (γ33 γ34 : Gm (Bool)) (Λ2 J : Lam)
def C14 : aN := aZ (aZ (aQ Γ) 33 aF γ33) 34 aF γ34
theorem T14 (p0 : List aA) : bF SE (C14 Γ γ33 γ34) Λ2 J 14 [.d (.sl aA.ks (List.map aA.enc p0))] [] [] =
 cond (decide ((lM aA.enc p0 : Int) > 32)) (
 (rI 5)) (
 ak0 (C14 Γ γ33 γ34) Λ2 J (List.map aA.enc p0) (List.map aA.enc p0) (lM aA.enc p0 : Int) 0) := by kernel_rfl
theorem aw1 (x0 : List aA) (x3 : Int) (x8 : List aA) (x9 x10 x25 : Int) (x26 x27 : Bool) (b0 : aA) : bR SE (C14 Γ γ33 γ34) Λ2 J 14 0 [1, 1, 0, 1, 0, 0, 1, 1, 0, 0, 1, 1, 1, 0] (aU [(0, .d (.sl aA.ks (List.map aA.enc x0))), (3, .d (.int .i64 x3)), (4, .ptr 1000000000 0), (8, .d (.sl aA.ks (List.map aA.enc x8))), (9, .d (.int .i64 x9)), (10, .d (.int .i64 x10)), (24, .ptr 1000000000 2), (25, .d (.int .i64 x25)), (26, .d (.bool x26)), (27, .d (.bool x27))] [⟨24, (List.map AV.d (aA.enc b0))⟩] [] [] []) =
 cond (decide (x3 > 0)) (
 cond (iB (w6 (x3 - 1)) (lM aA.enc x0 : Int)) (
  cond (Op.bytesLess b0.Client (bK (cE aA.enc x0 (w6 (x3 - 1)) 0)) || b0.Client == (bK (cE aA.enc x0 (w6 (x3 - 1)) 0))) (
  (rI 22)) (
  ak0 (C14 Γ γ33 γ34) Λ2 J (List.map aA.enc x0) (List.map aA.enc x8) x9 (w6 (x10 + 1)))) none) (
 ak0 (C14 Γ γ33 γ34) Λ2 J (List.map aA.enc x0) (List.map aA.enc x8) x9 (w6 (x10 + 1))) := by kernel_rfl
theorem azA (x0 x8 : List aA) (x9 x10 : Int) : bR SE (C14 Γ γ33 γ34) Λ2 J 14 0 [1, 1, 0, 1, 0] (aU [(0, .d (.sl aA.ks (List.map aA.enc x0))), (8, .d (.sl aA.ks (List.map aA.enc x8))), (9, .d (.int .i64 x9)), (10, .d (.int .i64 x10))] [] [] [] []) =
 cond (decide (x10 < x9)) (
 cond (iB x10 (lM aA.enc x8 : Int)) (
  γ33 [.d (.str (bK (cE aA.enc x8 x10 0)))] [] [] fun r0 =>
  cond (!r0) (
  (rI 11)) (
  γ34 [.d (.int .i64 (aW (cE aA.enc x8 x10 1))), .d (.int .i64 0), .d (.int .i64 6)] [] [] fun r1 =>
  cond (!r1) (
  (rI 1)) (
  γ34 [.d (.int .i64 (aW (cE aA.enc x8 x10 2))), .d (.int .i64 1), .d (.int .i64 1099511627776)] [] [] fun r2 =>
  cond (!r2) (
  (rI 1)) (
  apg (C14 Γ γ33 γ34) Λ2 J (List.map aA.enc x0) x10 (List.map aA.enc x8) x9 x10 ((aW (cE aA.enc x8 x10 2))) r2 (!r2) [D.str (bK (cE aA.enc x8 x10 0)), D.int .i64 (aW (cE aA.enc x8 x10 1)), D.int .i64 (aW (cE aA.enc x8 x10 2))])))) none) (
 (rI 0)) := by kernel_rfl
end
abbrev X14 : aN := C14 gG (cT 33 aF) (cT 34 aF)
theorem aqK : X14 = aQ gG := by unfold X14 C14; repeat rw [bB fun _ h => h]
abbrev avb := apg X14 (bQ SE gG (SE.hl 14) (SE.hr 14)) (J0 SE X14)
abbrev asd := ak0 X14 (bQ SE gG (SE.hl 14) (SE.hr 14)) (J0 SE X14)
theorem abV (k4 : (List aA) → (List aA) → Int → Int → Option (Int)) (hk4 : ∀ (x0 x8 : List aA) (x9 x10 : Int), Le (Option.map aB (k4 x0 x8 x9 x10)) (asd (List.map aA.enc x0) (List.map aA.enc x8) x9 x10)) (x0 : List aA) (x3 : Int) (x8 : List aA) (x9 x10 x25 : Int) (x26 x27 : Bool) (b0 : aA) : Le (Option.map aB (m8 k4 x0 x3 x8 x9 x10 x25 x26 x27 b0)) (avb (List.map aA.enc x0) x3 (List.map aA.enc x8) x9 x10 x25 x26 x27 (aA.enc b0)) := by
 refine Le.trans ?_ (le_of_eq ((aX aqK).trans (aw1 ..)).symm)
 unfold m8
 refine lC ?_ ?_
 ·refine lG (by simp only [EN]) ?_
  refine lD (by simp only [EN]) ?_ ?_
  ·exact aI rfl
  ·exact hk4 x0 x8 x9 (w6 (x10 + 1))
 ·exact hk4 x0 x8 x9 (w6 (x10 + 1))
theorem acj : ∀ (fu : Nat) (x0 x8 : List aA) (x9 x10 : Int), Le (Option.map aB (gW fu x0 x8 x9 x10)) (asd (List.map aA.enc x0) (List.map aA.enc x8) x9 x10) := by
 intro fu
 induction fu with
 | zero => intros; exact le_none
 | succ fu ih =>
  intro x0 x8 x9 x10
  refine Le.trans ?_ (le_of_eq ((aX aqK).trans (azA ..)).symm)
  unfold gW
  refine lC ?_ ?_
  ·refine lG (by simp only [EN]) ?_
   refine lQ eX aP (by (try simp only [EN]); exact jO ((List.getD x8 (Int.toNat x10) default).Client)) fun r0 _ => ?_
   refine lC ?_ ?_
   ·exact aI rfl
   ·refine lQ eX aP (by (try simp only [EN]); exact vW ((List.getD x8 (Int.toNat x10) default).Node) 0 6) fun r1 _ => ?_
    refine lC ?_ ?_
    ·exact aI rfl
    ·refine lQ eX aP (by (try simp only [EN]); exact vW ((List.getD x8 (Int.toNat x10) default).Epoch) 1 1099511627776) fun r2 _ => ?_
     refine lC ?_ ?_
     ·exact aI rfl
     ·(try simp only [EN]); exact abV _ (ih) x0 x10 x8 x9 x10 ((List.getD x8 (Int.toNat x10) default).Epoch) r2 (!r2) (List.getD x8 (Int.toNat x10) default)
  ·exact aI rfl
theorem eD (p0 : List aA) : Le (Option.map aB (dN p0)) (bD SE 14 [.d (.sl aA.ks (List.map aA.enc p0))] [] []) := by
 refine aV aqK rfl ?_
 refine Le.trans ?_ (le_of_eq (T14 ..).symm)
 unfold dN
 refine lD (by simp only [EN]) ?_ ?_
 ·exact aI rfl
 ·(try simp only [EN]); exact acj fuel p0 p0 (List.length p0 : Int) 0
def aiZ (C : aN) (Λ2 J : Lam) (a0 : Str) (a1 a2 : Int) (a3 : List (List D)) (a4 a5 : Int) : Res := lab SE C Λ2 J 16 0 [1, 0, 1, 0] (aU [(1, .d (.str a0)), (2, .d (.int .i64 a1)), (3, .d (.int .i64 a2)), (11, .d (.sl aA.ks a3)), (12, .d (.int .i64 a4)), (13, .d (.int .i64 a5))] [] [] [] [])
section
variable (Γ : Fun)  (Λ2 J : Lam)
def C16 : aN := aQ Γ
theorem T16 (p0 : List aA) (p1 : Str) (p2 p3 : Int) : bF SE (C16 Γ) Λ2 J 16 [.d (.sl aA.ks (List.map aA.enc p0)), .d (.str p1), .d (.int .i64 p2), .d (.int .i64 p3)] [] [] =
 aiZ (C16 Γ) Λ2 J p1 p2 p3 (List.map aA.enc p0) (lM aA.enc p0 : Int) 0 := by kernel_rfl
theorem aAa (x1 : Str) (x2 x3 : Int) (x11 : List aA) (x12 x13 : Int) : bR SE (C16 Γ) Λ2 J 16 0 [1, 0, 1, 0] (aU [(1, .d (.str x1)), (2, .d (.int .i64 x2)), (3, .d (.int .i64 x3)), (11, .d (.sl aA.ks (List.map aA.enc x11))), (12, .d (.int .i64 x12)), (13, .d (.int .i64 x13))] [] [] [] []) =
 cond (decide (x13 < x12)) (
 cond (iB x13 (lM aA.enc x11 : Int)) (
  cond ((bK (cE aA.enc x11 x13 0)) == x1) (
  cond ((aW (cE aA.enc x11 x13 1)) == x2) (
   cond ((aW (cE aA.enc x11 x13 2)) == x3) (
   (rB true)) (
   aiZ (C16 Γ) Λ2 J x1 x2 x3 (List.map aA.enc x11) x12 (w6 (x13 + 1)))) (
  aiZ (C16 Γ) Λ2 J x1 x2 x3 (List.map aA.enc x11) x12 (w6 (x13 + 1)))) (
  aiZ (C16 Γ) Λ2 J x1 x2 x3 (List.map aA.enc x11) x12 (w6 (x13 + 1)))) none) (
 (rB false)) := by kernel_rfl
end
abbrev X16 : aN := C16 gG
theorem awL : X16 = aQ gG := rfl
abbrev aAn := aiZ X16 (bQ SE gG (SE.hl 16) (SE.hr 16)) (J0 SE X16)
theorem acm : ∀ (fu : Nat) (x1 : Str) (x2 x3 : Int) (x11 : List aA) (x12 x13 : Int), Le (Option.map aF (eM fu x1 x2 x3 x11 x12 x13)) (aAn x1 x2 x3 (List.map aA.enc x11) x12 x13) := by
 intro fu
 induction fu with
 | zero => intros; exact le_none
 | succ fu ih =>
  intro x1 x2 x3 x11 x12 x13
  refine Le.trans ?_ (le_of_eq ((aX awL).trans (aAa ..)).symm)
  unfold eM
  refine lC ?_ ?_
  ·refine lG (by simp only [EN]) ?_
   refine lD (by simp only [EN]) ?_ ?_
   ·refine lD (by simp only [EN]) ?_ ?_
    ·refine lD (by simp only [EN]) ?_ ?_
     ·exact aI rfl
     ·exact ih x1 x2 x3 x11 x12 (w6 (x13 + 1))
    ·exact ih x1 x2 x3 x11 x12 (w6 (x13 + 1))
   ·exact ih x1 x2 x3 x11 x12 (w6 (x13 + 1))
  ·exact aI rfl
theorem aeY (p0 : List aA) (p1 : Str) (p2 p3 : Int) : Le (Option.map aF (nS p0 p1 p2 p3)) (bD SE 16 [.d (.sl aA.ks (List.map aA.enc p0)), .d (.str p1), .d (.int .i64 p2), .d (.int .i64 p3)] [] []) := by
 refine aV awL rfl ?_
 refine Le.trans ?_ (le_of_eq (T16 ..).symm)
 unfold nS
 (try simp only [EN]); exact acm fuel p1 p2 p3 p0 (List.length p0 : Int) 0
section
variable (Γ : Fun) (γ12 : Gm (Bool)) (γ13 γ14 : Gm (Int)) (γ15 γ16 : Gm (Bool)) (Λ2 J : Lam)
def C3 : aN := aZ (aZ (aZ (aZ (aZ (aQ Γ) 12 aF γ12) 13 aB γ13) 14 aB γ14) 15 aF γ15) 16 aF γ16
theorem T3 (p0 : List aA) (p1 : aA) : bF SE (C3 Γ γ12 γ13 γ14 γ15 γ16) Λ2 J 3 [.d (.sl aA.ks (List.map aA.enc p0)), aA.av p1] [] [] =
 cond (decide ((lM aA.enc p0 : Int) > 60)) (
 γ12 [] [] [] fun r0 =>
 (rB r0)) (
 γ13 [.d (.sl aA.ks (List.map aA.enc p0))] [] [] fun r1 =>
 γ14 [.d (.sl aA.ks (List.map aA.enc p0))] [] [] fun r2 =>
 cond (r1 == r2) (
 γ15 [.d (.sl aA.ks (List.map aA.enc p0)), .d (.str p1.Client), .d (.int .i64 p1.Node), .d (.int .i64 p1.Epoch)] [] [] fun r3 =>
 γ16 [.d (.sl aA.ks (List.map aA.enc p0)), .d (.str p1.Client), .d (.int .i64 p1.Node), .d (.int .i64 p1.Epoch)] [] [] fun r4 =>
 cond (r3 == r4) (
  γ12 [] [] [] fun r5 =>
  (rB r5)) (
 (rB false))) (
 (rB false))) := by kernel_rfl
end
abbrev X3 : aN := C3 gG (cT 12 aF) (cT 13 aB) (cT 14 aB) (cT 15 aF) (cT 16 aF)
theorem Cr3 : X3 = aQ gG := by unfold X3 C3; repeat rw [bB fun _ h => h]
theorem aaB (p0 : List aA) (p1 : aA) : Le (Option.map aF (kO p0 p1)) (bD SE 3 [.d (.sl aA.ks (List.map aA.enc p0)), aA.av p1] [] []) := by
 refine aV Cr3 rfl ?_
 refine Le.trans ?_ (le_of_eq (T3 ..).symm)
 unfold kO
 refine lD (by simp only [EN]) ?_ ?_
 ·refine lQ eX aP (bH) fun r0 _ => ?_
  exact aI rfl
 ·refine lQ eX aL (ab5 _) fun r1 _ => ?_
  refine lQ eX aL (eD _) fun r2 _ => ?_
  refine lC ?_ ?_
  ·refine lQ eX aP (oP _ _ _ _) fun r3 _ => ?_
   refine lQ eX aP (aeY _ _ _ _) fun r4 _ => ?_
   refine lC ?_ ?_
   ·refine lQ eX aP (bH) fun r5 _ => ?_
    exact aI rfl
   ·exact aI rfl
  ·exact aI rfl
end Te
end PX
