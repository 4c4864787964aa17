import Derived.Test.YtmcpanmcgpjfiaaGreatDoorTre1
set_option linter.unusedVariables false
set_option linter.unusedSimpArgs false
set_option maxRecDepth 100000
noncomputable section
namespace PX
open Go
open Md
namespace Te
def apg (C : aN) (Λ2 J : Lam) (a0 : List (List D)) (a1 : Int) (a2 : List (List D)) (a3 a4 a5 : Int) (a6 a7 : Bool) (a8 : List D) : Res := lab SE C Λ2 J 14 0 [1, 1, 0, 1, 0, 0, 1, 1, 0, 0, 1, 1, 1, 0] (aU [(0, .d (.sl aA.ks a0)), (3, .d (.int .i64 a1)), (4, .ptr 1000000000 0), (8, .d (.sl aA.ks a2)), (9, .d (.int .i64 a3)), (10, .d (.int .i64 a4)), (24, .ptr 1000000000 2), (25, .d (.int .i64 a5)), (26, .d (.bool a6)), (27, .d (.bool a7))] [⟨24, (List.map AV.d a8)⟩] [] [] [])
def ak0 (C : aN) (Λ2 J : Lam) (a0 a1 : List (List D)) (a2 a3 : Int) : Res := lab SE C Λ2 J 14 0 [1, 1, 0, 1, 0] (aU [(0, .d (.sl aA.ks a0)), (8, .d (.sl aA.ks a1)), (9, .d (.int .i64 a2)), (10, .d (.int .i64 a3))] [] [] [] [])
section
variable (Γ : Fun) (γ33 γ34 : Gm (Bool)) (Λ2 J : Lam)
def C14 : aN := aZ (aZ (aQ Γ) 33 aF γ33) 34 aF γ34
theorem T14 (p0 : List aA) : bF SE (C14 Γ γ33 γ34) Λ2 J 14 [.d (.sl aA.ks (List.map aA.enc p0))] [] [] =
 cond (decide ((lM aA.enc p0 : Int) > 32)) (
 (rI 5)) (
 ak0 (C14 Γ γ33 γ34) Λ2 J (List.map aA.enc p0) (List.map aA.enc p0) (lM aA.enc p0 : Int) 0) := by kernel_rfl
theorem aw1 (x0 : List aA) (x3 : Int) (x8 : List aA) (x9 x10 x25 : Int) (x26 x27 : Bool) (b0 : aA) : bR SE (C14 Γ γ33 γ34) Λ2 J 14 0 [1, 1, 0, 1, 0, 0, 1, 1, 0, 0, 1, 1, 1, 0] (aU [(0, .d (.sl aA.ks (List.map aA.enc x0))), (3, .d (.int .i64 x3)), (4, .ptr 1000000000 0), (8, .d (.sl aA.ks (List.map aA.enc x8))), (9, .d (.int .i64 x9)), (10, .d (.int .i64 x10)), (24, .ptr 1000000000 2), (25, .d (.int .i64 x25)), (26, .d (.bool x26)), (27, .d (.bool x27))] [⟨24, (List.map AV.d (aA.enc b0))⟩] [] [] []) =
 cond (decide (x3 > 0)) (
 cond (iB (w6 (x3 - 1)) (lM aA.enc x0 : Int)) (
  cond (Op.bytesLess b0.Client (bK (cE aA.enc x0 (w6 (x3 - 1)) 0)) || b0.Client == (bK (cE aA.enc x0 (w6 (x3 - 1)) 0))) (
  (rI 22)) (
  ak0 (C14 Γ γ33 γ34) Λ2 J (List.map aA.enc x0) (List.map aA.enc x8) x9 (w6 (x10 + 1)))) none) (
 ak0 (C14 Γ γ33 γ34) Λ2 J (List.map aA.enc x0) (List.map aA.enc x8) x9 (w6 (x10 + 1))) := by kernel_rfl
theorem azA (x0 x8 : List aA) (x9 x10 : Int) : bR SE (C14 Γ γ33 γ34) Λ2 J 14 0 [1, 1, 0, 1, 0] (aU [(0, .d (.sl aA.ks (List.map aA.enc x0))), (8, .d (.sl aA.ks (List.map aA.enc x8))), (9, .d (.int .i64 x9)), (10, .d (.int .i64 x10))] [] [] [] []) =
 cond (decide (x10 < x9)) (
 cond (iB x10 (lM aA.enc x8 : Int)) (
  γ33 [.d (.str (bK (cE aA.enc x8 x10 0)))] [] [] fun r0 =>
  cond (!r0) (
  (rI 11)) (
  γ34 [.d (.int .i64 (aW (cE aA.enc x8 x10 1))), .d (.int .i64 0), .d (.int .i64 6)] [] [] fun r1 =>
  cond (!r1) (
  (rI 1)) (
  γ34 [.d (.int .i64 (aW (cE aA.enc x8 x10 2))), .d (.int .i64 1), .d (.int .i64 1099511627776)] [] [] fun r2 =>
  cond (!r2) (
  (rI 1)) (
  apg (C14 Γ γ33 γ34) Λ2 J (List.map aA.enc x0) x10 (List.map aA.enc x8) x9 x10 ((aW (cE aA.enc x8 x10 2))) r2 (!r2) [D.str (bK (cE aA.enc x8 x10 0)), D.int .i64 (aW (cE aA.enc x8 x10 1)), D.int .i64 (aW (cE aA.enc x8 x10 2))])))) none) (
 (rI 0)) := by kernel_rfl
end
abbrev X14 : aN := C14 gG (cT 33 aF) (cT 34 aF)
theorem aqK : X14 = aQ gG := by unfold X14 C14; repeat rw [bB fun _ h => h]
abbrev avb := apg X14 (bQ SE gG (SE.hl 14) (SE.hr 14)) (J0 SE X14)
abbrev asd := ak0 X14 (bQ SE gG (SE.hl 14) (SE.hr 14)) (J0 SE X14)
theorem abV (k4 : (List aA) → (List aA) → Int → Int → Option (Int)) (hk4 : ∀ (x0 x8 : List aA) (x9 x10 : Int), Le (Option.map aB (k4 x0 x8 x9 x10)) (asd (List.map aA.enc x0) (List.map aA.enc x8) x9 x10)) (x0 : List aA) (x3 : Int) (x8 : List aA) (x9 x10 x25 : Int) (x26 x27 : Bool) (b0 : aA) : Le (Option.map aB (m8 k4 x0 x3 x8 x9 x10 x25 x26 x27 b0)) (avb (List.map aA.enc x0) x3 (List.map aA.enc x8) x9 x10 x25 x26 x27 (aA.enc b0)) := by
 refine Le.trans ?_ (le_of_eq ((aX aqK).trans (aw1 ..)).symm)
 unfold m8
 refine lC ?_ ?_
 ·refine lG (by simp only [EN]) ?_
  refine lD (by simp only [EN]) ?_ ?_
  ·exact aI rfl
  ·exact hk4 x0 x8 x9 (w6 (x10 + 1))
 ·exact hk4 x0 x8 x9 (w6 (x10 + 1))
theorem acj : ∀ (fu : Nat) (x0 x8 : List aA) (x9 x10 : Int), Le (Option.map aB (gW fu x0 x8 x9 x10)) (asd (List.map aA.enc x0) (List.map aA.enc x8) x9 x10) := by
 intro fu
 induction fu with
 | zero => intros; exact le_none
 | succ fu ih =>
  intro x0 x8 x9 x10
  refine Le.trans ?_ (le_of_eq ((aX aqK).trans (azA ..)).symm)
  unfold gW
  refine lC ?_ ?_
  ·refine lG (by simp only [EN]) ?_
   refine lQ eX aP (by (try simp only [EN]); exact jO ((List.getD x8 (Int.toNat x10) default).Client)) fun r0 _ => ?_
   refine lC ?_ ?_
   ·exact aI rfl
   ·refine lQ eX aP (by (try simp only [EN]); exact vW ((List.getD x8 (Int.toNat x10) default).Node) 0 6) fun r1 _ => ?_
    refine lC ?_ ?_
    ·exact aI rfl
    ·refine lQ eX aP (by (try simp only [EN]); exact vW ((List.getD x8 (Int.toNat x10) default).Epoch) 1 1099511627776) fun r2 _ => ?_
     refine lC ?_ ?_
     ·exact aI rfl
     ·(try simp only [EN]); exact abV _ (ih) x0 x10 x8 x9 x10 ((List.getD x8 (Int.toNat x10) default).Epoch) r2 (!r2) (List.getD x8 (Int.toNat x10) default)
  ·exact aI rfl
theorem eD (p0 : List aA) : Le (Option.map aB (dN p0)) (bD SE 14 [.d (.sl aA.ks (List.map aA.enc p0))] [] []) := by
 refine aV aqK rfl ?_
 refine Le.trans ?_ (le_of_eq (T14 ..).symm)
 unfold dN
 refine lD (by simp only [EN]) ?_ ?_
 ·exact aI rfl
 ·(try simp only [EN]); exact acj fuel p0 p0 (List.length p0 : Int) 0
def aoI (C : aN) (Λ2 J : Lam) (a0 a1 : List (List D)) (a2 a3 : Int) : Res := lab SE C Λ2 J 28 0 [1, 1, 0, 1, 0] (aU [(0, .d (.sl aA.ks a0)), (1, .d (.sl aA.ks a1)), (12, .d (.int .i64 a2)), (13, .d (.int .i64 a3))] [] [] [] [])
section
variable (Γ : Fun)  (Λ2 J : Lam)
def C28 : aN := aQ Γ
theorem T28 (p0 p1 : List aA) : bF SE (C28 Γ) Λ2 J 28 [.d (.sl aA.ks (List.map aA.enc p0)), .d (.sl aA.ks (List.map aA.enc p1))] [] [] =
 cond ((lM aA.enc p0 : Int) != (lM aA.enc p1 : Int)) (
 (rB false)) (
 aoI (C28 Γ) Λ2 J (List.map aA.enc p0) (List.map aA.enc p1) (lM aA.enc p0 : Int) 0) := by kernel_rfl
theorem axI (x0 x1 : List aA) (x12 x13 : Int) : bR SE (C28 Γ) Λ2 J 28 0 [1, 1, 0, 1, 0] (aU [(0, .d (.sl aA.ks (List.map aA.enc x0))), (1, .d (.sl aA.ks (List.map aA.enc x1))), (12, .d (.int .i64 x12)), (13, .d (.int .i64 x13))] [] [] [] []) =
 cond (decide (x13 < x12)) (
 cond (iB x13 (lM aA.enc x0 : Int)) (
  cond (iB x13 (lM aA.enc x1 : Int)) (
  cond (!(((bK (cE aA.enc x0 x13 0)) == (bK (cE aA.enc x1 x13 0))) && (((aW (cE aA.enc x0 x13 1)) == (aW (cE aA.enc x1 x13 1))) && (((aW (cE aA.enc x0 x13 2)) == (aW (cE aA.enc x1 x13 2))) && true)))) (
   (rB false)) (
  aoI (C28 Γ) Λ2 J (List.map aA.enc x0) (List.map aA.enc x1) x12 (w6 (x13 + 1)))) none) none) (
 (rB true)) := by kernel_rfl
end
abbrev X28 : aN := C28 gG
theorem atY : X28 = aQ gG := rfl
abbrev azZ := aoI X28 (bQ SE gG (SE.hl 28) (SE.hr 28)) (J0 SE X28)
theorem sU : ∀ (fu : Nat) (x0 x1 : List aA) (x12 x13 : Int), Le (Option.map aF (fM fu x0 x1 x12 x13)) (azZ (List.map aA.enc x0) (List.map aA.enc x1) x12 x13) := by
 intro fu
 induction fu with
 | zero => intros; exact le_none
 | succ fu ih =>
  intro x0 x1 x12 x13
  refine Le.trans ?_ (le_of_eq ((aX atY).trans (axI ..)).symm)
  unfold fM
  refine lC ?_ ?_
  ·refine lG (by simp only [EN]) ?_
   refine lG (by simp only [EN]) ?_
   refine lD (by simp only [EN]) ?_ ?_
   ·exact aI rfl
   ·exact ih x0 x1 x12 (w6 (x13 + 1))
  ·exact aI rfl
theorem dA (p0 p1 : List aA) : Le (Option.map aF (cO p0 p1)) (bD SE 28 [.d (.sl aA.ks (List.map aA.enc p0)), .d (.sl aA.ks (List.map aA.enc p1))] [] []) := by
 refine aV atY rfl ?_
 refine Le.trans ?_ (le_of_eq (T28 ..).symm)
 unfold cO
 refine lD (by simp only [EN]) ?_ ?_
 ·exact aI rfl
 ·(try simp only [EN]); exact sU fuel p0 p1 (List.length p0 : Int) 0
def afX (C : aN) (Λ2 J : Lam) (a0 a1 : List (List D)) (a2 a3 : Int) (a4 : List (List D)) (a5 a6 : Int) (a7 : List D) (a8 : List (List D)) : Res := lab SE C Λ2 J 11 0 [1, 1, 1, 1, 0, 1, 0, 0, 1, 1, 0, 0, 1, 1, 1, 0] (aU [(0, .d (.sl aA.ks a0)), (1, .d (.sl aA.ks a1)), (7, .row 3007), (9, .ptr 1000000000 0), (75, .row 3007), (76, .d (.int .i64 a2)), (77, .d (.int .i64 a3)), (91, .d (.sl aA.ks a4)), (92, .d (.int .i64 a5)), (93, .d (.int .i64 a6))] [⟨24, (List.map AV.d a7)⟩] [] [] [(3007, ⟨aA.ks, 24, 32, a8⟩), (3007, ⟨aA.ks, 24, 32, a8⟩)])
def amK (C : aN) (Λ2 J : Lam) (a0 a1 : List (List D)) (a2 a3 : Int) (a4 : List D) (a5 : List (List D)) : Res := lab SE C Λ2 J 11 0 [1, 1, 1, 1, 0, 1, 0, 0, 1, 1, 0, 0, 1, 1, 0] (aU [(0, .d (.sl aA.ks a0)), (1, .d (.sl aA.ks a1)), (7, .row 3007), (9, .ptr 1000000000 0), (75, .row 3007), (76, .d (.int .i64 a2)), (77, .d (.int .i64 a3))] [⟨24, (List.map AV.d a4)⟩] [] [] [(3007, ⟨aA.ks, 24, 32, a5⟩), (3007, ⟨aA.ks, 24, 32, a5⟩)])
def aoU (C : aN) (Λ2 J : Lam) (a0 a1 : List (List D)) (a2 a3 : Int) (a4 : List (List D)) : Res := lab SE C Λ2 J 11 0 [1, 1, 1, 1, 0, 1, 0] (aU [(0, .d (.sl aA.ks a0)), (1, .d (.sl aA.ks a1)), (7, .row 3007), (75, .row 3007), (76, .d (.int .i64 a2)), (77, .d (.int .i64 a3))] [] [] [] [(3007, ⟨aA.ks, 24, 32, a4⟩), (3007, ⟨aA.ks, 24, 32, a4⟩)])
def asO (C : aN) (Λ2 J : Lam) (a0 a1 a2 : List (List D)) : Res := lab SE C Λ2 J 11 0 [1, 1, 1, 1, 0, 0] (aU [(0, .d (.sl aA.ks a0)), (1, .d (.sl aA.ks a1)), (7, .row 3007)] [] [] [] [(3007, ⟨aA.ks, 24, 32, a2⟩)])
def ass (C : aN) (Λ2 J : Lam) (a0 a1 a2 : List (List D)) : Res := lab SE C Λ2 J 11 0 [1, 1, 0] (aU [(0, .d (.sl aA.ks a0)), (1, .d (.sl aA.ks a1)), (2, .d (.sl aA.ks a2))] [] [] [] [])
section
variable (Γ : Fun) (γ12 : Gm (Bool)) (γ14 : Gm (Int)) (γ29 : Gm ((List aA))) (γ28 γ31 : Gm (Bool)) (Λ2 J : Lam)
def C11 : aN := aZ (aZ (aZ (aZ (aZ (aQ Γ) 12 aF γ12) 14 aB γ14) 29 aS γ29) 28 aF γ28) 31 aF γ31
theorem T11 (p0 p1 p2 : List aA) : bF SE (C11 Γ γ12 γ14 γ29 γ28 γ31) Λ2 J 11 [.d (.sl aA.ks (List.map aA.enc p0)), .d (.sl aA.ks (List.map aA.enc p1)), .d (.sl aA.ks (List.map aA.enc p2))] [] [] =
 cond (decide ((lM aA.enc p0 : Int) > 10)) (
 γ12 [] [] [] fun r0 =>
 (rB r0)) (
 cond (decide ((lM aA.enc p1 : Int) > 10)) (
 γ12 [] [] [] fun r1 =>
 (rB r1)) (
 cond (decide ((lM aA.enc p2 : Int) > 10)) (
 γ12 [] [] [] fun r2 =>
 (rB r2)) (
 γ14 [.d (.sl aA.ks (List.map aA.enc p0))] [] [] fun r3 =>
 cond (r3 != 0) (
 γ12 [] [] [] fun r4 =>
 (rB r4)) (
 γ14 [.d (.sl aA.ks (List.map aA.enc p1))] [] [] fun r5 =>
 cond (r5 != 0) (
 γ12 [] [] [] fun r6 =>
 (rB r6)) (
 γ14 [.d (.sl aA.ks (List.map aA.enc p2))] [] [] fun r7 =>
 cond (r7 != 0) (
 γ12 [] [] [] fun r8 =>
 (rB r8)) (
 ass (C11 Γ γ12 γ14 γ29 γ28 γ31) Λ2 J (List.map aA.enc p0) (List.map aA.enc p1) (List.map aA.enc p2))))))) := by kernel_rfl
theorem at0 (x0 x1 : List aA) (x76 x77 : Int) (x91 : List aA) (x92 x93 : Int) (b0 : aA) (w3007 : List aA) : bR SE (C11 Γ γ12 γ14 γ29 γ28 γ31) Λ2 J 11 0 [1, 1, 1, 1, 0, 1, 0, 0, 1, 1, 0, 0, 1, 1, 1, 0] (aU [(0, .d (.sl aA.ks (List.map aA.enc x0))), (1, .d (.sl aA.ks (List.map aA.enc x1))), (7, .row 3007), (9, .ptr 1000000000 0), (75, .row 3007), (76, .d (.int .i64 x76)), (77, .d (.int .i64 x77)), (91, .d (.sl aA.ks (List.map aA.enc x91))), (92, .d (.int .i64 x92)), (93, .d (.int .i64 x93))] [⟨24, (List.map AV.d (aA.enc b0))⟩] [] [] [(3007, ⟨aA.ks, 24, 32, (List.map aA.enc w3007)⟩), (3007, ⟨aA.ks, 24, 32, (List.map aA.enc w3007)⟩)]) =
 cond (decide (x93 < x92)) (
 cond (iB x93 (lM aA.enc x91 : Int)) (
  cond ((bK (cE aA.enc x91 x93 0)) == b0.Client) (
  cond (decide ((aW (cE aA.enc x91 x93 2)) > b0.Epoch)) (
   (rB false)) (
  cond ((aW (cE aA.enc x91 x93 2)) == b0.Epoch) (
   cond (decide ((aW (cE aA.enc x91 x93 1)) < b0.Node)) (
   (rB false)) (
   afX (C11 Γ γ12 γ14 γ29 γ28 γ31) Λ2 J (List.map aA.enc x0) (List.map aA.enc x1) x76 x77 (List.map aA.enc x91) x92 (w6 (x93 + 1)) (aA.enc b0) (List.map aA.enc w3007))) (
  afX (C11 Γ γ12 γ14 γ29 γ28 γ31) Λ2 J (List.map aA.enc x0) (List.map aA.enc x1) x76 x77 (List.map aA.enc x91) x92 (w6 (x93 + 1)) (aA.enc b0) (List.map aA.enc w3007)))) (
  afX (C11 Γ γ12 γ14 γ29 γ28 γ31) Λ2 J (List.map aA.enc x0) (List.map aA.enc x1) x76 x77 (List.map aA.enc x91) x92 (w6 (x93 + 1)) (aA.enc b0) (List.map aA.enc w3007))) none) (
 aoU (C11 Γ γ12 γ14 γ29 γ28 γ31) Λ2 J (List.map aA.enc x0) (List.map aA.enc x1) x76 (w6 (x77 + 1)) (List.map aA.enc w3007)) := by kernel_rfl
theorem av6 (x0 x1 : List aA) (x76 x77 : Int) (b0 : aA) (w3007 : List aA) : bR SE (C11 Γ γ12 γ14 γ29 γ28 γ31) Λ2 J 11 0 [1, 1, 1, 1, 0, 1, 0, 0, 1, 1, 0, 0, 1, 1, 0] (aU [(0, .d (.sl aA.ks (List.map aA.enc x0))), (1, .d (.sl aA.ks (List.map aA.enc x1))), (7, .row 3007), (9, .ptr 1000000000 0), (75, .row 3007), (76, .d (.int .i64 x76)), (77, .d (.int .i64 x77))] [⟨24, (List.map AV.d (aA.enc b0))⟩] [] [] [(3007, ⟨aA.ks, 24, 32, (List.map aA.enc w3007)⟩), (3007, ⟨aA.ks, 24, 32, (List.map aA.enc w3007)⟩)]) =
 afX (C11 Γ γ12 γ14 γ29 γ28 γ31) Λ2 J (List.map aA.enc x0) (List.map aA.enc x1) x76 x77 (List.map aA.enc x0) (lM aA.enc x0 : Int) 0 (aA.enc b0) (List.map aA.enc w3007) := by kernel_rfl
theorem ayh (x0 x1 : List aA) (x76 x77 : Int) (w3007 : List aA) : bR SE (C11 Γ γ12 γ14 γ29 γ28 γ31) Λ2 J 11 0 [1, 1, 1, 1, 0, 1, 0] (aU [(0, .d (.sl aA.ks (List.map aA.enc x0))), (1, .d (.sl aA.ks (List.map aA.enc x1))), (7, .row 3007), (75, .row 3007), (76, .d (.int .i64 x76)), (77, .d (.int .i64 x77))] [] [] [] [(3007, ⟨aA.ks, 24, 32, (List.map aA.enc w3007)⟩), (3007, ⟨aA.ks, 24, 32, (List.map aA.enc w3007)⟩)]) =
 cond (decide (x77 < x76)) (
 cond (iB x77 (lM aA.enc w3007 : Int)) (
  γ31 [.d (.sl aA.ks (List.map aA.enc x0)), .agg [.d (.str (bK (cE aA.enc w3007 x77 0))), .d (.int .i64 (aW (cE aA.enc w3007 x77 1))), .d (.int .i64 (aW (cE aA.enc w3007 x77 2)))]] [] [] fun r19 =>
  cond (!r19) (
  γ31 [.d (.sl aA.ks (List.map aA.enc x1)), .agg [.d (.str (bK (cE aA.enc w3007 x77 0))), .d (.int .i64 (aW (cE aA.enc w3007 x77 1))), .d (.int .i64 (aW (cE aA.enc w3007 x77 2)))]] [] [] fun r20 =>
  cond (!r20) (
   (rB false)) (
  amK (C11 Γ γ12 γ14 γ29 γ28 γ31) Λ2 J (List.map aA.enc x0) (List.map aA.enc x1) x76 x77 [D.str (bK (cE aA.enc w3007 x77 0)), D.int .i64 (aW (cE aA.enc w3007 x77 1)), D.int .i64 (aW (cE aA.enc w3007 x77 2))] (List.map aA.enc w3007))) (
  amK (C11 Γ γ12 γ14 γ29 γ28 γ31) Λ2 J (List.map aA.enc x0) (List.map aA.enc x1) x76 x77 [D.str (bK (cE aA.enc w3007 x77 0)), D.int .i64 (aW (cE aA.enc w3007 x77 1)), D.int .i64 (aW (cE aA.enc w3007 x77 2))] (List.map aA.enc w3007))) none) (
 cond (decide ((lM aA.enc w3007 : Int) ≥ (lM aA.enc x0 : Int))) (
 cond (decide ((lM aA.enc w3007 : Int) ≥ (lM aA.enc x1 : Int))) (
  cond (decide ((lM aA.enc w3007 : Int) ≤ (w6 ((lM aA.enc x0 : Int) + (lM aA.enc x1 : Int))))) (
  γ12 [] [] [] fun r21 =>
  (rB r21)) (
  (rB false))) (
 (rB false))) (
 (rB false))) := by kernel_rfl
theorem azC (x0 x1 w3007 : List aA) : bR SE (C11 Γ γ12 γ14 γ29 γ28 γ31) Λ2 J 11 0 [1, 1, 1, 1, 0, 0] (aU [(0, .d (.sl aA.ks (List.map aA.enc x0))), (1, .d (.sl aA.ks (List.map aA.enc x1))), (7, .row 3007)] [] [] [] [(3007, ⟨aA.ks, 24, 32, (List.map aA.enc w3007)⟩)]) =
 aoU (C11 Γ γ12 γ14 γ29 γ28 γ31) Λ2 J (List.map aA.enc x0) (List.map aA.enc x1) (lM aA.enc w3007 : Int) 0 (List.map aA.enc w3007) := by kernel_rfl
theorem ayK (x0 x1 x2 : List aA) : bR SE (C11 Γ γ12 γ14 γ29 γ28 γ31) Λ2 J 11 0 [1, 1, 0] (aU [(0, .d (.sl aA.ks (List.map aA.enc x0))), (1, .d (.sl aA.ks (List.map aA.enc x1))), (2, .d (.sl aA.ks (List.map aA.enc x2)))] [] [] [] []) =
 γ29 [.d (.sl aA.ks (List.map aA.enc x0)), .d (.sl aA.ks (List.map aA.enc x1))] [] [] fun r9 =>
 γ29 [.d (.sl aA.ks (List.map aA.enc x1)), .d (.sl aA.ks (List.map aA.enc x0))] [] [] fun r10 =>
 γ28 [.d (.sl aA.ks (List.map aA.enc r9)), .d (.sl aA.ks (List.map aA.enc r10))] [] [] fun r11 =>
 cond (!r11) (
 (rB false)) (
 γ29 [.d (.sl aA.ks (List.map aA.enc x0)), .d (.sl aA.ks (List.map aA.enc x0))] [] [] fun r12 =>
 γ28 [.d (.sl aA.ks (List.map aA.enc r12)), .d (.sl aA.ks (List.map aA.enc x0))] [] [] fun r13 =>
 cond (!r13) (
 (rB false)) (
 γ29 [.d (.sl aA.ks (List.map aA.enc r9)), .d (.sl aA.ks (List.map aA.enc x2))] [] [] fun r14 =>
 γ29 [.d (.sl aA.ks (List.map aA.enc x1)), .d (.sl aA.ks (List.map aA.enc x2))] [] [] fun r15 =>
 γ29 [.d (.sl aA.ks (List.map aA.enc x0)), .d (.sl aA.ks (List.map aA.enc r15))] [] [] fun r16 =>
 γ28 [.d (.sl aA.ks (List.map aA.enc r14)), .d (.sl aA.ks (List.map aA.enc r16))] [] [] fun r17 =>
 cond (!r17) (
 (rB false)) (
 γ14 [.d (.sl aA.ks (List.map aA.enc r9))] [] [] fun r18 =>
 cond (r18 != 0) (
 (rB false)) (
 asO (C11 Γ γ12 γ14 γ29 γ28 γ31) Λ2 J (List.map aA.enc x0) (List.map aA.enc x1) (List.map aA.enc r9))))) := by kernel_rfl
end
abbrev X11 : aN := C11 gG (cT 12 aF) (cT 14 aB) (cT 29 aS) (cT 28 aF) (cT 31 aF)
theorem ajt : X11 = aQ gG := by unfold X11 C11; repeat rw [bB fun _ h => h]
abbrev axd := afX X11 (bQ SE gG (SE.hl 11) (SE.hr 11)) (J0 SE X11)
abbrev awi := amK X11 (bQ SE gG (SE.hl 11) (SE.hr 11)) (J0 SE X11)
abbrev anO := aoU X11 (bQ SE gG (SE.hl 11) (SE.hr 11)) (J0 SE X11)
abbrev axw := asO X11 (bQ SE gG (SE.hl 11) (SE.hr 11)) (J0 SE X11)
abbrev azY := ass X11 (bQ SE gG (SE.hl 11) (SE.hr 11)) (J0 SE X11)
theorem xS : ∀ (fu : Nat) (k7 : (List aA) → (List aA) → Int → Int → (List aA) → Option (Bool)) (hk7 : ∀ (x0 x1 : List aA) (x76 x77 : Int) (w3007 : List aA), Le (Option.map aF (k7 x0 x1 x76 x77 w3007)) (anO (List.map aA.enc x0) (List.map aA.enc x1) x76 x77 (List.map aA.enc w3007))) (x0 x1 : List aA) (x76 x77 : Int) (x91 : List aA) (x92 x93 : Int) (b0 : aA) (w3007 : List aA), Le (Option.map aF (eR fu k7 x0 x1 x76 x77 x91 x92 x93 b0 w3007)) (axd (List.map aA.enc x0) (List.map aA.enc x1) x76 x77 (List.map aA.enc x91) x92 x93 (aA.enc b0) (List.map aA.enc w3007)) := by
 intro fu
 induction fu with
 | zero => intros; exact le_none
 | succ fu ih =>
  intro k7 hk7 x0 x1 x76 x77 x91 x92 x93 b0 w3007
  refine Le.trans ?_ (le_of_eq ((aX ajt).trans (at0 ..)).symm)
  unfold eR
  refine lC ?_ ?_
  ·refine lG (by simp only [EN]) ?_
   refine lD (by simp only [EN]) ?_ ?_
   ·refine lD (by simp only [EN]) ?_ ?_
    ·exact aI rfl
    ·refine lD (by simp only [EN]) ?_ ?_
     ·refine lD (by simp only [EN]) ?_ ?_
      ·exact aI rfl
      ·exact ih _ hk7 x0 x1 x76 x77 x91 x92 (w6 (x93 + 1)) b0 w3007
     ·exact ih _ hk7 x0 x1 x76 x77 x91 x92 (w6 (x93 + 1)) b0 w3007
   ·exact ih _ hk7 x0 x1 x76 x77 x91 x92 (w6 (x93 + 1)) b0 w3007
  ·exact hk7 x0 x1 x76 (w6 (x77 + 1)) w3007
theorem pM (k7 : (List aA) → (List aA) → Int → Int → (List aA) → Option (Bool)) (hk7 : ∀ (x0 x1 : List aA) (x76 x77 : Int) (w3007 : List aA), Le (Option.map aF (k7 x0 x1 x76 x77 w3007)) (anO (List.map aA.enc x0) (List.map aA.enc x1) x76 x77 (List.map aA.enc w3007))) (x0 x1 : List aA) (x76 x77 : Int) (b0 : aA) (w3007 : List aA) : Le (Option.map aF (jD k7 x0 x1 x76 x77 b0 w3007)) (awi (List.map aA.enc x0) (List.map aA.enc x1) x76 x77 (aA.enc b0) (List.map aA.enc w3007)) := by
 refine Le.trans ?_ (le_of_eq ((aX ajt).trans (av6 ..)).symm)
 unfold jD
 (try simp only [EN]); exact xS fuel _ hk7 x0 x1 x76 x77 x0 (List.length x0 : Int) 0 b0 w3007
theorem yM : ∀ (fu : Nat) (x0 x1 : List aA) (x76 x77 : Int) (w3007 : List aA), Le (Option.map aF (gS fu x0 x1 x76 x77 w3007)) (anO (List.map aA.enc x0) (List.map aA.enc x1) x76 x77 (List.map aA.enc w3007)) := by
 intro fu
 induction fu with
 | zero => intros; exact le_none
 | succ fu ih =>
  intro x0 x1 x76 x77 w3007
  refine Le.trans ?_ (le_of_eq ((aX ajt).trans (ayh ..)).symm)
  unfold gS
  refine lC ?_ ?_
  ·refine lG (by simp only [EN]) ?_
   refine lQ eX aP (by (try simp only [EN]); exact eU x0 (List.getD w3007 (Int.toNat x77) default)) fun r19 _ => ?_
   refine lC ?_ ?_
   ·refine lQ eX aP (by (try simp only [EN]); exact eU x1 (List.getD w3007 (Int.toNat x77) default)) fun r20 _ => ?_
    refine lC ?_ ?_
    ·exact aI rfl
    ·(try simp only [EN]); exact pM _ (ih) x0 x1 x76 x77 (List.getD w3007 (Int.toNat x77) default) w3007
   ·(try simp only [EN]); exact pM _ (ih) x0 x1 x76 x77 (List.getD w3007 (Int.toNat x77) default) w3007
  ·refine lD (by simp only [EN]) ?_ ?_
   ·refine lD (by simp only [EN]) ?_ ?_
    ·refine lD (by simp only [EN]) ?_ ?_
     ·refine lQ eX aP (bH) fun r21 _ => ?_
      exact aI rfl
     ·exact aI rfl
    ·exact aI rfl
   ·exact aI rfl
theorem yT (x0 x1 w3007 : List aA) : Le (Option.map aF (mK x0 x1 w3007)) (axw (List.map aA.enc x0) (List.map aA.enc x1) (List.map aA.enc w3007)) := by
 refine Le.trans ?_ (le_of_eq ((aX ajt).trans (azC ..)).symm)
 unfold mK
 (try simp only [EN]); exact yM fuel x0 x1 (List.length w3007 : Int) 0 w3007
theorem yR (x0 x1 x2 : List aA) : Le (Option.map aF (mM x0 x1 x2)) (azY (List.map aA.enc x0) (List.map aA.enc x1) (List.map aA.enc x2)) := by
 refine Le.trans ?_ (le_of_eq ((aX ajt).trans (ayK ..)).symm)
 unfold mM
 refine lQ eX bL (fS _ _) fun r9 _ => ?_
 refine lQ eX bL (fS _ _) fun r10 _ => ?_
 refine lQ eX aP (dA _ _) fun r11 _ => ?_
 refine lC ?_ ?_
 ·exact aI rfl
 ·refine lQ eX bL (fS _ _) fun r12 _ => ?_
  refine lQ eX aP (dA _ _) fun r13 _ => ?_
  refine lC ?_ ?_
  ·exact aI rfl
  ·refine lQ eX bL (fS _ _) fun r14 _ => ?_
   refine lQ eX bL (fS _ _) fun r15 _ => ?_
   refine lQ eX bL (fS _ _) fun r16 _ => ?_
   refine lQ eX aP (dA _ _) fun r17 _ => ?_
   refine lC ?_ ?_
   ·exact aI rfl
   ·refine lQ eX aL (eD _) fun r18 _ => ?_
    refine lC ?_ ?_
    ·exact aI rfl
    ·exact yT x0 x1 r9
theorem akt (p0 p1 p2 : List aA) : Le (Option.map aF (uW p0 p1 p2)) (bD SE 11 [.d (.sl aA.ks (List.map aA.enc p0)), .d (.sl aA.ks (List.map aA.enc p1)), .d (.sl aA.ks (List.map aA.enc p2))] [] []) := by
 refine aV ajt rfl ?_
 refine Le.trans ?_ (le_of_eq (T11 ..).symm)
 unfold uW
 refine lD (by simp only [EN]) ?_ ?_
 ·refine lQ eX aP (bH) fun r0 _ => ?_
  exact aI rfl
 ·refine lD (by simp only [EN]) ?_ ?_
  ·refine lQ eX aP (bH) fun r1 _ => ?_
   exact aI rfl
  ·refine lD (by simp only [EN]) ?_ ?_
   ·refine lQ eX aP (bH) fun r2 _ => ?_
    exact aI rfl
   ·refine lQ eX aL (eD _) fun r3 _ => ?_
    refine lC ?_ ?_
    ·refine lQ eX aP (bH) fun r4 _ => ?_
     exact aI rfl
    ·refine lQ eX aL (eD _) fun r5 _ => ?_
     refine lC ?_ ?_
     ·refine lQ eX aP (bH) fun r6 _ => ?_
      exact aI rfl
     ·refine lQ eX aL (eD _) fun r7 _ => ?_
      refine lC ?_ ?_
      ·refine lQ eX aP (bH) fun r8 _ => ?_
       exact aI rfl
      ·exact yR p0 p1 p2
end Te
end PX
