import Derived.Test.YtmcpanmcgpjfiaaGreatDoorTre1
set_option linter.unusedVariables false
set_option linter.unusedSimpArgs false
set_option maxRecDepth 100000
noncomputable section
namespace PX
open Go
open Md
namespace Te
def auU (C : aN) (Λ2 J : Lam) : Res := lab SE C Λ2 J 12 0 [1, 1, 1, 1, 0] (aU [] [] [] [] [])
section
variable (Γ : Fun) (γ26 : Gm ((List aA) × aA × Int)) (γ15 : Gm (Bool)) (γ13 : Gm (Int)) (γ29 : Gm ((List aA))) (γ18 : Gm ((List Int) × Int)) (γ21 : Gm (aI × Int)) (γ20 : Gm (Bool)) (Λ2 J : Lam)
def C12 : aN := bA (bA (bA (bA (bA (bA (bA (aR Γ) 26 cY γ26) 15 brokerref01_lower_out γ15) 13 brokerref43_Check_out γ13) 29 aT γ29) 18 dD γ18) 21 dR γ21) 20 brokerref01_lower_out γ20
theorem T12 : bG SE (C12 Γ γ26 γ15 γ13 γ29 γ18 γ21 γ20) Λ2 J 12 [] [] [] =
 γ26 [.d (.sl aA.ks (List.map aA.enc [])), .d (.str ([99, 49] : Str)), .d (.int .i64 2)] [] [] fun r0 =>
 γ26 [.d (.sl aA.ks (List.map aA.enc r0.1)), .d (.str ([99, 49] : Str)), .d (.int .i64 0)] [] [] fun r1 =>
 cond (r0.2.2 != 0) (
 (rB false)) (
 cond (r1.2.2 != 0) (
 (rB false)) (
 cond (!((r0.2.1.Client == ([99, 49] : Str)) && ((r0.2.1.Node == 2) && ((r0.2.1.Epoch == 1) && true)))) (
 (rB false)) (
 cond (r1.2.1.Epoch != 2) (
 (rB false)) (
 γ15 [.d (.sl aA.ks (List.map aA.enc r1.1)), .d (.str ([99, 49] : Str)), .d (.int .i64 2), .d (.int .i64 1)] [] [] fun r2 =>
 cond r2 (
 (rB false)) (
 γ15 [.d (.sl aA.ks (List.map aA.enc r1.1)), .d (.str ([99, 49] : Str)), .d (.int .i64 0), .d (.int .i64 2)] [] [] fun r3 =>
 cond (!r3) (
 (rB false)) (
 γ13 [.d (.sl aA.ks (List.map aA.enc r1.1))] [] [] fun r4 =>
 cond (r4 != 0) (
 (rB false)) (
 auU (C12 Γ γ26 γ15 γ13 γ29 γ18 γ21 γ20) Λ2 J))))))) := by kernel_rfl
theorem aB0 : bS SE (C12 Γ γ26 γ15 γ13 γ29 γ18 γ21 γ20) Λ2 J 12 0 [1, 1, 1, 1, 0] (aU [] [] [] [] []) =
 γ29 [.d (.sl aA.ks (List.map aA.enc [(aA.mk ([99, 49] : Str) 2 3)])), .d (.sl aA.ks (List.map aA.enc [(aA.mk ([99, 49] : Str) 1 3)]))] [] [] fun r5 =>
 γ18 [.agg [.d (.str ([99] : Str)), .d (.str []), .d (.bool false), .d (.int .i64 0), .d (.int .i64 5), .d (.int .i64 9), .d (.int .i64 0), .d (.sl aK.ks (List.map aK.enc [])), .d (.sl aC.ks (List.map aC.enc [])), .d (.int .i64 1), .d (.sl aE.ks (List.map aE.enc [])), .d (.sl [.int .i64] (List.map eI [])), .d (.int .i64 0), .d (.sl [.int .i64] (List.map eI [])), .d (.bool false), .d (.int .i64 0), .d (.str []), .d (.str []), .d (.int .i64 0), .d (.bool false), .d (.int .i64 0), .d (.int .i64 0), .d (.str []), .d (.int .i64 0), .d (.sl aG.ks (List.map aG.enc []))]] [] [] fun r6 =>
 γ21 [.d (.sl [.int .u8] (List.map (encI .u8) r6.1))] [] [] fun r7 =>
 γ18 [.agg [.d (.str ([99] : Str)), .d (.str []), .d (.bool true), .d (.int .i64 0), .d (.int .i64 5), .d (.int .i64 0), .d (.int .i64 0), .d (.sl aK.ks (List.map aK.enc [])), .d (.sl aC.ks (List.map aC.enc [])), .d (.int .i64 1), .d (.sl aE.ks (List.map aE.enc [])), .d (.sl [.int .i64] (List.map eI [])), .d (.int .i64 0), .d (.sl [.int .i64] (List.map eI [])), .d (.bool false), .d (.int .i64 0), .d (.str []), .d (.str []), .d (.int .i64 0), .d (.bool false), .d (.int .i64 0), .d (.int .i64 0), .d (.str []), .d (.int .i64 0), .d (.sl aG.ks (List.map aG.enc []))]] [] [] fun r8 =>
 cond ((lM aA.enc r5 : Int) == 1) (
 cond (decide (0 ≤ 0) && decide (0 < (lM aA.enc r5 : Int))) (
  cond ((aW (cE aA.enc r5 0 1)) == 1) (
  cond (r6.2 == 0) (
   cond (r7.2 == 0) (
   cond (r8.2 == 9) (
    γ20 [.d (.sl [.int .u8] (List.map (encI .u8) r6.1)), .d (.sl [.int .u8] (List.map (encI .u8) [2, 99, 0, 10, 18, 0, 0, 0, 2, 0, 0, 0, 0, 0]))] [] [] fun r9 =>
    cond r9 (
    cond (r7.1.Client == ([99] : Str)) (
     cond (r7.1.Until == 9) (
     (rB (!r7.1.Online))) (
     (rB false))) (
    (rB false))) (
    (rB false))) (
   (rB false))) (
   (rB false))) (
  (rB false))) (
  (rB false))) none) (
 (rB false)) := by kernel_rfl
end
abbrev X12 : aN := C12 gG (cT 26 cY) (cT 15 brokerref01_lower_out) (cT 13 brokerref43_Check_out) (cT 29 aT) (cT 18 dD) (cT 21 dR) (cT 20 brokerref01_lower_out)
theorem axk : X12 = aR gG := by unfold X12 C12; repeat rw [bD fun _ h => h]
abbrev aC2 := auU X12 (bR SE gG (SE.hl 12) (SE.hr 12)) (J0 SE X12)
theorem aay : Le (Option.map brokerref01_lower_out (oU)) (aC2) := by
 refine Le.trans ?_ (le_of_eq ((aX axk).trans (aB0 _ _ _ _ _ _ _ _ _ _ )).symm)
 unfold oU
 refine lQ eX bM (hJ _ _) fun r5 _ => ?_
 refine lQ eX j9 (by (try simp only [EN]); exact mX ((aI.mk ([99] : Str) [] false 0 5 9 0 [] [] (aM.mk 1 [] (bE.mk [] 0)) (bN.mk []) (bO.mk false 0 (aC.mk [] [] 0 false 0 0 [] 0 []))))) fun r6 _ => ?_
 refine lQ eX l7 (m0 _) fun r7 _ => ?_
 refine lQ eX j9 (by (try simp only [EN]); exact mX ((aI.mk ([99] : Str) [] true 0 5 0 0 [] [] (aM.mk 1 [] (bE.mk [] 0)) (bN.mk []) (bO.mk false 0 (aC.mk [] [] 0 false 0 0 [] 0 []))))) fun r8 _ => ?_
 refine lD (by simp only [EN]) ?_ ?_
 ·refine lG (by simp only [EN]) ?_
  refine lD (by simp only [EN]) ?_ ?_
  ·refine lC ?_ ?_
   ·refine lC ?_ ?_
    ·refine lC ?_ ?_
     ·refine lQ eX brokerref01_lower_inj (rO _ _) fun r9 _ => ?_
      refine lC ?_ ?_
      ·refine lC ?_ ?_
       ·refine lC ?_ ?_
        ·exact aJ rfl
        ·exact aJ rfl
       ·exact aJ rfl
      ·exact aJ rfl
     ·exact aJ rfl
    ·exact aJ rfl
   ·exact aJ rfl
  ·exact aJ rfl
 ·exact aJ rfl
theorem bI : Le (Option.map brokerref01_lower_out (bJ)) (bF SE 12 [] [] []) := by
 refine aV axk rfl ?_
 refine Le.trans ?_ (le_of_eq (T12 _ _ _ _ _ _ _ _ _ _ ).symm)
 unfold bJ
 refine lQ eX pI (by (try simp only [EN]); exact uA [] ([99, 49] : Str) 2) fun r0 _ => ?_
 refine lQ eX pI (uA _ _ _) fun r1 _ => ?_
 refine lC ?_ ?_
 ·exact aJ rfl
 ·refine lC ?_ ?_
  ·exact aJ rfl
  ·refine lC ?_ ?_
   ·exact aJ rfl
   ·refine lC ?_ ?_
    ·exact aJ rfl
    ·refine lQ eX brokerref01_lower_inj (rE _ _ _ _) fun r2 _ => ?_
     refine lC ?_ ?_
     ·exact aJ rfl
     ·refine lQ eX brokerref01_lower_inj (rE _ _ _ _) fun r3 _ => ?_
      refine lC ?_ ?_
      ·exact aJ rfl
      ·refine lQ eX brokerref43_Check_inj (ac1 _) fun r4 _ => ?_
       refine lC ?_ ?_
       ·exact aJ rfl
       ·exact aay
def aqV (C : aN) (Λ2 J : Lam) (a0 a1 : List (List D)) (a2 a3 : Int) : Res := lab SE C Λ2 J 28 0 [1, 1, 0, 1, 0] (aU [(0, .d (.sl aA.ks a0)), (1, .d (.sl aA.ks a1)), (12, .d (.int .i64 a2)), (13, .d (.int .i64 a3))] [] [] [] [])
section
variable (Γ : Fun)  (Λ2 J : Lam)
def C28 : aN := aR Γ
theorem T28 (p0 p1 : List aA) : bG SE (C28 Γ) Λ2 J 28 [.d (.sl aA.ks (List.map aA.enc p0)), .d (.sl aA.ks (List.map aA.enc p1))] [] [] =
 cond ((lM aA.enc p0 : Int) != (lM aA.enc p1 : Int)) (
 (rB false)) (
 aqV (C28 Γ) Λ2 J (List.map aA.enc p0) (List.map aA.enc p1) (lM aA.enc p0 : Int) 0) := by kernel_rfl
theorem aBe (x0 x1 : List aA) (x12 x13 : Int) : bS SE (C28 Γ) Λ2 J 28 0 [1, 1, 0, 1, 0] (aU [(0, .d (.sl aA.ks (List.map aA.enc x0))), (1, .d (.sl aA.ks (List.map aA.enc x1))), (12, .d (.int .i64 x12)), (13, .d (.int .i64 x13))] [] [] [] []) =
 cond (decide (x13 < x12)) (
 cond (iB x13 (lM aA.enc x0 : Int)) (
  cond (iB x13 (lM aA.enc x1 : Int)) (
  cond (!(((bL (cE aA.enc x0 x13 0)) == (bL (cE aA.enc x1 x13 0))) && (((aW (cE aA.enc x0 x13 1)) == (aW (cE aA.enc x1 x13 1))) && (((aW (cE aA.enc x0 x13 2)) == (aW (cE aA.enc x1 x13 2))) && true)))) (
   (rB false)) (
  aqV (C28 Γ) Λ2 J (List.map aA.enc x0) (List.map aA.enc x1) x12 (w6 (x13 + 1)))) none) none) (
 (rB true)) := by kernel_rfl
end
abbrev X28 : aN := C28 gG
theorem ayw : X28 = aR gG := rfl
abbrev aB6 := aqV X28 (bR SE gG (SE.hl 28) (SE.hr 28)) (J0 SE X28)
theorem vG : ∀ (fu : Nat) (x0 x1 : List aA) (x12 x13 : Int), Le (Option.map brokerref01_lower_out (dH fu x0 x1 x12 x13)) (aB6 (List.map aA.enc x0) (List.map aA.enc x1) x12 x13) := by
 intro fu
 induction fu with
 | zero => intros; exact le_none
 | succ fu ih =>
  intro x0 x1 x12 x13
  refine Le.trans ?_ (le_of_eq ((aX ayw).trans (aBe ..)).symm)
  unfold dH
  refine lC ?_ ?_
  ·refine lG (by simp only [EN]) ?_
   refine lG (by simp only [EN]) ?_
   refine lD (by simp only [EN]) ?_ ?_
   ·exact aJ rfl
   ·exact ih x0 x1 x12 (w6 (x13 + 1))
  ·exact aJ rfl
theorem dF (p0 p1 : List aA) : Le (Option.map brokerref01_lower_out (cH p0 p1)) (bF SE 28 [.d (.sl aA.ks (List.map aA.enc p0)), .d (.sl aA.ks (List.map aA.enc p1))] [] []) := by
 refine aV ayw rfl ?_
 refine Le.trans ?_ (le_of_eq (T28 ..).symm)
 unfold cH
 refine lD (by simp only [EN]) ?_ ?_
 ·exact aJ rfl
 ·(try simp only [EN]); exact vG fuel p0 p1 (List.length p0 : Int) 0
def akS (C : aN) (Λ2 J : Lam) (a0 : Str) (a1 : Int) (a2 : List (List D)) (a3 a4 : Int) (a5 : List D) (a6 : List (List D)) : Res := lab SE C Λ2 J 10 0 [1, 1, 1, 1, 1, 1, 0, 1, 0] (aU [(1, .d (.str a0)), (7, .row 3007), (8, .ptr 1000000000 0), (10, .d (.int .i64 a1)), (75, .d (.sl aA.ks a2)), (76, .d (.int .i64 a3)), (77, .d (.int .i64 a4))] [⟨24, (List.map AV.d a5)⟩] [] [] [(3007, ⟨aA.ks, 24, 32, a6⟩)])
def avw (C : aN) (Λ2 J : Lam) (a0 : List (List D)) (a1 : Str) (a2 : List D) (a3 : List (List D)) : Res := lab SE C Λ2 J 10 0 [1, 1, 1, 1, 1, 0] (aU [(0, .d (.sl aA.ks a0)), (1, .d (.str a1)), (7, .row 3007), (8, .ptr 1000000000 0)] [⟨24, (List.map AV.d a2)⟩] [] [] [(3007, ⟨aA.ks, 24, 32, a3⟩)])
section
variable (Γ : Fun) (γ14 : Gm (Int)) (γ12 : Gm (Bool)) (γ26 : Gm ((List aA) × aA × Int)) (γ15 : Gm (Bool)) (γ29 : Gm ((List aA))) (γ28 γ31 : Gm (Bool)) (Λ2 J : Lam)
def C10 : aN := bA (bA (bA (bA (bA (bA (bA (aR Γ) 14 brokerref43_Check_out γ14) 12 brokerref01_lower_out γ12) 26 cY γ26) 15 brokerref01_lower_out γ15) 29 aT γ29) 28 brokerref01_lower_out γ28) 31 brokerref01_lower_out γ31
theorem T10 (p0 : List aA) (p1 : Str) (p2 : Int) : bG SE (C10 Γ γ14 γ12 γ26 γ15 γ29 γ28 γ31) Λ2 J 10 [.d (.sl aA.ks (List.map aA.enc p0)), .d (.str p1), .d (.int .i64 p2)] [] [] =
 γ14 [.d (.sl aA.ks (List.map aA.enc p0))] [] [] fun r0 =>
 cond (r0 != 0) (
 γ12 [] [] [] fun r1 =>
 (rB r1)) (
 γ26 [.d (.sl aA.ks (List.map aA.enc p0)), .d (.str p1), .d (.int .i64 p2)] [] [] fun r2 =>
 cond (r2.2.2 != 0) (
 cond ((lM aA.enc r2.1 : Int) == 0) (
  γ12 [] [] [] fun r3 =>
  (rB r3)) (
 (rB false))) (
 γ14 [.d (.sl aA.ks (List.map aA.enc r2.1))] [] [] fun r4 =>
 cond (r4 != 0) (
 (rB false)) (
 cond (!(r2.2.1.Client == p1)) (
 (rB false)) (
 cond (r2.2.1.Node != p2) (
 (rB false)) (
 γ15 [.d (.sl aA.ks (List.map aA.enc r2.1)), .d (.str p1), .d (.int .i64 p2), .d (.int .i64 r2.2.1.Epoch)] [] [] fun r5 =>
 cond (!r5) (
 (rB false)) (
 γ29 [.d (.sl aA.ks (List.map aA.enc p0)), .d (.sl aA.ks (List.map aA.enc r2.1))] [] [] fun r6 =>
 γ28 [.d (.sl aA.ks (List.map aA.enc r6)), .d (.sl aA.ks (List.map aA.enc r2.1))] [] [] fun r7 =>
 cond (!r7) (
 (rB false)) (
 γ29 [.d (.sl aA.ks (List.map aA.enc r2.1)), .d (.sl aA.ks (List.map aA.enc p0))] [] [] fun r8 =>
 γ28 [.d (.sl aA.ks (List.map aA.enc r8)), .d (.sl aA.ks (List.map aA.enc r2.1))] [] [] fun r9 =>
 cond (!r9) (
 (rB false)) (
 avw (C10 Γ γ14 γ12 γ26 γ15 γ29 γ28 γ31) Λ2 J (List.map aA.enc p0) p1 (aA.enc r2.2.1) (List.map aA.enc r2.1))))))))) := by kernel_rfl
theorem axg (x1 : Str) (x10 : Int) (x75 : List aA) (x76 x77 : Int) (b0 : aA) (w3007 : List aA) : bS SE (C10 Γ γ14 γ12 γ26 γ15 γ29 γ28 γ31) Λ2 J 10 0 [1, 1, 1, 1, 1, 1, 0, 1, 0] (aU [(1, .d (.str x1)), (7, .row 3007), (8, .ptr 1000000000 0), (10, .d (.int .i64 x10)), (75, .d (.sl aA.ks (List.map aA.enc x75))), (76, .d (.int .i64 x76)), (77, .d (.int .i64 x77))] [⟨24, (List.map AV.d (aA.enc b0))⟩] [] [] [(3007, ⟨aA.ks, 24, 32, (List.map aA.enc w3007)⟩)]) =
 cond (decide (x77 < x76)) (
 cond (iB x77 (lM aA.enc x75 : Int)) (
  cond (!((bL (cE aA.enc x75 x77 0)) == x1)) (
  γ31 [.d (.sl aA.ks (List.map aA.enc w3007)), .agg [.d (.str (bL (cE aA.enc x75 x77 0))), .d (.int .i64 (aW (cE aA.enc x75 x77 1))), .d (.int .i64 (aW (cE aA.enc x75 x77 2)))]] [] [] fun r10 =>
  cond (!r10) (
   (rB false)) (
  akS (C10 Γ γ14 γ12 γ26 γ15 γ29 γ28 γ31) Λ2 J x1 (w6 (x10 - 1)) (List.map aA.enc x75) x76 (w6 (x77 + 1)) (aA.enc b0) (List.map aA.enc w3007))) (
  cond (decide ((aW (cE aA.enc x75 x77 2)) ≥ b0.Epoch)) (
  (rB false)) (
  γ15 [.d (.sl aA.ks (List.map aA.enc w3007)), .d (.str x1), .d (.int .i64 (aW (cE aA.enc x75 x77 1))), .d (.int .i64 (aW (cE aA.enc x75 x77 2)))] [] [] fun r11 =>
  cond r11 (
  (rB false)) (
  akS (C10 Γ γ14 γ12 γ26 γ15 γ29 γ28 γ31) Λ2 J x1 x10 (List.map aA.enc x75) x76 (w6 (x77 + 1)) (aA.enc b0) (List.map aA.enc w3007))))) none) (
 cond (x10 == 1) (
 γ12 [] [] [] fun r12 =>
 (rB r12)) (
 (rB false))) := by kernel_rfl
theorem aCo (x0 : List aA) (x1 : Str) (b0 : aA) (w3007 : List aA) : bS SE (C10 Γ γ14 γ12 γ26 γ15 γ29 γ28 γ31) Λ2 J 10 0 [1, 1, 1, 1, 1, 0] (aU [(0, .d (.sl aA.ks (List.map aA.enc x0))), (1, .d (.str x1)), (7, .row 3007), (8, .ptr 1000000000 0)] [⟨24, (List.map AV.d (aA.enc b0))⟩] [] [] [(3007, ⟨aA.ks, 24, 32, (List.map aA.enc w3007)⟩)]) =
 akS (C10 Γ γ14 γ12 γ26 γ15 γ29 γ28 γ31) Λ2 J x1 (lM aA.enc w3007 : Int) (List.map aA.enc x0) (lM aA.enc x0 : Int) 0 (aA.enc b0) (List.map aA.enc w3007) := by kernel_rfl
end
abbrev X10 : aN := C10 gG (cT 14 brokerref43_Check_out) (cT 12 brokerref01_lower_out) (cT 26 cY) (cT 15 brokerref01_lower_out) (cT 29 aT) (cT 28 brokerref01_lower_out) (cT 31 brokerref01_lower_out)
theorem atO : X10 = aR gG := by unfold X10 C10; repeat rw [bD fun _ h => h]
abbrev aye := akS X10 (bR SE gG (SE.hl 10) (SE.hr 10)) (J0 SE X10)
abbrev aCE := avw X10 (bR SE gG (SE.hl 10) (SE.hr 10)) (J0 SE X10)
theorem aaa : ∀ (fu : Nat) (x1 : Str) (x10 : Int) (x75 : List aA) (x76 x77 : Int) (b0 : aA) (w3007 : List aA), Le (Option.map brokerref01_lower_out (dJ fu x1 x10 x75 x76 x77 b0 w3007)) (aye x1 x10 (List.map aA.enc x75) x76 x77 (aA.enc b0) (List.map aA.enc w3007)) := by
 intro fu
 induction fu with
 | zero => intros; exact le_none
 | succ fu ih =>
  intro x1 x10 x75 x76 x77 b0 w3007
  refine Le.trans ?_ (le_of_eq ((aX atO).trans (axg ..)).symm)
  unfold dJ
  refine lC ?_ ?_
  ·refine lG (by simp only [EN]) ?_
   refine lD (by simp only [EN]) ?_ ?_
   ·refine lQ eX brokerref01_lower_inj (by (try simp only [EN]); exact fU w3007 (List.getD x75 (Int.toNat x77) default)) fun r10 _ => ?_
    refine lC ?_ ?_
    ·exact aJ rfl
    ·exact ih x1 (w6 (x10 - 1)) x75 x76 (w6 (x77 + 1)) b0 w3007
   ·refine lD (by simp only [EN]) ?_ ?_
    ·exact aJ rfl
    ·refine lQ eX brokerref01_lower_inj (by (try simp only [EN]); exact rE w3007 x1 ((List.getD x75 (Int.toNat x77) default).Node) ((List.getD x75 (Int.toNat x77) default).Epoch)) fun r11 _ => ?_
     refine lC ?_ ?_
     ·exact aJ rfl
     ·exact ih x1 x10 x75 x76 (w6 (x77 + 1)) b0 w3007
  ·refine lC ?_ ?_
   ·refine lQ eX brokerref01_lower_inj (bI) fun r12 _ => ?_
    exact aJ rfl
   ·exact aJ rfl
theorem aap (x0 : List aA) (x1 : Str) (b0 : aA) (w3007 : List aA) : Le (Option.map brokerref01_lower_out (kP x0 x1 b0 w3007)) (aCE (List.map aA.enc x0) x1 (aA.enc b0) (List.map aA.enc w3007)) := by
 refine Le.trans ?_ (le_of_eq ((aX atO).trans (aCo ..)).symm)
 unfold kP
 (try simp only [EN]); exact aaa fuel x1 (List.length w3007 : Int) x0 (List.length x0 : Int) 0 b0 w3007
theorem abV (p0 : List aA) (p1 : Str) (p2 : Int) : Le (Option.map brokerref01_lower_out (mF p0 p1 p2)) (bF SE 10 [.d (.sl aA.ks (List.map aA.enc p0)), .d (.str p1), .d (.int .i64 p2)] [] []) := by
 refine aV atO rfl ?_
 refine Le.trans ?_ (le_of_eq (T10 ..).symm)
 unfold mF
 refine lQ eX brokerref43_Check_inj (eS _) fun r0 _ => ?_
 refine lC ?_ ?_
 ·refine lQ eX brokerref01_lower_inj (bI) fun r1 _ => ?_
  exact aJ rfl
 ·refine lQ eX pI (uA _ _ _) fun r2 _ => ?_
  refine lC ?_ ?_
  ·refine lD (by simp only [EN]) ?_ ?_
   ·refine lQ eX brokerref01_lower_inj (bI) fun r3 _ => ?_
    exact aJ rfl
   ·exact aJ rfl
  ·refine lQ eX brokerref43_Check_inj (eS _) fun r4 _ => ?_
   refine lC ?_ ?_
   ·exact aJ rfl
   ·refine lC ?_ ?_
    ·exact aJ rfl
    ·refine lC ?_ ?_
     ·exact aJ rfl
     ·refine lQ eX brokerref01_lower_inj (rE _ _ _ _) fun r5 _ => ?_
      refine lC ?_ ?_
      ·exact aJ rfl
      ·refine lQ eX bM (hJ _ _) fun r6 _ => ?_
       refine lQ eX brokerref01_lower_inj (dF _ _) fun r7 _ => ?_
       refine lC ?_ ?_
       ·exact aJ rfl
       ·refine lQ eX bM (hJ _ _) fun r8 _ => ?_
        refine lQ eX brokerref01_lower_inj (dF _ _) fun r9 _ => ?_
        refine lC ?_ ?_
        ·exact aJ rfl
        ·exact aap p0 p1 r2.2.1 r2.1
end Te
end PX
