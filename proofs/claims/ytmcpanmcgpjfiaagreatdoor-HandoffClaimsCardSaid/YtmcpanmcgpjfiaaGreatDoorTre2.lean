import Derived.Test.YtmcpanmcgpjfiaaGreatDoorTre1
set_option linter.unusedVariables false
set_option linter.unusedSimpArgs false
set_option maxRecDepth 100000
noncomputable section
namespace PX
open Go
open Md
namespace Te
def asa (C : aN) (Λ2 J : Lam) : Res := lab SE C Λ2 J 12 0 [1, 1, 1, 1, 0] (aU [] [] [] [] [])
section
variable (Γ : Fun) (γ26 : Gm ((List aA) × aA × Int)) (γ15 : Gm (Bool)) (γ13 : Gm (Int)) (γ29 : Gm ((List aA))) (γ18 : Gm ((List Int) × Int)) (γ21 : Gm (aJ × Int)) (γ20 : Gm (Bool)) (Λ2 J : Lam)
def C12 : aN := aZ (aZ (aZ (aZ (aZ (aZ (aZ (aQ Γ) 26 cU γ26) 15 brokerref01_lower_out γ15) 13 brokerref43_Check_out γ13) 29 aS γ29) 18 c8 γ18) 21 dJ γ21) 20 brokerref01_lower_out γ20
theorem T12 : bF SE (C12 Γ γ26 γ15 γ13 γ29 γ18 γ21 γ20) Λ2 J 12 [] [] [] =
 γ26 [.d (.sl aA.ks (List.map aA.enc [])), .d (.str ([99, 49] : Str)), .d (.int .i64 2)] [] [] fun r0 =>
 γ26 [.d (.sl aA.ks (List.map aA.enc r0.1)), .d (.str ([99, 49] : Str)), .d (.int .i64 0)] [] [] fun r1 =>
 cond (r0.2.2 != 0) (
 (rB false)) (
 cond (r1.2.2 != 0) (
 (rB false)) (
 cond (!((r0.2.1.Client == ([99, 49] : Str)) && ((r0.2.1.Node == 2) && ((r0.2.1.Epoch == 1) && true)))) (
 (rB false)) (
 cond (r1.2.1.Epoch != 2) (
 (rB false)) (
 γ15 [.d (.sl aA.ks (List.map aA.enc r1.1)), .d (.str ([99, 49] : Str)), .d (.int .i64 2), .d (.int .i64 1)] [] [] fun r2 =>
 cond r2 (
 (rB false)) (
 γ15 [.d (.sl aA.ks (List.map aA.enc r1.1)), .d (.str ([99, 49] : Str)), .d (.int .i64 0), .d (.int .i64 2)] [] [] fun r3 =>
 cond (!r3) (
 (rB false)) (
 γ13 [.d (.sl aA.ks (List.map aA.enc r1.1))] [] [] fun r4 =>
 cond (r4 != 0) (
 (rB false)) (
 asa (C12 Γ γ26 γ15 γ13 γ29 γ18 γ21 γ20) Λ2 J))))))) := by kernel_rfl
theorem ayI : bR SE (C12 Γ γ26 γ15 γ13 γ29 γ18 γ21 γ20) Λ2 J 12 0 [1, 1, 1, 1, 0] (aU [] [] [] [] []) =
 γ29 [.d (.sl aA.ks (List.map aA.enc [(aA.mk ([99, 49] : Str) 2 3)])), .d (.sl aA.ks (List.map aA.enc [(aA.mk ([99, 49] : Str) 1 3)]))] [] [] fun r5 =>
 γ18 [.agg [.d (.str ([99] : Str)), .d (.str []), .d (.bool false), .d (.int .i64 0), .d (.int .i64 5), .d (.int .i64 9), .d (.int .i64 0), .d (.sl aK.ks (List.map aK.enc [])), .d (.sl aC.ks (List.map aC.enc [])), .d (.int .i64 1), .d (.sl aE.ks (List.map aE.enc [])), .d (.sl [.int .i64] (List.map eI [])), .d (.int .i64 0), .d (.sl [.int .i64] (List.map eI [])), .d (.bool false), .d (.int .i64 0), .d (.str []), .d (.str []), .d (.int .i64 0), .d (.bool false), .d (.int .i64 0), .d (.int .i64 0), .d (.str []), .d (.int .i64 0), .d (.sl aG.ks (List.map aG.enc []))]] [] [] fun r6 =>
 γ21 [.d (.sl [.int .u8] (List.map (encI .u8) r6.1))] [] [] fun r7 =>
 γ18 [.agg [.d (.str ([99] : Str)), .d (.str []), .d (.bool true), .d (.int .i64 0), .d (.int .i64 5), .d (.int .i64 0), .d (.int .i64 0), .d (.sl aK.ks (List.map aK.enc [])), .d (.sl aC.ks (List.map aC.enc [])), .d (.int .i64 1), .d (.sl aE.ks (List.map aE.enc [])), .d (.sl [.int .i64] (List.map eI [])), .d (.int .i64 0), .d (.sl [.int .i64] (List.map eI [])), .d (.bool false), .d (.int .i64 0), .d (.str []), .d (.str []), .d (.int .i64 0), .d (.bool false), .d (.int .i64 0), .d (.int .i64 0), .d (.str []), .d (.int .i64 0), .d (.sl aG.ks (List.map aG.enc []))]] [] [] fun r8 =>
 cond ((lM aA.enc r5 : Int) == 1) (
 cond (decide (0 ≤ 0) && decide (0 < (lM aA.enc r5 : Int))) (
  cond ((aW (cE aA.enc r5 0 1)) == 1) (
  cond (r6.2 == 0) (
   cond (r7.2 == 0) (
   cond (r8.2 == 9) (
    γ20 [.d (.sl [.int .u8] (List.map (encI .u8) r6.1)), .d (.sl [.int .u8] (List.map (encI .u8) [2, 99, 0, 10, 18, 0, 0, 0, 2, 0, 0, 0, 0, 0]))] [] [] fun r9 =>
    cond r9 (
    cond (r7.1.Client == ([99] : Str)) (
     cond (r7.1.Until == 9) (
     (rB (!r7.1.Online))) (
     (rB false))) (
    (rB false))) (
    (rB false))) (
   (rB false))) (
   (rB false))) (
  (rB false))) (
  (rB false))) none) (
 (rB false)) := by kernel_rfl
end
abbrev X12 : aN := C12 gG (cT 26 cU) (cT 15 brokerref01_lower_out) (cT 13 brokerref43_Check_out) (cT 29 aS) (cT 18 c8) (cT 21 dJ) (cT 20 brokerref01_lower_out)
theorem atQ : X12 = aQ gG := by unfold X12 C12; repeat rw [bB fun _ h => h]
abbrev ay3 := asa X12 (bQ SE gG (SE.hl 12) (SE.hr 12)) (J0 SE X12)
theorem xT : Le (Option.map brokerref01_lower_out (mN)) (ay3) := by
 refine Le.trans ?_ (le_of_eq ((aX atQ).trans (ayI _ _ _ _ _ _ _ _ _ _ )).symm)
 unfold mN
 refine lQ eX bL (fS _ _) fun r5 _ => ?_
 refine lQ eX iS (by (try simp only [EN]); exact kU ((aJ.mk ([99] : Str) [] false 0 5 9 0 [] [] (aM.mk 1 [] (bC.mk [] 0)) (bM.mk []) (bO.mk false 0 (aC.mk [] [] 0 false 0 0 [] 0 []))))) fun r6 _ => ?_
 refine lQ eX j0 (kR _) fun r7 _ => ?_
 refine lQ eX iS (by (try simp only [EN]); exact kU ((aJ.mk ([99] : Str) [] true 0 5 0 0 [] [] (aM.mk 1 [] (bC.mk [] 0)) (bM.mk []) (bO.mk false 0 (aC.mk [] [] 0 false 0 0 [] 0 []))))) fun r8 _ => ?_
 refine lD (by simp only [EN]) ?_ ?_
 ·refine lG (by simp only [EN]) ?_
  refine lD (by simp only [EN]) ?_ ?_
  ·refine lC ?_ ?_
   ·refine lC ?_ ?_
    ·refine lC ?_ ?_
     ·refine lQ eX brokerref01_lower_inj (pI _ _) fun r9 _ => ?_
      refine lC ?_ ?_
      ·refine lC ?_ ?_
       ·refine lC ?_ ?_
        ·exact aI rfl
        ·exact aI rfl
       ·exact aI rfl
      ·exact aI rfl
     ·exact aI rfl
    ·exact aI rfl
   ·exact aI rfl
  ·exact aI rfl
 ·exact aI rfl
theorem bH : Le (Option.map brokerref01_lower_out (bI)) (bD SE 12 [] [] []) := by
 refine aV atQ rfl ?_
 refine Le.trans ?_ (le_of_eq (T12 _ _ _ _ _ _ _ _ _ _ ).symm)
 unfold bI
 refine lQ eX n4 (by (try simp only [EN]); exact sL [] ([99, 49] : Str) 2) fun r0 _ => ?_
 refine lQ eX n4 (sL _ _ _) fun r1 _ => ?_
 refine lC ?_ ?_
 ·exact aI rfl
 ·refine lC ?_ ?_
  ·exact aI rfl
  ·refine lC ?_ ?_
   ·exact aI rfl
   ·refine lC ?_ ?_
    ·exact aI rfl
    ·refine lQ eX brokerref01_lower_inj (oP _ _ _ _) fun r2 _ => ?_
     refine lC ?_ ?_
     ·exact aI rfl
     ·refine lQ eX brokerref01_lower_inj (oP _ _ _ _) fun r3 _ => ?_
      refine lC ?_ ?_
      ·exact aI rfl
      ·refine lQ eX brokerref43_Check_inj (ab5 _) fun r4 _ => ?_
       refine lC ?_ ?_
       ·exact aI rfl
       ·exact xT
def an5 (C : aN) (Λ2 J : Lam) (a0 : Str) (a1 : List (List D)) (a2 a3 : Int) (a4 : List D) : Res := lab SE C Λ2 J 81 0 [1, 0, 1, 0] (aU [(1, .d (.str a0)), (4, .ptr 1000000000 0), (8, .d (.sl aA.ks a1)), (9, .d (.int .i64 a2)), (10, .d (.int .i64 a3))] [⟨24, (List.map AV.d a4)⟩] [] [] [])
section
variable (Γ : Fun)  (Λ2 J : Lam)
def C81 : aN := aQ Γ
theorem T81 (p0 : List aA) (p1 : Str) : bF SE (C81 Γ) Λ2 J 81 [.d (.sl aA.ks (List.map aA.enc p0)), .d (.str p1)] [] [] =
 an5 (C81 Γ) Λ2 J p1 (List.map aA.enc p0) (lM aA.enc p0 : Int) 0 (aA.enc (aA.mk [] 0 0)) := by kernel_rfl
theorem azo (x1 : Str) (x8 : List aA) (x9 x10 : Int) (b0 : aA) : bR SE (C81 Γ) Λ2 J 81 0 [1, 0, 1, 0] (aU [(1, .d (.str x1)), (4, .ptr 1000000000 0), (8, .d (.sl aA.ks (List.map aA.enc x8))), (9, .d (.int .i64 x9)), (10, .d (.int .i64 x10))] [⟨24, (List.map AV.d (aA.enc b0))⟩] [] [] []) =
 cond (decide (x10 < x9)) (
 cond (iB x10 (lM aA.enc x8 : Int)) (
  cond ((bK (cE aA.enc x8 x10 0)) == x1) (
  (some (.ret [.agg [.d (.str (bK (cE aA.enc x8 x10 0))), .d (.int .i64 (aW (cE aA.enc x8 x10 1))), .d (.int .i64 (aW (cE aA.enc x8 x10 2)))], .d (.bool true)] [] []))) (
  an5 (C81 Γ) Λ2 J x1 (List.map aA.enc x8) x9 (w6 (x10 + 1)) (aA.enc b0))) none) (
 (some (.ret [aA.av (aA.mk [] 0 0), .d (.bool false)] [] []))) := by kernel_rfl
end
abbrev X81 : aN := C81 gG
theorem avc : X81 = aQ gG := rfl
abbrev axO := an5 X81 (bQ SE gG (SE.hl 81) (SE.hr 81)) (J0 SE X81)
theorem ado : ∀ (fu : Nat) (x1 : Str) (x8 : List aA) (x9 x10 : Int) (b0 : aA), Le (Option.map eB (pG fu x1 x8 x9 x10 b0)) (axO x1 (List.map aA.enc x8) x9 x10 (aA.enc b0)) := by
 intro fu
 induction fu with
 | zero => intros; exact le_none
 | succ fu ih =>
  intro x1 x8 x9 x10 b0
  refine Le.trans ?_ (le_of_eq ((aX avc).trans (azo ..)).symm)
  unfold pG
  refine lC ?_ ?_
  ·refine lG (by simp only [EN]) ?_
   refine lD (by simp only [EN]) ?_ ?_
   ·exact aI (by first | rfl | simp only [EN, eB] <;> rfl)
   ·exact ih x1 x8 x9 (w6 (x10 + 1)) b0
  ·exact aI rfl
theorem zC (p0 : List aA) (p1 : Str) : Le (Option.map eB (sI p0 p1)) (bD SE 81 [.d (.sl aA.ks (List.map aA.enc p0)), .d (.str p1)] [] []) := by
 refine aV avc rfl ?_
 refine Le.trans ?_ (le_of_eq (T81 ..).symm)
 unfold sI
 (try simp only [EN]); exact ado fuel p1 p0 (List.length p0 : Int) 0 (aA.mk [] 0 0)
def ai3 (C : aN) (Λ2 J : Lam) (a0 : List (List D)) (a1 a2 : Int) (a3 : List D) (a4 : List (List D)) : Res := lab SE C Λ2 J 82 0 [1, 1, 1, 1, 0, 1, 0] (aU [(3, .ptr 1000000000 0), (5, .row 3005), (30, .d (.sl aA.ks a0)), (31, .d (.int .i64 a1)), (32, .d (.int .i64 a2))] [⟨24, (List.map AV.d a3)⟩] [] [] [(3005, ⟨aA.ks, 24, 32, a4⟩)])
def ak5 (C : aN) (Λ2 J : Lam) (a0 a1 : List (List D)) (a2 a3 : Int) (a4 : List D) (a5 : List (List D)) : Res := lab SE C Λ2 J 82 0 [1, 1, 0, 1, 0] (aU [(0, .d (.sl aA.ks a0)), (3, .ptr 1000000000 0), (5, .row 3005), (10, .d (.sl aA.ks a1)), (11, .d (.int .i64 a2)), (12, .d (.int .i64 a3))] [⟨24, (List.map AV.d a4)⟩] [] [] [(3005, ⟨aA.ks, 24, 32, a5⟩)])
section
variable (Γ : Fun)  (Λ2 J : Lam)
def C82 : aN := aQ Γ
theorem T82 (p0 : List aA) (p1 : aA) : bF SE (C82 Γ) Λ2 J 82 [.d (.sl aA.ks (List.map aA.enc p0)), aA.av p1] [] [] =
 ak5 (C82 Γ) Λ2 J (List.map aA.enc p0) (List.map aA.enc p0) (lM aA.enc p0 : Int) 0 (aA.enc p1) (List.map aA.enc []) := by kernel_rfl
theorem at6 (x30 : List aA) (x31 x32 : Int) (b0 : aA) (w3005 : List aA) : bR SE (C82 Γ) Λ2 J 82 0 [1, 1, 1, 1, 0, 1, 0] (aU [(3, .ptr 1000000000 0), (5, .row 3005), (30, .d (.sl aA.ks (List.map aA.enc x30))), (31, .d (.int .i64 x31)), (32, .d (.int .i64 x32))] [⟨24, (List.map AV.d (aA.enc b0))⟩] [] [] [(3005, ⟨aA.ks, 24, 32, (List.map aA.enc w3005)⟩)]) =
 cond (decide (x32 < x31)) (
 cond (iB x32 (lM aA.enc x30 : Int)) (
  cond (!(Op.bytesLess (bK (cE aA.enc x30 x32 0)) b0.Client || (bK (cE aA.enc x30 x32 0)) == b0.Client)) (
  cond (decide ((lM aA.enc w3005 + List.length [[D.str (bK (cE aA.enc x30 x32 0)), D.int .i64 (aW (cE aA.enc x30 x32 1)), D.int .i64 (aW (cE aA.enc x30 x32 2))]]) * 32 ≤ 140737488355328)) (
   ai3 (C82 Γ) Λ2 J (List.map aA.enc x30) x31 (w6 (x32 + 1)) (aA.enc b0) (((List.map aA.enc w3005) ++ [[D.str (bK (cE aA.enc x30 x32 0)), D.int .i64 (aW (cE aA.enc x30 x32 1)), D.int .i64 (aW (cE aA.enc x30 x32 2))]]))) none) (
  ai3 (C82 Γ) Λ2 J (List.map aA.enc x30) x31 (w6 (x32 + 1)) (aA.enc b0) (List.map aA.enc w3005))) none) (
 (some (.ret [.row 0] [] [⟨aA.ks, 24, 32, (List.map aA.enc w3005)⟩]))) := by kernel_rfl
theorem ayD (x0 x10 : List aA) (x11 x12 : Int) (b0 : aA) (w3005 : List aA) : bR SE (C82 Γ) Λ2 J 82 0 [1, 1, 0, 1, 0] (aU [(0, .d (.sl aA.ks (List.map aA.enc x0))), (3, .ptr 1000000000 0), (5, .row 3005), (10, .d (.sl aA.ks (List.map aA.enc x10))), (11, .d (.int .i64 x11)), (12, .d (.int .i64 x12))] [⟨24, (List.map AV.d (aA.enc b0))⟩] [] [] [(3005, ⟨aA.ks, 24, 32, (List.map aA.enc w3005)⟩)]) =
 cond (decide (x12 < x11)) (
 cond (iB x12 (lM aA.enc x10 : Int)) (
  cond (Op.bytesLess (bK (cE aA.enc x10 x12 0)) b0.Client) (
  cond (decide ((lM aA.enc w3005 + List.length [[D.str (bK (cE aA.enc x10 x12 0)), D.int .i64 (aW (cE aA.enc x10 x12 1)), D.int .i64 (aW (cE aA.enc x10 x12 2))]]) * 32 ≤ 140737488355328)) (
   ak5 (C82 Γ) Λ2 J (List.map aA.enc x0) (List.map aA.enc x10) x11 (w6 (x12 + 1)) (aA.enc b0) (((List.map aA.enc w3005) ++ [[D.str (bK (cE aA.enc x10 x12 0)), D.int .i64 (aW (cE aA.enc x10 x12 1)), D.int .i64 (aW (cE aA.enc x10 x12 2))]]))) none) (
  ak5 (C82 Γ) Λ2 J (List.map aA.enc x0) (List.map aA.enc x10) x11 (w6 (x12 + 1)) (aA.enc b0) (List.map aA.enc w3005))) none) (
 cond (decide ((lM aA.enc w3005 + lM aA.enc [b0]) * 32 ≤ 140737488355328)) (
 ai3 (C82 Γ) Λ2 J (List.map aA.enc x0) (lM aA.enc x0 : Int) 0 (aA.enc b0) (((List.map aA.enc w3005) ++ (List.map aA.enc [b0])))) none) := by kernel_rfl
end
abbrev X82 : aN := C82 gG
theorem arW : X82 = aQ gG := rfl
abbrev axl := ai3 X82 (bQ SE gG (SE.hl 82) (SE.hr 82)) (J0 SE X82)
abbrev ay4 := ak5 X82 (bQ SE gG (SE.hl 82) (SE.hr 82)) (J0 SE X82)
theorem acS : ∀ (fu : Nat) (x30 : List aA) (x31 x32 : Int) (b0 : aA) (w3005 : List aA), Le (Option.map aS (lH fu x30 x31 x32 b0 w3005)) (axl (List.map aA.enc x30) x31 x32 (aA.enc b0) (List.map aA.enc w3005)) := by
 intro fu
 induction fu with
 | zero => intros; exact le_none
 | succ fu ih =>
  intro x30 x31 x32 b0 w3005
  refine Le.trans ?_ (le_of_eq ((aX arW).trans (at6 ..)).symm)
  unfold lH
  refine lC ?_ ?_
  ·refine lG (by simp only [EN]) ?_
   refine lD (by simp only [EN]) ?_ ?_
   ·refine lG (by simp only [EN]) ?_
    (try simp only [EN]); exact ih x30 x31 (w6 (x32 + 1)) b0 (w3005 ++ [(List.getD x30 (Int.toNat x32) default)])
   ·exact ih x30 x31 (w6 (x32 + 1)) b0 w3005
  ·exact aI rfl
theorem ad7 : ∀ (fu : Nat) (x0 x10 : List aA) (x11 x12 : Int) (b0 : aA) (w3005 : List aA), Le (Option.map aS (mU fu x0 x10 x11 x12 b0 w3005)) (ay4 (List.map aA.enc x0) (List.map aA.enc x10) x11 x12 (aA.enc b0) (List.map aA.enc w3005)) := by
 intro fu
 induction fu with
 | zero => intros; exact le_none
 | succ fu ih =>
  intro x0 x10 x11 x12 b0 w3005
  refine Le.trans ?_ (le_of_eq ((aX arW).trans (ayD ..)).symm)
  unfold mU
  refine lC ?_ ?_
  ·refine lG (by simp only [EN]) ?_
   refine lD (by simp only [EN]) ?_ ?_
   ·refine lG (by simp only [EN]) ?_
    (try simp only [EN]); exact ih x0 x10 x11 (w6 (x12 + 1)) b0 (w3005 ++ [(List.getD x10 (Int.toNat x12) default)])
   ·exact ih x0 x10 x11 (w6 (x12 + 1)) b0 w3005
  ·refine lG (by simp only [EN]) ?_
   (try simp only [EN]); exact acS fuel x0 (List.length x0 : Int) 0 b0 (w3005 ++ [b0])
theorem pZ (p0 : List aA) (p1 : aA) : Le (Option.map aS (nB p0 p1)) (bD SE 82 [.d (.sl aA.ks (List.map aA.enc p0)), aA.av p1] [] []) := by
 refine aV arW rfl ?_
 refine Le.trans ?_ (le_of_eq (T82 ..).symm)
 unfold nB
 (try simp only [EN]); exact ad7 fuel p0 p0 (List.length p0 : Int) 0 p1 []
def aoL (C : aN) (Λ2 J : Lam) (a0 : List (List D)) (a1 : Str) (a2 : Int) (a3 a4 : List D) : Res := lab SE C Λ2 J 27 0 [1, 1, 1, 1, 1, 0] (aU [(0, .d (.sl aA.ks a0)), (1, .d (.str a1)), (2, .d (.int .i64 a2)), (7, .ptr 1000000000 0), (9, .ptr 1000000001 0)] [⟨24, (List.map AV.d a3)⟩, ⟨24, (List.map AV.d a4)⟩] [] [] [])
section
variable (Γ : Fun) (γ33 γ34 : Gm (Bool)) (γ81 : Gm (aA × Bool)) (γ82 : Gm ((List aA))) (Λ2 J : Lam)
def C27 : aN := aZ (aZ (aZ (aZ (aQ Γ) 33 brokerref01_lower_out γ33) 34 brokerref01_lower_out γ34) 81 eB γ81) 82 aS γ82
theorem T27 (p0 : List aA) (p1 : Str) (p2 : Int) : bF SE (C27 Γ γ33 γ34 γ81 γ82) Λ2 J 27 [.d (.sl aA.ks (List.map aA.enc p0)), .d (.str p1), .d (.int .i64 p2)] [] [] =
 γ33 [.d (.str p1)] [] [] fun r0 =>
 cond (!r0) (
 (some (.ret [.row 0, aA.av (aA.mk [] 0 0), .d (.int .i64 11)] [] [⟨aA.ks, 24, 32, []⟩]))) (
 γ34 [.d (.int .i64 p2), .d (.int .i64 0), .d (.int .i64 6)] [] [] fun r1 =>
 cond (!r1) (
 (some (.ret [.row 0, aA.av (aA.mk [] 0 0), .d (.int .i64 1)] [] [⟨aA.ks, 24, 32, []⟩]))) (
 γ81 [.d (.sl aA.ks (List.map aA.enc p0)), .d (.str p1)] [] [] fun r2 =>
 cond (decide (r2.1.Epoch ≥ 1099511627776)) (
 (some (.ret [.row 0, aA.av (aA.mk [] 0 0), .d (.int .i64 6)] [] [⟨aA.ks, 24, 32, []⟩]))) (
 cond (!r2.2) (
 cond (decide ((lM aA.enc p0 : Int) ≥ 32)) (
  (some (.ret [.row 0, aA.av (aA.mk [] 0 0), .d (.int .i64 6)] [] [⟨aA.ks, 24, 32, []⟩]))) (
 aoL (C27 Γ γ33 γ34 γ81 γ82) Λ2 J (List.map aA.enc p0) p1 p2 (aA.enc (aA.mk [] 0 0)) (aA.enc r2.1))) (
 aoL (C27 Γ γ33 γ34 γ81 γ82) Λ2 J (List.map aA.enc p0) p1 p2 (aA.enc (aA.mk [] 0 0)) (aA.enc r2.1))))) := by kernel_rfl
theorem azy (x0 : List aA) (x1 : Str) (x2 : Int) (b0 b1 : aA) : bR SE (C27 Γ γ33 γ34 γ81 γ82) Λ2 J 27 0 [1, 1, 1, 1, 1, 0] (aU [(0, .d (.sl aA.ks (List.map aA.enc x0))), (1, .d (.str x1)), (2, .d (.int .i64 x2)), (7, .ptr 1000000000 0), (9, .ptr 1000000001 0)] [⟨24, (List.map AV.d (aA.enc b0))⟩, ⟨24, (List.map AV.d (aA.enc b1))⟩] [] [] []) =
 γ82 [.d (.sl aA.ks (List.map aA.enc x0)), aA.av (aA.mk x1 x2 (w6 (b1.Epoch + 1)))] [] [] fun r3 =>
 (some (.ret [.row 0, aA.av (aA.mk x1 x2 (w6 (b1.Epoch + 1))), .d (.int .i64 0)] [] [⟨aA.ks, 24, 32, (List.map aA.enc r3)⟩])) := by kernel_rfl
end
abbrev X27 : aN := C27 gG (cT 33 brokerref01_lower_out) (cT 34 brokerref01_lower_out) (cT 81 eB) (cT 82 aS)
theorem axb : X27 = aQ gG := by unfold X27 C27; repeat rw [bB fun _ h => h]
abbrev azx := aoL X27 (bQ SE gG (SE.hl 27) (SE.hr 27)) (J0 SE X27)
theorem vU (x0 : List aA) (x1 : Str) (x2 : Int) (b0 b1 : aA) : Le (Option.map cU (n6 x0 x1 x2 b0 b1)) (azx (List.map aA.enc x0) x1 x2 (aA.enc b0) (aA.enc b1)) := by
 refine Le.trans ?_ (le_of_eq ((aX axb).trans (azy ..)).symm)
 unfold n6
 refine lQ eX bL (pZ _ _) fun r3 _ => ?_
 exact aI rfl
theorem aeN (p0 : List aA) (p1 : Str) (p2 : Int) : Le (Option.map cU (v5 p0 p1 p2)) (bD SE 27 [.d (.sl aA.ks (List.map aA.enc p0)), .d (.str p1), .d (.int .i64 p2)] [] []) := by
 refine aV axb rfl ?_
 refine Le.trans ?_ (le_of_eq (T27 ..).symm)
 unfold v5
 refine lQ eX brokerref01_lower_inj (jO _) fun r0 _ => ?_
 refine lC ?_ ?_
 ·exact aI rfl
 ·refine lQ eX brokerref01_lower_inj (vW _ _ _) fun r1 _ => ?_
  refine lC ?_ ?_
  ·exact aI rfl
  ·refine lQ eX y7 (zC _ _) fun r2 _ => ?_
   refine lC ?_ ?_
   ·exact aI rfl
   ·refine lC ?_ ?_
    ·refine lD (by simp only [EN]) ?_ ?_
     ·exact aI rfl
     ·exact vU p0 p1 p2 (aA.mk [] 0 0) r2.1
    ·exact vU p0 p1 p2 (aA.mk [] 0 0) r2.1
def aoI (C : aN) (Λ2 J : Lam) (a0 a1 : List (List D)) (a2 a3 : Int) : Res := lab SE C Λ2 J 28 0 [1, 1, 0, 1, 0] (aU [(0, .d (.sl aA.ks a0)), (1, .d (.sl aA.ks a1)), (12, .d (.int .i64 a2)), (13, .d (.int .i64 a3))] [] [] [] [])
section
variable (Γ : Fun)  (Λ2 J : Lam)
def C28 : aN := aQ Γ
theorem T28 (p0 p1 : List aA) : bF SE (C28 Γ) Λ2 J 28 [.d (.sl aA.ks (List.map aA.enc p0)), .d (.sl aA.ks (List.map aA.enc p1))] [] [] =
 cond ((lM aA.enc p0 : Int) != (lM aA.enc p1 : Int)) (
 (rB false)) (
 aoI (C28 Γ) Λ2 J (List.map aA.enc p0) (List.map aA.enc p1) (lM aA.enc p0 : Int) 0) := by kernel_rfl
theorem axI (x0 x1 : List aA) (x12 x13 : Int) : bR SE (C28 Γ) Λ2 J 28 0 [1, 1, 0, 1, 0] (aU [(0, .d (.sl aA.ks (List.map aA.enc x0))), (1, .d (.sl aA.ks (List.map aA.enc x1))), (12, .d (.int .i64 x12)), (13, .d (.int .i64 x13))] [] [] [] []) =
 cond (decide (x13 < x12)) (
 cond (iB x13 (lM aA.enc x0 : Int)) (
  cond (iB x13 (lM aA.enc x1 : Int)) (
  cond (!(((bK (cE aA.enc x0 x13 0)) == (bK (cE aA.enc x1 x13 0))) && (((aW (cE aA.enc x0 x13 1)) == (aW (cE aA.enc x1 x13 1))) && (((aW (cE aA.enc x0 x13 2)) == (aW (cE aA.enc x1 x13 2))) && true)))) (
   (rB false)) (
  aoI (C28 Γ) Λ2 J (List.map aA.enc x0) (List.map aA.enc x1) x12 (w6 (x13 + 1)))) none) none) (
 (rB true)) := by kernel_rfl
end
abbrev X28 : aN := C28 gG
theorem atY : X28 = aQ gG := rfl
abbrev azZ := aoI X28 (bQ SE gG (SE.hl 28) (SE.hr 28)) (J0 SE X28)
theorem sU : ∀ (fu : Nat) (x0 x1 : List aA) (x12 x13 : Int), Le (Option.map brokerref01_lower_out (fM fu x0 x1 x12 x13)) (azZ (List.map aA.enc x0) (List.map aA.enc x1) x12 x13) := by
 intro fu
 induction fu with
 | zero => intros; exact le_none
 | succ fu ih =>
  intro x0 x1 x12 x13
  refine Le.trans ?_ (le_of_eq ((aX atY).trans (axI ..)).symm)
  unfold fM
  refine lC ?_ ?_
  ·refine lG (by simp only [EN]) ?_
   refine lG (by simp only [EN]) ?_
   refine lD (by simp only [EN]) ?_ ?_
   ·exact aI rfl
   ·exact ih x0 x1 x12 (w6 (x13 + 1))
  ·exact aI rfl
theorem dA (p0 p1 : List aA) : Le (Option.map brokerref01_lower_out (cO p0 p1)) (bD SE 28 [.d (.sl aA.ks (List.map aA.enc p0)), .d (.sl aA.ks (List.map aA.enc p1))] [] []) := by
 refine aV atY rfl ?_
 refine Le.trans ?_ (le_of_eq (T28 ..).symm)
 unfold cO
 refine lD (by simp only [EN]) ?_ ?_
 ·exact aI rfl
 ·(try simp only [EN]); exact sU fuel p0 p1 (List.length p0 : Int) 0
def an6 (C : aN) (Λ2 J : Lam) (a0 a1 : List (List D)) (a2 a3 : Int) : Res := lab SE C Λ2 J 8 0 [1, 1, 0, 1, 0] (aU [(0, .d (.sl aA.ks a0)), (22, .d (.sl aA.ks a1)), (23, .d (.int .i64 a2)), (24, .d (.int .i64 a3))] [] [] [] [])
def auJ (C : aN) (Λ2 J : Lam) (a0 a1 : List (List D)) : Res := lab SE C Λ2 J 8 0 [1, 1, 0, 0] (aU [(0, .d (.sl aA.ks a0)), (1, .d (.sl aA.ks a1))] [] [] [] [])
section
variable (Γ : Fun) (γ14 : Gm (Int)) (γ12 : Gm (Bool)) (γ26 γ27 : Gm ((List aA) × aA × Int)) (γ28 : Gm (Bool)) (Λ2 J : Lam)
def C8 : aN := aZ (aZ (aZ (aZ (aZ (aQ Γ) 14 brokerref43_Check_out γ14) 12 brokerref01_lower_out γ12) 26 cU γ26) 27 cU γ27) 28 brokerref01_lower_out γ28
theorem T8 (p0 p1 : List aA) : bF SE (C8 Γ γ14 γ12 γ26 γ27 γ28) Λ2 J 8 [.d (.sl aA.ks (List.map aA.enc p0)), .d (.sl aA.ks (List.map aA.enc p1))] [] [] =
 γ14 [.d (.sl aA.ks (List.map aA.enc p0))] [] [] fun r0 =>
 cond (r0 != 0) (
 γ12 [] [] [] fun r1 =>
 (rB r1)) (
 cond (decide ((lM aA.enc p1 : Int) > 40)) (
 γ12 [] [] [] fun r2 =>
 (rB r2)) (
 auJ (C8 Γ γ14 γ12 γ26 γ27 γ28) Λ2 J (List.map aA.enc p0) (List.map aA.enc p1))) := by kernel_rfl
theorem aBu (x0 x22 : List aA) (x23 x24 : Int) : bR SE (C8 Γ γ14 γ12 γ26 γ27 γ28) Λ2 J 8 0 [1, 1, 0, 1, 0] (aU [(0, .d (.sl aA.ks (List.map aA.enc x0))), (22, .d (.sl aA.ks (List.map aA.enc x22))), (23, .d (.int .i64 x23)), (24, .d (.int .i64 x24))] [] [] [] []) =
 cond (decide (x24 < x23)) (
 cond (iB x24 (lM aA.enc x22 : Int)) (
  γ26 [.d (.sl aA.ks (List.map aA.enc x0)), .d (.str (bK (cE aA.enc x22 x24 0))), .d (.int .i64 (aW (cE aA.enc x22 x24 1)))] [] [] fun r3 =>
  γ27 [.d (.sl aA.ks (List.map aA.enc x0)), .d (.str (bK (cE aA.enc x22 x24 0))), .d (.int .i64 (aW (cE aA.enc x22 x24 1)))] [] [] fun r4 =>
  cond (r3.2.2 != r4.2.2) (
  (rB false)) (
  cond (!((r3.2.1.Client == r4.2.1.Client) && ((r3.2.1.Node == r4.2.1.Node) && ((r3.2.1.Epoch == r4.2.1.Epoch) && true)))) (
  (rB false)) (
  γ28 [.d (.sl aA.ks (List.map aA.enc r3.1)), .d (.sl aA.ks (List.map aA.enc r4.1))] [] [] fun r5 =>
  cond (!r5) (
  (rB false)) (
  cond (r4.2.2 == 0) (
  an6 (C8 Γ γ14 γ12 γ26 γ27 γ28) Λ2 J (List.map aA.enc r4.1) (List.map aA.enc x22) x23 (w6 (x24 + 1))) (
  an6 (C8 Γ γ14 γ12 γ26 γ27 γ28) Λ2 J (List.map aA.enc x0) (List.map aA.enc x22) x23 (w6 (x24 + 1))))))) none) (
 γ12 [] [] [] fun r6 =>
 (rB r6)) := by kernel_rfl
theorem aAY (x0 x1 : List aA) : bR SE (C8 Γ γ14 γ12 γ26 γ27 γ28) Λ2 J 8 0 [1, 1, 0, 0] (aU [(0, .d (.sl aA.ks (List.map aA.enc x0))), (1, .d (.sl aA.ks (List.map aA.enc x1)))] [] [] [] []) =
 an6 (C8 Γ γ14 γ12 γ26 γ27 γ28) Λ2 J (List.map aA.enc x0) (List.map aA.enc x1) (lM aA.enc x1 : Int) 0 := by kernel_rfl
end
abbrev X8 : aN := C8 gG (cT 14 brokerref43_Check_out) (cT 12 brokerref01_lower_out) (cT 26 cU) (cT 27 cU) (cT 28 brokerref01_lower_out)
theorem Cr8 : X8 = aQ gG := by unfold X8 C8; repeat rw [bB fun _ h => h]
abbrev aCK := an6 X8 (bQ SE gG (SE.hl 8) (SE.hr 8)) (J0 SE X8)
abbrev aAX := auJ X8 (bQ SE gG (SE.hl 8) (SE.hr 8)) (J0 SE X8)
theorem xM : ∀ (fu : Nat) (x0 x22 : List aA) (x23 x24 : Int), Le (Option.map brokerref01_lower_out (gF fu x0 x22 x23 x24)) (aCK (List.map aA.enc x0) (List.map aA.enc x22) x23 x24) := by
 intro fu
 induction fu with
 | zero => intros; exact le_none
 | succ fu ih =>
  intro x0 x22 x23 x24
  refine Le.trans ?_ (le_of_eq ((aX Cr8).trans (aBu ..)).symm)
  unfold gF
  refine lC ?_ ?_
  ·refine lG (by simp only [EN]) ?_
   refine lQ eX n4 (by (try simp only [EN]); exact sL x0 ((List.getD x22 (Int.toNat x24) default).Client) ((List.getD x22 (Int.toNat x24) default).Node)) fun r3 _ => ?_
   refine lQ eX n4 (by (try simp only [EN]); exact aeN x0 ((List.getD x22 (Int.toNat x24) default).Client) ((List.getD x22 (Int.toNat x24) default).Node)) fun r4 _ => ?_
   refine lC ?_ ?_
   ·exact aI rfl
   ·refine lC ?_ ?_
    ·exact aI rfl
    ·refine lQ eX brokerref01_lower_inj (dA _ _) fun r5 _ => ?_
     refine lC ?_ ?_
     ·exact aI rfl
     ·refine lC ?_ ?_
      ·exact ih r4.1 x22 x23 (w6 (x24 + 1))
      ·exact ih x0 x22 x23 (w6 (x24 + 1))
  ·refine lQ eX brokerref01_lower_inj (bH) fun r6 _ => ?_
   exact aI rfl
theorem xN (x0 x1 : List aA) : Le (Option.map brokerref01_lower_out (lY x0 x1)) (aAX (List.map aA.enc x0) (List.map aA.enc x1)) := by
 refine Le.trans ?_ (le_of_eq ((aX Cr8).trans (aAY ..)).symm)
 unfold lY
 (try simp only [EN]); exact xM fuel x0 x1 (List.length x1 : Int) 0
theorem ajQ (p0 p1 : List aA) : Le (Option.map brokerref01_lower_out (tJ p0 p1)) (bD SE 8 [.d (.sl aA.ks (List.map aA.enc p0)), .d (.sl aA.ks (List.map aA.enc p1))] [] []) := by
 refine aV Cr8 rfl ?_
 refine Le.trans ?_ (le_of_eq (T8 ..).symm)
 unfold tJ
 refine lQ eX brokerref43_Check_inj (eD _) fun r0 _ => ?_
 refine lC ?_ ?_
 ·refine lQ eX brokerref01_lower_inj (bH) fun r1 _ => ?_
  exact aI rfl
 ·refine lD (by simp only [EN]) ?_ ?_
  ·refine lQ eX brokerref01_lower_inj (bH) fun r2 _ => ?_
   exact aI rfl
  ·exact xN p0 p1
end Te
end PX
