import Derived.Test.YtmcpanmcgpjfiaaGreatDoorTre1
set_option linter.unusedVariables false
set_option linter.unusedSimpArgs false
set_option maxRecDepth 100000
noncomputable section
namespace PX
open Go
open Md
namespace Te
def auU (C : aN) (Λ2 J : Lam) : Res := lab SE C Λ2 J 12 0 [1, 1, 1, 1, 0] (aU [] [] [] [] [])
section
variable (Γ : Fun) (γ26 : Gm ((List aA) × aA × Int)) (γ15 : Gm (Bool)) (γ13 : Gm (Int)) (γ29 : Gm ((List aA))) (γ18 : Gm ((List Int) × Int)) (γ21 : Gm (aI × Int)) (γ20 : Gm (Bool)) (Λ2 J : Lam)
def C12 : aN := bA (bA (bA (bA (bA (bA (bA (aR Γ) 26 cY γ26) 15 brokerref01_lower_out γ15) 13 brokerref43_Check_out γ13) 29 aT γ29) 18 dD γ18) 21 dR γ21) 20 brokerref01_lower_out γ20
theorem T12 : bG SE (C12 Γ γ26 γ15 γ13 γ29 γ18 γ21 γ20) Λ2 J 12 [] [] [] =
 γ26 [.d (.sl aA.ks (List.map aA.enc [])), .d (.str ([99, 49] : Str)), .d (.int .i64 2)] [] [] fun r0 =>
 γ26 [.d (.sl aA.ks (List.map aA.enc r0.1)), .d (.str ([99, 49] : Str)), .d (.int .i64 0)] [] [] fun r1 =>
 cond (r0.2.2 != 0) (
 (rB false)) (
 cond (r1.2.2 != 0) (
 (rB false)) (
 cond (!((r0.2.1.Client == ([99, 49] : Str)) && ((r0.2.1.Node == 2) && ((r0.2.1.Epoch == 1) && true)))) (
 (rB false)) (
 cond (r1.2.1.Epoch != 2) (
 (rB false)) (
 γ15 [.d (.sl aA.ks (List.map aA.enc r1.1)), .d (.str ([99, 49] : Str)), .d (.int .i64 2), .d (.int .i64 1)] [] [] fun r2 =>
 cond r2 (
 (rB false)) (
 γ15 [.d (.sl aA.ks (List.map aA.enc r1.1)), .d (.str ([99, 49] : Str)), .d (.int .i64 0), .d (.int .i64 2)] [] [] fun r3 =>
 cond (!r3) (
 (rB false)) (
 γ13 [.d (.sl aA.ks (List.map aA.enc r1.1))] [] [] fun r4 =>
 cond (r4 != 0) (
 (rB false)) (
 auU (C12 Γ γ26 γ15 γ13 γ29 γ18 γ21 γ20) Λ2 J))))))) := by kernel_rfl
theorem aB0 : bS SE (C12 Γ γ26 γ15 γ13 γ29 γ18 γ21 γ20) Λ2 J 12 0 [1, 1, 1, 1, 0] (aU [] [] [] [] []) =
 γ29 [.d (.sl aA.ks (List.map aA.enc [(aA.mk ([99, 49] : Str) 2 3)])), .d (.sl aA.ks (List.map aA.enc [(aA.mk ([99, 49] : Str) 1 3)]))] [] [] fun r5 =>
 γ18 [.agg [.d (.str ([99] : Str)), .d (.str []), .d (.bool false), .d (.int .i64 0), .d (.int .i64 5), .d (.int .i64 9), .d (.int .i64 0), .d (.sl aK.ks (List.map aK.enc [])), .d (.sl aC.ks (List.map aC.enc [])), .d (.int .i64 1), .d (.sl aE.ks (List.map aE.enc [])), .d (.sl [.int .i64] (List.map eI [])), .d (.int .i64 0), .d (.sl [.int .i64] (List.map eI [])), .d (.bool false), .d (.int .i64 0), .d (.str []), .d (.str []), .d (.int .i64 0), .d (.bool false), .d (.int .i64 0), .d (.int .i64 0), .d (.str []), .d (.int .i64 0), .d (.sl aG.ks (List.map aG.enc []))]] [] [] fun r6 =>
 γ21 [.d (.sl [.int .u8] (List.map (encI .u8) r6.1))] [] [] fun r7 =>
 γ18 [.agg [.d (.str ([99] : Str)), .d (.str []), .d (.bool true), .d (.int .i64 0), .d (.int .i64 5), .d (.int .i64 0), .d (.int .i64 0), .d (.sl aK.ks (List.map aK.enc [])), .d (.sl aC.ks (List.map aC.enc [])), .d (.int .i64 1), .d (.sl aE.ks (List.map aE.enc [])), .d (.sl [.int .i64] (List.map eI [])), .d (.int .i64 0), .d (.sl [.int .i64] (List.map eI [])), .d (.bool false), .d (.int .i64 0), .d (.str []), .d (.str []), .d (.int .i64 0), .d (.bool false), .d (.int .i64 0), .d (.int .i64 0), .d (.str []), .d (.int .i64 0), .d (.sl aG.ks (List.map aG.enc []))]] [] [] fun r8 =>
 cond ((lM aA.enc r5 : Int) == 1) (
 cond (decide (0 ≤ 0) && decide (0 < (lM aA.enc r5 : Int))) (
  cond ((aW (cE aA.enc r5 0 1)) == 1) (
  cond (r6.2 == 0) (
   cond (r7.2 == 0) (
   cond (r8.2 == 9) (
    γ20 [.d (.sl [.int .u8] (List.map (encI .u8) r6.1)), .d (.sl [.int .u8] (List.map (encI .u8) [2, 99, 0, 10, 18, 0, 0, 0, 2, 0, 0, 0, 0, 0]))] [] [] fun r9 =>
    cond r9 (
    cond (r7.1.Client == ([99] : Str)) (
     cond (r7.1.Until == 9) (
     (rB (!r7.1.Online))) (
     (rB false))) (
    (rB false))) (
    (rB false))) (
   (rB false))) (
   (rB false))) (
  (rB false))) (
  (rB false))) none) (
 (rB false)) := by kernel_rfl
end
abbrev X12 : aN := C12 gG (cT 26 cY) (cT 15 brokerref01_lower_out) (cT 13 brokerref43_Check_out) (cT 29 aT) (cT 18 dD) (cT 21 dR) (cT 20 brokerref01_lower_out)
theorem axk : X12 = aR gG := by unfold X12 C12; repeat rw [bD fun _ h => h]
abbrev aC2 := auU X12 (bR SE gG (SE.hl 12) (SE.hr 12)) (J0 SE X12)
theorem aay : Le (Option.map brokerref01_lower_out (oU)) (aC2) := by
 refine Le.trans ?_ (le_of_eq ((aX axk).trans (aB0 _ _ _ _ _ _ _ _ _ _ )).symm)
 unfold oU
 refine lQ eX bM (hJ _ _) fun r5 _ => ?_
 refine lQ eX j9 (by (try simp only [EN]); exact mX ((aI.mk ([99] : Str) [] false 0 5 9 0 [] [] (aM.mk 1 [] (bE.mk [] 0)) (bN.mk []) (bO.mk false 0 (aC.mk [] [] 0 false 0 0 [] 0 []))))) fun r6 _ => ?_
 refine lQ eX l7 (m0 _) fun r7 _ => ?_
 refine lQ eX j9 (by (try simp only [EN]); exact mX ((aI.mk ([99] : Str) [] true 0 5 0 0 [] [] (aM.mk 1 [] (bE.mk [] 0)) (bN.mk []) (bO.mk false 0 (aC.mk [] [] 0 false 0 0 [] 0 []))))) fun r8 _ => ?_
 refine lD (by simp only [EN]) ?_ ?_
 ·refine lG (by simp only [EN]) ?_
  refine lD (by simp only [EN]) ?_ ?_
  ·refine lC ?_ ?_
   ·refine lC ?_ ?_
    ·refine lC ?_ ?_
     ·refine lQ eX brokerref01_lower_inj (rO _ _) fun r9 _ => ?_
      refine lC ?_ ?_
      ·refine lC ?_ ?_
       ·refine lC ?_ ?_
        ·exact aJ rfl
        ·exact aJ rfl
       ·exact aJ rfl
      ·exact aJ rfl
     ·exact aJ rfl
    ·exact aJ rfl
   ·exact aJ rfl
  ·exact aJ rfl
 ·exact aJ rfl
theorem bI : Le (Option.map brokerref01_lower_out (bJ)) (bF SE 12 [] [] []) := by
 refine aV axk rfl ?_
 refine Le.trans ?_ (le_of_eq (T12 _ _ _ _ _ _ _ _ _ _ ).symm)
 unfold bJ
 refine lQ eX pI (by (try simp only [EN]); exact uA [] ([99, 49] : Str) 2) fun r0 _ => ?_
 refine lQ eX pI (uA _ _ _) fun r1 _ => ?_
 refine lC ?_ ?_
 ·exact aJ rfl
 ·refine lC ?_ ?_
  ·exact aJ rfl
  ·refine lC ?_ ?_
   ·exact aJ rfl
   ·refine lC ?_ ?_
    ·exact aJ rfl
    ·refine lQ eX brokerref01_lower_inj (rE _ _ _ _) fun r2 _ => ?_
     refine lC ?_ ?_
     ·exact aJ rfl
     ·refine lQ eX brokerref01_lower_inj (rE _ _ _ _) fun r3 _ => ?_
      refine lC ?_ ?_
      ·exact aJ rfl
      ·refine lQ eX brokerref43_Check_inj (ac1 _) fun r4 _ => ?_
       refine lC ?_ ?_
       ·exact aJ rfl
       ·exact aay
def ari (C : aN) (Λ2 J : Lam) (a0 : Str) (a1 : List (List D)) (a2 a3 : Int) (a4 : List D) : Res := lab SE C Λ2 J 81 0 [1, 0, 1, 0] (aU [(1, .d (.str a0)), (4, .ptr 1000000000 0), (8, .d (.sl aA.ks a1)), (9, .d (.int .i64 a2)), (10, .d (.int .i64 a3))] [⟨24, (List.map AV.d a4)⟩] [] [] [])
section
variable (Γ : Fun)  (Λ2 J : Lam)
def C81 : aN := aR Γ
theorem T81 (p0 : List aA) (p1 : Str) : bG SE (C81 Γ) Λ2 J 81 [.d (.sl aA.ks (List.map aA.enc p0)), .d (.str p1)] [] [] =
 ari (C81 Γ) Λ2 J p1 (List.map aA.enc p0) (lM aA.enc p0 : Int) 0 (aA.enc (aA.mk [] 0 0)) := by kernel_rfl
theorem aBu (x1 : Str) (x8 : List aA) (x9 x10 : Int) (b0 : aA) : bS SE (C81 Γ) Λ2 J 81 0 [1, 0, 1, 0] (aU [(1, .d (.str x1)), (4, .ptr 1000000000 0), (8, .d (.sl aA.ks (List.map aA.enc x8))), (9, .d (.int .i64 x9)), (10, .d (.int .i64 x10))] [⟨24, (List.map AV.d (aA.enc b0))⟩] [] [] []) =
 cond (decide (x10 < x9)) (
 cond (iB x10 (lM aA.enc x8 : Int)) (
  cond ((bL (cE aA.enc x8 x10 0)) == x1) (
  (some (.ret [.agg [.d (.str (bL (cE aA.enc x8 x10 0))), .d (.int .i64 (aW (cE aA.enc x8 x10 1))), .d (.int .i64 (aW (cE aA.enc x8 x10 2)))], .d (.bool true)] [] []))) (
  ari (C81 Γ) Λ2 J x1 (List.map aA.enc x8) x9 (w6 (x10 + 1)) (aA.enc b0))) none) (
 (some (.ret [aA.av (aA.mk [] 0 0), .d (.bool false)] [] []))) := by kernel_rfl
end
abbrev X81 : aN := C81 gG
theorem aw4 : X81 = aR gG := rfl
abbrev aCL := ari X81 (bR SE gG (SE.hl 81) (SE.hr 81)) (J0 SE X81)
theorem aex : ∀ (fu : Nat) (x1 : Str) (x8 : List aA) (x9 x10 : Int) (b0 : aA), Le (Option.map eR (jR fu x1 x8 x9 x10 b0)) (aCL x1 (List.map aA.enc x8) x9 x10 (aA.enc b0)) := by
 intro fu
 induction fu with
 | zero => intros; exact le_none
 | succ fu ih =>
  intro x1 x8 x9 x10 b0
  refine Le.trans ?_ (le_of_eq ((aX aw4).trans (aBu ..)).symm)
  unfold jR
  refine lC ?_ ?_
  ·refine lG (by simp only [EN]) ?_
   refine lD (by simp only [EN]) ?_ ?_
   ·exact aJ (by first | rfl | simp only [EN, eR] <;> rfl)
   ·exact ih x1 x8 x9 (w6 (x10 + 1)) b0
  ·exact aJ rfl
theorem aa2 (p0 : List aA) (p1 : Str) : Le (Option.map eR (nM p0 p1)) (bF SE 81 [.d (.sl aA.ks (List.map aA.enc p0)), .d (.str p1)] [] []) := by
 refine aV aw4 rfl ?_
 refine Le.trans ?_ (le_of_eq (T81 ..).symm)
 unfold nM
 (try simp only [EN]); exact aex fuel p1 p0 (List.length p0 : Int) 0 (aA.mk [] 0 0)
def ak1 (C : aN) (Λ2 J : Lam) (a0 : List (List D)) (a1 a2 : Int) (a3 : List D) (a4 : List (List D)) : Res := lab SE C Λ2 J 82 0 [1, 1, 1, 1, 0, 1, 0] (aU [(3, .ptr 1000000000 0), (5, .row 3005), (30, .d (.sl aA.ks a0)), (31, .d (.int .i64 a1)), (32, .d (.int .i64 a2))] [⟨24, (List.map AV.d a3)⟩] [] [] [(3005, ⟨aA.ks, 24, 32, a4⟩)])
def am7 (C : aN) (Λ2 J : Lam) (a0 a1 : List (List D)) (a2 a3 : Int) (a4 : List D) (a5 : List (List D)) : Res := lab SE C Λ2 J 82 0 [1, 1, 0, 1, 0] (aU [(0, .d (.sl aA.ks a0)), (3, .ptr 1000000000 0), (5, .row 3005), (10, .d (.sl aA.ks a1)), (11, .d (.int .i64 a2)), (12, .d (.int .i64 a3))] [⟨24, (List.map AV.d a4)⟩] [] [] [(3005, ⟨aA.ks, 24, 32, a5⟩)])
section
variable (Γ : Fun)  (Λ2 J : Lam)
def C82 : aN := aR Γ
theorem T82 (p0 : List aA) (p1 : aA) : bG SE (C82 Γ) Λ2 J 82 [.d (.sl aA.ks (List.map aA.enc p0)), aA.av p1] [] [] =
 am7 (C82 Γ) Λ2 J (List.map aA.enc p0) (List.map aA.enc p0) (lM aA.enc p0 : Int) 0 (aA.enc p1) (List.map aA.enc []) := by kernel_rfl
theorem ayK (x30 : List aA) (x31 x32 : Int) (b0 : aA) (w3005 : List aA) : bS SE (C82 Γ) Λ2 J 82 0 [1, 1, 1, 1, 0, 1, 0] (aU [(3, .ptr 1000000000 0), (5, .row 3005), (30, .d (.sl aA.ks (List.map aA.enc x30))), (31, .d (.int .i64 x31)), (32, .d (.int .i64 x32))] [⟨24, (List.map AV.d (aA.enc b0))⟩] [] [] [(3005, ⟨aA.ks, 24, 32, (List.map aA.enc w3005)⟩)]) =
 cond (decide (x32 < x31)) (
 cond (iB x32 (lM aA.enc x30 : Int)) (
  cond (!(Op.bytesLess (bL (cE aA.enc x30 x32 0)) b0.Client || (bL (cE aA.enc x30 x32 0)) == b0.Client)) (
  cond (decide ((lM aA.enc w3005 + List.length [[D.str (bL (cE aA.enc x30 x32 0)), D.int .i64 (aW (cE aA.enc x30 x32 1)), D.int .i64 (aW (cE aA.enc x30 x32 2))]]) * 32 ≤ 140737488355328)) (
   ak1 (C82 Γ) Λ2 J (List.map aA.enc x30) x31 (w6 (x32 + 1)) (aA.enc b0) (((List.map aA.enc w3005) ++ [[D.str (bL (cE aA.enc x30 x32 0)), D.int .i64 (aW (cE aA.enc x30 x32 1)), D.int .i64 (aW (cE aA.enc x30 x32 2))]]))) none) (
  ak1 (C82 Γ) Λ2 J (List.map aA.enc x30) x31 (w6 (x32 + 1)) (aA.enc b0) (List.map aA.enc w3005))) none) (
 (some (.ret [.row 0] [] [⟨aA.ks, 24, 32, (List.map aA.enc w3005)⟩]))) := by kernel_rfl
theorem aC5 (x0 x10 : List aA) (x11 x12 : Int) (b0 : aA) (w3005 : List aA) : bS SE (C82 Γ) Λ2 J 82 0 [1, 1, 0, 1, 0] (aU [(0, .d (.sl aA.ks (List.map aA.enc x0))), (3, .ptr 1000000000 0), (5, .row 3005), (10, .d (.sl aA.ks (List.map aA.enc x10))), (11, .d (.int .i64 x11)), (12, .d (.int .i64 x12))] [⟨24, (List.map AV.d (aA.enc b0))⟩] [] [] [(3005, ⟨aA.ks, 24, 32, (List.map aA.enc w3005)⟩)]) =
 cond (decide (x12 < x11)) (
 cond (iB x12 (lM aA.enc x10 : Int)) (
  cond (Op.bytesLess (bL (cE aA.enc x10 x12 0)) b0.Client) (
  cond (decide ((lM aA.enc w3005 + List.length [[D.str (bL (cE aA.enc x10 x12 0)), D.int .i64 (aW (cE aA.enc x10 x12 1)), D.int .i64 (aW (cE aA.enc x10 x12 2))]]) * 32 ≤ 140737488355328)) (
   am7 (C82 Γ) Λ2 J (List.map aA.enc x0) (List.map aA.enc x10) x11 (w6 (x12 + 1)) (aA.enc b0) (((List.map aA.enc w3005) ++ [[D.str (bL (cE aA.enc x10 x12 0)), D.int .i64 (aW (cE aA.enc x10 x12 1)), D.int .i64 (aW (cE aA.enc x10 x12 2))]]))) none) (
  am7 (C82 Γ) Λ2 J (List.map aA.enc x0) (List.map aA.enc x10) x11 (w6 (x12 + 1)) (aA.enc b0) (List.map aA.enc w3005))) none) (
 cond (decide ((lM aA.enc w3005 + lM aA.enc [b0]) * 32 ≤ 140737488355328)) (
 ak1 (C82 Γ) Λ2 J (List.map aA.enc x0) (lM aA.enc x0 : Int) 0 (aA.enc b0) (((List.map aA.enc w3005) ++ (List.map aA.enc [b0])))) none) := by kernel_rfl
end
abbrev X82 : aN := C82 gG
theorem aud : X82 = aR gG := rfl
abbrev axd := ak1 X82 (bR SE gG (SE.hl 82) (SE.hr 82)) (J0 SE X82)
abbrev aAT := am7 X82 (bR SE gG (SE.hl 82) (SE.hr 82)) (J0 SE X82)
theorem aeu : ∀ (fu : Nat) (x30 : List aA) (x31 x32 : Int) (b0 : aA) (w3005 : List aA), Le (Option.map aT (gC fu x30 x31 x32 b0 w3005)) (axd (List.map aA.enc x30) x31 x32 (aA.enc b0) (List.map aA.enc w3005)) := by
 intro fu
 induction fu with
 | zero => intros; exact le_none
 | succ fu ih =>
  intro x30 x31 x32 b0 w3005
  refine Le.trans ?_ (le_of_eq ((aX aud).trans (ayK ..)).symm)
  unfold gC
  refine lC ?_ ?_
  ·refine lG (by simp only [EN]) ?_
   refine lD (by simp only [EN]) ?_ ?_
   ·refine lG (by simp only [EN]) ?_
    (try simp only [EN]); exact ih x30 x31 (w6 (x32 + 1)) b0 (w3005 ++ [(List.getD x30 (Int.toNat x32) default)])
   ·exact ih x30 x31 (w6 (x32 + 1)) b0 w3005
  ·exact aJ rfl
theorem ae0 : ∀ (fu : Nat) (x0 x10 : List aA) (x11 x12 : Int) (b0 : aA) (w3005 : List aA), Le (Option.map aT (iQ fu x0 x10 x11 x12 b0 w3005)) (aAT (List.map aA.enc x0) (List.map aA.enc x10) x11 x12 (aA.enc b0) (List.map aA.enc w3005)) := by
 intro fu
 induction fu with
 | zero => intros; exact le_none
 | succ fu ih =>
  intro x0 x10 x11 x12 b0 w3005
  refine Le.trans ?_ (le_of_eq ((aX aud).trans (aC5 ..)).symm)
  unfold iQ
  refine lC ?_ ?_
  ·refine lG (by simp only [EN]) ?_
   refine lD (by simp only [EN]) ?_ ?_
   ·refine lG (by simp only [EN]) ?_
    (try simp only [EN]); exact ih x0 x10 x11 (w6 (x12 + 1)) b0 (w3005 ++ [(List.getD x10 (Int.toNat x12) default)])
   ·exact ih x0 x10 x11 (w6 (x12 + 1)) b0 w3005
  ·refine lG (by simp only [EN]) ?_
   (try simp only [EN]); exact aeu fuel x0 (List.length x0 : Int) 0 b0 (w3005 ++ [b0])
theorem sJ (p0 : List aA) (p1 : aA) : Le (Option.map aT (kO p0 p1)) (bF SE 82 [.d (.sl aA.ks (List.map aA.enc p0)), aA.av p1] [] []) := by
 refine aV aud rfl ?_
 refine Le.trans ?_ (le_of_eq (T82 ..).symm)
 unfold kO
 (try simp only [EN]); exact ae0 fuel p0 p0 (List.length p0 : Int) 0 p1 []
def afY (C : aN) (Λ2 J : Lam) (a0 : List (List D)) (a1 a2 : Int) (a3 : List (List D)) : Res := lab SE C Λ2 J 30 0 [1, 1, 1, 0, 1, 0] (aU [(5, .row 3005), (23, .d (.sl aA.ks a0)), (24, .d (.int .i64 a1)), (25, .d (.int .i64 a2))] [] [] [] [(3005, ⟨aA.ks, 24, 32, a3⟩)])
def aqc (C : aN) (Λ2 J : Lam) (a0 a1 : List (List D)) (a2 a3 : Int) (a4 : List (List D)) : Res := lab SE C Λ2 J 30 0 [1, 1, 0, 1, 0] (aU [(1, .d (.sl aA.ks a0)), (5, .row 3005), (12, .d (.sl aA.ks a1)), (13, .d (.int .i64 a2)), (14, .d (.int .i64 a3))] [] [] [] [(3005, ⟨aA.ks, 24, 32, a4⟩)])
section
variable (Γ : Fun) (γ81 : Gm (aA × Bool)) (γ82 : Gm ((List aA))) (Λ2 J : Lam)
def C30 : aN := bA (bA (aR Γ) 81 eR γ81) 82 aT γ82
theorem T30 (p0 p1 : List aA) : bG SE (C30 Γ γ81 γ82) Λ2 J 30 [.d (.sl aA.ks (List.map aA.enc p0)), .d (.sl aA.ks (List.map aA.enc p1))] [] [] =
 aqc (C30 Γ γ81 γ82) Λ2 J (List.map aA.enc p1) (List.map aA.enc p0) (lM aA.enc p0 : Int) 0 (List.map aA.enc []) := by kernel_rfl
theorem aCA (x23 : List aA) (x24 x25 : Int) (w3005 : List aA) : bS SE (C30 Γ γ81 γ82) Λ2 J 30 0 [1, 1, 1, 0, 1, 0] (aU [(5, .row 3005), (23, .d (.sl aA.ks (List.map aA.enc x23))), (24, .d (.int .i64 x24)), (25, .d (.int .i64 x25))] [] [] [] [(3005, ⟨aA.ks, 24, 32, (List.map aA.enc w3005)⟩)]) =
 cond (decide (x25 < x24)) (
 cond (iB x25 (lM aA.enc x23 : Int)) (
  γ81 [.d (.sl aA.ks (List.map aA.enc w3005)), .d (.str (bL (cE aA.enc x23 x25 0)))] [] [] fun r0 =>
  cond (!r0.2) (
  γ82 [.d (.sl aA.ks (List.map aA.enc w3005)), .agg [.d (.str (bL (cE aA.enc x23 x25 0))), .d (.int .i64 (aW (cE aA.enc x23 x25 1))), .d (.int .i64 (aW (cE aA.enc x23 x25 2)))]] [] [] fun r1 =>
  afY (C30 Γ γ81 γ82) Λ2 J (List.map aA.enc x23) x24 (w6 (x25 + 1)) (List.map aA.enc r1)) (
  cond (decide ((aW (cE aA.enc x23 x25 2)) > r0.1.Epoch)) (
  γ82 [.d (.sl aA.ks (List.map aA.enc w3005)), .agg [.d (.str (bL (cE aA.enc x23 x25 0))), .d (.int .i64 (aW (cE aA.enc x23 x25 1))), .d (.int .i64 (aW (cE aA.enc x23 x25 2)))]] [] [] fun r2 =>
  afY (C30 Γ γ81 γ82) Λ2 J (List.map aA.enc x23) x24 (w6 (x25 + 1)) (List.map aA.enc r2)) (
  cond ((aW (cE aA.enc x23 x25 2)) == r0.1.Epoch) (
  cond (decide ((aW (cE aA.enc x23 x25 1)) < r0.1.Node)) (
   γ82 [.d (.sl aA.ks (List.map aA.enc w3005)), .agg [.d (.str (bL (cE aA.enc x23 x25 0))), .d (.int .i64 (aW (cE aA.enc x23 x25 1))), .d (.int .i64 (aW (cE aA.enc x23 x25 2)))]] [] [] fun r3 =>
   afY (C30 Γ γ81 γ82) Λ2 J (List.map aA.enc x23) x24 (w6 (x25 + 1)) (List.map aA.enc r3)) (
  afY (C30 Γ γ81 γ82) Λ2 J (List.map aA.enc x23) x24 (w6 (x25 + 1)) (List.map aA.enc w3005))) (
  afY (C30 Γ γ81 γ82) Λ2 J (List.map aA.enc x23) x24 (w6 (x25 + 1)) (List.map aA.enc w3005))))) none) (
 (some (.ret [.row 0] [] [⟨aA.ks, 24, 32, (List.map aA.enc w3005)⟩]))) := by kernel_rfl
theorem aCH (x1 x12 : List aA) (x13 x14 : Int) (w3005 : List aA) : bS SE (C30 Γ γ81 γ82) Λ2 J 30 0 [1, 1, 0, 1, 0] (aU [(1, .d (.sl aA.ks (List.map aA.enc x1))), (5, .row 3005), (12, .d (.sl aA.ks (List.map aA.enc x12))), (13, .d (.int .i64 x13)), (14, .d (.int .i64 x14))] [] [] [] [(3005, ⟨aA.ks, 24, 32, (List.map aA.enc w3005)⟩)]) =
 cond (decide (x14 < x13)) (
 cond (iB x14 (lM aA.enc x12 : Int)) (
  cond (decide ((lM aA.enc w3005 + List.length [[D.str (bL (cE aA.enc x12 x14 0)), D.int .i64 (aW (cE aA.enc x12 x14 1)), D.int .i64 (aW (cE aA.enc x12 x14 2))]]) * 32 ≤ 140737488355328)) (
  aqc (C30 Γ γ81 γ82) Λ2 J (List.map aA.enc x1) (List.map aA.enc x12) x13 (w6 (x14 + 1)) (((List.map aA.enc w3005) ++ [[D.str (bL (cE aA.enc x12 x14 0)), D.int .i64 (aW (cE aA.enc x12 x14 1)), D.int .i64 (aW (cE aA.enc x12 x14 2))]]))) none) none) (
 afY (C30 Γ γ81 γ82) Λ2 J (List.map aA.enc x1) (lM aA.enc x1 : Int) 0 (List.map aA.enc w3005)) := by kernel_rfl
end
abbrev X30 : aN := C30 gG (cT 81 eR) (cT 82 aT)
theorem atT : X30 = aR gG := by unfold X30 C30; repeat rw [bD fun _ h => h]
abbrev aBn := afY X30 (bR SE gG (SE.hl 30) (SE.hr 30)) (J0 SE X30)
abbrev aAr := aqc X30 (bR SE gG (SE.hl 30) (SE.hr 30)) (J0 SE X30)
theorem adK : ∀ (fu : Nat) (x23 : List aA) (x24 x25 : Int) (w3005 : List aA), Le (Option.map aT (c7 fu x23 x24 x25 w3005)) (aBn (List.map aA.enc x23) x24 x25 (List.map aA.enc w3005)) := by
 intro fu
 induction fu with
 | zero => intros; exact le_none
 | succ fu ih =>
  intro x23 x24 x25 w3005
  refine Le.trans ?_ (le_of_eq ((aX atT).trans (aCA ..)).symm)
  unfold c7
  refine lC ?_ ?_
  ·refine lG (by simp only [EN]) ?_
   refine lQ eX aaF (by (try simp only [EN]); exact aa2 w3005 ((List.getD x23 (Int.toNat x25) default).Client)) fun r0 _ => ?_
   refine lC ?_ ?_
   ·refine lQ eX bM (by (try simp only [EN]); exact sJ w3005 (List.getD x23 (Int.toNat x25) default)) fun r1 _ => ?_
    exact ih x23 x24 (w6 (x25 + 1)) r1
   ·refine lD (by simp only [EN]) ?_ ?_
    ·refine lQ eX bM (by (try simp only [EN]); exact sJ w3005 (List.getD x23 (Int.toNat x25) default)) fun r2 _ => ?_
     exact ih x23 x24 (w6 (x25 + 1)) r2
    ·refine lD (by simp only [EN]) ?_ ?_
     ·refine lD (by simp only [EN]) ?_ ?_
      ·refine lQ eX bM (by (try simp only [EN]); exact sJ w3005 (List.getD x23 (Int.toNat x25) default)) fun r3 _ => ?_
       exact ih x23 x24 (w6 (x25 + 1)) r3
      ·exact ih x23 x24 (w6 (x25 + 1)) w3005
     ·exact ih x23 x24 (w6 (x25 + 1)) w3005
  ·exact aJ rfl
theorem adM : ∀ (fu : Nat) (x1 x12 : List aA) (x13 x14 : Int) (w3005 : List aA), Le (Option.map aT (iU fu x1 x12 x13 x14 w3005)) (aAr (List.map aA.enc x1) (List.map aA.enc x12) x13 x14 (List.map aA.enc w3005)) := by
 intro fu
 induction fu with
 | zero => intros; exact le_none
 | succ fu ih =>
  intro x1 x12 x13 x14 w3005
  refine Le.trans ?_ (le_of_eq ((aX atT).trans (aCH ..)).symm)
  unfold iU
  refine lC ?_ ?_
  ·refine lG (by simp only [EN]) ?_
   refine lG (by simp only [EN]) ?_
   (try simp only [EN]); exact ih x1 x12 x13 (w6 (x14 + 1)) (w3005 ++ [(List.getD x12 (Int.toNat x14) default)])
  ·(try simp only [EN]); exact adK fuel x1 (List.length x1 : Int) 0 w3005
theorem af0 (p0 p1 : List aA) : Le (Option.map aT (pX p0 p1)) (bF SE 30 [.d (.sl aA.ks (List.map aA.enc p0)), .d (.sl aA.ks (List.map aA.enc p1))] [] []) := by
 refine aV atT rfl ?_
 refine Le.trans ?_ (le_of_eq (T30 ..).symm)
 unfold pX
 (try simp only [EN]); exact adM fuel p1 p0 (List.length p0 : Int) 0 []
def aqV (C : aN) (Λ2 J : Lam) (a0 a1 : List (List D)) (a2 a3 : Int) : Res := lab SE C Λ2 J 28 0 [1, 1, 0, 1, 0] (aU [(0, .d (.sl aA.ks a0)), (1, .d (.sl aA.ks a1)), (12, .d (.int .i64 a2)), (13, .d (.int .i64 a3))] [] [] [] [])
section
variable (Γ : Fun)  (Λ2 J : Lam)
def C28 : aN := aR Γ
theorem T28 (p0 p1 : List aA) : bG SE (C28 Γ) Λ2 J 28 [.d (.sl aA.ks (List.map aA.enc p0)), .d (.sl aA.ks (List.map aA.enc p1))] [] [] =
 cond ((lM aA.enc p0 : Int) != (lM aA.enc p1 : Int)) (
 (rB false)) (
 aqV (C28 Γ) Λ2 J (List.map aA.enc p0) (List.map aA.enc p1) (lM aA.enc p0 : Int) 0) := by kernel_rfl
theorem aBe (x0 x1 : List aA) (x12 x13 : Int) : bS SE (C28 Γ) Λ2 J 28 0 [1, 1, 0, 1, 0] (aU [(0, .d (.sl aA.ks (List.map aA.enc x0))), (1, .d (.sl aA.ks (List.map aA.enc x1))), (12, .d (.int .i64 x12)), (13, .d (.int .i64 x13))] [] [] [] []) =
 cond (decide (x13 < x12)) (
 cond (iB x13 (lM aA.enc x0 : Int)) (
  cond (iB x13 (lM aA.enc x1 : Int)) (
  cond (!(((bL (cE aA.enc x0 x13 0)) == (bL (cE aA.enc x1 x13 0))) && (((aW (cE aA.enc x0 x13 1)) == (aW (cE aA.enc x1 x13 1))) && (((aW (cE aA.enc x0 x13 2)) == (aW (cE aA.enc x1 x13 2))) && true)))) (
   (rB false)) (
  aqV (C28 Γ) Λ2 J (List.map aA.enc x0) (List.map aA.enc x1) x12 (w6 (x13 + 1)))) none) none) (
 (rB true)) := by kernel_rfl
end
abbrev X28 : aN := C28 gG
theorem ayw : X28 = aR gG := rfl
abbrev aB6 := aqV X28 (bR SE gG (SE.hl 28) (SE.hr 28)) (J0 SE X28)
theorem vG : ∀ (fu : Nat) (x0 x1 : List aA) (x12 x13 : Int), Le (Option.map brokerref01_lower_out (dH fu x0 x1 x12 x13)) (aB6 (List.map aA.enc x0) (List.map aA.enc x1) x12 x13) := by
 intro fu
 induction fu with
 | zero => intros; exact le_none
 | succ fu ih =>
  intro x0 x1 x12 x13
  refine Le.trans ?_ (le_of_eq ((aX ayw).trans (aBe ..)).symm)
  unfold dH
  refine lC ?_ ?_
  ·refine lG (by simp only [EN]) ?_
   refine lG (by simp only [EN]) ?_
   refine lD (by simp only [EN]) ?_ ?_
   ·exact aJ rfl
   ·exact ih x0 x1 x12 (w6 (x13 + 1))
  ·exact aJ rfl
theorem dF (p0 p1 : List aA) : Le (Option.map brokerref01_lower_out (cH p0 p1)) (bF SE 28 [.d (.sl aA.ks (List.map aA.enc p0)), .d (.sl aA.ks (List.map aA.enc p1))] [] []) := by
 refine aV ayw rfl ?_
 refine Le.trans ?_ (le_of_eq (T28 ..).symm)
 unfold cH
 refine lD (by simp only [EN]) ?_ ?_
 ·exact aJ rfl
 ·(try simp only [EN]); exact vG fuel p0 p1 (List.length p0 : Int) 0
def ayZ (C : aN) (Λ2 J : Lam) (a0 a1 : List (List D)) : Res := lab SE C Λ2 J 9 0 [1, 1, 0] (aU [(0, .d (.sl aA.ks a0)), (1, .d (.sl aA.ks a1))] [] [] [] [])
section
variable (Γ : Fun) (γ14 : Gm (Int)) (γ12 : Gm (Bool)) (γ29 γ30 : Gm ((List aA))) (γ28 : Gm (Bool)) (Λ2 J : Lam)
def C9 : aN := bA (bA (bA (bA (bA (aR Γ) 14 brokerref43_Check_out γ14) 12 brokerref01_lower_out γ12) 29 aT γ29) 30 aT γ30) 28 brokerref01_lower_out γ28
theorem T9 (p0 p1 : List aA) : bG SE (C9 Γ γ14 γ12 γ29 γ30 γ28) Λ2 J 9 [.d (.sl aA.ks (List.map aA.enc p0)), .d (.sl aA.ks (List.map aA.enc p1))] [] [] =
 γ14 [.d (.sl aA.ks (List.map aA.enc p0))] [] [] fun r0 =>
 cond (r0 != 0) (
 γ12 [] [] [] fun r1 =>
 (rB r1)) (
 γ14 [.d (.sl aA.ks (List.map aA.enc p1))] [] [] fun r2 =>
 cond (r2 != 0) (
 γ12 [] [] [] fun r3 =>
 (rB r3)) (
 ayZ (C9 Γ γ14 γ12 γ29 γ30 γ28) Λ2 J (List.map aA.enc p0) (List.map aA.enc p1))) := by kernel_rfl
theorem aDt (x0 x1 : List aA) : bS SE (C9 Γ γ14 γ12 γ29 γ30 γ28) Λ2 J 9 0 [1, 1, 0] (aU [(0, .d (.sl aA.ks (List.map aA.enc x0))), (1, .d (.sl aA.ks (List.map aA.enc x1)))] [] [] [] []) =
 γ29 [.d (.sl aA.ks (List.map aA.enc x0)), .d (.sl aA.ks (List.map aA.enc x1))] [] [] fun r4 =>
 γ30 [.d (.sl aA.ks (List.map aA.enc x0)), .d (.sl aA.ks (List.map aA.enc x1))] [] [] fun r5 =>
 γ28 [.d (.sl aA.ks (List.map aA.enc r4)), .d (.sl aA.ks (List.map aA.enc r5))] [] [] fun r6 =>
 cond r6 (
 γ12 [] [] [] fun r7 =>
 (rB r7)) (
 (rB false)) := by kernel_rfl
end
abbrev X9 : aN := C9 gG (cT 14 brokerref43_Check_out) (cT 12 brokerref01_lower_out) (cT 29 aT) (cT 30 aT) (cT 28 brokerref01_lower_out)
theorem Cr9 : X9 = aR gG := by unfold X9 C9; repeat rw [bD fun _ h => h]
abbrev aD6 := ayZ X9 (bR SE gG (SE.hl 9) (SE.hr 9)) (J0 SE X9)
theorem aad (x0 x1 : List aA) : Le (Option.map brokerref01_lower_out (kJ x0 x1)) (aD6 (List.map aA.enc x0) (List.map aA.enc x1)) := by
 refine Le.trans ?_ (le_of_eq ((aX Cr9).trans (aDt ..)).symm)
 unfold kJ
 refine lQ eX bM (hJ _ _) fun r4 _ => ?_
 refine lQ eX bM (af0 _ _) fun r5 _ => ?_
 refine lQ eX brokerref01_lower_inj (dF _ _) fun r6 _ => ?_
 refine lC ?_ ?_
 ·refine lQ eX brokerref01_lower_inj (bI) fun r7 _ => ?_
  exact aJ rfl
 ·exact aJ rfl
theorem abt (p0 p1 : List aA) : Le (Option.map brokerref01_lower_out (l9 p0 p1)) (bF SE 9 [.d (.sl aA.ks (List.map aA.enc p0)), .d (.sl aA.ks (List.map aA.enc p1))] [] []) := by
 refine aV Cr9 rfl ?_
 refine Le.trans ?_ (le_of_eq (T9 ..).symm)
 unfold l9
 refine lQ eX brokerref43_Check_inj (eS _) fun r0 _ => ?_
 refine lC ?_ ?_
 ·refine lQ eX brokerref01_lower_inj (bI) fun r1 _ => ?_
  exact aJ rfl
 ·refine lQ eX brokerref43_Check_inj (eS _) fun r2 _ => ?_
  refine lC ?_ ?_
  ·refine lQ eX brokerref01_lower_inj (bI) fun r3 _ => ?_
   exact aJ rfl
  ·exact aad p0 p1
end Te
end PX
