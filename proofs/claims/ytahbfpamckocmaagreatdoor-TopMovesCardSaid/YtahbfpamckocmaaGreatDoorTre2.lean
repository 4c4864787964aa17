import Derived.Test.YtahbfpamckocmaaGreatDoorTre1
set_option linter.unusedVariables false
set_option linter.unusedSimpArgs false
set_option maxRecDepth 100000
noncomputable section
namespace PX
open Go
open Md
namespace Te
def akA (C : aP) (Λ2 J : Lam) (a0 : Int) (a1 : List D) (a2 : List (List D)) : Res := lab SE C Λ2 J 34 1 [1, 1, 1, 1, 1, 1, 0, 0] (bC [(0, .ptr 2000000000 0), (2, .fn 35 [.ptr 2000000000 0] []), (7, .d (.int .i64 a0)), (8, .row 3008)] [] [⟨85, (List.map AV.d a1)⟩] [] [(3008, ⟨aG.ks, 73, 32, a2⟩)])
section
variable (Γ : Fun) (γ33 : Gm (Int × aE)) (γ35 : Gm (aG × aE)) (Λ2 J : Lam)
def C34 : aP := aZ (aZ (aR Γ) 33 bP γ33) 35 gF γ35
theorem T34 (p0 : aE) (p1 : Int) : bL SE (C34 Γ γ33 γ35) Λ2 J 34 [.ptr 2000000000 0, .d (.int .i64 p1), .fn 35 [.ptr 2000000000 0] []] [⟨85, (aE.avs p0)⟩] [] =
 γ33 [.ptr 2000000000 0] [⟨85, (aE.avs p0)⟩] [] fun r0 =>
 cond (r0.2.err != 0) (
 (some (.ret [.row 0] [⟨85, (aE.avs r0.2)⟩] [⟨aG.ks, 73, 32, []⟩]))) (
 cond (decide (r0.1 < 0)) (
 (some (.ret [.row 0] [⟨85, (aE.avs (aE.mk r0.2.b r0.2.at_ 2))⟩] [⟨aG.ks, 73, 32, []⟩]))) (
 cond (decide (r0.1 > p1)) (
 (some (.ret [.row 0] [⟨85, (aE.avs (aE.mk r0.2.b r0.2.at_ 5))⟩] [⟨aG.ks, 73, 32, []⟩]))) (
 akA (C34 Γ γ33 γ35) Λ2 J r0.1 (aE.enc r0.2) (List.map aG.enc [])))) := by kernel_rfl
theorem arZ (x7 : Int) (q0 : aE) (w3008 : List aG) : cY SE (C34 Γ γ33 γ35) Λ2 J 34 1 [1, 1, 1, 1, 1, 1, 0, 0] (bC [(0, .ptr 2000000000 0), (2, .fn 35 [.ptr 2000000000 0] []), (7, .d (.int .i64 x7)), (8, .row 3008)] [] [⟨85, (List.map AV.d (aE.enc q0))⟩] [] [(3008, ⟨aG.ks, 73, 32, (List.map aG.enc w3008)⟩)]) =
 cond (decide ((lM aG.enc w3008 : Int) < x7)) (
 cond (q0.err == 0) (
  γ35 [.ptr 2000000000 0] [⟨85, (aE.avs q0)⟩] [] fun r1 =>
  cond (decide ((lM aG.enc w3008 + lM aG.enc [r1.1]) * 32 ≤ 140737488355328)) (
  akA (C34 Γ γ33 γ35) Λ2 J x7 (aE.enc r1.2) (((List.map aG.enc w3008) ++ (List.map aG.enc [r1.1])))) none) (
 (some (.ret [.row 0] [⟨85, (aE.avs q0)⟩] [⟨aG.ks, 73, 32, (List.map aG.enc w3008)⟩])))) (
 (some (.ret [.row 0] [⟨85, (aE.avs q0)⟩] [⟨aG.ks, 73, 32, (List.map aG.enc w3008)⟩]))) := by kernel_rfl
end
abbrev X34 : aP := C34 gG (cT 33 bP) (cT 35 gF)
theorem atC : X34 = aR gG := by unfold X34 C34; repeat rw [bB fun _ h => h]
abbrev asv := akA X34 (cU SE gG (SE.hl 34) (SE.hr 34)) (J0 SE X34)
theorem xE : ∀ (fu : Nat) (x7 : Int) (q0 : aE) (w3008 : List aG), Le (Option.map eT (iK fu x7 q0 w3008)) (asv x7 (aE.enc q0) (List.map aG.enc w3008)) := by
 intro fu
 induction fu with
 | zero => intros; exact le_none
 | succ fu ih =>
  intro x7 q0 w3008
  refine Le.trans ?_ (le_of_eq ((bF atC).trans (arZ ..)).symm)
  unfold iK
  refine lD (by simp only [EN]) ?_ ?_
  ·refine lC ?_ ?_
   ·refine lQ eX aab (aaR _) fun r1 _ => ?_
    refine lG (by simp only [EN]) ?_
    (try simp only [EN]); exact ih x7 r1.2 (w3008 ++ [r1.1])
   ·exact aK rfl
  ·exact aK rfl
theorem aa3 (p0 : aE) (p1 : Int) : Le (Option.map eT (j5 p0 p1)) (bA SE 34 [.ptr 2000000000 0, .d (.int .i64 p1), .fn 35 [.ptr 2000000000 0] []] [⟨85, (aE.avs p0)⟩] []) := by
 refine aX atC rfl ?_
 refine Le.trans ?_ (le_of_eq (T34 ..).symm)
 unfold j5
 refine lQ eX bY (cA _) fun r0 _ => ?_
 refine lC ?_ ?_
 ·exact aK rfl
 ·refine lC ?_ ?_
  ·exact aK rfl
  ·refine lC ?_ ?_
   ·exact aK rfl
   ·(try simp only [EN]); exact xE fuel r0.1 r0.2 []
section
variable (Γ : Fun) (γ60 : Gm (Str × Int × Int)) (Λ2 J : Lam)
def C80 : aP := aZ (aR Γ) 60 jZ γ60
theorem T80 (p0 : aL) (p1 : Int) : bL SE (C80 Γ γ60) Λ2 J 80 [.ptr 2000000000 0, .d (.int .i64 p1)] [⟨141, (aL.avs p0)⟩] [] =
 cond (p0.e != 0) (
 (some (.ret [.d (.str [])] [⟨141, (aL.avs p0)⟩] []))) (
 γ60 [.d (.sl [.int .u8] (List.map (encI .u8) p0.b)), .d (.int .i64 p0.at_), .d (.int .i64 p1)] [] [] fun r0 =>
 cond (r0.2.2 == 0) (
 (some (.ret [.d (.str r0.1)] [⟨141, (aL.avs (aL.mk p0.b r0.2.1 r0.2.2))⟩] []))) (
 (some (.ret [.d (.str r0.1)] [⟨141, (aL.avs (aL.mk p0.b p0.at_ r0.2.2))⟩] [])))) := by kernel_rfl
end
abbrev X80 : aP := C80 gG (cT 60 jZ)
theorem axB : X80 = aR gG := by unfold X80 C80; rw [bB fun _ h => h]
theorem iL (p0 : aL) (p1 : Int) : Le (Option.map fS (bT p0 p1)) (bA SE 80 [.ptr 2000000000 0, .d (.int .i64 p1)] [⟨141, (aL.avs p0)⟩] []) := by
 refine aX axB rfl ?_
 refine Le.trans ?_ (le_of_eq (T80 ..).symm)
 unfold bT
 refine lC ?_ ?_
 ·exact aK rfl
 ·refine lQ eX adw (aeO _ _ _) fun r0 _ => ?_
  refine lC ?_ ?_
  ·exact aK rfl
  ·exact aK rfl
section
variable (Γ : Fun) (γ61 : Gm (Int × Int × Int)) (Λ2 J : Lam)
def C81 : aP := aZ (aR Γ) 61 fW γ61
theorem T81 (p0 : aL) : bL SE (C81 Γ γ61) Λ2 J 81 [.ptr 2000000000 0] [⟨141, (aL.avs p0)⟩] [] =
 cond (p0.e != 0) (
 (some (.ret [.d (.int .i64 0)] [⟨141, (aL.avs p0)⟩] []))) (
 γ61 [.d (.sl [.int .u8] (List.map (encI .u8) p0.b)), .d (.int .i64 p0.at_)] [] [] fun r0 =>
 cond (r0.2.2 == 0) (
 (some (.ret [.d (.int .i64 r0.1)] [⟨141, (aL.avs (aL.mk p0.b r0.2.1 r0.2.2))⟩] []))) (
 (some (.ret [.d (.int .i64 r0.1)] [⟨141, (aL.avs (aL.mk p0.b p0.at_ r0.2.2))⟩] [])))) := by kernel_rfl
end
abbrev X81 : aP := C81 gG (cT 61 fW)
theorem awZ : X81 = aR gG := by unfold X81 C81; rw [bB fun _ h => h]
theorem gS (p0 : aL) : Le (Option.map gJ (bS p0)) (bA SE 81 [.ptr 2000000000 0] [⟨141, (aL.avs p0)⟩] []) := by
 refine aX awZ rfl ?_
 refine Le.trans ?_ (le_of_eq (T81 ..).symm)
 unfold bS
 refine lC ?_ ?_
 ·exact aK rfl
 ·refine lQ eX aaP (abT _ _) fun r0 _ => ?_
  refine lC ?_ ?_
  ·exact aK rfl
  ·exact aK rfl
section
variable (Γ : Fun)  (Λ2 J : Lam)
def C82 : aP := aR Γ
theorem T82 (p0 : aL) (p1 : Bool) (p2 : Int) : bL SE (C82 Γ) Λ2 J 82 [.ptr 2000000000 0, .d (.bool p1), .d (.int .i64 p2)] [⟨141, (aL.avs p0)⟩] [] =
 cond (p0.e == 0) (
 cond (!p1) (
  (some (.ret [] [⟨141, (aL.avs (aL.mk p0.b p0.at_ p2))⟩] []))) (
 (some (.ret [] [⟨141, (aL.avs p0)⟩] [])))) (
 (some (.ret [] [⟨141, (aL.avs p0)⟩] []))) := by kernel_rfl
end
abbrev X82 : aP := C82 gG
theorem awu : X82 = aR gG := rfl
theorem nT (p0 : aL) (p1 : Bool) (p2 : Int) : Le (Option.map fT (cJ p0 p1 p2)) (bA SE 82 [.ptr 2000000000 0, .d (.bool p1), .d (.int .i64 p2)] [⟨141, (aL.avs p0)⟩] []) := by
 refine aX awu rfl ?_
 refine Le.trans ?_ (le_of_eq (T82 ..).symm)
 unfold cJ
 refine lC ?_ ?_
 ·refine lC ?_ ?_
  ·exact aK rfl
  ·exact aK rfl
 ·exact aK rfl
def aoj (C : aP) (Λ2 J : Lam) (a0 a1 a2 : Int) (a3 : Bool) (a4 a5 : List D) (a6 a7 : Str) (a8 : Int) (a9 : Bool) (a10 a11 : Int) (a12 : Str) (a13 : Int) (a14 : List (List D)) : Res := lab SE C Λ2 J 62 0 [1, 1, 1, 1, 1, 1, 1, 1, 1, 1, 1, 1, 1, 1, 1, 1, 0, 1, 0, 0, 1, 0, 0, 0] (bC [(4, .ptr 1000000000 0), (7, .ptr 1000000001 0), (8, .ptr 1000000002 0), (10, .d (.int .i64 a0)), (11, .d (.int .i64 a1)), (62, .ptr 1000000001 0), (63, .ptr 1000000001 0), (64, .ptr 1000000001 2), (65, .d (.int .i64 a2)), (66, .d (.bool a3))] [⟨26, (List.map AV.d a4)⟩, ⟨141, (List.map AV.d a5)⟩, ⟨26, [.d (.str a6), .d (.str a7), .d (.int .i64 a8), .d (.bool a9), .d (.int .i64 a10), .d (.int .i64 a11), .d (.str a12), .d (.int .i64 a13), .row 50208]⟩] [] [] [(50208, ⟨aD.ks, 104, 32, a14⟩)])
def akf (C : aP) (Λ2 J : Lam) (a0 a1 : List D) (a2 a3 : Str) (a4 : Int) (a5 : Bool) (a6 a7 : Int) (a8 : Str) (a9 : Int) (a10 : List (List D)) : Res := lab SE C Λ2 J 62 0 [1, 1, 1, 1, 1, 1, 1, 1, 1, 1, 1, 1, 1, 1, 1, 1, 1, 1, 0, 0] (bC [(4, .ptr 1000000000 0), (7, .ptr 1000000001 0), (8, .ptr 1000000002 0)] [⟨26, (List.map AV.d a0)⟩, ⟨141, (List.map AV.d a1)⟩, ⟨26, [.d (.str a2), .d (.str a3), .d (.int .i64 a4), .d (.bool a5), .d (.int .i64 a6), .d (.int .i64 a7), .d (.str a8), .d (.int .i64 a9), .row 50208]⟩] [] [] [(50208, ⟨aD.ks, 104, 32, a10⟩)])
def akW (C : aP) (Λ2 J : Lam) (a0 a1 : List D) (a2 a3 : Str) (a4 : Int) (a5 : Bool) (a6 a7 : Int) (a8 : Str) (a9 : Int) (a10 : List (List D)) : Res := lab SE C Λ2 J 62 0 [1, 1, 1, 1, 1, 1, 1, 1, 1, 1, 1, 1, 1, 1, 1, 1, 1, 0, 0] (bC [(4, .ptr 1000000000 0), (7, .ptr 1000000001 0), (8, .ptr 1000000002 0)] [⟨26, (List.map AV.d a0)⟩, ⟨141, (List.map AV.d a1)⟩, ⟨26, [.d (.str a2), .d (.str a3), .d (.int .i64 a4), .d (.bool a5), .d (.int .i64 a6), .d (.int .i64 a7), .d (.str a8), .d (.int .i64 a9), .row 50208]⟩] [] [] [(50208, ⟨aD.ks, 104, 32, a10⟩)])
def alc (C : aP) (Λ2 J : Lam) (a0 a1 : Int) (a2 a3 : List D) (a4 a5 : Str) (a6 : Int) (a7 : Bool) (a8 a9 : Int) (a10 : Str) (a11 : Int) (a12 : List (List D)) : Res := lab SE C Λ2 J 62 0 [1, 1, 1, 1, 1, 1, 1, 1, 1, 1, 1, 1, 1, 1, 1, 1, 0, 1, 0] (bC [(4, .ptr 1000000000 0), (7, .ptr 1000000001 0), (8, .ptr 1000000002 0), (10, .d (.int .i64 a0)), (11, .d (.int .i64 a1))] [⟨26, (List.map AV.d a2)⟩, ⟨141, (List.map AV.d a3)⟩, ⟨26, [.d (.str a4), .d (.str a5), .d (.int .i64 a6), .d (.bool a7), .d (.int .i64 a8), .d (.int .i64 a9), .d (.str a10), .d (.int .i64 a11), .row 50208]⟩] [] [] [(50208, ⟨aD.ks, 104, 32, a12⟩)])
section
variable (Γ : Fun) (γ80 : Gm (Str × aL)) (γ81 : Gm (Int × aL)) (γ83 : Gm (Bool)) (γ82 : Gm (aL)) (γ68 : Gm (Int)) (Λ2 J : Lam)
def C62 : aP := aZ (aZ (aZ (aZ (aZ (aR Γ) 80 fS γ80) 81 gJ γ81) 83 aI γ83) 82 fT γ82) 68 aJ γ68
theorem T62 (p0 : List Int) (p1 : Int) : bL SE (C62 Γ γ80 γ81 γ83 γ82 γ68) Λ2 J 62 [.d (.sl [.int .u8] (List.map (encI .u8) p0)), .d (.int .i64 p1)] [] [] =
 γ80 [.ptr 2000000000 0, .d (.int .i64 64)] [⟨141, (aL.avs (aL.mk p0 p1 0))⟩] [] fun r0 =>
 γ80 [.ptr 2000000000 0, .d (.int .i64 256)] [⟨141, (aL.avs r0.2)⟩] [] fun r1 =>
 γ81 [.ptr 2000000000 0] [⟨141, (aL.avs r1.2)⟩] [] fun r2 =>
 γ81 [.ptr 2000000000 0] [⟨141, (aL.avs r2.2)⟩] [] fun r3 =>
 γ83 [.d (.int .i64 r3.1), .d (.int .i64 1)] [] [] fun r4 =>
 γ82 [.ptr 2000000000 0, .d (.bool r4), .d (.int .i64 2)] [⟨141, (aL.avs r3.2)⟩] [] fun r5 =>
 γ81 [.ptr 2000000000 0] [⟨141, (aL.avs r5)⟩] [] fun r6 =>
 γ81 [.ptr 2000000000 0] [⟨141, (aL.avs r6.2)⟩] [] fun r7 =>
 γ80 [.ptr 2000000000 0, .d (.int .i64 16)] [⟨141, (aL.avs r7.2)⟩] [] fun r8 =>
 γ81 [.ptr 2000000000 0] [⟨141, (aL.avs r8.2)⟩] [] fun r9 =>
 γ81 [.ptr 2000000000 0] [⟨141, (aL.avs r9.2)⟩] [] fun r10 =>
 γ82 [.ptr 2000000000 0, .d (.bool (decide (r10.1 ≥ 0))), .d (.int .i64 2)] [⟨141, (aL.avs r10.2)⟩] [] fun r11 =>
 γ82 [.ptr 2000000000 0, .d (.bool (decide (r10.1 ≤ 8))), .d (.int .i64 5)] [⟨141, (aL.avs r11)⟩] [] fun r12 =>
 alc (C62 Γ γ80 γ81 γ83 γ82 γ68) Λ2 J r10.1 0 [D.str [], D.str [], D.int .i64 0, D.bool false, D.int .i64 0, D.int .i64 0, D.str [], D.int .i64 0, D.sl aD.ks (List.map aD.enc [])] (aL.enc r12) r0.1 r1.1 r2.1 (r3.1 == 1) r6.1 r7.1 r8.1 r9.1 (List.map aD.enc []) := by kernel_rfl
theorem as8 (x10 x11 x65 : Int) (x66 : Bool) (b0 : aA) (b1 : aL) (b2_0 b2_1 : Str) (b2_2 : Int) (b2_3 : Bool) (b2_4 b2_5 : Int) (b2_6 : Str) (b2_7 : Int) (w50208 : List aD) : cY SE (C62 Γ γ80 γ81 γ83 γ82 γ68) Λ2 J 62 0 [1, 1, 1, 1, 1, 1, 1, 1, 1, 1, 1, 1, 1, 1, 1, 1, 0, 1, 0, 0, 1, 0, 0, 0] (bC [(4, .ptr 1000000000 0), (7, .ptr 1000000001 0), (8, .ptr 1000000002 0), (10, .d (.int .i64 x10)), (11, .d (.int .i64 x11)), (62, .ptr 1000000001 0), (63, .ptr 1000000001 0), (64, .ptr 1000000001 2), (65, .d (.int .i64 x65)), (66, .d (.bool x66))] [⟨26, (List.map AV.d (aA.enc b0))⟩, ⟨141, (List.map AV.d (aL.enc b1))⟩, ⟨26, [.d (.str b2_0), .d (.str b2_1), .d (.int .i64 b2_2), .d (.bool b2_3), .d (.int .i64 b2_4), .d (.int .i64 b2_5), .d (.str b2_6), .d (.int .i64 b2_7), .row 50208]⟩] [] [] [(50208, ⟨aD.ks, 104, 32, (List.map aD.enc w50208)⟩)]) =
 γ80 [.ptr 2000000000 0, .d (.int .i64 16)] [⟨141, (aL.avs b1)⟩] [] fun r13 =>
 γ80 [.ptr 2000000000 0, .d (.int .i64 160)] [⟨141, (aL.avs r13.2)⟩] [] fun r14 =>
 cond (decide ((lM aD.enc w50208 + lM aD.enc [(aD.mk r13.1 r14.1)]) * 32 ≤ 140737488355328)) (
 alc (C62 Γ γ80 γ81 γ83 γ82 γ68) Λ2 J x10 (w6 (x11 + 1)) (aA.enc b0) (aL.enc r14.2) b2_0 b2_1 b2_2 b2_3 b2_4 b2_5 b2_6 b2_7 (((List.map aD.enc w50208) ++ (List.map aD.enc [(aD.mk r13.1 r14.1)])))) none := by kernel_rfl
theorem asa (b0 : aA) (b1 : aL) (b2_0 b2_1 : Str) (b2_2 : Int) (b2_3 : Bool) (b2_4 b2_5 : Int) (b2_6 : Str) (b2_7 : Int) (w50208 : List aD) : cY SE (C62 Γ γ80 γ81 γ83 γ82 γ68) Λ2 J 62 0 [1, 1, 1, 1, 1, 1, 1, 1, 1, 1, 1, 1, 1, 1, 1, 1, 1, 1, 0, 0] (bC [(4, .ptr 1000000000 0), (7, .ptr 1000000001 0), (8, .ptr 1000000002 0)] [⟨26, (List.map AV.d (aA.enc b0))⟩, ⟨141, (List.map AV.d (aL.enc b1))⟩, ⟨26, [.d (.str b2_0), .d (.str b2_1), .d (.int .i64 b2_2), .d (.bool b2_3), .d (.int .i64 b2_4), .d (.int .i64 b2_5), .d (.str b2_6), .d (.int .i64 b2_7), .row 50208]⟩] [] [] [(50208, ⟨aD.ks, 104, 32, (List.map aD.enc w50208)⟩)]) =
 cond (b1.e != 0) (
 (some (.ret [.agg [.d (.str []), .d (.str []), .d (.int .i64 0), .d (.bool false), .d (.int .i64 0), .d (.int .i64 0), .d (.str []), .d (.int .i64 0), .row 0], .d (.int .i64 0), .d (.int .i64 b1.e)] [] [⟨aD.ks, 104, 32, (List.map aD.enc [])⟩]))) (
 (some (.ret [.agg [.d (.str b2_0), .d (.str b2_1), .d (.int .i64 b2_2), .d (.bool b2_3), .d (.int .i64 b2_4), .d (.int .i64 b2_5), .d (.str b2_6), .d (.int .i64 b2_7), .row 0], .d (.int .i64 b1.at_), .d (.int .i64 0)] [] [⟨aD.ks, 104, 32, (List.map aD.enc w50208)⟩]))) := by kernel_rfl
theorem asF (b0 : aA) (b1 : aL) (b2_0 b2_1 : Str) (b2_2 : Int) (b2_3 : Bool) (b2_4 b2_5 : Int) (b2_6 : Str) (b2_7 : Int) (w50208 : List aD) : cY SE (C62 Γ γ80 γ81 γ83 γ82 γ68) Λ2 J 62 0 [1, 1, 1, 1, 1, 1, 1, 1, 1, 1, 1, 1, 1, 1, 1, 1, 1, 0, 0] (bC [(4, .ptr 1000000000 0), (7, .ptr 1000000001 0), (8, .ptr 1000000002 0)] [⟨26, (List.map AV.d (aA.enc b0))⟩, ⟨141, (List.map AV.d (aL.enc b1))⟩, ⟨26, [.d (.str b2_0), .d (.str b2_1), .d (.int .i64 b2_2), .d (.bool b2_3), .d (.int .i64 b2_4), .d (.int .i64 b2_5), .d (.str b2_6), .d (.int .i64 b2_7), .row 50208]⟩] [] [] [(50208, ⟨aD.ks, 104, 32, (List.map aD.enc w50208)⟩)]) =
 cond (b1.e == 0) (
 γ68 [aA.av (aA.mk b2_0 b2_1 b2_2 b2_3 b2_4 b2_5 b2_6 b2_7 w50208)] [] [] fun r15 =>
 akf (C62 Γ γ80 γ81 γ83 γ82 γ68) Λ2 J (aA.enc b0) (aL.enc (aL.mk b1.b b1.at_ r15)) b2_0 b2_1 b2_2 b2_3 b2_4 b2_5 b2_6 b2_7 (List.map aD.enc w50208)) (
 akf (C62 Γ γ80 γ81 γ83 γ82 γ68) Λ2 J (aA.enc b0) (aL.enc b1) b2_0 b2_1 b2_2 b2_3 b2_4 b2_5 b2_6 b2_7 (List.map aD.enc w50208)) := by kernel_rfl
theorem ar1 (x10 x11 : Int) (b0 : aA) (b1 : aL) (b2_0 b2_1 : Str) (b2_2 : Int) (b2_3 : Bool) (b2_4 b2_5 : Int) (b2_6 : Str) (b2_7 : Int) (w50208 : List aD) : cY SE (C62 Γ γ80 γ81 γ83 γ82 γ68) Λ2 J 62 0 [1, 1, 1, 1, 1, 1, 1, 1, 1, 1, 1, 1, 1, 1, 1, 1, 0, 1, 0] (bC [(4, .ptr 1000000000 0), (7, .ptr 1000000001 0), (8, .ptr 1000000002 0), (10, .d (.int .i64 x10)), (11, .d (.int .i64 x11))] [⟨26, (List.map AV.d (aA.enc b0))⟩, ⟨141, (List.map AV.d (aL.enc b1))⟩, ⟨26, [.d (.str b2_0), .d (.str b2_1), .d (.int .i64 b2_2), .d (.bool b2_3), .d (.int .i64 b2_4), .d (.int .i64 b2_5), .d (.str b2_6), .d (.int .i64 b2_7), .row 50208]⟩] [] [] [(50208, ⟨aD.ks, 104, 32, (List.map aD.enc w50208)⟩)]) =
 cond (decide (x11 < x10)) (
 cond (b1.e == 0) (
  aoj (C62 Γ γ80 γ81 γ83 γ82 γ68) Λ2 J x10 x11 b1.e (b1.e == 0) (aA.enc b0) (aL.enc b1) b2_0 b2_1 b2_2 b2_3 b2_4 b2_5 b2_6 b2_7 (List.map aD.enc w50208)) (
 akW (C62 Γ γ80 γ81 γ83 γ82 γ68) Λ2 J (aA.enc b0) (aL.enc b1) b2_0 b2_1 b2_2 b2_3 b2_4 b2_5 b2_6 b2_7 (List.map aD.enc w50208))) (
 akW (C62 Γ γ80 γ81 γ83 γ82 γ68) Λ2 J (aA.enc b0) (aL.enc b1) b2_0 b2_1 b2_2 b2_3 b2_4 b2_5 b2_6 b2_7 (List.map aD.enc w50208)) := by kernel_rfl
end
abbrev X62 : aP := C62 gG (cT 80 fS) (cT 81 gJ) (cT 83 aI) (cT 82 fT) (cT 68 aJ)
theorem alb : X62 = aR gG := by unfold X62 C62; repeat rw [bB fun _ h => h]
abbrev asy := aoj X62 (cU SE gG (SE.hl 62) (SE.hr 62)) (J0 SE X62)
abbrev asX := akf X62 (cU SE gG (SE.hl 62) (SE.hr 62)) (J0 SE X62)
abbrev ass := akW X62 (cU SE gG (SE.hl 62) (SE.hr 62)) (J0 SE X62)
abbrev an5 := alc X62 (cU SE gG (SE.hl 62) (SE.hr 62)) (J0 SE X62)
theorem adJ (k17 : Int → Int → aA → aL → Str → Str → Int → Bool → Int → Int → Str → Int → (List aD) → Option (aA × Int × Int)) (hk17 : ∀ (x10 x11 : Int) (b0 : aA) (b1 : aL) (b2_0 b2_1 : Str) (b2_2 : Int) (b2_3 : Bool) (b2_4 b2_5 : Int) (b2_6 : Str) (b2_7 : Int) (w50208 : List aD), Le (Option.map fF (k17 x10 x11 b0 b1 b2_0 b2_1 b2_2 b2_3 b2_4 b2_5 b2_6 b2_7 w50208)) (an5 x10 x11 (aA.enc b0) (aL.enc b1) b2_0 b2_1 b2_2 b2_3 b2_4 b2_5 b2_6 b2_7 (List.map aD.enc w50208))) (x10 x11 x65 : Int) (x66 : Bool) (b0 : aA) (b1 : aL) (b2_0 b2_1 : Str) (b2_2 : Int) (b2_3 : Bool) (b2_4 b2_5 : Int) (b2_6 : Str) (b2_7 : Int) (w50208 : List aD) : Le (Option.map fF (rF k17 x10 x11 x65 x66 b0 b1 b2_0 b2_1 b2_2 b2_3 b2_4 b2_5 b2_6 b2_7 w50208)) (asy x10 x11 x65 x66 (aA.enc b0) (aL.enc b1) b2_0 b2_1 b2_2 b2_3 b2_4 b2_5 b2_6 b2_7 (List.map aD.enc w50208)) := by
 refine Le.trans ?_ (le_of_eq ((bF alb).trans (as8 ..)).symm)
 unfold rF
 refine lQ eX hH (iL _ _) fun r13 _ => ?_
 refine lQ eX hH (iL _ _) fun r14 _ => ?_
 refine lG (by simp only [EN]) ?_
 (try simp only [EN]); exact hk17 x10 (w6 (x11 + 1)) b0 r14.2 b2_0 b2_1 b2_2 b2_3 b2_4 b2_5 b2_6 b2_7 (w50208 ++ [(aD.mk r13.1 r14.1)])
theorem xA (b0 : aA) (b1 : aL) (b2_0 b2_1 : Str) (b2_2 : Int) (b2_3 : Bool) (b2_4 b2_5 : Int) (b2_6 : Str) (b2_7 : Int) (w50208 : List aD) : Le (Option.map fF (mA b0 b1 b2_0 b2_1 b2_2 b2_3 b2_4 b2_5 b2_6 b2_7 w50208)) (asX (aA.enc b0) (aL.enc b1) b2_0 b2_1 b2_2 b2_3 b2_4 b2_5 b2_6 b2_7 (List.map aD.enc w50208)) := by
 refine Le.trans ?_ (le_of_eq ((bF alb).trans (asa ..)).symm)
 unfold mA
 refine lC ?_ ?_
 ·exact aK rfl
 ·exact aK rfl
theorem xD (b0 : aA) (b1 : aL) (b2_0 b2_1 : Str) (b2_2 : Int) (b2_3 : Bool) (b2_4 b2_5 : Int) (b2_6 : Str) (b2_7 : Int) (w50208 : List aD) : Le (Option.map fF (j2 b0 b1 b2_0 b2_1 b2_2 b2_3 b2_4 b2_5 b2_6 b2_7 w50208)) (ass (aA.enc b0) (aL.enc b1) b2_0 b2_1 b2_2 b2_3 b2_4 b2_5 b2_6 b2_7 (List.map aD.enc w50208)) := by
 refine Le.trans ?_ (le_of_eq ((bF alb).trans (asF ..)).symm)
 unfold j2
 refine lC ?_ ?_
 ·refine lQ eX bK (oU _) fun r15 _ => ?_
  exact xA b0 (aL.mk b1.b b1.at_ r15) b2_0 b2_1 b2_2 b2_3 b2_4 b2_5 b2_6 b2_7 w50208
 ·exact xA b0 b1 b2_0 b2_1 b2_2 b2_3 b2_4 b2_5 b2_6 b2_7 w50208
theorem adI : ∀ (fu : Nat) (x10 x11 : Int) (b0 : aA) (b1 : aL) (b2_0 b2_1 : Str) (b2_2 : Int) (b2_3 : Bool) (b2_4 b2_5 : Int) (b2_6 : Str) (b2_7 : Int) (w50208 : List aD), Le (Option.map fF (eP fu x10 x11 b0 b1 b2_0 b2_1 b2_2 b2_3 b2_4 b2_5 b2_6 b2_7 w50208)) (an5 x10 x11 (aA.enc b0) (aL.enc b1) b2_0 b2_1 b2_2 b2_3 b2_4 b2_5 b2_6 b2_7 (List.map aD.enc w50208)) := by
 intro fu
 induction fu with
 | zero => intros; exact le_none
 | succ fu ih =>
  intro x10 x11 b0 b1 b2_0 b2_1 b2_2 b2_3 b2_4 b2_5 b2_6 b2_7 w50208
  refine Le.trans ?_ (le_of_eq ((bF alb).trans (ar1 ..)).symm)
  unfold eP
  refine lC ?_ ?_
  ·refine lC ?_ ?_
   ·exact adJ _ (ih) x10 x11 b1.e (b1.e == 0) b0 b1 b2_0 b2_1 b2_2 b2_3 b2_4 b2_5 b2_6 b2_7 w50208
   ·exact xD b0 b1 b2_0 b2_1 b2_2 b2_3 b2_4 b2_5 b2_6 b2_7 w50208
  ·exact xD b0 b1 b2_0 b2_1 b2_2 b2_3 b2_4 b2_5 b2_6 b2_7 w50208
theorem ahr (p0 : List Int) (p1 : Int) : Le (Option.map fF (oI p0 p1)) (bA SE 62 [.d (.sl [.int .u8] (List.map (encI .u8) p0)), .d (.int .i64 p1)] [] []) := by
 refine aX alb rfl ?_
 refine Le.trans ?_ (le_of_eq (T62 ..).symm)
 unfold oI
 refine lQ eX hH (iL _ _) fun r0 _ => ?_
 refine lQ eX hH (iL _ _) fun r1 _ => ?_
 refine lQ eX gI (gS _) fun r2 _ => ?_
 refine lQ eX gI (gS _) fun r3 _ => ?_
 refine lQ eX bE (oZ _ _) fun r4 _ => ?_
 refine lQ eX nG (nT _ _ _) fun r5 _ => ?_
 refine lQ eX gI (gS _) fun r6 _ => ?_
 refine lQ eX gI (gS _) fun r7 _ => ?_
 refine lQ eX hH (iL _ _) fun r8 _ => ?_
 refine lQ eX gI (gS _) fun r9 _ => ?_
 refine lQ eX gI (gS _) fun r10 _ => ?_
 refine lQ eX nG (nT _ _ _) fun r11 _ => ?_
 refine lQ eX nG (nT _ _ _) fun r12 _ => ?_
 (try simp only [EN]); exact adI fuel r10.1 0 ((aA.mk [] [] 0 false 0 0 [] 0 [])) r12 r0.1 r1.1 r2.1 (r3.1 == 1) r6.1 r7.1 r8.1 r9.1 []
section
variable (Γ : Fun) (γ62 : Gm (aA × Int × Int)) (Λ2 J : Lam)
def C37 : aP := aZ (aR Γ) 62 fF γ62
theorem T37 (p0 : aE) : bL SE (C37 Γ γ62) Λ2 J 37 [.ptr 2000000000 0] [⟨85, (aE.avs p0)⟩] [] =
 cond (p0.err != 0) (
 (some (.ret [.agg [.d (.str []), .d (.str []), .d (.int .i64 0), .d (.bool false), .d (.int .i64 0), .d (.int .i64 0), .d (.str []), .d (.int .i64 0), .row 0]] [⟨85, (aE.avs p0)⟩] [⟨aD.ks, 104, 32, (List.map aD.enc [])⟩]))) (
 γ62 [.d (.sl [.int .u8] (List.map (encI .u8) p0.b)), .d (.int .i64 p0.at_)] [] [] fun r0 =>
 cond (r0.2.2 != 0) (
 (some (.ret [.agg [.d (.str []), .d (.str []), .d (.int .i64 0), .d (.bool false), .d (.int .i64 0), .d (.int .i64 0), .d (.str []), .d (.int .i64 0), .row 0]] [⟨85, (aE.avs (aE.mk p0.b p0.at_ r0.2.2))⟩] [⟨aD.ks, 104, 32, (List.map aD.enc [])⟩]))) (
 (some (.ret [.agg [.d (.str r0.1.Topic), .d (.str r0.1.Payload), .d (.int .i64 r0.1.Level), .d (.bool r0.1.Retain), .d (.int .i64 r0.1.Priority), .d (.int .i64 r0.1.Expires), .d (.str r0.1.From), .d (.int .i64 r0.1.Seq), .row 0]] [⟨85, (aE.avs (aE.mk p0.b r0.2.1 p0.err))⟩] [⟨aD.ks, 104, 32, (List.map aD.enc r0.1.Props)⟩])))) := by kernel_rfl
end
abbrev X37 : aP := C37 gG (cT 62 fF)
theorem awQ : X37 = aR gG := by unfold X37 C37; rw [bB fun _ h => h]
theorem lX (p0 : aE) : Le (Option.map cV (dE p0)) (bA SE 37 [.ptr 2000000000 0] [⟨85, (aE.avs p0)⟩] []) := by
 refine aX awQ rfl ?_
 refine Le.trans ?_ (le_of_eq (T37 ..).symm)
 unfold dE
 refine lC ?_ ?_
 ·exact aK rfl
 ·refine lQ eX ago (ahr _ _) fun r0 _ => ?_
  refine lC ?_ ?_
  ·exact aK rfl
  ·exact aK rfl
def akP (C : aP) (Λ2 J : Lam) (a0 : Int) (a1 : List D) (a2 : List (List D)) : Res := lab SE C Λ2 J 36 1 [1, 1, 1, 1, 1, 1, 0, 0] (bC [(0, .ptr 2000000000 0), (2, .fn 37 [.ptr 2000000000 0] []), (7, .d (.int .i64 a0)), (8, .row 3008)] [] [⟨85, (List.map AV.d a1)⟩] [] [(3008, ⟨aA.ks, 26, 112, a2⟩)])
section
variable (Γ : Fun) (γ33 : Gm (Int × aE)) (γ37 : Gm (aA × aE)) (Λ2 J : Lam)
def C36 : aP := aZ (aZ (aR Γ) 33 bP γ33) 37 cV γ37
theorem T36 (p0 : aE) (p1 : Int) : bL SE (C36 Γ γ33 γ37) Λ2 J 36 [.ptr 2000000000 0, .d (.int .i64 p1), .fn 37 [.ptr 2000000000 0] []] [⟨85, (aE.avs p0)⟩] [] =
 γ33 [.ptr 2000000000 0] [⟨85, (aE.avs p0)⟩] [] fun r0 =>
 cond (r0.2.err != 0) (
 (some (.ret [.row 0] [⟨85, (aE.avs r0.2)⟩] [⟨aA.ks, 26, 112, []⟩]))) (
 cond (decide (r0.1 < 0)) (
 (some (.ret [.row 0] [⟨85, (aE.avs (aE.mk r0.2.b r0.2.at_ 2))⟩] [⟨aA.ks, 26, 112, []⟩]))) (
 cond (decide (r0.1 > p1)) (
 (some (.ret [.row 0] [⟨85, (aE.avs (aE.mk r0.2.b r0.2.at_ 5))⟩] [⟨aA.ks, 26, 112, []⟩]))) (
 akP (C36 Γ γ33 γ37) Λ2 J r0.1 (aE.enc r0.2) (List.map aA.enc [])))) := by kernel_rfl
theorem asZ (x7 : Int) (q0 : aE) (w3008 : List aA) : cY SE (C36 Γ γ33 γ37) Λ2 J 36 1 [1, 1, 1, 1, 1, 1, 0, 0] (bC [(0, .ptr 2000000000 0), (2, .fn 37 [.ptr 2000000000 0] []), (7, .d (.int .i64 x7)), (8, .row 3008)] [] [⟨85, (List.map AV.d (aE.enc q0))⟩] [] [(3008, ⟨aA.ks, 26, 112, (List.map aA.enc w3008)⟩)]) =
 cond (decide ((lM aA.enc w3008 : Int) < x7)) (
 cond (q0.err == 0) (
  γ37 [.ptr 2000000000 0] [⟨85, (aE.avs q0)⟩] [] fun r1 =>
  cond (decide ((lM aA.enc w3008 + lM aA.enc [r1.1]) * 112 ≤ 140737488355328)) (
  akP (C36 Γ γ33 γ37) Λ2 J x7 (aE.enc r1.2) (((List.map aA.enc w3008) ++ (List.map aA.enc [r1.1])))) none) (
 (some (.ret [.row 0] [⟨85, (aE.avs q0)⟩] [⟨aA.ks, 26, 112, (List.map aA.enc w3008)⟩])))) (
 (some (.ret [.row 0] [⟨85, (aE.avs q0)⟩] [⟨aA.ks, 26, 112, (List.map aA.enc w3008)⟩]))) := by kernel_rfl
end
abbrev X36 : aP := C36 gG (cT 33 bP) (cT 37 cV)
theorem asf : X36 = aR gG := by unfold X36 C36; repeat rw [bB fun _ h => h]
abbrev atn := akP X36 (cU SE gG (SE.hl 36) (SE.hr 36)) (J0 SE X36)
theorem vB : ∀ (fu : Nat) (x7 : Int) (q0 : aE) (w3008 : List aA), Le (Option.map eA (gK fu x7 q0 w3008)) (atn x7 (aE.enc q0) (List.map aA.enc w3008)) := by
 intro fu
 induction fu with
 | zero => intros; exact le_none
 | succ fu ih =>
  intro x7 q0 w3008
  refine Le.trans ?_ (le_of_eq ((bF asf).trans (asZ ..)).symm)
  unfold gK
  refine lD (by simp only [EN]) ?_ ?_
  ·refine lC ?_ ?_
   ·refine lQ eX lO (lX _) fun r1 _ => ?_
    refine lG (by simp only [EN]) ?_
    (try simp only [EN]); exact ih x7 r1.2 (w3008 ++ [r1.1])
   ·exact aK rfl
  ·exact aK rfl
theorem xP (p0 : aE) (p1 : Int) : Le (Option.map eA (iM p0 p1)) (bA SE 36 [.ptr 2000000000 0, .d (.int .i64 p1), .fn 37 [.ptr 2000000000 0] []] [⟨85, (aE.avs p0)⟩] []) := by
 refine aX asf rfl ?_
 refine Le.trans ?_ (le_of_eq (T36 ..).symm)
 unfold iM
 refine lQ eX bY (cA _) fun r0 _ => ?_
 refine lC ?_ ?_
 ·exact aK rfl
 ·refine lC ?_ ?_
  ·exact aK rfl
  ·refine lC ?_ ?_
   ·exact aK rfl
   ·(try simp only [EN]); exact vB fuel r0.1 r0.2 []
section
variable (Γ : Fun) (γ33 : Gm (Int × aE)) (γ37 : Gm (aA × aE)) (Λ2 J : Lam)
def C39 : aP := aZ (aZ (aR Γ) 33 bP γ33) 37 cV γ37
theorem T39 (p0 : aE) : bL SE (C39 Γ γ33 γ37) Λ2 J 39 [.ptr 2000000000 0] [⟨85, (aE.avs p0)⟩] [] =
 γ33 [.ptr 2000000000 0] [⟨85, (aE.avs p0)⟩] [] fun r0 =>
 γ33 [.ptr 2000000000 0] [⟨85, (aE.avs r0.2)⟩] [] fun r1 =>
 γ37 [.ptr 2000000000 0] [⟨85, (aE.avs r1.2)⟩] [] fun r2 =>
 (some (.ret [.agg [.d (.int .i64 r0.1), .d (.int .i64 r1.1), .d (.str r2.1.Topic), .d (.str r2.1.Payload), .d (.int .i64 r2.1.Level), .d (.bool r2.1.Retain), .d (.int .i64 r2.1.Priority), .d (.int .i64 r2.1.Expires), .d (.str r2.1.From), .d (.int .i64 r2.1.Seq), .row 0]] [⟨85, (aE.avs r2.2)⟩] [⟨aD.ks, 104, 32, (List.map aD.enc r2.1.Props)⟩])) := by kernel_rfl
end
abbrev X39 : aP := C39 gG (cT 33 bP) (cT 37 cV)
theorem axO : X39 = aR gG := by unfold X39 C39; repeat rw [bB fun _ h => h]
theorem yT (p0 : aE) : Le (Option.map fB (iY p0)) (bA SE 39 [.ptr 2000000000 0] [⟨85, (aE.avs p0)⟩] []) := by
 refine aX axO rfl ?_
 refine Le.trans ?_ (le_of_eq (T39 ..).symm)
 unfold iY
 refine lQ eX bY (cA _) fun r0 _ => ?_
 refine lQ eX bY (cA _) fun r1 _ => ?_
 refine lQ eX lO (lX _) fun r2 _ => ?_
 exact aK rfl
def akq (C : aP) (Λ2 J : Lam) (a0 : Int) (a1 : List D) (a2 : List (List D)) : Res := lab SE C Λ2 J 38 1 [1, 1, 1, 1, 1, 1, 0, 0] (bC [(0, .ptr 2000000000 0), (2, .fn 39 [.ptr 2000000000 0] []), (7, .d (.int .i64 a0)), (8, .row 3008)] [] [⟨85, (List.map AV.d a1)⟩] [] [(3008, ⟨aB.ks, 79, 128, a2⟩)])
section
variable (Γ : Fun) (γ33 : Gm (Int × aE)) (γ39 : Gm (aB × aE)) (Λ2 J : Lam)
def C38 : aP := aZ (aZ (aR Γ) 33 bP γ33) 39 fB γ39
theorem T38 (p0 : aE) (p1 : Int) : bL SE (C38 Γ γ33 γ39) Λ2 J 38 [.ptr 2000000000 0, .d (.int .i64 p1), .fn 39 [.ptr 2000000000 0] []] [⟨85, (aE.avs p0)⟩] [] =
 γ33 [.ptr 2000000000 0] [⟨85, (aE.avs p0)⟩] [] fun r0 =>
 cond (r0.2.err != 0) (
 (some (.ret [.row 0] [⟨85, (aE.avs r0.2)⟩] [⟨aB.ks, 79, 128, []⟩]))) (
 cond (decide (r0.1 < 0)) (
 (some (.ret [.row 0] [⟨85, (aE.avs (aE.mk r0.2.b r0.2.at_ 2))⟩] [⟨aB.ks, 79, 128, []⟩]))) (
 cond (decide (r0.1 > p1)) (
 (some (.ret [.row 0] [⟨85, (aE.avs (aE.mk r0.2.b r0.2.at_ 5))⟩] [⟨aB.ks, 79, 128, []⟩]))) (
 akq (C38 Γ γ33 γ39) Λ2 J r0.1 (aE.enc r0.2) (List.map aB.enc [])))) := by kernel_rfl
theorem atI (x7 : Int) (q0 : aE) (w3008 : List aB) : cY SE (C38 Γ γ33 γ39) Λ2 J 38 1 [1, 1, 1, 1, 1, 1, 0, 0] (bC [(0, .ptr 2000000000 0), (2, .fn 39 [.ptr 2000000000 0] []), (7, .d (.int .i64 x7)), (8, .row 3008)] [] [⟨85, (List.map AV.d (aE.enc q0))⟩] [] [(3008, ⟨aB.ks, 79, 128, (List.map aB.enc w3008)⟩)]) =
 cond (decide ((lM aB.enc w3008 : Int) < x7)) (
 cond (q0.err == 0) (
  γ39 [.ptr 2000000000 0] [⟨85, (aE.avs q0)⟩] [] fun r1 =>
  cond (decide ((lM aB.enc w3008 + lM aB.enc [r1.1]) * 128 ≤ 140737488355328)) (
  akq (C38 Γ γ33 γ39) Λ2 J x7 (aE.enc r1.2) (((List.map aB.enc w3008) ++ (List.map aB.enc [r1.1])))) none) (
 (some (.ret [.row 0] [⟨85, (aE.avs q0)⟩] [⟨aB.ks, 79, 128, (List.map aB.enc w3008)⟩])))) (
 (some (.ret [.row 0] [⟨85, (aE.avs q0)⟩] [⟨aB.ks, 79, 128, (List.map aB.enc w3008)⟩]))) := by kernel_rfl
end
abbrev X38 : aP := C38 gG (cT 33 bP) (cT 39 fB)
theorem as9 : X38 = aR gG := by unfold X38 C38; repeat rw [bB fun _ h => h]
abbrev atQ := akq X38 (cU SE gG (SE.hl 38) (SE.hr 38)) (J0 SE X38)
theorem vU : ∀ (fu : Nat) (x7 : Int) (q0 : aE) (w3008 : List aB), Le (Option.map eE (gT fu x7 q0 w3008)) (atQ x7 (aE.enc q0) (List.map aB.enc w3008)) := by
 intro fu
 induction fu with
 | zero => intros; exact le_none
 | succ fu ih =>
  intro x7 q0 w3008
  refine Le.trans ?_ (le_of_eq ((bF as9).trans (atI ..)).symm)
  unfold gT
  refine lD (by simp only [EN]) ?_ ?_
  ·refine lC ?_ ?_
   ·refine lQ eX xG (yT _) fun r1 _ => ?_
    refine lG (by simp only [EN]) ?_
    (try simp only [EN]); exact ih x7 r1.2 (w3008 ++ [r1.1])
   ·exact aK rfl
  ·exact aK rfl
theorem yN (p0 : aE) (p1 : Int) : Le (Option.map eE (iT p0 p1)) (bA SE 38 [.ptr 2000000000 0, .d (.int .i64 p1), .fn 39 [.ptr 2000000000 0] []] [⟨85, (aE.avs p0)⟩] []) := by
 refine aX as9 rfl ?_
 refine Le.trans ?_ (le_of_eq (T38 ..).symm)
 unfold iT
 refine lQ eX bY (cA _) fun r0 _ => ?_
 refine lC ?_ ?_
 ·exact aK rfl
 ·refine lC ?_ ?_
  ·exact aK rfl
  ·refine lC ?_ ?_
   ·exact aK rfl
   ·(try simp only [EN]); exact vU fuel r0.1 r0.2 []
def akQ (C : aP) (Λ2 J : Lam) (a0 : Int) (a1 : List D) (a2 : List (List D)) : Res := lab SE C Λ2 J 40 1 [1, 1, 1, 1, 1, 1, 0, 0] (bC [(0, .ptr 2000000000 0), (2, .fn 33 [.ptr 2000000000 0] []), (7, .d (.int .i64 a0)), (8, .row 3008)] [] [⟨85, (List.map AV.d a1)⟩] [] [(3008, ⟨[.int .i64], 3, 8, a2⟩)])
section
variable (Γ : Fun) (γ33 : Gm (Int × aE)) (Λ2 J : Lam)
def C40 : aP := aZ (aR Γ) 33 bP γ33
theorem T40 (p0 : aE) (p1 : Int) : bL SE (C40 Γ γ33) Λ2 J 40 [.ptr 2000000000 0, .d (.int .i64 p1), .fn 33 [.ptr 2000000000 0] []] [⟨85, (aE.avs p0)⟩] [] =
 γ33 [.ptr 2000000000 0] [⟨85, (aE.avs p0)⟩] [] fun r0 =>
 cond (r0.2.err != 0) (
 (some (.ret [.row 0] [⟨85, (aE.avs r0.2)⟩] [⟨[.int .i64], 3, 8, []⟩]))) (
 cond (decide (r0.1 < 0)) (
 (some (.ret [.row 0] [⟨85, (aE.avs (aE.mk r0.2.b r0.2.at_ 2))⟩] [⟨[.int .i64], 3, 8, []⟩]))) (
 cond (decide (r0.1 > p1)) (
 (some (.ret [.row 0] [⟨85, (aE.avs (aE.mk r0.2.b r0.2.at_ 5))⟩] [⟨[.int .i64], 3, 8, []⟩]))) (
 akQ (C40 Γ γ33) Λ2 J r0.1 (aE.enc r0.2) (List.map eI [])))) := by kernel_rfl
theorem atl (x7 : Int) (q0 : aE) (w3008 : List Int) : cY SE (C40 Γ γ33) Λ2 J 40 1 [1, 1, 1, 1, 1, 1, 0, 0] (bC [(0, .ptr 2000000000 0), (2, .fn 33 [.ptr 2000000000 0] []), (7, .d (.int .i64 x7)), (8, .row 3008)] [] [⟨85, (List.map AV.d (aE.enc q0))⟩] [] [(3008, ⟨[.int .i64], 3, 8, (List.map eI w3008)⟩)]) =
 cond (decide ((lM eI w3008 : Int) < x7)) (
 cond (q0.err == 0) (
  γ33 [.ptr 2000000000 0] [⟨85, (aE.avs q0)⟩] [] fun r1 =>
  cond (decide ((lM eI w3008 + lM eI [r1.1]) * 8 ≤ 140737488355328)) (
  akQ (C40 Γ γ33) Λ2 J x7 (aE.enc r1.2) (((List.map eI w3008) ++ (List.map eI [r1.1])))) none) (
 (some (.ret [.row 0] [⟨85, (aE.avs q0)⟩] [⟨[.int .i64], 3, 8, (List.map eI w3008)⟩])))) (
 (some (.ret [.row 0] [⟨85, (aE.avs q0)⟩] [⟨[.int .i64], 3, 8, (List.map eI w3008)⟩]))) := by kernel_rfl
end
abbrev X40 : aP := C40 gG (cT 33 bP)
theorem ar7 : X40 = aR gG := by unfold X40 C40; rw [bB fun _ h => h]
abbrev asE := akQ X40 (cU SE gG (SE.hl 40) (SE.hr 40)) (J0 SE X40)
theorem abd : ∀ (fu : Nat) (x7 : Int) (q0 : aE) (w3008 : List Int), Le (Option.map gQ (kE fu x7 q0 w3008)) (asE x7 (aE.enc q0) (List.map eI w3008)) := by
 intro fu
 induction fu with
 | zero => intros; exact le_none
 | succ fu ih =>
  intro x7 q0 w3008
  refine Le.trans ?_ (le_of_eq ((bF ar7).trans (atl ..)).symm)
  unfold kE
  refine lD (by simp only [EN]) ?_ ?_
  ·refine lC ?_ ?_
   ·refine lQ eX bY (cA _) fun r1 _ => ?_
    refine lG (by simp only [EN]) ?_
    (try simp only [EN]); exact ih x7 r1.2 (w3008 ++ [r1.1])
   ·exact aK rfl
  ·exact aK rfl
theorem wE (p0 : aE) (p1 : Int) : Le (Option.map gQ (jK p0 p1)) (bA SE 40 [.ptr 2000000000 0, .d (.int .i64 p1), .fn 33 [.ptr 2000000000 0] []] [⟨85, (aE.avs p0)⟩] []) := by
 refine aX ar7 rfl ?_
 refine Le.trans ?_ (le_of_eq (T40 ..).symm)
 unfold jK
 refine lQ eX bY (cA _) fun r0 _ => ?_
 refine lC ?_ ?_
 ·exact aK rfl
 ·refine lC ?_ ?_
  ·exact aK rfl
  ·refine lC ?_ ?_
   ·exact aK rfl
   ·(try simp only [EN]); exact abd fuel r0.1 r0.2 []
def aj2 (C : aP) (Λ2 J : Lam) (a0 a1 : List D) (a2 a3 : Str) (a4 : Bool) (a5 a6 a7 a8 a9 a10 : Int) (a11 : Bool) (a12 : Int) (a13 a14 : Str) (a15 : Int) (a16 : Bool) (a17 a18 : Int) (a19 : Str) (a20 : Int) (a21 a22 a23 a24 a25 a26 : List (List D)) : Res := lab SE C Λ2 J 9 0 [1, 1, 1, 1, 1, 1, 1, 1, 1, 1, 1, 1, 1, 1, 1, 1, 1, 1, 0, 0] (bC [(2, .ptr 1000000000 0), (4, .ptr 1000000001 0), (5, .ptr 1000000002 0)] [⟨42, (List.map AV.d a0)⟩, ⟨85, (List.map AV.d a1)⟩, ⟨42, [.d (.str a2), .d (.str a3), .d (.bool a4), .d (.int .i64 a5), .d (.int .i64 a6), .d (.int .i64 a7), .d (.int .i64 a8), .row 50207, .row 50208, .d (.int .i64 a9), .row 50210, .row 50211, .d (.int .i64 a10), .row 50213, .d (.bool a11), .d (.int .i64 a12), .d (.str a13), .d (.str a14), .d (.int .i64 a15), .d (.bool a16), .d (.int .i64 a17), .d (.int .i64 a18), .d (.str a19), .d (.int .i64 a20), .row 50224]⟩] [] [] [(50207, ⟨aG.ks, 73, 32, a21⟩), (50208, ⟨aA.ks, 26, 112, a22⟩), (50210, ⟨aB.ks, 79, 128, a23⟩), (50211, ⟨[.int .i64], 3, 8, a24⟩), (50213, ⟨[.int .i64], 3, 8, a25⟩), (50224, ⟨aD.ks, 104, 32, a26⟩)])
def anp (C : aP) (Λ2 J : Lam) (a0 : List (List D)) (a1 a2 : List D) (a3 a4 : Str) (a5 : Bool) (a6 a7 a8 a9 a10 a11 : Int) (a12 : Bool) (a13 : Int) (a14 a15 : Str) (a16 : Int) (a17 : Bool) (a18 a19 : Int) (a20 : Str) (a21 : Int) (a22 a23 a24 a25 a26 a27 : List (List D)) : Res := lab SE C Λ2 J 9 0 [1, 1, 1, 1, 1, 1, 1, 1, 1, 1, 1, 1, 1, 1, 1, 1, 1, 0, 0] (bC [(0, .d (.sl [.int .u8] a0)), (2, .ptr 1000000000 0), (4, .ptr 1000000001 0), (5, .ptr 1000000002 0)] [⟨42, (List.map AV.d a1)⟩, ⟨85, (List.map AV.d a2)⟩, ⟨42, [.d (.str a3), .d (.str a4), .d (.bool a5), .d (.int .i64 a6), .d (.int .i64 a7), .d (.int .i64 a8), .d (.int .i64 a9), .row 50207, .row 50208, .d (.int .i64 a10), .row 50210, .row 50211, .d (.int .i64 a11), .row 50213, .d (.bool a12), .d (.int .i64 a13), .d (.str a14), .d (.str a15), .d (.int .i64 a16), .d (.bool a17), .d (.int .i64 a18), .d (.int .i64 a19), .d (.str a20), .d (.int .i64 a21), .row 50224]⟩] [] [] [(50207, ⟨aG.ks, 73, 32, a22⟩), (50208, ⟨aA.ks, 26, 112, a23⟩), (50210, ⟨aB.ks, 79, 128, a24⟩), (50211, ⟨[.int .i64], 3, 8, a25⟩), (50213, ⟨[.int .i64], 3, 8, a26⟩), (50224, ⟨aD.ks, 104, 32, a27⟩)])
section
variable (Γ : Fun) (γ32 : Gm (Str × aE)) (γ33 : Gm (Int × aE)) (γ34 : Gm ((List aG) × aE)) (γ36 : Gm ((List aA) × aE)) (γ38 : Gm ((List aB) × aE)) (γ40 : Gm ((List Int) × aE)) (γ41 : Gm (Bool × aE)) (γ37 : Gm (aA × aE)) (γ12 : Gm (Int)) (Λ2 J : Lam)
def C9 : aP := aZ (aZ (aZ (aZ (aZ (aZ (aZ (aZ (aZ (aR Γ) 32 dZ γ32) 33 bP γ33) 34 eT γ34) 36 eA γ36) 38 eE γ38) 40 gQ γ40) 41 dY γ41) 37 cV γ37) 12 aJ γ12
theorem T9 (p0 : List Int) : bL SE (C9 Γ γ32 γ33 γ34 γ36 γ38 γ40 γ41 γ37 γ12) Λ2 J 9 [.d (.sl [.int .u8] (List.map (encI .u8) p0))] [] [] =
 γ32 [.ptr 2000000000 0, .d (.int .i64 16)] [⟨85, (aE.avs (aE.mk p0 0 0))⟩] [] fun r0 =>
 γ32 [.ptr 2000000000 0, .d (.int .i64 16)] [⟨85, (aE.avs r0.2)⟩] [] fun r1 =>
 γ33 [.ptr 2000000000 0] [⟨85, (aE.avs r1.2)⟩] [] fun r2 =>
 γ33 [.ptr 2000000000 0] [⟨85, (aE.avs r2.2)⟩] [] fun r3 =>
 γ33 [.ptr 2000000000 0] [⟨85, (aE.avs r3.2)⟩] [] fun r4 =>
 γ34 [.ptr 2000000000 0, .d (.int .i64 32), .fn 35 [.ptr 2000000000 0] []] [⟨85, (aE.avs r4.2)⟩] [] fun r5 =>
 γ36 [.ptr 2000000000 0, .d (.int .i64 256), .fn 37 [.ptr 2000000000 0] []] [⟨85, (aE.avs r5.2)⟩] [] fun r6 =>
 γ33 [.ptr 2000000000 0] [⟨85, (aE.avs r6.2)⟩] [] fun r7 =>
 γ38 [.ptr 2000000000 0, .d (.int .i64 32), .fn 39 [.ptr 2000000000 0] []] [⟨85, (aE.avs r7.2)⟩] [] fun r8 =>
 γ40 [.ptr 2000000000 0, .d (.int .i64 32), .fn 33 [.ptr 2000000000 0] []] [⟨85, (aE.avs r8.2)⟩] [] fun r9 =>
 γ33 [.ptr 2000000000 0] [⟨85, (aE.avs r9.2)⟩] [] fun r10 =>
 γ40 [.ptr 2000000000 0, .d (.int .i64 32), .fn 33 [.ptr 2000000000 0] []] [⟨85, (aE.avs r10.2)⟩] [] fun r11 =>
 γ41 [.ptr 2000000000 0] [⟨85, (aE.avs r11.2)⟩] [] fun r12 =>
 cond r12.1 (
 γ33 [.ptr 2000000000 0] [⟨85, (aE.avs r12.2)⟩] [] fun r13 =>
 γ37 [.ptr 2000000000 0] [⟨85, (aE.avs r13.2)⟩] [] fun r14 =>
 anp (C9 Γ γ32 γ33 γ34 γ36 γ38 γ40 γ41 γ37 γ12) Λ2 J (List.map (encI .u8) p0) [D.str [], D.str [], D.bool false, D.int .i64 0, D.int .i64 0, D.int .i64 0, D.int .i64 0, D.sl aG.ks (List.map aG.enc []), D.sl aA.ks (List.map aA.enc []), D.int .i64 0, D.sl aB.ks (List.map aB.enc []), D.sl [.int .i64] (List.map eI []), D.int .i64 0, D.sl [.int .i64] (List.map eI []), D.bool false, D.int .i64 0, D.str [], D.str [], D.int .i64 0, D.bool false, D.int .i64 0, D.int .i64 0, D.str [], D.int .i64 0, D.sl aD.ks (List.map aD.enc [])] (aE.enc r14.2) r0.1 r1.1 false 0 r2.1 r3.1 r4.1 r7.1 r10.1 r12.1 r13.1 r14.1.Topic r14.1.Payload r14.1.Level r14.1.Retain r14.1.Priority r14.1.Expires r14.1.From r14.1.Seq (List.map aG.enc r5.1) (List.map aA.enc r6.1) (List.map aB.enc r8.1) (List.map eI r9.1) (List.map eI r11.1) (List.map aD.enc r14.1.Props)) (
 anp (C9 Γ γ32 γ33 γ34 γ36 γ38 γ40 γ41 γ37 γ12) Λ2 J (List.map (encI .u8) p0) [D.str [], D.str [], D.bool false, D.int .i64 0, D.int .i64 0, D.int .i64 0, D.int .i64 0, D.sl aG.ks (List.map aG.enc []), D.sl aA.ks (List.map aA.enc []), D.int .i64 0, D.sl aB.ks (List.map aB.enc []), D.sl [.int .i64] (List.map eI []), D.int .i64 0, D.sl [.int .i64] (List.map eI []), D.bool false, D.int .i64 0, D.str [], D.str [], D.int .i64 0, D.bool false, D.int .i64 0, D.int .i64 0, D.str [], D.int .i64 0, D.sl aD.ks (List.map aD.enc [])] (aE.enc r12.2) r0.1 r1.1 false 0 r2.1 r3.1 r4.1 r7.1 r10.1 r12.1 0 [] [] 0 false 0 0 [] 0 (List.map aG.enc r5.1) (List.map aA.enc r6.1) (List.map aB.enc r8.1) (List.map eI r9.1) (List.map eI r11.1) (List.map aD.enc [])) := by kernel_rfl
theorem aub (b0 : aC) (b1 : aE) (b2_0 b2_1 : Str) (b2_2 : Bool) (b2_3 b2_4 b2_5 b2_6 b2_9 b2_12 : Int) (b2_14 : Bool) (b2_15 : Int) (b2_16 b2_17 : Str) (b2_18 : Int) (b2_19 : Bool) (b2_20 b2_21 : Int) (b2_22 : Str) (b2_23 : Int) (w50207 : List aG) (w50208 : List aA) (w50210 : List aB) (w50211 w50213 : List Int) (w50224 : List aD) : cY SE (C9 Γ γ32 γ33 γ34 γ36 γ38 γ40 γ41 γ37 γ12) Λ2 J 9 0 [1, 1, 1, 1, 1, 1, 1, 1, 1, 1, 1, 1, 1, 1, 1, 1, 1, 1, 0, 0] (bC [(2, .ptr 1000000000 0), (4, .ptr 1000000001 0), (5, .ptr 1000000002 0)] [⟨42, (List.map AV.d (aC.enc b0))⟩, ⟨85, (List.map AV.d (aE.enc b1))⟩, ⟨42, [.d (.str b2_0), .d (.str b2_1), .d (.bool b2_2), .d (.int .i64 b2_3), .d (.int .i64 b2_4), .d (.int .i64 b2_5), .d (.int .i64 b2_6), .row 50207, .row 50208, .d (.int .i64 b2_9), .row 50210, .row 50211, .d (.int .i64 b2_12), .row 50213, .d (.bool b2_14), .d (.int .i64 b2_15), .d (.str b2_16), .d (.str b2_17), .d (.int .i64 b2_18), .d (.bool b2_19), .d (.int .i64 b2_20), .d (.int .i64 b2_21), .d (.str b2_22), .d (.int .i64 b2_23), .row 50224]⟩] [] [] [(50207, ⟨aG.ks, 73, 32, (List.map aG.enc w50207)⟩), (50208, ⟨aA.ks, 26, 112, (List.map aA.enc w50208)⟩), (50210, ⟨aB.ks, 79, 128, (List.map aB.enc w50210)⟩), (50211, ⟨[.int .i64], 3, 8, (List.map eI w50211)⟩), (50213, ⟨[.int .i64], 3, 8, (List.map eI w50213)⟩), (50224, ⟨aD.ks, 104, 32, (List.map aD.enc w50224)⟩)]) =
 cond (b1.err != 0) (
 (some (.ret [.agg [.d (.str []), .d (.str []), .d (.bool false), .d (.int .i64 0), .d (.int .i64 0), .d (.int .i64 0), .d (.int .i64 0), .row 0, .row 1, .d (.int .i64 0), .row 2, .row 3, .d (.int .i64 0), .row 4, .d (.bool false), .d (.int .i64 0), .d (.str []), .d (.str []), .d (.int .i64 0), .d (.bool false), .d (.int .i64 0), .d (.int .i64 0), .d (.str []), .d (.int .i64 0), .row 5], .d (.int .i64 b1.err)] [] [⟨aG.ks, 73, 32, (List.map aG.enc [])⟩, ⟨aA.ks, 26, 112, (List.map aA.enc [])⟩, ⟨aB.ks, 79, 128, (List.map aB.enc [])⟩, ⟨[.int .i64], 3, 8, (List.map eI [])⟩, ⟨[.int .i64], 3, 8, (List.map eI [])⟩, ⟨aD.ks, 104, 32, (List.map aD.enc [])⟩]))) (
 γ12 [aC.av (aC.mk b2_0 b2_1 b2_2 b2_3 b2_4 b2_5 b2_6 w50207 w50208 (aH.mk b2_9 w50210 (aQ.mk w50211 b2_12)) (bG.mk w50213) (aV.mk b2_14 b2_15 (aA.mk b2_16 b2_17 b2_18 b2_19 b2_20 b2_21 b2_22 b2_23 w50224)))] [] [] fun r15 =>
 cond (r15 != 0) (
 (some (.ret [.agg [.d (.str []), .d (.str []), .d (.bool false), .d (.int .i64 0), .d (.int .i64 0), .d (.int .i64 0), .d (.int .i64 0), .row 0, .row 1, .d (.int .i64 0), .row 2, .row 3, .d (.int .i64 0), .row 4, .d (.bool false), .d (.int .i64 0), .d (.str []), .d (.str []), .d (.int .i64 0), .d (.bool false), .d (.int .i64 0), .d (.int .i64 0), .d (.str []), .d (.int .i64 0), .row 5], .d (.int .i64 r15)] [] [⟨aG.ks, 73, 32, (List.map aG.enc [])⟩, ⟨aA.ks, 26, 112, (List.map aA.enc [])⟩, ⟨aB.ks, 79, 128, (List.map aB.enc [])⟩, ⟨[.int .i64], 3, 8, (List.map eI [])⟩, ⟨[.int .i64], 3, 8, (List.map eI [])⟩, ⟨aD.ks, 104, 32, (List.map aD.enc [])⟩]))) (
 (some (.ret [.agg [.d (.str b2_0), .d (.str b2_1), .d (.bool b2_2), .d (.int .i64 b2_3), .d (.int .i64 b2_4), .d (.int .i64 b2_5), .d (.int .i64 b2_6), .row 0, .row 1, .d (.int .i64 b2_9), .row 2, .row 3, .d (.int .i64 b2_12), .row 4, .d (.bool b2_14), .d (.int .i64 b2_15), .d (.str b2_16), .d (.str b2_17), .d (.int .i64 b2_18), .d (.bool b2_19), .d (.int .i64 b2_20), .d (.int .i64 b2_21), .d (.str b2_22), .d (.int .i64 b2_23), .row 5], .d (.int .i64 0)] [] [⟨aG.ks, 73, 32, (List.map aG.enc w50207)⟩, ⟨aA.ks, 26, 112, (List.map aA.enc w50208)⟩, ⟨aB.ks, 79, 128, (List.map aB.enc w50210)⟩, ⟨[.int .i64], 3, 8, (List.map eI w50211)⟩, ⟨[.int .i64], 3, 8, (List.map eI w50213)⟩, ⟨aD.ks, 104, 32, (List.map aD.enc w50224)⟩])))) := by kernel_rfl
theorem avi (x0 : List Int) (b0 : aC) (b1 : aE) (b2_0 b2_1 : Str) (b2_2 : Bool) (b2_3 b2_4 b2_5 b2_6 b2_9 b2_12 : Int) (b2_14 : Bool) (b2_15 : Int) (b2_16 b2_17 : Str) (b2_18 : Int) (b2_19 : Bool) (b2_20 b2_21 : Int) (b2_22 : Str) (b2_23 : Int) (w50207 : List aG) (w50208 : List aA) (w50210 : List aB) (w50211 w50213 : List Int) (w50224 : List aD) : cY SE (C9 Γ γ32 γ33 γ34 γ36 γ38 γ40 γ41 γ37 γ12) Λ2 J 9 0 [1, 1, 1, 1, 1, 1, 1, 1, 1, 1, 1, 1, 1, 1, 1, 1, 1, 0, 0] (bC [(0, .d (.sl [.int .u8] (List.map (encI .u8) x0))), (2, .ptr 1000000000 0), (4, .ptr 1000000001 0), (5, .ptr 1000000002 0)] [⟨42, (List.map AV.d (aC.enc b0))⟩, ⟨85, (List.map AV.d (aE.enc b1))⟩, ⟨42, [.d (.str b2_0), .d (.str b2_1), .d (.bool b2_2), .d (.int .i64 b2_3), .d (.int .i64 b2_4), .d (.int .i64 b2_5), .d (.int .i64 b2_6), .row 50207, .row 50208, .d (.int .i64 b2_9), .row 50210, .row 50211, .d (.int .i64 b2_12), .row 50213, .d (.bool b2_14), .d (.int .i64 b2_15), .d (.str b2_16), .d (.str b2_17), .d (.int .i64 b2_18), .d (.bool b2_19), .d (.int .i64 b2_20), .d (.int .i64 b2_21), .d (.str b2_22), .d (.int .i64 b2_23), .row 50224]⟩] [] [] [(50207, ⟨aG.ks, 73, 32, (List.map aG.enc w50207)⟩), (50208, ⟨aA.ks, 26, 112, (List.map aA.enc w50208)⟩), (50210, ⟨aB.ks, 79, 128, (List.map aB.enc w50210)⟩), (50211, ⟨[.int .i64], 3, 8, (List.map eI w50211)⟩), (50213, ⟨[.int .i64], 3, 8, (List.map eI w50213)⟩), (50224, ⟨aD.ks, 104, 32, (List.map aD.enc w50224)⟩)]) =
 cond (b1.err == 0) (
 cond (b1.at_ != (lM (encI .u8) x0 : Int)) (
  aj2 (C9 Γ γ32 γ33 γ34 γ36 γ38 γ40 γ41 γ37 γ12) Λ2 J (aC.enc b0) (aE.enc (aE.mk b1.b b1.at_ 2)) b2_0 b2_1 b2_2 b2_3 b2_4 b2_5 b2_6 b2_9 b2_12 b2_14 b2_15 b2_16 b2_17 b2_18 b2_19 b2_20 b2_21 b2_22 b2_23 (List.map aG.enc w50207) (List.map aA.enc w50208) (List.map aB.enc w50210) (List.map eI w50211) (List.map eI w50213) (List.map aD.enc w50224)) (
 aj2 (C9 Γ γ32 γ33 γ34 γ36 γ38 γ40 γ41 γ37 γ12) Λ2 J (aC.enc b0) (aE.enc b1) b2_0 b2_1 b2_2 b2_3 b2_4 b2_5 b2_6 b2_9 b2_12 b2_14 b2_15 b2_16 b2_17 b2_18 b2_19 b2_20 b2_21 b2_22 b2_23 (List.map aG.enc w50207) (List.map aA.enc w50208) (List.map aB.enc w50210) (List.map eI w50211) (List.map eI w50213) (List.map aD.enc w50224))) (
 aj2 (C9 Γ γ32 γ33 γ34 γ36 γ38 γ40 γ41 γ37 γ12) Λ2 J (aC.enc b0) (aE.enc b1) b2_0 b2_1 b2_2 b2_3 b2_4 b2_5 b2_6 b2_9 b2_12 b2_14 b2_15 b2_16 b2_17 b2_18 b2_19 b2_20 b2_21 b2_22 b2_23 (List.map aG.enc w50207) (List.map aA.enc w50208) (List.map aB.enc w50210) (List.map eI w50211) (List.map eI w50213) (List.map aD.enc w50224)) := by kernel_rfl
end
abbrev X9 : aP := C9 gG (cT 32 dZ) (cT 33 bP) (cT 34 eT) (cT 36 eA) (cT 38 eE) (cT 40 gQ) (cT 41 dY) (cT 37 cV) (cT 12 aJ)
theorem Cr9 : X9 = aR gG := by unfold X9 C9; repeat rw [bB fun _ h => h]
abbrev auw := aj2 X9 (cU SE gG (SE.hl 9) (SE.hr 9)) (J0 SE X9)
abbrev au4 := anp X9 (cU SE gG (SE.hl 9) (SE.hr 9)) (J0 SE X9)
theorem qA (b0 : aC) (b1 : aE) (b2_0 b2_1 : Str) (b2_2 : Bool) (b2_3 b2_4 b2_5 b2_6 b2_9 b2_12 : Int) (b2_14 : Bool) (b2_15 : Int) (b2_16 b2_17 : Str) (b2_18 : Int) (b2_19 : Bool) (b2_20 b2_21 : Int) (b2_22 : Str) (b2_23 : Int) (w50207 : List aG) (w50208 : List aA) (w50210 : List aB) (w50211 w50213 : List Int) (w50224 : List aD) : Le (Option.map gU (iW b0 b1 b2_0 b2_1 b2_2 b2_3 b2_4 b2_5 b2_6 b2_9 b2_12 b2_14 b2_15 b2_16 b2_17 b2_18 b2_19 b2_20 b2_21 b2_22 b2_23 w50207 w50208 w50210 w50211 w50213 w50224)) (auw (aC.enc b0) (aE.enc b1) b2_0 b2_1 b2_2 b2_3 b2_4 b2_5 b2_6 b2_9 b2_12 b2_14 b2_15 b2_16 b2_17 b2_18 b2_19 b2_20 b2_21 b2_22 b2_23 (List.map aG.enc w50207) (List.map aA.enc w50208) (List.map aB.enc w50210) (List.map eI w50211) (List.map eI w50213) (List.map aD.enc w50224)) := by
 refine Le.trans ?_ (le_of_eq ((bF Cr9).trans (aub ..)).symm)
 unfold iW
 refine lC ?_ ?_
 ·exact aK rfl
 ·refine lQ eX bK (uY _) fun r15 _ => ?_
  refine lC ?_ ?_
  ·exact aK rfl
  ·exact aK rfl
theorem vO (x0 : List Int) (b0 : aC) (b1 : aE) (b2_0 b2_1 : Str) (b2_2 : Bool) (b2_3 b2_4 b2_5 b2_6 b2_9 b2_12 : Int) (b2_14 : Bool) (b2_15 : Int) (b2_16 b2_17 : Str) (b2_18 : Int) (b2_19 : Bool) (b2_20 b2_21 : Int) (b2_22 : Str) (b2_23 : Int) (w50207 : List aG) (w50208 : List aA) (w50210 : List aB) (w50211 w50213 : List Int) (w50224 : List aD) : Le (Option.map gU (fX x0 b0 b1 b2_0 b2_1 b2_2 b2_3 b2_4 b2_5 b2_6 b2_9 b2_12 b2_14 b2_15 b2_16 b2_17 b2_18 b2_19 b2_20 b2_21 b2_22 b2_23 w50207 w50208 w50210 w50211 w50213 w50224)) (au4 (List.map (encI .u8) x0) (aC.enc b0) (aE.enc b1) b2_0 b2_1 b2_2 b2_3 b2_4 b2_5 b2_6 b2_9 b2_12 b2_14 b2_15 b2_16 b2_17 b2_18 b2_19 b2_20 b2_21 b2_22 b2_23 (List.map aG.enc w50207) (List.map aA.enc w50208) (List.map aB.enc w50210) (List.map eI w50211) (List.map eI w50213) (List.map aD.enc w50224)) := by
 refine Le.trans ?_ (le_of_eq ((bF Cr9).trans (avi ..)).symm)
 unfold fX
 refine lC ?_ ?_
 ·refine lD (by simp only [EN]) ?_ ?_
  ·exact qA b0 (aE.mk b1.b b1.at_ 2) b2_0 b2_1 b2_2 b2_3 b2_4 b2_5 b2_6 b2_9 b2_12 b2_14 b2_15 b2_16 b2_17 b2_18 b2_19 b2_20 b2_21 b2_22 b2_23 w50207 w50208 w50210 w50211 w50213 w50224
  ·exact qA b0 b1 b2_0 b2_1 b2_2 b2_3 b2_4 b2_5 b2_6 b2_9 b2_12 b2_14 b2_15 b2_16 b2_17 b2_18 b2_19 b2_20 b2_21 b2_22 b2_23 w50207 w50208 w50210 w50211 w50213 w50224
 ·exact qA b0 b1 b2_0 b2_1 b2_2 b2_3 b2_4 b2_5 b2_6 b2_9 b2_12 b2_14 b2_15 b2_16 b2_17 b2_18 b2_19 b2_20 b2_21 b2_22 b2_23 w50207 w50208 w50210 w50211 w50213 w50224
theorem afy (p0 : List Int) : Le (Option.map gU (oA p0)) (bA SE 9 [.d (.sl [.int .u8] (List.map (encI .u8) p0))] [] []) := by
 refine aX Cr9 rfl ?_
 refine Le.trans ?_ (le_of_eq (T9 ..).symm)
 unfold oA
 refine lQ eX nA (nP _ _) fun r0 _ => ?_
 refine lQ eX nA (nP _ _) fun r1 _ => ?_
 refine lQ eX bY (cA _) fun r2 _ => ?_
 refine lQ eX bY (cA _) fun r3 _ => ?_
 refine lQ eX bY (cA _) fun r4 _ => ?_
 refine lQ eX zW (aa3 _ _) fun r5 _ => ?_
 refine lQ eX w9 (xP _ _) fun r6 _ => ?_
 refine lQ eX bY (cA _) fun r7 _ => ?_
 refine lQ eX xW (yN _ _) fun r8 _ => ?_
 refine lQ eX vL (wE _ _) fun r9 _ => ?_
 refine lQ eX bY (cA _) fun r10 _ => ?_
 refine lQ eX vL (wE _ _) fun r11 _ => ?_
 refine lQ eX rP (sK _) fun r12 _ => ?_
 refine lC ?_ ?_
 ·refine lQ eX bY (cA _) fun r13 _ => ?_
  refine lQ eX lO (lX _) fun r14 _ => ?_
  (try simp only [EN]); exact vO p0 ((aC.mk [] [] false 0 0 0 0 [] [] (aH.mk 0 [] (aQ.mk [] 0)) (bG.mk []) (aV.mk false 0 (aA.mk [] [] 0 false 0 0 [] 0 [])))) r14.2 r0.1 r1.1 false 0 r2.1 r3.1 r4.1 r7.1 r10.1 r12.1 r13.1 r14.1.Topic r14.1.Payload r14.1.Level r14.1.Retain r14.1.Priority r14.1.Expires r14.1.From r14.1.Seq r5.1 r6.1 r8.1 r9.1 r11.1 r14.1.Props
 ·(try simp only [EN]); exact vO p0 ((aC.mk [] [] false 0 0 0 0 [] [] (aH.mk 0 [] (aQ.mk [] 0)) (bG.mk []) (aV.mk false 0 (aA.mk [] [] 0 false 0 0 [] 0 [])))) r12.2 r0.1 r1.1 false 0 r2.1 r3.1 r4.1 r7.1 r10.1 r12.1 0 [] [] 0 false 0 0 [] 0 r5.1 r6.1 r8.1 r9.1 r11.1 []
section
variable (Γ : Fun)  (Λ2 J : Lam)
def C63 : aP := aR Γ
theorem T63 (p0 : Int) : bL SE (C63 Γ) Λ2 J 63 [.d (.int .i64 p0)] [] [] =
 (some (.ret [.agg [.d (.int .i64 6), .d (.int .i64 p0), .d (.bool false), .d (.str []), .d (.str []), .d (.int .i64 0), .d (.bool false), .d (.int .i64 0), .d (.int .i64 0), .d (.str []), .d (.int .i64 0), .row 0, .d (.str []), .d (.str []), .d (.bool false), .d (.int .i64 0), .d (.int .i64 0), .d (.int .i64 0), .d (.bool false), .d (.int .i64 0), .d (.str []), .d (.str []), .d (.int .i64 0), .d (.bool false), .d (.int .i64 0), .d (.int .i64 0), .d (.str []), .d (.int .i64 0), .row 1, .d (.bool false), .d (.int .i64 0), .row 2, .row 3, .row 4]] [] [⟨aD.ks, 104, 32, (List.map aD.enc [])⟩, ⟨aD.ks, 104, 32, (List.map aD.enc [])⟩, ⟨aG.ks, 73, 32, (List.map aG.enc [])⟩, ⟨[.str], 9, 16, (List.map bU [])⟩, ⟨[.int .i64], 3, 8, (List.map eI [])⟩])) := by kernel_rfl
end
abbrev X63 : aP := C63 gG
theorem axb : X63 = aR gG := rfl
theorem sU (p0 : Int) : Le (Option.map cX (mV p0)) (bA SE 63 [.d (.int .i64 p0)] [] []) := by
 refine aX axb rfl ?_
 refine Le.trans ?_ (le_of_eq (T63 ..).symm)
 unfold mV
 exact aK rfl
def aj8 (C : aP) (Λ2 J : Lam) (a0 a1 : Int) (a2 : List D) (a3 : List (List D)) : Res := lab SE C Λ2 J 42 0 [1, 1, 0, 1, 0] (bC [(1, .ptr 1000000000 0), (3, .row 3003), (9, .d (.int .i64 a0)), (10, .d (.int .i64 a1))] [⟨38, (List.map AV.d a2)⟩] [] [] [(3003, ⟨aF.ks, 32, 416, a3⟩)])
section
variable (Γ : Fun) (γ63 γ64 : Gm (aF)) (Λ2 J : Lam)
def C42 : aP := aZ (aZ (aR Γ) 63 cX γ63) 64 cX γ64
theorem T42 (p0 : aH) : bL SE (C42 Γ γ63 γ64) Λ2 J 42 [aH.av p0] [] [] =
 aj8 (C42 Γ γ63 γ64) Λ2 J (lM aB.enc p0.Items : Int) 0 (aH.enc p0) (List.map aF.enc []) := by kernel_rfl
theorem aut (x9 x10 : Int) (b0 : aH) (w3003 : List aF) : cY SE (C42 Γ γ63 γ64) Λ2 J 42 0 [1, 1, 0, 1, 0] (bC [(1, .ptr 1000000000 0), (3, .row 3003), (9, .d (.int .i64 x9)), (10, .d (.int .i64 x10))] [⟨38, (List.map AV.d (aH.enc b0))⟩] [] [] [(3003, ⟨aF.ks, 32, 416, (List.map aF.enc w3003)⟩)]) =
 cond (decide (x10 < x9)) (
 cond (iB x10 (lM aB.enc b0.Items : Int)) (
  cond ((aS (cE aB.enc b0.Items x10 1)) == 2) (
  γ63 [.d (.int .i64 (aS (cE aB.enc b0.Items x10 0)))] [] [] fun r0 =>
  cond (decide ((lM aF.enc w3003 + lM aF.enc [r0]) * 416 ≤ 140737488355328)) (
   aj8 (C42 Γ γ63 γ64) Λ2 J x9 (w6 (x10 + 1)) (aH.enc b0) (((List.map aF.enc w3003) ++ (List.map aF.enc [r0])))) none) (
  γ64 [.agg [.d (.int .i64 (aS (cE aB.enc b0.Items x10 0))), .d (.int .i64 (aS (cE aB.enc b0.Items x10 1))), .d (.str (bI (cE aB.enc b0.Items x10 2))), .d (.str (bI (cE aB.enc b0.Items x10 3))), .d (.int .i64 (aS (cE aB.enc b0.Items x10 4))), .d (.bool (bZ (cE aB.enc b0.Items x10 5))), .d (.int .i64 (aS (cE aB.enc b0.Items x10 6))), .d (.int .i64 (aS (cE aB.enc b0.Items x10 7))), .d (.str (bI (cE aB.enc b0.Items x10 8))), .d (.int .i64 (aS (cE aB.enc b0.Items x10 9))), .d (.sl aD.ks (dSl (cE aB.enc b0.Items x10 10)))]] [] [] fun r1 =>
  cond (decide ((lM aF.enc w3003 + lM aF.enc [(aF.mk r1.Kind r1.ID true r1.Message r1.Client r1.User r1.Clean r1.Keep r1.Expiry r1.Window r1.Will r1.Present r1.Code r1.Subs r1.Filters r1.Codes)]) * 416 ≤ 140737488355328)) (
  aj8 (C42 Γ γ63 γ64) Λ2 J x9 (w6 (x10 + 1)) (aH.enc b0) (((List.map aF.enc w3003) ++ (List.map aF.enc [(aF.mk r1.Kind r1.ID true r1.Message r1.Client r1.User r1.Clean r1.Keep r1.Expiry r1.Window r1.Will r1.Present r1.Code r1.Subs r1.Filters r1.Codes)])))) none)) none) (
 (some (.ret [.row 0] [] [⟨aF.ks, 32, 416, (List.map aF.enc w3003)⟩]))) := by kernel_rfl
end
abbrev X42 : aP := C42 gG (cT 63 cX) (cT 64 cX)
theorem arU : X42 = aR gG := by unfold X42 C42; repeat rw [bB fun _ h => h]
abbrev avT := aj8 X42 (cU SE gG (SE.hl 42) (SE.hr 42)) (J0 SE X42)
theorem acg : ∀ (fu : Nat) (x9 x10 : Int) (b0 : aH) (w3003 : List aF), Le (Option.map iF (gV fu x9 x10 b0 w3003)) (avT x9 x10 (aH.enc b0) (List.map aF.enc w3003)) := by
 intro fu
 induction fu with
 | zero => intros; exact le_none
 | succ fu ih =>
  intro x9 x10 b0 w3003
  refine Le.trans ?_ (le_of_eq ((bF arU).trans (aut ..)).symm)
  unfold gV
  refine lC ?_ ?_
  ·refine lG (by simp only [EN]) ?_
   refine lD (by simp only [EN]) ?_ ?_
   ·refine lQ eX kW (by (try simp only [EN]); exact sU ((List.getD b0.Items (Int.toNat x10) default).ID)) fun r0 _ => ?_
    refine lG (by simp only [EN]) ?_
    (try simp only [EN]); exact ih x9 (w6 (x10 + 1)) b0 (w3003 ++ [r0])
   ·refine lQ eX kW (by (try simp only [EN]); exact xB (List.getD b0.Items (Int.toNat x10) default)) fun r1 _ => ?_
    refine lG (by simp only [EN]) ?_
    (try simp only [EN]); exact ih x9 (w6 (x10 + 1)) b0 (w3003 ++ [(aF.mk r1.Kind r1.ID true r1.Message r1.Client r1.User r1.Clean r1.Keep r1.Expiry r1.Window r1.Will r1.Present r1.Code r1.Subs r1.Filters r1.Codes)])
  ·exact aK rfl
theorem aeT (p0 : aH) : Le (Option.map iF (m5 p0)) (bA SE 42 [aH.av p0] [] []) := by
 refine aX arU rfl ?_
 refine Le.trans ?_ (le_of_eq (T42 ..).symm)
 unfold m5
 (try simp only [EN]); exact acg fuel (List.length p0.Items : Int) 0 p0 []
section
variable (Γ : Fun) (γ16 : Gm (aC)) (γ14 : Gm (aA)) (γ42 : Gm ((List aF))) (γ19 : Gm (aC × (List aF))) (Λ2 J : Lam)
def C10 : aP := aZ (aZ (aZ (aZ (aR Γ) 16 cW γ16) 14 bR γ14) 42 iF γ42) 19 cQ γ19
theorem T10 (p0 : aC) (p1 : aF) (p2 p3 : Int) : bL SE (C10 Γ γ16 γ14 γ42 γ19) Λ2 J 10 [aC.av p0, aF.av p1, .d (.int .i64 p2), .d (.int .i64 p3)] [] [] =
 γ16 [aC.av p0] [] [] fun r0 =>
 γ14 [aA.av p1.Will.Message] [] [] fun r1 =>
 γ42 [aH.av (aH.mk p1.Window r0.Out.Items r0.Out.Pool)] [] [] fun r2 =>
 γ19 [aC.av (aC.mk r0.Client p1.User true p2 p1.Expiry 0 r0.Dropped r0.Subs r0.Queue (aH.mk p1.Window r0.Out.Items r0.Out.Pool) r0.In (aV.mk p1.Will.Set p1.Will.Delay r1)), .d (.int .i64 p3), .row 2000000000] [] [⟨aF.ks, 32, 416, (List.map aF.enc r2)⟩] fun r3 =>
 (some (.ret [aC.av r3.1, .row 0] [] [⟨aF.ks, 32, 416, (List.map aF.enc r3.2)⟩])) := by kernel_rfl
end
abbrev X10 : aP := C10 gG (cT 16 cW) (cT 14 bR) (cT 42 iF) (cT 19 cQ)
theorem axm : X10 = aR gG := by unfold X10 C10; repeat rw [bB fun _ h => h]
theorem zL (p0 : aC) (p1 : aF) (p2 p3 : Int) : Le (Option.map cQ (jE p0 p1 p2 p3)) (bA SE 10 [aC.av p0, aF.av p1, .d (.int .i64 p2), .d (.int .i64 p3)] [] []) := by
 refine aX axm rfl ?_
 refine Le.trans ?_ (le_of_eq (T10 ..).symm)
 unfold jE
 refine lQ eX kV (lZ _) fun r0 _ => ?_
 refine lQ eX dG (k9 _) fun r1 _ => ?_
 refine lQ eX adB (aeT _) fun r2 _ => ?_
 refine lQ eX lW (wV _ _ _) fun r3 _ => ?_
 exact aK rfl
def amc (C : aP) (Λ2 J : Lam) (a0 a1 : List (List D)) (a2 : Int) : Res := lab SE C Λ2 J 11 0 [1, 1, 0, 1, 0] (bC [(0, .d (.sl aF.ks a0)), (1, .d (.sl aF.ks a1)), (5, .d (.int .i64 a2))] [] [] [] [])
section
variable (Γ : Fun)  (Λ2 J : Lam)
def C11 : aP := aR Γ
theorem T11 (p0 p1 : List aF) : bL SE (C11 Γ) Λ2 J 11 [.d (.sl aF.ks (List.map aF.enc p0)), .d (.sl aF.ks (List.map aF.enc p1))] [] [] =
 cond ((lM aF.enc p0 : Int) != (lM aF.enc p1 : Int)) (
 (rB false)) (
 amc (C11 Γ) Λ2 J (List.map aF.enc p0) (List.map aF.enc p1) 0) := by kernel_rfl
theorem avM (x0 x1 : List aF) (x5 : Int) : cY SE (C11 Γ) Λ2 J 11 0 [1, 1, 0, 1, 0] (bC [(0, .d (.sl aF.ks (List.map aF.enc x0))), (1, .d (.sl aF.ks (List.map aF.enc x1))), (5, .d (.int .i64 x5))] [] [] [] []) =
 cond (decide (x5 < (lM aF.enc x0 : Int))) (
 cond (iB x5 (lM aF.enc x0 : Int)) (
  cond (iB x5 (lM aF.enc x1 : Int)) (
  cond ((aS (cE aF.enc x0 x5 0)) != (aS (cE aF.enc x1 x5 0))) (
   (rB false)) (
  cond (iB x5 (lM aF.enc x0 : Int)) (
   cond (iB x5 (lM aF.enc x1 : Int)) (
   cond ((aS (cE aF.enc x0 x5 1)) != (aS (cE aF.enc x1 x5 1))) (
    (rB false)) (
   cond (iB x5 (lM aF.enc x0 : Int)) (
    cond (iB x5 (lM aF.enc x1 : Int)) (
    cond ((bZ (cE aF.enc x0 x5 2)) != (bZ (cE aF.enc x1 x5 2))) (
     (rB false)) (
    cond (iB x5 (lM aF.enc x0 : Int)) (
     cond (iB x5 (lM aF.enc x1 : Int)) (
     cond ((aS (cE aF.enc x0 x5 5)) != (aS (cE aF.enc x1 x5 5))) (
      (rB false)) (
     cond (iB x5 (lM aF.enc x0 : Int)) (
      cond (iB x5 (lM aF.enc x1 : Int)) (
      cond (!((bI (cE aF.enc x0 x5 4)) == (bI (cE aF.enc x1 x5 4)))) (
       (rB false)) (
      amc (C11 Γ) Λ2 J (List.map aF.enc x0) (List.map aF.enc x1) (w6 (x5 + 1)))) none) none)) none) none)) none) none)) none) none)) none) none) (
 (rB true)) := by kernel_rfl
end
abbrev X11 : aP := C11 gG
theorem atK : X11 = aR gG := rfl
abbrev aup := amc X11 (cU SE gG (SE.hl 11) (SE.hr 11)) (J0 SE X11)
theorem yV : ∀ (fu : Nat) (x0 x1 : List aF) (x5 : Int), Le (Option.map aI (fJ fu x0 x1 x5)) (aup (List.map aF.enc x0) (List.map aF.enc x1) x5) := by
 intro fu
 induction fu with
 | zero => intros; exact le_none
 | succ fu ih =>
  intro x0 x1 x5
  refine Le.trans ?_ (le_of_eq ((bF atK).trans (avM ..)).symm)
  unfold fJ
  refine lD (by simp only [EN]) ?_ ?_
  ·refine lG (by simp only [EN]) ?_
   refine lG (by simp only [EN]) ?_
   refine lD (by simp only [EN]) ?_ ?_
   ·exact aK rfl
   ·refine lG (by simp only [EN]) ?_
    refine lG (by simp only [EN]) ?_
    refine lD (by simp only [EN]) ?_ ?_
    ·exact aK rfl
    ·refine lG (by simp only [EN]) ?_
     refine lG (by simp only [EN]) ?_
     refine lD (by simp only [EN]) ?_ ?_
     ·exact aK rfl
     ·refine lG (by simp only [EN]) ?_
      refine lG (by simp only [EN]) ?_
      refine lD (by simp only [EN]) ?_ ?_
      ·exact aK rfl
      ·refine lG (by simp only [EN]) ?_
       refine lG (by simp only [EN]) ?_
       refine lD (by simp only [EN]) ?_ ?_
       ·exact aK rfl
       ·exact ih x0 x1 (w6 (x5 + 1))
  ·exact aK rfl
theorem sX (p0 p1 : List aF) : Le (Option.map aI (iP p0 p1)) (bA SE 11 [.d (.sl aF.ks (List.map aF.enc p0)), .d (.sl aF.ks (List.map aF.enc p1))] [] []) := by
 refine aX atK rfl ?_
 refine Le.trans ?_ (le_of_eq (T11 ..).symm)
 unfold iP
 refine lD (by simp only [EN]) ?_ ?_
 ·exact aK rfl
 ·exact yV fuel p0 p1 0
theorem yQ (p0 : List Int) (p1 p2 : Int) : Le (Option.map bM (oR p0 p1 p2)) (bA SE 104 [.row 2000000000, .d (.int .i64 p1), .d (.int .i64 p2)] [] [⟨[.int .i64], 3, 8, (List.map eI p0)⟩]) := ajh (f := 104) (enc := eI) rfl rfl p0 p1 p2
section
variable (Γ : Fun) (γ51 : Gm ((List Int))) (γ96 : Gm (Int × Bool)) (γ104 : Gm ((List Int))) (Λ2 J : Lam)
def C93 : aP := aZ (aZ (aZ (aR Γ) 51 bM γ51) 96 bX γ96) 104 bM γ104
theorem T93 (p0 : aQ) (p1 : Int) : bL SE (C93 Γ γ51 γ96 γ104) Λ2 J 93 [aQ.av p0, .d (.int .i64 p1)] [] [] =
 γ51 [.d (.sl [.int .i64] (List.map eI p0.Used))] [] [] fun r0 =>
 γ96 [.d (.sl [.int .i64] (List.map eI r0)), .d (.int .i64 p1)] [] [] fun r1 =>
 cond r1.2 (
 γ104 [.row 2000000000, .d (.int .i64 r1.1), .d (.int .i64 (w6 (r1.1 + 1)))] [] [⟨[.int .i64], 3, 8, (List.map eI r0)⟩] fun r2 =>
 (some (.ret [.agg [.row 0, .d (.int .i64 p0.Last)], .d (.bool r1.2)] [] [⟨[.int .i64], 3, 8, (List.map eI r2)⟩]))) (
 (some (.ret [.agg [.row 0, .d (.int .i64 p0.Last)], .d (.bool r1.2)] [] [⟨[.int .i64], 3, 8, (List.map eI r0)⟩]))) := by kernel_rfl
end
abbrev X93 : aP := C93 gG (cT 51 bM) (cT 96 bX) (cT 104 bM)
theorem awU : X93 = aR gG := by unfold X93 C93; repeat rw [bB fun _ h => h]
theorem ajt (p0 : aQ) (p1 : Int) : Le (Option.map nZ (wO p0 p1)) (bA SE 93 [aQ.av p0, .d (.int .i64 p1)] [] []) := by
 refine aX awU rfl ?_
 refine Le.trans ?_ (le_of_eq (T93 ..).symm)
 unfold wO
 refine lQ eX eJ (hR _) fun r0 _ => ?_
 refine lQ eX jH (jT _ _) fun r1 _ => ?_
 refine lC ?_ ?_
 ·refine lQ eX eJ (yQ _ _ _) fun r2 _ => ?_
  exact aK rfl
 ·exact aK rfl
theorem qL (p0 : List aB) (p1 p2 : Int) : Le (Option.map cZ (iE p0 p1 p2)) (bA SE 94 [.row 2000000000, .d (.int .i64 p1), .d (.int .i64 p2)] [] [⟨aB.ks, 79, 128, (List.map aB.enc p0)⟩]) := ajh (f := 94) (enc := aB.enc) rfl rfl p0 p1 p2
section
variable (Γ : Fun) (γ93 : Gm (aQ × Bool)) (γ73 : Gm (aH)) (γ94 : Gm ((List aB))) (Λ2 J : Lam)
def C74 : aP := aZ (aZ (aZ (aR Γ) 93 nZ γ93) 73 cR γ73) 94 cZ γ94
theorem T74 (p0 : aH) (p1 : Int) : bL SE (C74 Γ γ93 γ73 γ94) Λ2 J 74 [aH.av p0, .d (.int .i64 p1)] [] [] =
 cond (iB p1 (lM aB.enc p0.Items : Int)) (
 γ93 [aQ.av p0.Pool, .d (.int .i64 (aS (cE aB.enc p0.Items p1 0)))] [] [] fun r0 =>
 γ73 [aH.av p0] [] [] fun r1 =>
 γ94 [.row 2000000000, .d (.int .i64 p1), .d (.int .i64 (w6 (p1 + 1)))] [] [⟨aB.ks, 79, 128, (List.map aB.enc r1.Items)⟩] fun r2 =>
 (some (.ret [.agg [.d (.int .i64 r1.Limit), .row 0, .row 1, .d (.int .i64 r0.1.Last)]] [] [⟨aB.ks, 79, 128, (List.map aB.enc r2)⟩, ⟨[.int .i64], 3, 8, (List.map eI r0.1.Used)⟩]))) none := by kernel_rfl
end
abbrev X74 : aP := C74 gG (cT 93 nZ) (cT 73 cR) (cT 94 cZ)
theorem axV : X74 = aR gG := by unfold X74 C74; repeat rw [bB fun _ h => h]
theorem zB (p0 : aH) (p1 : Int) : Le (Option.map cR (mU p0 p1)) (bA SE 74 [aH.av p0, .d (.int .i64 p1)] [] []) := by
 refine aX axV rfl ?_
 refine Le.trans ?_ (le_of_eq (T74 ..).symm)
 unfold mU
 refine lG (by simp only [EN]) ?_
 refine lQ eX aio (by (try simp only [EN]); exact ajt p0.Pool ((List.getD p0.Items (Int.toNat p1) default).ID)) fun r0 _ => ?_
 refine lQ eX gZ (k8 _) fun r1 _ => ?_
 refine lQ eX qJ (qL _ _ _) fun r2 _ => ?_
 exact aK rfl
def amH (C : aP) (Λ2 J : Lam) (a0 : Int) (a1 a2 a3 a4 : List D) : Res := lab SE C Λ2 J 48 0 [1, 1, 1, 1, 0, 0] (bC [(2, .ptr 1000000000 0), (3, .ptr 1000000001 0), (4, .ptr 1000000002 0), (7, .d (.int .i64 a0)), (8, .ptr 1000000003 0)] [⟨38, (List.map AV.d a1)⟩, ⟨32, (List.map AV.d a2)⟩, ⟨38, (List.map AV.d a3)⟩, ⟨79, (List.map AV.d a4)⟩] [] [] [])
section
variable (Γ : Fun) (γ72 : Gm (Int)) (γ73 γ74 : Gm (aH)) (γ63 : Gm (aF)) (Λ2 J : Lam)
def C48 : aP := aZ (aZ (aZ (aZ (aR Γ) 72 aJ γ72) 73 cR γ73) 74 cR γ74) 63 cX γ63
theorem T48 (p0 : aH) (p1 : aF) : bL SE (C48 Γ γ72 γ73 γ74 γ63) Λ2 J 48 [aH.av p0, aF.av p1] [] [] =
 γ72 [.d (.sl aB.ks (List.map aB.enc p0.Items)), .d (.int .i64 p1.ID)] [] [] fun r0 =>
 cond (decide (r0 ≥ 0)) (
 cond (iB r0 (lM aB.enc p0.Items : Int)) (
  amH (C48 Γ γ72 γ73 γ74 γ63) Λ2 J r0 (aH.enc p0) (aF.enc p1) [D.int .i64 0, D.sl aB.ks (List.map aB.enc []), D.sl [.int .i64] (List.map eI []), D.int .i64 0] [D.int .i64 (aS (cE aB.enc p0.Items r0 0)), D.int .i64 (aS (cE aB.enc p0.Items r0 1)), D.str (bI (cE aB.enc p0.Items r0 2)), D.str (bI (cE aB.enc p0.Items r0 3)), D.int .i64 (aS (cE aB.enc p0.Items r0 4)), D.bool (bZ (cE aB.enc p0.Items r0 5)), D.int .i64 (aS (cE aB.enc p0.Items r0 6)), D.int .i64 (aS (cE aB.enc p0.Items r0 7)), D.str (bI (cE aB.enc p0.Items r0 8)), D.int .i64 (aS (cE aB.enc p0.Items r0 9)), D.sl aD.ks (dSl (cE aB.enc p0.Items r0 10))]) none) (
 amH (C48 Γ γ72 γ73 γ74 γ63) Λ2 J r0 (aH.enc p0) (aF.enc p1) [D.int .i64 0, D.sl aB.ks (List.map aB.enc []), D.sl [.int .i64] (List.map eI []), D.int .i64 0] [D.int .i64 0, D.int .i64 0, D.str [], D.str [], D.int .i64 0, D.bool false, D.int .i64 0, D.int .i64 0, D.str [], D.int .i64 0, D.sl aD.ks (List.map aD.enc [])]) := by kernel_rfl
theorem avc (x7 : Int) (b0 : aH) (b1 : aF) (b2 : aH) (b3 : aB) : cY SE (C48 Γ γ72 γ73 γ74 γ63) Λ2 J 48 0 [1, 1, 1, 1, 0, 0] (bC [(2, .ptr 1000000000 0), (3, .ptr 1000000001 0), (4, .ptr 1000000002 0), (7, .d (.int .i64 x7)), (8, .ptr 1000000003 0)] [⟨38, (List.map AV.d (aH.enc b0))⟩, ⟨32, (List.map AV.d (aF.enc b1))⟩, ⟨38, (List.map AV.d (aH.enc b2))⟩, ⟨79, (List.map AV.d (aB.enc b3))⟩] [] [] []) =
 cond (b1.Kind == 4) (
 cond (decide (x7 < 0)) (
  γ73 [aH.av b0] [] [] fun r1 =>
  (some (.ret [.agg [.d (.int .i64 r1.Limit), .row 0, .row 1, .d (.int .i64 r1.Pool.Last)], .row 2, .d (.int .i64 0)] [] [⟨aB.ks, 79, 128, (List.map aB.enc r1.Items)⟩, ⟨[.int .i64], 3, 8, (List.map eI r1.Pool.Used)⟩, ⟨aF.ks, 32, 416, []⟩]))) (
 cond (b3.Message.Level == 1) (
  γ74 [aH.av b0, .d (.int .i64 x7)] [] [] fun r2 =>
  (some (.ret [.agg [.d (.int .i64 r2.Limit), .row 0, .row 1, .d (.int .i64 r2.Pool.Last)], .row 2, .d (.int .i64 0)] [] [⟨aB.ks, 79, 128, (List.map aB.enc r2.Items)⟩, ⟨[.int .i64], 3, 8, (List.map eI r2.Pool.Used)⟩, ⟨aF.ks, 32, 416, []⟩]))) (
 (some (.ret [.agg [.d (.int .i64 0), .row 0, .row 1, .d (.int .i64 0)], .row 2, .d (.int .i64 23)] [] [⟨aB.ks, 79, 128, (List.map aB.enc [])⟩, ⟨[.int .i64], 3, 8, (List.map eI [])⟩, ⟨aF.ks, 32, 416, []⟩]))))) (
 cond (b1.Kind == 5) (
 cond (decide (x7 < 0)) (
  γ73 [aH.av b0] [] [] fun r3 =>
  γ63 [.d (.int .i64 b1.ID)] [] [] fun r4 =>
  (some (.ret [.agg [.d (.int .i64 r3.Limit), .row 0, .row 1, .d (.int .i64 r3.Pool.Last)], .row 2, .d (.int .i64 0)] [] [⟨aB.ks, 79, 128, (List.map aB.enc r3.Items)⟩, ⟨[.int .i64], 3, 8, (List.map eI r3.Pool.Used)⟩, ⟨aF.ks, 32, 416, (List.map aF.enc [r4])⟩]))) (
 cond (b3.Message.Level == 2) (
  γ73 [aH.av b0] [] [] fun r5 =>
  cond (iB x7 (lM aB.enc r5.Items : Int)) (
  γ63 [.d (.int .i64 b1.ID)] [] [] fun r6 =>
  (some (.ret [.agg [.d (.int .i64 r5.Limit), .row 0, .row 1, .d (.int .i64 r5.Pool.Last)], .row 2, .d (.int .i64 0)] [] [⟨aB.ks, 79, 128, (nD (List.map aB.enc r5.Items) (Int.toNat x7) 1 [D.int .i64 2])⟩, ⟨[.int .i64], 3, 8, (List.map eI r5.Pool.Used)⟩, ⟨aF.ks, 32, 416, (List.map aF.enc [r6])⟩]))) none) (
 (some (.ret [.agg [.d (.int .i64 0), .row 0, .row 1, .d (.int .i64 0)], .row 2, .d (.int .i64 23)] [] [⟨aB.ks, 79, 128, (List.map aB.enc [])⟩, ⟨[.int .i64], 3, 8, (List.map eI [])⟩, ⟨aF.ks, 32, 416, []⟩]))))) (
 cond (b1.Kind == 7) (
 cond (decide (x7 < 0)) (
  γ73 [aH.av b0] [] [] fun r7 =>
  (some (.ret [.agg [.d (.int .i64 r7.Limit), .row 0, .row 1, .d (.int .i64 r7.Pool.Last)], .row 2, .d (.int .i64 0)] [] [⟨aB.ks, 79, 128, (List.map aB.enc r7.Items)⟩, ⟨[.int .i64], 3, 8, (List.map eI r7.Pool.Used)⟩, ⟨aF.ks, 32, 416, []⟩]))) (
 cond (b3.State == 2) (
  γ74 [aH.av b0, .d (.int .i64 x7)] [] [] fun r8 =>
  (some (.ret [.agg [.d (.int .i64 r8.Limit), .row 0, .row 1, .d (.int .i64 r8.Pool.Last)], .row 2, .d (.int .i64 0)] [] [⟨aB.ks, 79, 128, (List.map aB.enc r8.Items)⟩, ⟨[.int .i64], 3, 8, (List.map eI r8.Pool.Used)⟩, ⟨aF.ks, 32, 416, []⟩]))) (
 (some (.ret [.agg [.d (.int .i64 0), .row 0, .row 1, .d (.int .i64 0)], .row 2, .d (.int .i64 23)] [] [⟨aB.ks, 79, 128, (List.map aB.enc [])⟩, ⟨[.int .i64], 3, 8, (List.map eI [])⟩, ⟨aF.ks, 32, 416, []⟩]))))) (
 (some (.ret [.agg [.d (.int .i64 0), .row 0, .row 1, .d (.int .i64 0)], .row 2, .d (.int .i64 10)] [] [⟨aB.ks, 79, 128, (List.map aB.enc [])⟩, ⟨[.int .i64], 3, 8, (List.map eI [])⟩, ⟨aF.ks, 32, 416, []⟩]))))) := by kernel_rfl
end
abbrev X48 : aP := C48 gG (cT 72 aJ) (cT 73 cR) (cT 74 cR) (cT 63 cX)
theorem arW : X48 = aR gG := by unfold X48 C48; repeat rw [bB fun _ h => h]
abbrev avI := amH X48 (cU SE gG (SE.hl 48) (SE.hr 48)) (J0 SE X48)
theorem vF (x7 : Int) (b0 : aH) (b1 : aF) (b2 : aH) (b3 : aB) : Le (Option.map gM (j9 x7 b0 b1 b2 b3)) (avI x7 (aH.enc b0) (aF.enc b1) (aH.enc b2) (aB.enc b3)) := by
 refine Le.trans ?_ (le_of_eq ((bF arW).trans (avc ..)).symm)
 unfold j9
 refine lC ?_ ?_
 ·refine lC ?_ ?_
  ·refine lQ eX gZ (k8 _) fun r1 _ => ?_
   exact aK rfl
  ·refine lC ?_ ?_
   ·refine lQ eX gZ (zB _ _) fun r2 _ => ?_
    exact aK rfl
   ·exact aK rfl
 ·refine lC ?_ ?_
  ·refine lC ?_ ?_
   ·refine lQ eX gZ (k8 _) fun r3 _ => ?_
    refine lQ eX kW (sU _) fun r4 _ => ?_
    exact aK rfl
   ·refine lC ?_ ?_
    ·refine lQ eX gZ (k8 _) fun r5 _ => ?_
     refine lG (by simp only [EN]) ?_
     refine lQ eX kW (sU _) fun r6 _ => ?_
     exact aK (by first | rfl | simp only [EN, gM] <;> rfl)
    ·exact aK rfl
  ·refine lC ?_ ?_
   ·refine lC ?_ ?_
    ·refine lQ eX gZ (k8 _) fun r7 _ => ?_
     exact aK rfl
    ·refine lC ?_ ?_
     ·refine lQ eX gZ (zB _ _) fun r8 _ => ?_
      exact aK rfl
     ·exact aK rfl
   ·exact aK rfl
theorem aeb (p0 : aH) (p1 : aF) : Le (Option.map gM (pM p0 p1)) (bA SE 48 [aH.av p0, aF.av p1] [] []) := by
 refine aX arW rfl ?_
 refine Le.trans ?_ (le_of_eq (T48 ..).symm)
 unfold pM
 refine lQ eX bK (aa4 _ _) fun r0 _ => ?_
 refine lC ?_ ?_
 ·refine lG (by simp only [EN]) ?_
  (try simp only [EN]); exact vF r0 p0 p1 ((aH.mk 0 [] (aQ.mk [] 0))) (List.getD p0.Items (Int.toNat r0) default)
 ·(try simp only [EN]); exact vF r0 p0 p1 ((aH.mk 0 [] (aQ.mk [] 0))) ((aB.mk 0 0 (aA.mk [] [] 0 false 0 0 [] 0 [])))
section
variable (Γ : Fun) (γ48 : Gm (aH × (List aF) × Int)) (γ16 : Gm (aC)) (γ19 : Gm (aC × (List aF))) (Λ2 J : Lam)
def C13 : aP := aZ (aZ (aZ (aR Γ) 48 gM γ48) 16 cW γ16) 19 cQ γ19
theorem T13 (p0 : aC) (p1 : aF) (p2 : Int) : bL SE (C13 Γ γ48 γ16 γ19) Λ2 J 13 [aC.av p0, aF.av p1, .d (.int .i64 p2)] [] [] =
 γ48 [aH.av p0.Out, aF.av p1] [] [] fun r0 =>
 cond (r0.2.2 != 0) (
 (some (.ret [.agg [.d (.str []), .d (.str []), .d (.bool false), .d (.int .i64 0), .d (.int .i64 0), .d (.int .i64 0), .d (.int .i64 0), .d (.sl aG.ks (List.map aG.enc [])), .d (.sl aA.ks (List.map aA.enc [])), .d (.int .i64 0), .d (.sl aB.ks (List.map aB.enc [])), .d (.sl [.int .i64] (List.map eI [])), .d (.int .i64 0), .d (.sl [.int .i64] (List.map eI [])), .d (.bool false), .d (.int .i64 0), .d (.str []), .d (.str []), .d (.int .i64 0), .d (.bool false), .d (.int .i64 0), .d (.int .i64 0), .d (.str []), .d (.int .i64 0), .d (.sl aD.ks (List.map aD.enc []))], .row 0, .d (.int .i64 r0.2.2)] [] [⟨aF.ks, 32, 416, []⟩]))) (
 γ16 [aC.av p0] [] [] fun r1 =>
 cond (!p0.Online) (
 (some (.ret [aC.av (aC.mk r1.Client r1.User r1.Online r1.Conn r1.Expiry r1.Until r1.Dropped r1.Subs r1.Queue r0.1 r1.In r1.Will), .row 0, .d (.int .i64 0)] [] [⟨aF.ks, 32, 416, (List.map aF.enc r0.2.1)⟩]))) (
 γ19 [aC.av (aC.mk r1.Client r1.User r1.Online r1.Conn r1.Expiry r1.Until r1.Dropped r1.Subs r1.Queue r0.1 r1.In r1.Will), .d (.int .i64 p2), .row 2000000000] [] [⟨aF.ks, 32, 416, (List.map aF.enc r0.2.1)⟩] fun r2 =>
 (some (.ret [aC.av r2.1, .row 0, .d (.int .i64 0)] [] [⟨aF.ks, 32, 416, (List.map aF.enc r2.2)⟩])))) := by kernel_rfl
end
abbrev X13 : aP := C13 gG (cT 48 gM) (cT 16 cW) (cT 19 cQ)
theorem axu : X13 = aR gG := by unfold X13 C13; repeat rw [bB fun _ h => h]
theorem zM (p0 : aC) (p1 : aF) (p2 : Int) : Le (Option.map kF (j7 p0 p1 p2)) (bA SE 13 [aC.av p0, aF.av p1, .d (.int .i64 p2)] [] []) := by
 refine aX axu rfl ?_
 refine Le.trans ?_ (le_of_eq (T13 ..).symm)
 unfold j7
 refine lQ eX adL (aeb _ _) fun r0 _ => ?_
 refine lC ?_ ?_
 ·exact aK rfl
 ·refine lQ eX kV (lZ _) fun r1 _ => ?_
  refine lC ?_ ?_
  ·exact aK rfl
  ·refine lQ eX lW (wV _ _ _) fun r2 _ => ?_
   exact aK rfl
def amT (C : aP) (Λ2 J : Lam) (a0 a1 a2 : List (List D)) (a3 a4 : Int) (a5 a6 : List D) : Res := lab SE C Λ2 J 3 0 [1, 1, 1, 1, 0, 1, 0, 0, 1, 0, 0, 1, 1, 1] (bC [(1, .d (.sl [.str] a0)), (2, .d (.sl [.int .u8] a1)), (3, .d (.sl [.int .u8] a2)), (9, .ptr 1000000000 0), (10, .ptr 1000000001 0), (11, .d (.int .i64 a3)), (12, .d (.int .i64 a4))] [⟨32, (List.map AV.d a5)⟩, ⟨42, (List.map AV.d a6)⟩] [] [] [])
def ajQ (C : aP) (Λ2 J : Lam) (a0 : List (List D)) (a1 : Int) (a2 a3 a4 : List D) : Res := lab SE C Λ2 J 3 0 [1, 1, 1, 1, 1, 1, 1, 1, 1, 1, 1, 1, 1, 1, 0, 1, 0, 0, 1, 0, 0, 1, 1, 0] (bC [(3, .d (.sl [.int .u8] a0)), (10, .ptr 1000000000 0), (16, .ptr 1000000001 0), (19, .d (.int .i64 a1)), (20, .ptr 1000000002 0)] [⟨42, (List.map AV.d a2)⟩, ⟨42, (List.map AV.d a3)⟩, ⟨32, (List.map AV.d a4)⟩] [] [] [])
def ajN (C : aP) (Λ2 J : Lam) (a0 : List (List D)) (a1 : Int) (a2 a3 : List D) : Res := lab SE C Λ2 J 3 0 [1, 1, 1, 1, 1, 1, 1, 1, 1, 1, 1, 1, 1, 1, 0, 1, 0] (bC [(3, .d (.sl [.int .u8] a0)), (10, .ptr 1000000000 0), (16, .ptr 1000000001 0), (19, .d (.int .i64 a1))] [⟨42, (List.map AV.d a2)⟩, ⟨42, (List.map AV.d a3)⟩] [] [] [])
def am3 (C : aP) (Λ2 J : Lam) (a0 : List (List D)) (a1 a2 : List D) : Res := lab SE C Λ2 J 3 0 [1, 1, 1, 1, 1, 1, 1, 1, 1, 1, 1, 1, 1, 1, 0, 0] (bC [(3, .d (.sl [.int .u8] a0)), (10, .ptr 1000000000 0), (16, .ptr 1000000001 0)] [⟨42, (List.map AV.d a1)⟩, ⟨42, (List.map AV.d a2)⟩] [] [] [])
def aqV (C : aP) (Λ2 J : Lam) (a0 : List (List D)) (a1 a2 : List D) (a3 a4 : Str) (a5 : Bool) (a6 a7 a8 a9 a10 a11 : Int) (a12 : Bool) (a13 : Int) (a14 a15 : Str) (a16 : Int) (a17 : Bool) (a18 a19 : Int) (a20 : Str) (a21 : Int) (a22 a23 a24 a25 a26 a27 a28 : List (List D)) : Res := lab SE C Λ2 J 3 0 [1, 1, 1, 1, 1, 1, 1, 1, 1, 1, 1, 0] (bC [(3, .d (.sl [.int .u8] a0)), (9, .ptr 1000000000 0), (10, .ptr 1000000001 0), (13, .row 3013), (16, .ptr 1000000002 0)] [⟨32, (List.map AV.d a1)⟩, ⟨42, (List.map AV.d a2)⟩, ⟨42, [.d (.str a3), .d (.str a4), .d (.bool a5), .d (.int .i64 a6), .d (.int .i64 a7), .d (.int .i64 a8), .d (.int .i64 a9), .row 50207, .row 50208, .d (.int .i64 a10), .row 50210, .row 50211, .d (.int .i64 a11), .row 50213, .d (.bool a12), .d (.int .i64 a13), .d (.str a14), .d (.str a15), .d (.int .i64 a16), .d (.bool a17), .d (.int .i64 a18), .d (.int .i64 a19), .d (.str a20), .d (.int .i64 a21), .row 50224]⟩] [] [] [(3013, ⟨aF.ks, 32, 416, a22⟩), (50207, ⟨aG.ks, 73, 32, a23⟩), (50208, ⟨aA.ks, 26, 112, a24⟩), (50210, ⟨aB.ks, 79, 128, a25⟩), (50211, ⟨[.int .i64], 3, 8, a26⟩), (50213, ⟨[.int .i64], 3, 8, a27⟩), (50224, ⟨aD.ks, 104, 32, a28⟩)])
def aqN (C : aP) (Λ2 J : Lam) (a0 : List (List D)) (a1 a2 : List D) (a3 a4 : List (List D)) : Res := lab SE C Λ2 J 3 0 [1, 1, 1, 1, 1, 1, 1, 1, 1, 0] (bC [(3, .d (.sl [.int .u8] a0)), (9, .ptr 1000000000 0), (10, .ptr 1000000001 0), (13, .row 3013), (14, .row 3014)] [⟨32, (List.map AV.d a1)⟩, ⟨42, (List.map AV.d a2)⟩] [] [] [(3013, ⟨aF.ks, 32, 416, a3⟩), (3014, ⟨[.int .u8], 5, 1, a4⟩)])
def apW (C : aP) (Λ2 J : Lam) (a0 a1 a2 : List (List D)) (a3 : Int) (a4 a5 : List D) : Res := lab SE C Λ2 J 3 0 [1, 1, 1, 1, 0, 1, 0] (bC [(1, .d (.sl [.str] a0)), (2, .d (.sl [.int .u8] a1)), (3, .d (.sl [.int .u8] a2)), (9, .ptr 1000000000 0), (10, .ptr 1000000001 0), (11, .d (.int .i64 a3))] [⟨32, (List.map AV.d a4)⟩, ⟨42, (List.map AV.d a5)⟩] [] [] [])
def as0 (C : aP) (Λ2 J : Lam) (a0 : Int) (a1 a2 a3 : List (List D)) : Res := lab SE C Λ2 J 3 0 [1, 1, 0] (bC [(0, .d (.int .i64 a0)), (1, .d (.sl [.str] a1)), (2, .d (.sl [.int .u8] a2)), (3, .d (.sl [.int .u8] a3))] [] [] [] [])
section
variable (Γ : Fun) (γ4 : Gm (aC)) (γ6 : Gm (aC × (List aF))) (γ7 : Gm (aC)) (γ8 : Gm ((List Int) × Int)) (γ5 : Gm (aC × Bool)) (γ9 : Gm (aC × Int)) (γ10 : Gm (aC × (List aF))) (γ11 : Gm (Bool)) (γ12 : Gm (Int)) (γ13 : Gm (aC × (List aF) × Int)) (Λ2 J : Lam)
def C3 : aP := aZ (aZ (aZ (aZ (aZ (aZ (aZ (aZ (aZ (aZ (aR Γ) 4 cW γ4) 6 cQ γ6) 7 dB γ7) 8 kB γ8) 5 jN γ5) 9 gU γ9) 10 cQ γ10) 11 aI γ11) 12 aJ γ12) 13 kF γ13
theorem T3 (p0 : Int) (p1 : List Str) (p2 p3 : List Int) : bL SE (C3 Γ γ4 γ6 γ7 γ8 γ5 γ9 γ10 γ11 γ12 γ13) Λ2 J 3 [.d (.int .i64 p0), .d (.sl [.str] (List.map bU p1)), .d (.sl [.int .u8] (List.map (encI .u8) p2)), .d (.sl [.int .u8] (List.map (encI .u8) p3))] [] [] =
 cond (decide (p0 < 1)) (
 (rB true)) (
 cond (decide (p0 > 32)) (
 (rB true)) (
 cond (decide ((lM bU p1 : Int) > 12)) (
 (rB true)) (
 cond (decide ((lM (encI .u8) p3 : Int) > 20)) (
 (rB true)) (
 as0 (C3 Γ γ4 γ6 γ7 γ8 γ5 γ9 γ10 γ11 γ12 γ13) Λ2 J p0 (List.map bU p1) (List.map (encI .u8) p2) (List.map (encI .u8) p3))))) := by kernel_rfl
theorem avG (x1 : List Str) (x2 x3 : List Int) (x11 x12 : Int) (b0 : aF) (b1 : aC) : cY SE (C3 Γ γ4 γ6 γ7 γ8 γ5 γ9 γ10 γ11 γ12 γ13) Λ2 J 3 0 [1, 1, 1, 1, 0, 1, 0, 0, 1, 0, 0, 1, 1, 1] (bC [(1, .d (.sl [.str] (List.map bU x1))), (2, .d (.sl [.int .u8] (List.map (encI .u8) x2))), (3, .d (.sl [.int .u8] (List.map (encI .u8) x3))), (9, .ptr 1000000000 0), (10, .ptr 1000000001 0), (11, .d (.int .i64 x11)), (12, .d (.int .i64 x12))] [⟨32, (List.map AV.d (aF.enc b0))⟩, ⟨42, (List.map AV.d (aC.enc b1))⟩] [] [] []) =
 cond (iB x11 (lM bU x1 : Int)) (
 γ5 [aC.av b1, .agg [.d (.str ([116] : Str)), .d (.str (bI (cE bU x1 x11 0))), .d (.int .i64 x12), .d (.bool false), .d (.int .i64 0), .d (.int .i64 0), .d (.str []), .d (.int .i64 0), .d (.sl aD.ks (List.map aD.enc []))], .d (.int .i64 100), .d (.int .i64 2)] [] [] fun r4 =>
 apW (C3 Γ γ4 γ6 γ7 γ8 γ5 γ9 γ10 γ11 γ12 γ13) Λ2 J (List.map bU x1) (List.map (encI .u8) x2) (List.map (encI .u8) x3) (w6 (x11 + 1)) (aF.enc b0) (aC.enc r4.1)) none := by kernel_rfl
theorem awh (x3 : List Int) (x19 : Int) (b0 b1 : aC) (b2 : aF) : cY SE (C3 Γ γ4 γ6 γ7 γ8 γ5 γ9 γ10 γ11 γ12 γ13) Λ2 J 3 0 [1, 1, 1, 1, 1, 1, 1, 1, 1, 1, 1, 1, 1, 1, 0, 1, 0, 0, 1, 0, 0, 1, 1, 0] (bC [(3, .d (.sl [.int .u8] (List.map (encI .u8) x3))), (10, .ptr 1000000000 0), (16, .ptr 1000000001 0), (19, .d (.int .i64 x19)), (20, .ptr 1000000002 0)] [⟨42, (List.map AV.d (aC.enc b0))⟩, ⟨42, (List.map AV.d (aC.enc b1))⟩, ⟨32, (List.map AV.d (aF.enc b2))⟩] [] [] []) =
 γ13 [aC.av b0, aF.av b2, .d (.int .i64 3)] [] [] fun r10 =>
 γ13 [aC.av b1, aF.av b2, .d (.int .i64 3)] [] [] fun r11 =>
 cond (r10.2.2 != r11.2.2) (
 (rB false)) (
 γ11 [.d (.sl aF.ks (List.map aF.enc r10.2.1)), .d (.sl aF.ks (List.map aF.enc r11.2.1))] [] [] fun r12 =>
 cond (!r12) (
 (rB false)) (
 cond (r10.2.2 == 0) (
 ajN (C3 Γ γ4 γ6 γ7 γ8 γ5 γ9 γ10 γ11 γ12 γ13) Λ2 J (List.map (encI .u8) x3) (w6 (x19 + 1)) (aC.enc r10.1) (aC.enc r11.1)) (
 ajN (C3 Γ γ4 γ6 γ7 γ8 γ5 γ9 γ10 γ11 γ12 γ13) Λ2 J (List.map (encI .u8) x3) (w6 (x19 + 1)) (aC.enc b0) (aC.enc b1)))) := by kernel_rfl
theorem ave (x3 : List Int) (x19 : Int) (b0 b1 : aC) : cY SE (C3 Γ γ4 γ6 γ7 γ8 γ5 γ9 γ10 γ11 γ12 γ13) Λ2 J 3 0 [1, 1, 1, 1, 1, 1, 1, 1, 1, 1, 1, 1, 1, 1, 0, 1, 0] (bC [(3, .d (.sl [.int .u8] (List.map (encI .u8) x3))), (10, .ptr 1000000000 0), (16, .ptr 1000000001 0), (19, .d (.int .i64 x19))] [⟨42, (List.map AV.d (aC.enc b0))⟩, ⟨42, (List.map AV.d (aC.enc b1))⟩] [] [] []) =
 cond (decide (x19 < (lM (encI .u8) x3 : Int))) (
 cond (iB x19 (lM (encI .u8) x3 : Int)) (
  cond (iB x19 (lM (encI .u8) x3 : Int)) (
  cond ((Int.tmod (aS (cE (encI .u8) x3 x19 0)) 3) == 1) (
   ajQ (C3 Γ γ4 γ6 γ7 γ8 γ5 γ9 γ10 γ11 γ12 γ13) Λ2 J (List.map (encI .u8) x3) x19 (aC.enc b0) (aC.enc b1) [D.int .i64 5, D.int .i64 (w6 ((w6 (Int.tmod (IntKind.wrap .u8 (Int.tdiv (aS (cE (encI .u8) x3 x19 0)) 3)) 4)) + 1)), D.bool false, D.str [], D.str [], D.int .i64 0, D.bool false, D.int .i64 0, D.int .i64 0, D.str [], D.int .i64 0, D.sl aD.ks (List.map aD.enc []), D.str [], D.str [], D.bool false, D.int .i64 0, D.int .i64 0, D.int .i64 0, D.bool false, D.int .i64 0, D.str [], D.str [], D.int .i64 0, D.bool false, D.int .i64 0, D.int .i64 0, D.str [], D.int .i64 0, D.sl aD.ks (List.map aD.enc []), D.bool false, D.int .i64 0, D.sl aG.ks (List.map aG.enc []), D.sl [.str] (List.map bU []), D.sl [.int .i64] (List.map eI [])]) (
  cond ((Int.tmod (aS (cE (encI .u8) x3 x19 0)) 3) == 2) (
   ajQ (C3 Γ γ4 γ6 γ7 γ8 γ5 γ9 γ10 γ11 γ12 γ13) Λ2 J (List.map (encI .u8) x3) x19 (aC.enc b0) (aC.enc b1) [D.int .i64 7, D.int .i64 (w6 ((w6 (Int.tmod (IntKind.wrap .u8 (Int.tdiv (aS (cE (encI .u8) x3 x19 0)) 3)) 4)) + 1)), D.bool false, D.str [], D.str [], D.int .i64 0, D.bool false, D.int .i64 0, D.int .i64 0, D.str [], D.int .i64 0, D.sl aD.ks (List.map aD.enc []), D.str [], D.str [], D.bool false, D.int .i64 0, D.int .i64 0, D.int .i64 0, D.bool false, D.int .i64 0, D.str [], D.str [], D.int .i64 0, D.bool false, D.int .i64 0, D.int .i64 0, D.str [], D.int .i64 0, D.sl aD.ks (List.map aD.enc []), D.bool false, D.int .i64 0, D.sl aG.ks (List.map aG.enc []), D.sl [.str] (List.map bU []), D.sl [.int .i64] (List.map eI [])]) (
  ajQ (C3 Γ γ4 γ6 γ7 γ8 γ5 γ9 γ10 γ11 γ12 γ13) Λ2 J (List.map (encI .u8) x3) x19 (aC.enc b0) (aC.enc b1) [D.int .i64 4, D.int .i64 (w6 ((w6 (Int.tmod (IntKind.wrap .u8 (Int.tdiv (aS (cE (encI .u8) x3 x19 0)) 3)) 4)) + 1)), D.bool false, D.str [], D.str [], D.int .i64 0, D.bool false, D.int .i64 0, D.int .i64 0, D.str [], D.int .i64 0, D.sl aD.ks (List.map aD.enc []), D.str [], D.str [], D.bool false, D.int .i64 0, D.int .i64 0, D.int .i64 0, D.bool false, D.int .i64 0, D.str [], D.str [], D.int .i64 0, D.bool false, D.int .i64 0, D.int .i64 0, D.str [], D.int .i64 0, D.sl aD.ks (List.map aD.enc []), D.bool false, D.int .i64 0, D.sl aG.ks (List.map aG.enc []), D.sl [.str] (List.map bU []), D.sl [.int .i64] (List.map eI [])]))) none) none) (
 cond (b0.Client == ([99] : Str)) (
 cond ((lM aA.enc b0.Queue : Int) == (lM aA.enc b1.Queue : Int)) (
  (rB ((lM aB.enc b0.Out.Items : Int) == (lM aB.enc b1.Out.Items : Int)))) (
 (rB false))) (
 (rB false))) := by kernel_rfl
theorem awd (x3 : List Int) (b0 b1 : aC) : cY SE (C3 Γ γ4 γ6 γ7 γ8 γ5 γ9 γ10 γ11 γ12 γ13) Λ2 J 3 0 [1, 1, 1, 1, 1, 1, 1, 1, 1, 1, 1, 1, 1, 1, 0, 0] (bC [(3, .d (.sl [.int .u8] (List.map (encI .u8) x3))), (10, .ptr 1000000000 0), (16, .ptr 1000000001 0)] [⟨42, (List.map AV.d (aC.enc b0))⟩, ⟨42, (List.map AV.d (aC.enc b1))⟩] [] [] []) =
 ajN (C3 Γ γ4 γ6 γ7 γ8 γ5 γ9 γ10 γ11 γ12 γ13) Λ2 J (List.map (encI .u8) x3) 0 (aC.enc b0) (aC.enc b1) := by kernel_rfl
theorem avv (x3 : List Int) (b0 : aF) (b1 : aC) (b2_0 b2_1 : Str) (b2_2 : Bool) (b2_3 b2_4 b2_5 b2_6 b2_9 b2_12 : Int) (b2_14 : Bool) (b2_15 : Int) (b2_16 b2_17 : Str) (b2_18 : Int) (b2_19 : Bool) (b2_20 b2_21 : Int) (b2_22 : Str) (b2_23 : Int) (w3013 : List aF) (w50207 : List aG) (w50208 : List aA) (w50210 : List aB) (w50211 w50213 : List Int) (w50224 : List aD) : cY SE (C3 Γ γ4 γ6 γ7 γ8 γ5 γ9 γ10 γ11 γ12 γ13) Λ2 J 3 0 [1, 1, 1, 1, 1, 1, 1, 1, 1, 1, 1, 0] (bC [(3, .d (.sl [.int .u8] (List.map (encI .u8) x3))), (9, .ptr 1000000000 0), (10, .ptr 1000000001 0), (13, .row 3013), (16, .ptr 1000000002 0)] [⟨32, (List.map AV.d (aF.enc b0))⟩, ⟨42, (List.map AV.d (aC.enc b1))⟩, ⟨42, [.d (.str b2_0), .d (.str b2_1), .d (.bool b2_2), .d (.int .i64 b2_3), .d (.int .i64 b2_4), .d (.int .i64 b2_5), .d (.int .i64 b2_6), .row 50207, .row 50208, .d (.int .i64 b2_9), .row 50210, .row 50211, .d (.int .i64 b2_12), .row 50213, .d (.bool b2_14), .d (.int .i64 b2_15), .d (.str b2_16), .d (.str b2_17), .d (.int .i64 b2_18), .d (.bool b2_19), .d (.int .i64 b2_20), .d (.int .i64 b2_21), .d (.str b2_22), .d (.int .i64 b2_23), .row 50224]⟩] [] [] [(3013, ⟨aF.ks, 32, 416, (List.map aF.enc w3013)⟩), (50207, ⟨aG.ks, 73, 32, (List.map aG.enc w50207)⟩), (50208, ⟨aA.ks, 26, 112, (List.map aA.enc w50208)⟩), (50210, ⟨aB.ks, 79, 128, (List.map aB.enc w50210)⟩), (50211, ⟨[.int .i64], 3, 8, (List.map eI w50211)⟩), (50213, ⟨[.int .i64], 3, 8, (List.map eI w50213)⟩), (50224, ⟨aD.ks, 104, 32, (List.map aD.enc w50224)⟩)]) =
 γ10 [aC.av b1, aF.av b0, .d (.int .i64 2), .d (.int .i64 2)] [] [] fun r6 =>
 γ10 [aC.av (aC.mk b2_0 b2_1 b2_2 b2_3 b2_4 b2_5 b2_6 w50207 w50208 (aH.mk b2_9 w50210 (aQ.mk w50211 b2_12)) (bG.mk w50213) (aV.mk b2_14 b2_15 (aA.mk b2_16 b2_17 b2_18 b2_19 b2_20 b2_21 b2_22 b2_23 w50224))), aF.av b0, .d (.int .i64 2), .d (.int .i64 2)] [] [] fun r7 =>
 γ11 [.d (.sl aF.ks (List.map aF.enc r6.2)), .d (.sl aF.ks (List.map aF.enc r7.2))] [] [] fun r8 =>
 cond (!r8) (
 (rB false)) (
 cond (!r7.1.Online) (
 (rB false)) (
 cond (decide ((lM aF.enc w3013 : Int) > 0)) (
 γ12 [aC.av r7.1] [] [] fun r9 =>
 cond (r9 != 0) (
  (rB false)) (
 am3 (C3 Γ γ4 γ6 γ7 γ8 γ5 γ9 γ10 γ11 γ12 γ13) Λ2 J (List.map (encI .u8) x3) (aC.enc r6.1) (aC.enc r7.1))) (
 am3 (C3 Γ γ4 γ6 γ7 γ8 γ5 γ9 γ10 γ11 γ12 γ13) Λ2 J (List.map (encI .u8) x3) (aC.enc r6.1) (aC.enc r7.1)))) := by kernel_rfl
theorem avw (x3 : List Int) (b0 : aF) (b1 : aC) (w3013 : List aF) (w3014 : List Int) : cY SE (C3 Γ γ4 γ6 γ7 γ8 γ5 γ9 γ10 γ11 γ12 γ13) Λ2 J 3 0 [1, 1, 1, 1, 1, 1, 1, 1, 1, 0] (bC [(3, .d (.sl [.int .u8] (List.map (encI .u8) x3))), (9, .ptr 1000000000 0), (10, .ptr 1000000001 0), (13, .row 3013), (14, .row 3014)] [⟨32, (List.map AV.d (aF.enc b0))⟩, ⟨42, (List.map AV.d (aC.enc b1))⟩] [] [] [(3013, ⟨aF.ks, 32, 416, (List.map aF.enc w3013)⟩), (3014, ⟨[.int .u8], 5, 1, (List.map (encI .u8) w3014)⟩)]) =
 γ9 [.d (.sl [.int .u8] (List.map (encI .u8) w3014))] [] [] fun r5 =>
 cond (r5.2 != 0) (
 (rB false)) (
 cond (!(r5.1.Client == ([99] : Str))) (
 (rB false)) (
 cond r5.1.Online (
 (rB false)) (
 aqV (C3 Γ γ4 γ6 γ7 γ8 γ5 γ9 γ10 γ11 γ12 γ13) Λ2 J (List.map (encI .u8) x3) (aF.enc b0) (aC.enc b1) r5.1.Client r5.1.User r5.1.Online r5.1.Conn r5.1.Expiry r5.1.Until r5.1.Dropped r5.1.Out.Limit r5.1.Out.Pool.Last r5.1.Will.Set r5.1.Will.Delay r5.1.Will.Message.Topic r5.1.Will.Message.Payload r5.1.Will.Message.Level r5.1.Will.Message.Retain r5.1.Will.Message.Priority r5.1.Will.Message.Expires r5.1.Will.Message.From r5.1.Will.Message.Seq (List.map aF.enc w3013) (List.map aG.enc r5.1.Subs) (List.map aA.enc r5.1.Queue) (List.map aB.enc r5.1.Out.Items) (List.map eI r5.1.Out.Pool.Used) (List.map eI r5.1.In.IDs) (List.map aD.enc r5.1.Will.Message.Props)))) := by kernel_rfl
theorem axh (x1 : List Str) (x2 x3 : List Int) (x11 : Int) (b0 : aF) (b1 : aC) : cY SE (C3 Γ γ4 γ6 γ7 γ8 γ5 γ9 γ10 γ11 γ12 γ13) Λ2 J 3 0 [1, 1, 1, 1, 0, 1, 0] (bC [(1, .d (.sl [.str] (List.map bU x1))), (2, .d (.sl [.int .u8] (List.map (encI .u8) x2))), (3, .d (.sl [.int .u8] (List.map (encI .u8) x3))), (9, .ptr 1000000000 0), (10, .ptr 1000000001 0), (11, .d (.int .i64 x11))] [⟨32, (List.map AV.d (aF.enc b0))⟩, ⟨42, (List.map AV.d (aC.enc b1))⟩] [] [] []) =
 cond (decide (x11 < (lM bU x1 : Int))) (
 cond (iB x11 (lM bU x1 : Int)) (
  cond (decide ((List.length (bI (cE bU x1 x11 0)) : Int) > 256)) (
  (rB true)) (
  cond (decide (x11 < (lM (encI .u8) x2 : Int))) (
  cond (iB x11 (lM (encI .u8) x2 : Int)) (
   amT (C3 Γ γ4 γ6 γ7 γ8 γ5 γ9 γ10 γ11 γ12 γ13) Λ2 J (List.map bU x1) (List.map (encI .u8) x2) (List.map (encI .u8) x3) x11 ((w6 (Int.tmod (aS (cE (encI .u8) x2 x11 0)) 3))) (aF.enc b0) (aC.enc b1)) none) (
  amT (C3 Γ γ4 γ6 γ7 γ8 γ5 γ9 γ10 γ11 γ12 γ13) Λ2 J (List.map bU x1) (List.map (encI .u8) x2) (List.map (encI .u8) x3) x11 1 (aF.enc b0) (aC.enc b1)))) none) (
 γ6 [aC.av b1, .d (.int .i64 0)] [] [] fun r1 =>
 γ7 [aC.av r1.1, .d (.int .i64 1)] [] [] fun r2 =>
 γ8 [aC.av r2] [] [] fun r3 =>
 cond (r3.2 != 0) (
 (rB false)) (
 cond (decide ((lM aF.enc r1.2 : Int) > (lM bU x1 : Int))) (
 (rB false)) (
 aqN (C3 Γ γ4 γ6 γ7 γ8 γ5 γ9 γ10 γ11 γ12 γ13) Λ2 J (List.map (encI .u8) x3) (aF.enc b0) (aC.enc r2) (List.map aF.enc r1.2) (List.map (encI .u8) r3.1)))) := by kernel_rfl
theorem awY (x0 : Int) (x1 : List Str) (x2 x3 : List Int) : cY SE (C3 Γ γ4 γ6 γ7 γ8 γ5 γ9 γ10 γ11 γ12 γ13) Λ2 J 3 0 [1, 1, 0] (bC [(0, .d (.int .i64 x0)), (1, .d (.sl [.str] (List.map bU x1))), (2, .d (.sl [.int .u8] (List.map (encI .u8) x2))), (3, .d (.sl [.int .u8] (List.map (encI .u8) x3)))] [] [] [] []) =
 γ4 [.agg [.d (.int .i64 1), .d (.int .i64 0), .d (.bool false), .d (.str []), .d (.str []), .d (.int .i64 0), .d (.bool false), .d (.int .i64 0), .d (.int .i64 0), .d (.str []), .d (.int .i64 0), .d (.sl aD.ks (List.map aD.enc [])), .d (.str ([99] : Str)), .d (.str []), .d (.bool false), .d (.int .i64 0), .d (.int .i64 100), .d (.int .i64 x0), .d (.bool false), .d (.int .i64 0), .d (.str []), .d (.str []), .d (.int .i64 0), .d (.bool false), .d (.int .i64 0), .d (.int .i64 0), .d (.str []), .d (.int .i64 0), .d (.sl aD.ks (List.map aD.enc [])), .d (.bool false), .d (.int .i64 0), .d (.sl aG.ks (List.map aG.enc [])), .d (.sl [.str] (List.map bU [])), .d (.sl [.int .i64] (List.map eI []))], .d (.int .i64 1)] [] [] fun r0 =>
 apW (C3 Γ γ4 γ6 γ7 γ8 γ5 γ9 γ10 γ11 γ12 γ13) Λ2 J (List.map bU x1) (List.map (encI .u8) x2) (List.map (encI .u8) x3) 0 [D.int .i64 1, D.int .i64 0, D.bool false, D.str [], D.str [], D.int .i64 0, D.bool false, D.int .i64 0, D.int .i64 0, D.str [], D.int .i64 0, D.sl aD.ks (List.map aD.enc []), D.str ([99] : Str), D.str [], D.bool false, D.int .i64 0, D.int .i64 100, D.int .i64 x0, D.bool false, D.int .i64 0, D.str [], D.str [], D.int .i64 0, D.bool false, D.int .i64 0, D.int .i64 0, D.str [], D.int .i64 0, D.sl aD.ks (List.map aD.enc []), D.bool false, D.int .i64 0, D.sl aG.ks (List.map aG.enc []), D.sl [.str] (List.map bU []), D.sl [.int .i64] (List.map eI [])] (aC.enc r0) := by kernel_rfl
end
abbrev X3 : aP := C3 gG (cT 4 cW) (cT 6 cQ) (cT 7 dB) (cT 8 kB) (cT 5 jN) (cT 9 gU) (cT 10 cQ) (cT 11 aI) (cT 12 aJ) (cT 13 kF)
theorem Cr3 : X3 = aR gG := by unfold X3 C3; repeat rw [bB fun _ h => h]
abbrev auE := amT X3 (cU SE gG (SE.hl 3) (SE.hr 3)) (J0 SE X3)
abbrev avo := ajQ X3 (cU SE gG (SE.hl 3) (SE.hr 3)) (J0 SE X3)
abbrev aqG := ajN X3 (cU SE gG (SE.hl 3) (SE.hr 3)) (J0 SE X3)
abbrev auV := am3 X3 (cU SE gG (SE.hl 3) (SE.hr 3)) (J0 SE X3)
abbrev avQ := aqV X3 (cU SE gG (SE.hl 3) (SE.hr 3)) (J0 SE X3)
abbrev avP := aqN X3 (cU SE gG (SE.hl 3) (SE.hr 3)) (J0 SE X3)
abbrev asH := apW X3 (cU SE gG (SE.hl 3) (SE.hr 3)) (J0 SE X3)
abbrev axP := as0 X3 (cU SE gG (SE.hl 3) (SE.hr 3)) (J0 SE X3)
theorem sI (k6 : (List Str) → (List Int) → (List Int) → Int → aF → aC → Option (Bool)) (hk6 : ∀ (x1 : List Str) (x2 x3 : List Int) (x11 : Int) (b0 : aF) (b1 : aC), Le (Option.map aI (k6 x1 x2 x3 x11 b0 b1)) (asH (List.map bU x1) (List.map (encI .u8) x2) (List.map (encI .u8) x3) x11 (aF.enc b0) (aC.enc b1))) (x1 : List Str) (x2 x3 : List Int) (x11 x12 : Int) (b0 : aF) (b1 : aC) : Le (Option.map aI (iD k6 x1 x2 x3 x11 x12 b0 b1)) (auE (List.map bU x1) (List.map (encI .u8) x2) (List.map (encI .u8) x3) x11 x12 (aF.enc b0) (aC.enc b1)) := by
 refine Le.trans ?_ (le_of_eq ((bF Cr3).trans (avG ..)).symm)
 unfold iD
 refine lG (by simp only [EN]) ?_
 refine lQ eX afC (by (try simp only [EN]); exact agl b1 ((aA.mk ([116] : Str) (List.getD x1 (Int.toNat x11) default) x12 false 0 0 [] 0 [])) 100 2) fun r4 _ => ?_
 exact hk6 x1 x2 x3 (w6 (x11 + 1)) b0 r4.1
theorem nR (k27 : (List Int) → Int → aC → aC → Option (Bool)) (hk27 : ∀ (x3 : List Int) (x19 : Int) (b0 b1 : aC), Le (Option.map aI (k27 x3 x19 b0 b1)) (aqG (List.map (encI .u8) x3) x19 (aC.enc b0) (aC.enc b1))) (x3 : List Int) (x19 : Int) (b0 b1 : aC) (b2 : aF) : Le (Option.map aI (eV k27 x3 x19 b0 b1 b2)) (avo (List.map (encI .u8) x3) x19 (aC.enc b0) (aC.enc b1) (aF.enc b2)) := by
 refine Le.trans ?_ (le_of_eq ((bF Cr3).trans (awh ..)).symm)
 unfold eV
 refine lQ eX yM (zM _ _ _) fun r10 _ => ?_
 refine lQ eX yM (zM _ _ _) fun r11 _ => ?_
 refine lC ?_ ?_
 ·exact aK rfl
 ·refine lQ eX bE (sX _ _) fun r12 _ => ?_
  refine lC ?_ ?_
  ·exact aK rfl
  ·refine lC ?_ ?_
   ·exact hk27 x3 (w6 (x19 + 1)) r10.1 r11.1
   ·exact hk27 x3 (w6 (x19 + 1)) b0 b1
theorem zR : ∀ (fu : Nat) (x3 : List Int) (x19 : Int) (b0 b1 : aC), Le (Option.map aI (c8 fu x3 x19 b0 b1)) (aqG (List.map (encI .u8) x3) x19 (aC.enc b0) (aC.enc b1)) := by
 intro fu
 induction fu with
 | zero => intros; exact le_none
 | succ fu ih =>
  intro x3 x19 b0 b1
  refine Le.trans ?_ (le_of_eq ((bF Cr3).trans (ave ..)).symm)
  unfold c8
  refine lD (by simp only [EN]) ?_ ?_
  ·refine lG (by simp only [EN]) ?_
   refine lG (by simp only [EN]) ?_
   refine lD (by simp only [EN]) ?_ ?_
   ·(try simp only [EN]); exact nR _ (ih) x3 x19 b0 b1 ((aF.mk 5 (w6 ((w6 (Int.tmod (IntKind.wrap .u8 (Int.tdiv (List.getD x3 (Int.toNat x19) default) 3)) 4)) + 1)) false (aA.mk [] [] 0 false 0 0 [] 0 []) [] [] false 0 0 0 (aV.mk false 0 (aA.mk [] [] 0 false 0 0 [] 0 [])) false 0 [] [] []))
   ·refine lD (by simp only [EN]) ?_ ?_
    ·(try simp only [EN]); exact nR _ (ih) x3 x19 b0 b1 ((aF.mk 7 (w6 ((w6 (Int.tmod (IntKind.wrap .u8 (Int.tdiv (List.getD x3 (Int.toNat x19) default) 3)) 4)) + 1)) false (aA.mk [] [] 0 false 0 0 [] 0 []) [] [] false 0 0 0 (aV.mk false 0 (aA.mk [] [] 0 false 0 0 [] 0 [])) false 0 [] [] []))
    ·(try simp only [EN]); exact nR _ (ih) x3 x19 b0 b1 ((aF.mk 4 (w6 ((w6 (Int.tmod (IntKind.wrap .u8 (Int.tdiv (List.getD x3 (Int.toNat x19) default) 3)) 4)) + 1)) false (aA.mk [] [] 0 false 0 0 [] 0 []) [] [] false 0 0 0 (aV.mk false 0 (aA.mk [] [] 0 false 0 0 [] 0 [])) false 0 [] [] []))
  ·refine lC ?_ ?_
   ·refine lD (by simp only [EN]) ?_ ?_
    ·exact aK (by first | rfl | simp only [EN, aI] <;> rfl)
    ·exact aK rfl
   ·exact aK rfl
theorem sH (x3 : List Int) (b0 b1 : aC) : Le (Option.map aI (jS x3 b0 b1)) (auV (List.map (encI .u8) x3) (aC.enc b0) (aC.enc b1)) := by
 refine Le.trans ?_ (le_of_eq ((bF Cr3).trans (awd ..)).symm)
 unfold jS
 exact zR fuel x3 0 b0 b1
theorem aag (x3 : List Int) (b0 : aF) (b1 : aC) (b2_0 b2_1 : Str) (b2_2 : Bool) (b2_3 b2_4 b2_5 b2_6 b2_9 b2_12 : Int) (b2_14 : Bool) (b2_15 : Int) (b2_16 b2_17 : Str) (b2_18 : Int) (b2_19 : Bool) (b2_20 b2_21 : Int) (b2_22 : Str) (b2_23 : Int) (w3013 : List aF) (w50207 : List aG) (w50208 : List aA) (w50210 : List aB) (w50211 w50213 : List Int) (w50224 : List aD) : Le (Option.map aI (mF x3 b0 b1 b2_0 b2_1 b2_2 b2_3 b2_4 b2_5 b2_6 b2_9 b2_12 b2_14 b2_15 b2_16 b2_17 b2_18 b2_19 b2_20 b2_21 b2_22 b2_23 w3013 w50207 w50208 w50210 w50211 w50213 w50224)) (avQ (List.map (encI .u8) x3) (aF.enc b0) (aC.enc b1) b2_0 b2_1 b2_2 b2_3 b2_4 b2_5 b2_6 b2_9 b2_12 b2_14 b2_15 b2_16 b2_17 b2_18 b2_19 b2_20 b2_21 b2_22 b2_23 (List.map aF.enc w3013) (List.map aG.enc w50207) (List.map aA.enc w50208) (List.map aB.enc w50210) (List.map eI w50211) (List.map eI w50213) (List.map aD.enc w50224)) := by
 refine Le.trans ?_ (le_of_eq ((bF Cr3).trans (avv ..)).symm)
 unfold mF
 refine lQ eX lW (zL _ _ _ _) fun r6 _ => ?_
 refine lQ eX lW (zL _ _ _ _) fun r7 _ => ?_
 refine lQ eX bE (sX _ _) fun r8 _ => ?_
 refine lC ?_ ?_
 ·exact aK rfl
 ·refine lC ?_ ?_
  ·exact aK rfl
  ·refine lD (by simp only [EN]) ?_ ?_
   ·refine lQ eX bK (uY _) fun r9 _ => ?_
    refine lC ?_ ?_
    ·exact aK rfl
    ·exact sH x3 r6.1 r7.1
   ·exact sH x3 r6.1 r7.1
theorem zS (x3 : List Int) (b0 : aF) (b1 : aC) (w3013 : List aF) (w3014 : List Int) : Le (Option.map aI (jW x3 b0 b1 w3013 w3014)) (avP (List.map (encI .u8) x3) (aF.enc b0) (aC.enc b1) (List.map aF.enc w3013) (List.map (encI .u8) w3014)) := by
 refine Le.trans ?_ (le_of_eq ((bF Cr3).trans (avw ..)).symm)
 unfold jW
 refine lQ eX aez (afy _) fun r5 _ => ?_
 refine lC ?_ ?_
 ·exact aK rfl
 ·refine lC ?_ ?_
  ·exact aK rfl
  ·refine lC ?_ ?_
   ·exact aK rfl
   ·exact aag x3 b0 b1 r5.1.Client r5.1.User r5.1.Online r5.1.Conn r5.1.Expiry r5.1.Until r5.1.Dropped r5.1.Out.Limit r5.1.Out.Pool.Last r5.1.Will.Set r5.1.Will.Delay r5.1.Will.Message.Topic r5.1.Will.Message.Payload r5.1.Will.Message.Level r5.1.Will.Message.Retain r5.1.Will.Message.Priority r5.1.Will.Message.Expires r5.1.Will.Message.From r5.1.Will.Message.Seq w3013 r5.1.Subs r5.1.Queue r5.1.Out.Items r5.1.Out.Pool.Used r5.1.In.IDs r5.1.Will.Message.Props
theorem aa9 : ∀ (fu : Nat) (x1 : List Str) (x2 x3 : List Int) (x11 : Int) (b0 : aF) (b1 : aC), Le (Option.map aI (eO fu x1 x2 x3 x11 b0 b1)) (asH (List.map bU x1) (List.map (encI .u8) x2) (List.map (encI .u8) x3) x11 (aF.enc b0) (aC.enc b1)) := by
 intro fu
 induction fu with
 | zero => intros; exact le_none
 | succ fu ih =>
  intro x1 x2 x3 x11 b0 b1
  refine Le.trans ?_ (le_of_eq ((bF Cr3).trans (axh ..)).symm)
  unfold eO
  refine lD (by simp only [EN]) ?_ ?_
  ·refine lG (by simp only [EN]) ?_
   refine lD (by simp only [EN]) ?_ ?_
   ·exact aK rfl
   ·refine lD (by simp only [EN]) ?_ ?_
    ·refine lG (by simp only [EN]) ?_
     (try simp only [EN]); exact sI _ (ih) x1 x2 x3 x11 (w6 (Int.tmod (List.getD x2 (Int.toNat x11) default) 3)) b0 b1
    ·exact sI _ (ih) x1 x2 x3 x11 1 b0 b1
  ·refine lQ eX lW (ahc _ _) fun r1 _ => ?_
   refine lQ eX lU (adU _ _) fun r2 _ => ?_
   refine lQ eX aeR (afF _) fun r3 _ => ?_
   refine lC ?_ ?_
   ·exact aK rfl
   ·refine lD (by simp only [EN]) ?_ ?_
    ·exact aK rfl
    ·exact zS x3 b0 r2 r1.2 r3.1
theorem aaD (x0 : Int) (x1 : List Str) (x2 x3 : List Int) : Le (Option.map aI (mT x0 x1 x2 x3)) (axP x0 (List.map bU x1) (List.map (encI .u8) x2) (List.map (encI .u8) x3)) := by
 refine Le.trans ?_ (le_of_eq ((bF Cr3).trans (awY ..)).symm)
 unfold mT
 refine lQ eX kV (by (try simp only [EN]); exact aiy ((aF.mk 1 0 false (aA.mk [] [] 0 false 0 0 [] 0 []) ([99] : Str) [] false 0 100 x0 (aV.mk false 0 (aA.mk [] [] 0 false 0 0 [] 0 [])) false 0 [] [] [])) 1) fun r0 _ => ?_
 (try simp only [EN]); exact aa9 fuel x1 x2 x3 0 ((aF.mk 1 0 false (aA.mk [] [] 0 false 0 0 [] 0 []) ([99] : Str) [] false 0 100 x0 (aV.mk false 0 (aA.mk [] [] 0 false 0 0 [] 0 [])) false 0 [] [] [])) r0
theorem acr (p0 : Int) (p1 : List Str) (p2 p3 : List Int) : Le (Option.map aI (pA p0 p1 p2 p3)) (bA SE 3 [.d (.int .i64 p0), .d (.sl [.str] (List.map bU p1)), .d (.sl [.int .u8] (List.map (encI .u8) p2)), .d (.sl [.int .u8] (List.map (encI .u8) p3))] [] []) := by
 refine aX Cr3 rfl ?_
 refine Le.trans ?_ (le_of_eq (T3 ..).symm)
 unfold pA
 refine lC ?_ ?_
 ·exact aK rfl
 ·refine lC ?_ ?_
  ·exact aK rfl
  ·refine lD (by simp only [EN]) ?_ ?_
   ·exact aK rfl
   ·refine lD (by simp only [EN]) ?_ ?_
    ·exact aK rfl
    ·exact aaD p0 p1 p2 p3
end Te
end PX
