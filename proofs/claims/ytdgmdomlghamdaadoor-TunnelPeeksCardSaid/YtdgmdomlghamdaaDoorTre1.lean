import Derived.Test.YtdgmdomlghamdaaDoorTre0
set_option linter.unusedVariables false
set_option linter.unusedSimpArgs false
set_option maxRecDepth 100000
noncomputable section
namespace PX
open Go
open Md
namespace Te
def afL (C : aS) (Λ2 J : Lam) (a0 : List (List D)) (a1 a2 : Int) (a3 : List (List D)) : Res := lab SE C Λ2 J 24 0 [1, 1, 1, 0, 1, 0, 1, 1, 1, 1, 1, 1, 1, 1, 1, 1, 1, 0, 1, 1, 0] (bU [(5, .row 3005), (79, .d (.sl [.int .i64] a0)), (80, dIq a1), (81, dIq a2)] [] [] [] [(3005, ⟨[.int .u8], 5, 1, a3⟩)])
section
variable (Γ : Fun) (γ33 : Gm (Int)) (γ17 γ34 : Gm ((List Int))) (γ35 : Gm (Int)) (γ36 γ37 γ38 : Gm ((List Int))) (Λ2 J : Lam)
def C24 : aS := bM (bM (bM (bM (bM (bM (bM (aQ Γ) 33 aI γ33) 17 aP γ17) 34 aP γ34) 35 aI γ35) 36 aP γ36) 37 aP γ37) 38 aP γ38
theorem T24 (p0 : aA) : bS SE (C24 Γ γ33 γ17 γ34 γ35 γ36 γ37 γ38) Λ2 J 24 [aA.av p0] [] [] =
 γ33 [aA.av p0] [] [] fun r0 =>
 cond (r0 != 0) (
 (some (eD ([], r0)))) (
 γ17 [.d (.sl [.int .u8] (List.map (aJ .u8) [])), dIq p0.Kind] [] [] fun r1 =>
 cond (p0.Kind == 1) (
 γ34 [.d (.sl [.int .u8] (List.map (aJ .u8) r1)), aA.av p0] [] [] fun r2 =>
 (some (eD (r2, 0)))) (
 cond (p0.Kind == 2) (
 γ35 [.d (.sl [.bool] (List.map hO [p0.Present]))] [] [] fun r3 =>
 γ17 [.d (.sl [.int .u8] (List.map (aJ .u8) r1)), dIq r3] [] [] fun r4 =>
 γ17 [.d (.sl [.int .u8] (List.map (aJ .u8) r4)), dIq p0.Code] [] [] fun r5 =>
 (some (eD (r5, 0)))) (
 cond (p0.Kind == 3) (
 γ17 [.d (.sl [.int .u8] (List.map (aJ .u8) r1)), dIq p0.ID] [] [] fun r6 =>
 γ35 [.d (.sl [.bool] (List.map hO [p0.Dup]))] [] [] fun r7 =>
 γ17 [.d (.sl [.int .u8] (List.map (aJ .u8) r6)), dIq r7] [] [] fun r8 =>
 γ36 [.d (.sl [.int .u8] (List.map (aJ .u8) r8)), aE.av p0.Message] [] [] fun r9 =>
 (some (eD (r9, 0)))) (
 cond (p0.Kind == 4) (
 γ17 [.d (.sl [.int .u8] (List.map (aJ .u8) r1)), dIq p0.ID] [] [] fun r10 =>
 (some (eD (r10, 0)))) (
 cond (p0.Kind == 5) (
 γ17 [.d (.sl [.int .u8] (List.map (aJ .u8) r1)), dIq p0.ID] [] [] fun r11 =>
 (some (eD (r11, 0)))) (
 cond (p0.Kind == 6) (
 γ17 [.d (.sl [.int .u8] (List.map (aJ .u8) r1)), dIq p0.ID] [] [] fun r12 =>
 (some (eD (r12, 0)))) (
 cond (p0.Kind == 7) (
 γ17 [.d (.sl [.int .u8] (List.map (aJ .u8) r1)), dIq p0.ID] [] [] fun r13 =>
 (some (eD (r13, 0)))) (
 cond (p0.Kind == 8) (
 γ17 [.d (.sl [.int .u8] (List.map (aJ .u8) r1)), dIq p0.ID] [] [] fun r14 =>
 γ37 [.d (.sl [.int .u8] (List.map (aJ .u8) r14)), .d (.sl aG.ks (List.map aG.enc p0.Subs))] [] [] fun r15 =>
 (some (eD (r15, 0)))) (
 cond (p0.Kind == 9) (
 γ17 [.d (.sl [.int .u8] (List.map (aJ .u8) r1)), dIq p0.ID] [] [] fun r16 =>
 γ17 [.d (.sl [.int .u8] (List.map (aJ .u8) r16)), dIq (lM eI p0.Codes : Int)] [] [] fun r17 =>
 afL (C24 Γ γ33 γ17 γ34 γ35 γ36 γ37 γ38) Λ2 J (List.map eI p0.Codes) (lM eI p0.Codes : Int) 0 (List.map (aJ .u8) r17)) (
 cond (p0.Kind == 11) (
 γ17 [.d (.sl [.int .u8] (List.map (aJ .u8) r1)), dIq p0.ID] [] [] fun r18 =>
 γ17 [.d (.sl [.int .u8] (List.map (aJ .u8) r18)), dIq (lM eI p0.Codes : Int)] [] [] fun r19 =>
 afL (C24 Γ γ33 γ17 γ34 γ35 γ36 γ37 γ38) Λ2 J (List.map eI p0.Codes) (lM eI p0.Codes : Int) 0 (List.map (aJ .u8) r19)) (
 cond (p0.Kind == 10) (
 γ17 [.d (.sl [.int .u8] (List.map (aJ .u8) r1)), dIq p0.ID] [] [] fun r20 =>
 γ38 [.d (.sl [.int .u8] (List.map (aJ .u8) r20)), .d (.sl [.str] (List.map bA p0.Filters))] [] [] fun r21 =>
 (some (eD (r21, 0)))) (
 cond (p0.Kind == 14) (
 γ17 [.d (.sl [.int .u8] (List.map (aJ .u8) r1)), dIq p0.Code] [] [] fun r22 =>
 (some (eD (r22, 0)))) (
 (some (eD (r1, 0)))))))))))))))) := by kernel_rfl
theorem ap6 (x79 : List Int) (x80 x81 : Int) (w3005 : List Int) : eA SE (C24 Γ γ33 γ17 γ34 γ35 γ36 γ37 γ38) Λ2 J 24 0 [1, 1, 1, 0, 1, 0, 1, 1, 1, 1, 1, 1, 1, 1, 1, 1, 1, 0, 1, 1, 0] (bU [(5, .row 3005), (79, .d (.sl [.int .i64] (List.map eI x79))), (80, dIq x80), (81, dIq x81)] [] [] [] [(3005, ⟨[.int .u8], 5, 1, (List.map (aJ .u8) w3005)⟩)]) =
 cond (decide (x81 < x80)) (
 cond (iB x81 (lM eI x79 : Int)) (
  γ17 [.d (.sl [.int .u8] (List.map (aJ .u8) w3005)), dIq (aX (cE eI x79 x81 0))] [] [] fun r23 =>
  afL (C24 Γ γ33 γ17 γ34 γ35 γ36 γ37 γ38) Λ2 J (List.map eI x79) x80 (w6 (x81 + 1)) (List.map (aJ .u8) r23)) none) (
 (some (eD (w3005, 0)))) := by kernel_rfl
end
abbrev X24 : aS := C24 gG (cT 33 aI) (cT 17 aP) (cT 34 aP) (cT 35 aI) (cT 36 aP) (cT 37 aP) (cT 38 aP)
theorem aqY : X24 = aQ gG := by unfold X24 C24; repeat rw [bK fun _ h => h]
abbrev aqW := afL X24 (dQ SE gG (SE.hl 24) (SE.hr 24)) (J0 SE X24)
theorem vT : ∀ (fu : Nat) (x79 : List Int) (x80 x81 : Int) (w3005 : List Int), Le (Option.map eD (fY fu x79 x80 x81 w3005)) (aqW (List.map eI x79) x80 x81 (List.map (aJ .u8) w3005)) := by
 intro fu
 induction fu with
 | zero => intros; exact le_none
 | succ fu ih =>
  intro x79 x80 x81 w3005
  refine Le.trans ?_ (le_of_eq ((bX aqY).trans (ap6 ..)).symm)
  unfold fY
  refine lC ?_ ?_
  ·refine lG (by simp only [EN]) ?_
   refine lQ eX aU (by (try simp only [EN]); exact bR w3005 (List.getD x79 (Int.toNat x81) default)) fun r23 _ => ?_
   exact ih x79 x80 (w6 (x81 + 1)) r23
  ·exact aF rfl
theorem ag4 (p0 : aA) : Le (Option.map eD (rS p0)) (bD SE 24 [aA.av p0] [] []) := by
 refine aY aqY rfl ?_
 refine Le.trans ?_ (le_of_eq (T24 ..).symm)
 unfold rS
 refine lQ eX aZ (uD _) fun r0 _ => ?_
 refine lC ?_ ?_
 ·exact aF rfl
 ·refine lQ eX aU (by (try simp only [EN]); exact bR [] p0.Kind) fun r1 _ => ?_
  refine lC ?_ ?_
  ·refine lQ eX aU (agG _ _) fun r2 _ => ?_
   exact aF rfl
  ·refine lC ?_ ?_
   ·refine lQ eX aZ (o6 _) fun r3 _ => ?_
    refine lQ eX aU (bR _ _) fun r4 _ => ?_
    refine lQ eX aU (bR _ _) fun r5 _ => ?_
    exact aF rfl
   ·refine lC ?_ ?_
    ·refine lQ eX aU (bR _ _) fun r6 _ => ?_
     refine lQ eX aZ (o6 _) fun r7 _ => ?_
     refine lQ eX aU (bR _ _) fun r8 _ => ?_
     refine lQ eX aU (abd _ _) fun r9 _ => ?_
     exact aF rfl
    ·refine lC ?_ ?_
     ·refine lQ eX aU (bR _ _) fun r10 _ => ?_
      exact aF rfl
     ·refine lC ?_ ?_
      ·refine lQ eX aU (bR _ _) fun r11 _ => ?_
       exact aF rfl
      ·refine lC ?_ ?_
       ·refine lQ eX aU (bR _ _) fun r12 _ => ?_
        exact aF rfl
       ·refine lC ?_ ?_
        ·refine lQ eX aU (bR _ _) fun r13 _ => ?_
         exact aF rfl
        ·refine lC ?_ ?_
         ·refine lQ eX aU (bR _ _) fun r14 _ => ?_
          refine lQ eX aU (aa7 _ _) fun r15 _ => ?_
          exact aF rfl
         ·refine lC ?_ ?_
          ·refine lQ eX aU (bR _ _) fun r16 _ => ?_
           refine lQ eX aU (by (try simp only [EN]); exact bR r16 (List.length p0.Codes : Int)) fun r17 _ => ?_
           (try simp only [EN]); exact vT fuel p0.Codes (List.length p0.Codes : Int) 0 r17
          ·refine lC ?_ ?_
           ·refine lQ eX aU (bR _ _) fun r18 _ => ?_
            refine lQ eX aU (by (try simp only [EN]); exact bR r18 (List.length p0.Codes : Int)) fun r19 _ => ?_
            (try simp only [EN]); exact vT fuel p0.Codes (List.length p0.Codes : Int) 0 r19
           ·refine lC ?_ ?_
            ·refine lQ eX aU (bR _ _) fun r20 _ => ?_
             refine lQ eX aU (afz _ _) fun r21 _ => ?_
             exact aF rfl
            ·refine lC ?_ ?_
             ·refine lQ eX aU (bR _ _) fun r22 _ => ?_
              exact aF rfl
             ·exact aF rfl
def alz (C : aS) (Λ2 J : Lam) (a0 : List (List D)) (a1 a2 : Int) (a3 : List (List D)) : Res := lab SE C Λ2 J 16 0 [1, 1, 0, 1, 0] (bU [(4, .row 3004), (9, .d (.sl aA.ks a0)), (10, dIq a1), (11, dIq a2)] [] [] [] [(3004, ⟨[.int .u8], 5, 1, a3⟩)])
section
variable (Γ : Fun) (γ24 : Gm ((List Int) × Int)) (γ17 : Gm ((List Int))) (Λ2 J : Lam)
def C16 : aS := bM (bM (aQ Γ) 24 eD γ24) 17 aP γ17
theorem T16 (p0 : List aA) : bS SE (C16 Γ γ24 γ17) Λ2 J 16 [.d (.sl aA.ks (List.map aA.enc p0))] [] [] =
 alz (C16 Γ γ24 γ17) Λ2 J (List.map aA.enc p0) (lM aA.enc p0 : Int) 0 (List.map (aJ .u8) []) := by kernel_rfl
theorem asm (x9 : List aA) (x10 x11 : Int) (w3004 : List Int) : eA SE (C16 Γ γ24 γ17) Λ2 J 16 0 [1, 1, 0, 1, 0] (bU [(4, .row 3004), (9, .d (.sl aA.ks (List.map aA.enc x9))), (10, dIq x10), (11, dIq x11)] [] [] [] [(3004, ⟨[.int .u8], 5, 1, (List.map (aJ .u8) w3004)⟩)]) =
 cond (decide (x11 < x10)) (
 cond (iB x11 (lM aA.enc x9 : Int)) (
  γ24 [.agg [dIq (aX (cE aA.enc x9 x11 0)), dIq (aX (cE aA.enc x9 x11 1)), dBq (cG (cE aA.enc x9 x11 2)), dSq (bZ (cE aA.enc x9 x11 3)), dSq (bZ (cE aA.enc x9 x11 4)), dIq (aX (cE aA.enc x9 x11 5)), dBq (cG (cE aA.enc x9 x11 6)), dIq (aX (cE aA.enc x9 x11 7)), dIq (aX (cE aA.enc x9 x11 8)), dSq (bZ (cE aA.enc x9 x11 9)), dIq (aX (cE aA.enc x9 x11 10)), .d (.sl aB.ks (dSl (cE aA.enc x9 x11 11))), dSq (bZ (cE aA.enc x9 x11 12)), dSq (bZ (cE aA.enc x9 x11 13)), dBq (cG (cE aA.enc x9 x11 14)), dIq (aX (cE aA.enc x9 x11 15)), dIq (aX (cE aA.enc x9 x11 16)), dIq (aX (cE aA.enc x9 x11 17)), dBq (cG (cE aA.enc x9 x11 18)), dIq (aX (cE aA.enc x9 x11 19)), dSq (bZ (cE aA.enc x9 x11 20)), dSq (bZ (cE aA.enc x9 x11 21)), dIq (aX (cE aA.enc x9 x11 22)), dBq (cG (cE aA.enc x9 x11 23)), dIq (aX (cE aA.enc x9 x11 24)), dIq (aX (cE aA.enc x9 x11 25)), dSq (bZ (cE aA.enc x9 x11 26)), dIq (aX (cE aA.enc x9 x11 27)), .d (.sl aB.ks (dSl (cE aA.enc x9 x11 28))), dBq (cG (cE aA.enc x9 x11 29)), dIq (aX (cE aA.enc x9 x11 30)), .d (.sl aG.ks (dSl (cE aA.enc x9 x11 31))), .d (.sl [.str] (dSl (cE aA.enc x9 x11 32))), .d (.sl [.int .i64] (dSl (cE aA.enc x9 x11 33)))]] [] [] fun r0 =>
  cond (r0.2 != 0) (
  (some (eD ([], r0.2)))) (
  γ17 [.d (.sl [.int .u8] (List.map (aJ .u8) w3004)), dIq (lM (aJ .u8) r0.1 : Int)] [] [] fun r1 =>
  cond (decide ((lM (aJ .u8) r1 + lM (aJ .u8) r0.1) * 1 ≤ 140737488355328)) (
  alz (C16 Γ γ24 γ17) Λ2 J (List.map aA.enc x9) x10 (w6 (x11 + 1)) (((List.map (aJ .u8) r1) ++ (List.map (aJ .u8) r0.1)))) none)) none) (
 (some (eD (w3004, 0)))) := by kernel_rfl
end
abbrev X16 : aS := C16 gG (cT 24 eD) (cT 17 aP)
theorem aqB : X16 = aQ gG := by unfold X16 C16; repeat rw [bK fun _ h => h]
abbrev asV := alz X16 (dQ SE gG (SE.hl 16) (SE.hr 16)) (J0 SE X16)
theorem abE : ∀ (fu : Nat) (x9 : List aA) (x10 x11 : Int) (w3004 : List Int), Le (Option.map eD (gV fu x9 x10 x11 w3004)) (asV (List.map aA.enc x9) x10 x11 (List.map (aJ .u8) w3004)) := by
 intro fu
 induction fu with
 | zero => intros; exact le_none
 | succ fu ih =>
  intro x9 x10 x11 w3004
  refine Le.trans ?_ (le_of_eq ((bX aqB).trans (asm ..)).symm)
  unfold gV
  refine lC ?_ ?_
  ·refine lG (by simp only [EN]) ?_
   refine lQ eX zW (by (try simp only [EN]); exact ag4 (List.getD x9 (Int.toNat x11) default)) fun r0 _ => ?_
   refine lC ?_ ?_
   ·exact aF rfl
   ·refine lQ eX aU (by (try simp only [EN]); exact bR w3004 (List.length r0.1 : Int)) fun r1 _ => ?_
    refine lG (by simp only [EN]) ?_
    (try simp only [EN]); exact ih x9 x10 (w6 (x11 + 1)) (r1 ++ r0.1)
  ·exact aF rfl
theorem aeq (p0 : List aA) : Le (Option.map eD (nV p0)) (bD SE 16 [.d (.sl aA.ks (List.map aA.enc p0))] [] []) := by
 refine aY aqB rfl ?_
 refine Le.trans ?_ (le_of_eq (T16 ..).symm)
 unfold nV
 (try simp only [EN]); exact abE fuel p0 (List.length p0 : Int) 0 []
def alx (C : aS) (Λ2 J : Lam) (a0 : Int) (a1 : List (List D)) (a2 a3 : Int) : Res := lab SE C Λ2 J 27 0 [1, 1, 0, 1, 0] (bU [(3, .d (.int .u32 a0)), (6, .d (.sl [.int .u8] a1)), (7, dIq a2), (8, dIq a3)] [] [] [] [])
section
variable (Γ : Fun)  (Λ2 J : Lam)
def C27 : aS := aQ Γ
theorem T27 (p0 : List Int) : bS SE (C27 Γ) Λ2 J 27 [.d (.sl [.int .u8] (List.map (aJ .u8) p0))] [] [] =
 alx (C27 Γ) Λ2 J 2166136261 (List.map (aJ .u8) p0) (lM (aJ .u8) p0 : Int) 0 := by kernel_rfl
theorem asG (x3 : Int) (x6 : List Int) (x7 x8 : Int) : eA SE (C27 Γ) Λ2 J 27 0 [1, 1, 0, 1, 0] (bU [(3, .d (.int .u32 x3)), (6, .d (.sl [.int .u8] (List.map (aJ .u8) x6))), (7, dIq x7), (8, dIq x8)] [] [] [] []) =
 cond (decide (x8 < x7)) (
 cond (iB x8 (lM (aJ .u8) x6 : Int)) (
  alx (C27 Γ) Λ2 J ((IntKind.wrap .u32 ((bP .xor .u32 x3 (IntKind.wrap .u32 (aX (cE (aJ .u8) x6 x8 0)))) * 16777619))) (List.map (aJ .u8) x6) x7 (w6 (x8 + 1))) none) (
 (rI (w6 x3))) := by kernel_rfl
end
abbrev X27 : aS := C27 gG
theorem aqH : X27 = aQ gG := rfl
abbrev arT := alx X27 (dQ SE gG (SE.hl 27) (SE.hr 27)) (J0 SE X27)
theorem af6 : ∀ (fu : Nat) (x3 : Int) (x6 : List Int) (x7 x8 : Int), Le (Option.map aI (mC fu x3 x6 x7 x8)) (arT x3 (List.map (aJ .u8) x6) x7 x8) := by
 intro fu
 induction fu with
 | zero => intros; exact le_none
 | succ fu ih =>
  intro x3 x6 x7 x8
  refine Le.trans ?_ (le_of_eq ((bX aqH).trans (asG ..)).symm)
  unfold mC
  refine lC ?_ ?_
  ·refine lG (by simp only [EN]) ?_
   (try simp only [EN]); exact ih (IntKind.wrap .u32 ((bP .xor .u32 x3 (IntKind.wrap .u32 (List.getD x6 (Int.toNat x8) default))) * 16777619)) x6 x7 (w6 (x8 + 1))
  ·exact aF rfl
theorem acT (p0 : List Int) : Le (Option.map aI (tD p0)) (bD SE 27 [.d (.sl [.int .u8] (List.map (aJ .u8) p0))] [] []) := by
 refine aY aqH rfl ?_
 refine Le.trans ?_ (le_of_eq (T27 ..).symm)
 unfold tD
 (try simp only [EN]); exact af6 fuel 2166136261 p0 (List.length p0 : Int) 0
section
variable (Γ : Fun) (γ27 : Gm (Int)) (γ17 : Gm ((List Int))) (Λ2 J : Lam)
def C18 : aS := bM (bM (aQ Γ) 27 aI γ27) 17 aP γ17
theorem T18 (p0 : List Int) : bS SE (C18 Γ γ27 γ17) Λ2 J 18 [.d (.sl [.int .u8] (List.map (aJ .u8) p0))] [] [] =
 cond (decide ((lM (aJ .u8) p0 : Int) > 65536)) (
 (some (aP []))) (
 γ27 [.d (.sl [.int .u8] (List.map (aJ .u8) p0))] [] [] fun r0 =>
 γ17 [.d (.sl [.int .u8] (List.map (aJ .u8) [])), dIq (lM (aJ .u8) p0 : Int)] [] [] fun r1 =>
 cond (decide ((lM (aJ .u8) r1 + lM (aJ .u8) [(IntKind.wrap .u8 (shr .i64 r0 24)), (IntKind.wrap .u8 (shr .i64 r0 16)), (IntKind.wrap .u8 (shr .i64 r0 8)), (IntKind.wrap .u8 r0)]) * 1 ≤ 140737488355328)) (
 cond (decide ((List.length ((List.map (aJ .u8) r1) ++ (List.map (aJ .u8) [(IntKind.wrap .u8 (shr .i64 r0 24)), (IntKind.wrap .u8 (shr .i64 r0 16)), (IntKind.wrap .u8 (shr .i64 r0 8)), (IntKind.wrap .u8 r0)])) + lM (aJ .u8) p0) * 1 ≤ 140737488355328)) (
  (some (.ret [.row 0] [] [⟨[.int .u8], 5, 1, (((List.map (aJ .u8) r1) ++ (List.map (aJ .u8) [(IntKind.wrap .u8 (shr .i64 r0 24)), (IntKind.wrap .u8 (shr .i64 r0 16)), (IntKind.wrap .u8 (shr .i64 r0 8)), (IntKind.wrap .u8 r0)])) ++ (List.map (aJ .u8) p0))⟩]))) none) none) := by kernel_rfl
end
abbrev X18 : aS := C18 gG (cT 27 aI) (cT 17 aP)
theorem atv : X18 = aQ gG := by unfold X18 C18; repeat rw [bK fun _ h => h]
theorem air (p0 : List Int) : Le (Option.map aP (tV p0)) (bD SE 18 [.d (.sl [.int .u8] (List.map (aJ .u8) p0))] [] []) := by
 refine aY atv rfl ?_
 refine Le.trans ?_ (le_of_eq (T18 ..).symm)
 unfold tV
 refine lD (by simp only [EN]) ?_ ?_
 ·exact aF rfl
 ·refine lQ eX aZ (acT _) fun r0 _ => ?_
  refine lQ eX aU (by (try simp only [EN]); exact bR [] (List.length p0 : Int)) fun r1 _ => ?_
  refine lG (by simp only [EN]) ?_
  refine lG (by simp only [EN]) ?_
  exact aF (by first | rfl | simp only [EN, aP] <;> rfl)
def ao7 (C : aS) (Λ2 J : Lam) (a0 : List (List D)) (a1 a2 : List D) : Res := lab SE C Λ2 J 12 0 [1, 1, 1, 0] (bU [(1, .d (.sl aA.ks a0)), (2, .ptr 1000000000 0), (5, .ptr 1000000001 0)] [⟨23, (List.map AV.d a1)⟩, ⟨23, (List.map AV.d a2)⟩] [] [] [])
section
variable (Γ : Fun) (γ16 : Gm ((List Int) × Int)) (γ17 γ18 : Gm ((List Int))) (Λ2 J : Lam)
def C12 : aS := bM (bM (bM (aQ Γ) 16 eD γ16) 17 aP γ17) 18 aP γ18
theorem T12 (p0 : aL) (p1 : List aA) : bS SE (C12 Γ γ16 γ17 γ18) Λ2 J 12 [aL.av p0, .d (.sl aA.ks (List.map aA.enc p1))] [] [] =
 cond p0.Broken (
 (some (iQ ([], p0, 21)))) (
 cond (decide (p0.Conn < 0)) (
 (some (iQ ([], p0, 1)))) (
 cond (decide (p0.Conn > 1099511627776)) (
 (some (iQ ([], p0, 1)))) (
 cond (decide (p0.Sent < 0)) (
 (some (iQ ([], p0, 1)))) (
 cond (decide (p0.Sent ≥ 1099511627776)) (
 (some (iQ ([], p0, 1)))) (
 ao7 (C12 Γ γ16 γ17 γ18) Λ2 J (List.map aA.enc p1) (aL.enc p0) (aL.enc (aL.mk 0 0 0 false))))))) := by kernel_rfl
theorem arD (x1 : List aA) (b0 b1 : aL) : eA SE (C12 Γ γ16 γ17 γ18) Λ2 J 12 0 [1, 1, 1, 0] (bU [(1, .d (.sl aA.ks (List.map aA.enc x1))), (2, .ptr 1000000000 0), (5, .ptr 1000000001 0)] [⟨23, (List.map AV.d (aL.enc b0))⟩, ⟨23, (List.map AV.d (aL.enc b1))⟩] [] [] []) =
 γ16 [.d (.sl aA.ks (List.map aA.enc x1))] [] [] fun r0 =>
 cond (r0.2 != 0) (
 (some (iQ ([], b0, r0.2)))) (
 γ17 [.d (.sl [.int .u8] (List.map (aJ .u8) [])), dIq b0.Conn] [] [] fun r1 =>
 γ17 [.d (.sl [.int .u8] (List.map (aJ .u8) r1)), dIq (w6 (b0.Sent + 1))] [] [] fun r2 =>
 cond (decide ((lM (aJ .u8) r2 + lM (aJ .u8) r0.1) * 1 ≤ 140737488355328)) (
 cond (decide ((List.length ((List.map (aJ .u8) r2) ++ (List.map (aJ .u8) r0.1)) : Int) > 65536)) (
  (some (iQ ([], b0, 5)))) (
 γ18 [.d (.sl [.int .u8] ((List.map (aJ .u8) r2) ++ (List.map (aJ .u8) r0.1)))] [] [] fun r3 =>
 (some (iQ (r3, (aL.mk b0.Conn (w6 (b0.Sent + 1)) b0.Got b0.Broken), 0))))) none) := by kernel_rfl
end
abbrev X12 : aS := C12 gG (cT 16 eD) (cT 17 aP) (cT 18 aP)
theorem aqq : X12 = aQ gG := by unfold X12 C12; repeat rw [bK fun _ h => h]
abbrev ass := ao7 X12 (dQ SE gG (SE.hl 12) (SE.hr 12)) (J0 SE X12)
theorem aeA (x1 : List aA) (b0 b1 : aL) : Le (Option.map iQ (rK x1 b0 b1)) (ass (List.map aA.enc x1) (aL.enc b0) (aL.enc b1)) := by
 refine Le.trans ?_ (le_of_eq ((bX aqq).trans (arD ..)).symm)
 unfold rK
 refine lQ eX zW (aeq _) fun r0 _ => ?_
 refine lC ?_ ?_
 ·exact aF rfl
 ·refine lQ eX aU (by (try simp only [EN]); exact bR [] b0.Conn) fun r1 _ => ?_
  refine lQ eX aU (bR _ _) fun r2 _ => ?_
  refine lG (by simp only [EN]) ?_
  refine lD (by simp only [EN]) ?_ ?_
  ·exact aF rfl
  ·refine lQ eX aU (by (try simp only [EN]); exact air (r2 ++ r0.1)) fun r3 _ => ?_
   exact aF rfl
theorem ahj (p0 : aL) (p1 : List aA) : Le (Option.map iQ (rR p0 p1)) (bD SE 12 [aL.av p0, .d (.sl aA.ks (List.map aA.enc p1))] [] []) := by
 refine aY aqq rfl ?_
 refine Le.trans ?_ (le_of_eq (T12 ..).symm)
 unfold rR
 refine lC ?_ ?_
 ·exact aF rfl
 ·refine lC ?_ ?_
  ·exact aF rfl
  ·refine lC ?_ ?_
   ·exact aF rfl
   ·refine lC ?_ ?_
    ·exact aF rfl
    ·refine lC ?_ ?_
     ·exact aF rfl
     ·exact aeA p1 p0 (aL.mk 0 0 0 false)
section
variable (Γ : Fun)  (Λ2 J : Lam)
def C29 : aS := aQ Γ
theorem T29 (p0 : Int) : bS SE (C29 Γ) Λ2 J 29 [.d (.int .u64 p0)] [] [] =
 cond ((bP .and .u64 p0 1) == 1) (
 (rI (w6 ((w6 (0 - (w6 (shr .u64 p0 1)))) - 1)))) (
 (rI (w6 (shr .u64 p0 1)))) := by kernel_rfl
end
abbrev X29 : aS := C29 gG
theorem att : X29 = aQ gG := rfl
theorem ahs (p0 : Int) : Le (Option.map aI (hI p0)) (bD SE 29 [.d (.int .u64 p0)] [] []) := by
 refine aY att rfl ?_
 refine Le.trans ?_ (le_of_eq (T29 ..).symm)
 unfold hI
 refine lC ?_ ?_
 ·exact aF rfl
 ·exact aF rfl
def ads (C : aS) (Λ2 J : Lam) (a0 : List (List D)) (a1 a2 a3 a4 a5 : Int) (a6 a7 a8 : Bool) : Res := lab SE C Λ2 J 21 0 [1, 1, 1, 1, 0, 0, 0, 0, 1, 1, 1, 0] (bU [(0, .d (.sl [.int .u8] a0)), (1, dIq a1), (7, .d (.int .u64 a2)), (8, dIq a3), (9, .d (.int .u8 a4)), (39, dIq a5), (40, dBq a6), (41, dBq a7), (44, dBq a8)] [] [] [] [])
def alc (C : aS) (Λ2 J : Lam) (a0 : List (List D)) (a1 a2 a3 : Int) : Res := lab SE C Λ2 J 21 0 [1, 1, 1, 1, 0] (bU [(0, .d (.sl [.int .u8] a0)), (1, dIq a1), (7, .d (.int .u64 a2)), (8, dIq a3)] [] [] [] [])
def aoM (C : aS) (Λ2 J : Lam) (a0 : List (List D)) (a1 : Int) : Res := lab SE C Λ2 J 21 0 [1, 1, 0] (bU [(0, .d (.sl [.int .u8] a0)), (1, dIq a1)] [] [] [] [])
section
variable (Γ : Fun) (γ29 : Gm (Int)) (Λ2 J : Lam)
def C21 : aS := bM (aQ Γ) 29 aI γ29
theorem T21 (p0 : List Int) (p1 : Int) : bS SE (C21 Γ γ29) Λ2 J 21 [.d (.sl [.int .u8] (List.map (aJ .u8) p0)), dIq p1] [] [] =
 cond (decide (p1 < 0)) (
 (some (bN (0, 0, 1)))) (
 cond (decide (p1 > (lM (aJ .u8) p0 : Int))) (
 (some (bN (0, 0, 1)))) (
 aoM (C21 Γ γ29) Λ2 J (List.map (aJ .u8) p0) p1)) := by kernel_rfl
theorem aqy (x0 : List Int) (x1 x7 x8 x9 x39 : Int) (x40 x41 x44 : Bool) : eA SE (C21 Γ γ29) Λ2 J 21 0 [1, 1, 1, 1, 0, 0, 0, 0, 1, 1, 1, 0] (bU [(0, .d (.sl [.int .u8] (List.map (aJ .u8) x0))), (1, dIq x1), (7, .d (.int .u64 x7)), (8, dIq x8), (9, .d (.int .u8 x9)), (39, dIq x39), (40, dBq x40), (41, dBq x41), (44, dBq x44)] [] [] [] []) =
 cond (decide (0 ≤ (w6 (7 * x8)))) (
 cond (decide (x9 < 128)) (
  γ29 [.d (.int .u64 (bP .or .u64 x7 (shl .u64 (IntKind.wrap .u64 (bP .and .u8 x9 127)) (w6 (7 * x8)))))] [] [] fun r0 =>
  (some (bN (r0, (w6 ((w6 (x1 + x8)) + 1)), 0)))) (
 alc (C21 Γ γ29) Λ2 J (List.map (aJ .u8) x0) x1 ((bP .or .u64 x7 (shl .u64 (IntKind.wrap .u64 (bP .and .u8 x9 127)) (w6 (7 * x8))))) (w6 (x8 + 1)))) none := by kernel_rfl
theorem ar2 (x0 : List Int) (x1 x7 x8 : Int) : eA SE (C21 Γ γ29) Λ2 J 21 0 [1, 1, 1, 1, 0] (bU [(0, .d (.sl [.int .u8] (List.map (aJ .u8) x0))), (1, dIq x1), (7, .d (.int .u64 x7)), (8, dIq x8)] [] [] [] []) =
 cond ((w6 (x1 + x8)) == (lM (aJ .u8) x0 : Int)) (
 (some (bN (0, 0, 3)))) (
 cond (iB (w6 (x1 + x8)) (lM (aJ .u8) x0 : Int)) (
 cond (x8 == 9) (
  cond (decide ((aX (cE (aJ .u8) x0 (w6 (x1 + x8)) 0)) > 1)) (
  (some (bN (0, 0, 2)))) (
  cond (decide (x8 > 0)) (
  cond ((aX (cE (aJ .u8) x0 (w6 (x1 + x8)) 0)) == 0) (
   (some (bN (0, 0, 2)))) (
  ads (C21 Γ γ29) Λ2 J (List.map (aJ .u8) x0) x1 x7 x8 ((aX (cE (aJ .u8) x0 (w6 (x1 + x8)) 0))) x8 (decide (x8 > 0)) true (((aX (cE (aJ .u8) x0 (w6 (x1 + x8)) 0)) == 0)))) (
  ads (C21 Γ γ29) Λ2 J (List.map (aJ .u8) x0) x1 x7 x8 ((aX (cE (aJ .u8) x0 (w6 (x1 + x8)) 0))) x8 (decide (x8 > 0)) false false))) (
 cond (decide (x8 > 0)) (
  cond ((aX (cE (aJ .u8) x0 (w6 (x1 + x8)) 0)) == 0) (
  (some (bN (0, 0, 2)))) (
  ads (C21 Γ γ29) Λ2 J (List.map (aJ .u8) x0) x1 x7 x8 ((aX (cE (aJ .u8) x0 (w6 (x1 + x8)) 0))) x8 (decide (x8 > 0)) true (((aX (cE (aJ .u8) x0 (w6 (x1 + x8)) 0)) == 0)))) (
 ads (C21 Γ γ29) Λ2 J (List.map (aJ .u8) x0) x1 x7 x8 ((aX (cE (aJ .u8) x0 (w6 (x1 + x8)) 0))) x8 (decide (x8 > 0)) false false))) none) := by kernel_rfl
theorem asQ (x0 : List Int) (x1 : Int) : eA SE (C21 Γ γ29) Λ2 J 21 0 [1, 1, 0] (bU [(0, .d (.sl [.int .u8] (List.map (aJ .u8) x0))), (1, dIq x1)] [] [] [] []) =
 alc (C21 Γ γ29) Λ2 J (List.map (aJ .u8) x0) x1 0 0 := by kernel_rfl
end
abbrev X21 : aS := C21 gG (cT 29 aI)
theorem al0 : X21 = aQ gG := by unfold X21 C21; rw [bK fun _ h => h]
abbrev aqg := ads X21 (dQ SE gG (SE.hl 21) (SE.hr 21)) (J0 SE X21)
abbrev ao3 := alc X21 (dQ SE gG (SE.hl 21) (SE.hr 21)) (J0 SE X21)
abbrev asK := aoM X21 (dQ SE gG (SE.hl 21) (SE.hr 21)) (J0 SE X21)
theorem pV (k6 : (List Int) → Int → Int → Int → Option (Int × Int × Int)) (hk6 : ∀ (x0 : List Int) (x1 x7 x8 : Int), Le (Option.map bN (k6 x0 x1 x7 x8)) (ao3 (List.map (aJ .u8) x0) x1 x7 x8)) (x0 : List Int) (x1 x7 x8 x9 x39 : Int) (x40 x41 x44 : Bool) : Le (Option.map bN (hJ k6 x0 x1 x7 x8 x9 x39 x40 x41 x44)) (aqg (List.map (aJ .u8) x0) x1 x7 x8 x9 x39 x40 x41 x44) := by
 refine Le.trans ?_ (le_of_eq ((bX al0).trans (aqy ..)).symm)
 unfold hJ
 refine lF ?_
 refine lC ?_ ?_
 ·refine lQ eX aZ (ahs _) fun r0 _ => ?_
  exact aF rfl
 ·(try simp only [EN]); exact hk6 x0 x1 ((bP .or .u64 x7 (shl .u64 (IntKind.wrap .u64 (bP .and .u8 x9 127)) (w6 (7 * x8))))) (w6 (x8 + 1))
theorem aha : ∀ (fu : Nat) (x0 : List Int) (x1 x7 x8 : Int), Le (Option.map bN (cX fu x0 x1 x7 x8)) (ao3 (List.map (aJ .u8) x0) x1 x7 x8) := by
 intro fu
 induction fu with
 | zero => intros; exact le_none
 | succ fu ih =>
  intro x0 x1 x7 x8
  refine Le.trans ?_ (le_of_eq ((bX al0).trans (ar2 ..)).symm)
  unfold cX
  refine lD (by simp only [EN]) ?_ ?_
  ·exact aF rfl
  ·refine lG (by simp only [EN]) ?_
   refine lC ?_ ?_
   ·refine lD (by simp only [EN]) ?_ ?_
    ·exact aF rfl
    ·refine lC ?_ ?_
     ·refine lD (by simp only [EN]) ?_ ?_
      ·exact aF rfl
      ·(try simp only [EN]); exact pV _ (ih) x0 x1 x7 x8 (List.getD x0 (Int.toNat (w6 (x1 + x8))) default) x8 (decide (x8 > 0)) true ((List.getD x0 (Int.toNat (w6 (x1 + x8))) default) == 0)
     ·(try simp only [EN]); exact pV _ (ih) x0 x1 x7 x8 (List.getD x0 (Int.toNat (w6 (x1 + x8))) default) x8 (decide (x8 > 0)) false false
   ·refine lC ?_ ?_
    ·refine lD (by simp only [EN]) ?_ ?_
     ·exact aF rfl
     ·(try simp only [EN]); exact pV _ (ih) x0 x1 x7 x8 (List.getD x0 (Int.toNat (w6 (x1 + x8))) default) x8 (decide (x8 > 0)) true ((List.getD x0 (Int.toNat (w6 (x1 + x8))) default) == 0)
    ·(try simp only [EN]); exact pV _ (ih) x0 x1 x7 x8 (List.getD x0 (Int.toNat (w6 (x1 + x8))) default) x8 (decide (x8 > 0)) false false
theorem aht (x0 : List Int) (x1 : Int) : Le (Option.map bN (sC x0 x1)) (asK (List.map (aJ .u8) x0) x1) := by
 refine Le.trans ?_ (le_of_eq ((bX al0).trans (asQ ..)).symm)
 unfold sC
 exact aha fuel x0 x1 0 0
theorem pG (p0 : List Int) (p1 : Int) : Le (Option.map bN (kU p0 p1)) (bD SE 21 [.d (.sl [.int .u8] (List.map (aJ .u8) p0)), dIq p1] [] []) := by
 refine aY al0 rfl ?_
 refine Le.trans ?_ (le_of_eq (T21 ..).symm)
 unfold kU
 refine lC ?_ ?_
 ·exact aF rfl
 ·refine lD (by simp only [EN]) ?_ ?_
  ·exact aF rfl
  ·exact aht p0 p1
section
variable (Γ : Fun) (γ21 : Gm (Int × Int × Int)) (γ27 : Gm (Int)) (Λ2 J : Lam)
def C20 : aS := bM (bM (aQ Γ) 21 bN γ21) 27 aI γ27
theorem T20 (p0 : List Int) (p1 : Int) : bS SE (C20 Γ γ21 γ27) Λ2 J 20 [.d (.sl [.int .u8] (List.map (aJ .u8) p0)), dIq p1] [] [] =
 γ21 [.d (.sl [.int .u8] (List.map (aJ .u8) p0)), dIq p1] [] [] fun r0 =>
 cond (r0.2.2 != 0) (
 (some (eU ([], 0, r0.2.2)))) (
 cond (decide (r0.1 < 0)) (
 (some (eU ([], 0, 2)))) (
 cond (decide (r0.1 > 65536)) (
 (some (eU ([], 0, 5)))) (
 cond (decide ((w6 ((lM (aJ .u8) p0 : Int) - r0.2.1)) < (w6 (4 + r0.1)))) (
 (some (eU ([], 0, 3)))) (
 cond (decide (0 ≤ (w6 (r0.2.1 + 4))) && decide ((w6 (r0.2.1 + 4)) ≤ ((lM (aJ .u8) p0) : Int))) (
 cond (decide (0 ≤ (w6 (r0.2.1 + 4))) && decide ((w6 (r0.2.1 + 4)) ≤ (w6 (r0.2.1 + 4)))) (
  cond (decide (0 ≤ r0.2.1) && decide (r0.2.1 ≤ (w6 (r0.2.1 + 4)))) (
  cond (decide (0 ≤ r0.1) && decide (r0.1 ≤ r0.1) && decide (r0.1 * 1 ≤ 281474976710656)) (
   cond (decide (0 ≤ (w6 ((w6 (r0.2.1 + 4)) + r0.1))) && decide ((w6 ((w6 (r0.2.1 + 4)) + r0.1)) ≤ ((lM (aJ .u8) p0) : Int))) (
   cond (decide (0 ≤ (w6 (r0.2.1 + 4))) && decide ((w6 (r0.2.1 + 4)) ≤ (w6 ((w6 (r0.2.1 + 4)) + r0.1)))) (
    cond (decide (0 ≤ 0) && decide (0 < (List.length (cH (List.map (aJ .u8) p0) (some r0.2.1) (some (w6 (r0.2.1 + 4)))) : Int))) (
    cond (decide (0 ≤ 1) && decide (1 < (List.length (cH (List.map (aJ .u8) p0) (some r0.2.1) (some (w6 (r0.2.1 + 4)))) : Int))) (
     cond (decide (0 ≤ 2) && decide (2 < (List.length (cH (List.map (aJ .u8) p0) (some r0.2.1) (some (w6 (r0.2.1 + 4)))) : Int))) (
     cond (decide (0 ≤ 3) && decide (3 < (List.length (cH (List.map (aJ .u8) p0) (some r0.2.1) (some (w6 (r0.2.1 + 4)))) : Int))) (
      γ27 [.d (.sl [.int .u8] (List.take (List.length (List.replicate (Int.toNat r0.1) [D.int .u8 0])) (cH (List.map (aJ .u8) p0) (some (w6 (r0.2.1 + 4))) (some (w6 ((w6 (r0.2.1 + 4)) + r0.1)))) ++ List.drop (min (List.length (cH (List.map (aJ .u8) p0) (some (w6 (r0.2.1 + 4))) (some (w6 ((w6 (r0.2.1 + 4)) + r0.1))))) (List.length (List.replicate (Int.toNat r0.1) [D.int .u8 0]))) (List.replicate (Int.toNat r0.1) [D.int .u8 0])))] [] [] fun r1 =>
      cond ((bP .or .i64 (bP .or .i64 (bP .or .i64 (shl .i64 (w6 (aX (cellAt (elemAt (cH (List.map (aJ .u8) p0) (some r0.2.1) (some (w6 (r0.2.1 + 4)))) (Int.toNat 0)) 0))) 24) (shl .i64 (w6 (aX (cellAt (elemAt (cH (List.map (aJ .u8) p0) (some r0.2.1) (some (w6 (r0.2.1 + 4)))) (Int.toNat 1)) 0))) 16)) (shl .i64 (w6 (aX (cellAt (elemAt (cH (List.map (aJ .u8) p0) (some r0.2.1) (some (w6 (r0.2.1 + 4)))) (Int.toNat 2)) 0))) 8)) (w6 (aX (cellAt (elemAt (cH (List.map (aJ .u8) p0) (some r0.2.1) (some (w6 (r0.2.1 + 4)))) (Int.toNat 3)) 0)))) != r1) (
      (some (eU ([], 0, 4)))) (
      (some (.ret [.row 0, dIq (w6 ((w6 (r0.2.1 + 4)) + r0.1)), dIq 0] [] [⟨[.int .u8], 5, 1, (List.take (List.length (List.replicate (Int.toNat r0.1) [D.int .u8 0])) (cH (List.map (aJ .u8) p0) (some (w6 (r0.2.1 + 4))) (some (w6 ((w6 (r0.2.1 + 4)) + r0.1)))) ++ List.drop (min (List.length (cH (List.map (aJ .u8) p0) (some (w6 (r0.2.1 + 4))) (some (w6 ((w6 (r0.2.1 + 4)) + r0.1))))) (List.length (List.replicate (Int.toNat r0.1) [D.int .u8 0]))) (List.replicate (Int.toNat r0.1) [D.int .u8 0]))⟩])))) none) none) none) none) none) none) none) none) none) none)))) := by kernel_rfl
end
abbrev X20 : aS := C20 gG (cT 21 bN) (cT 27 aI)
theorem atn : X20 = aQ gG := by unfold X20 C20; repeat rw [bK fun _ h => h]
theorem aih (p0 : List Int) (p1 : Int) : Le (Option.map eU (tU p0 p1)) (bD SE 20 [.d (.sl [.int .u8] (List.map (aJ .u8) p0)), dIq p1] [] []) := by
 refine aY atn rfl ?_
 refine Le.trans ?_ (le_of_eq (T20 ..).symm)
 unfold tU
 refine lQ eX fG (pG _ _) fun r0 _ => ?_
 refine lC ?_ ?_
 ·exact aF rfl
 ·refine lC ?_ ?_
  ·exact aF rfl
  ·refine lC ?_ ?_
   ·exact aF rfl
   ·refine lD (by simp only [EN]) ?_ ?_
    ·exact aF rfl
    ·refine lG (by simp only [EN]) ?_
     refine lF ?_
     refine lF ?_
     refine lF ?_
     refine lG (by simp only [EN]) ?_
     refine lF ?_
     refine lG (by simp only [EN]) ?_
     refine lG (by simp only [EN]) ?_
     refine lG (by simp only [EN]) ?_
     refine lG (by simp only [EN]) ?_
     refine lQ eX aZ (by (try simp only [EN]); exact acT ((List.take (List.length (List.replicate (Int.toNat r0.1) (default : Int))) (cH p0 (some (w6 (r0.2.1 + 4))) (some (w6 ((w6 (r0.2.1 + 4)) + r0.1)))) ++ List.drop (min (List.length (cH p0 (some (w6 (r0.2.1 + 4))) (some (w6 ((w6 (r0.2.1 + 4)) + r0.1))))) (List.length (List.replicate (Int.toNat r0.1) (default : Int)))) (List.replicate (Int.toNat r0.1) (default : Int))))) fun r1 _ => ?_
     refine lD (by simp only [EN]) ?_ ?_
     ·exact aF rfl
     ·exact aF (by first | rfl | simp only [EN, eU] <;> rfl)
section
variable (Γ : Fun) (γ20 : Gm ((List Int) × Int × Int)) (γ21 : Gm (Int × Int × Int)) (Λ2 J : Lam)
def C14 : aS := bM (bM (aQ Γ) 20 eU γ20) 21 bN γ21
theorem T14 (p0 : List Int) : bS SE (C14 Γ γ20 γ21) Λ2 J 14 [.d (.sl [.int .u8] (List.map (aJ .u8) p0))] [] [] =
 γ20 [.d (.sl [.int .u8] (List.map (aJ .u8) p0)), dIq 0] [] [] fun r0 =>
 cond (r0.2.2 != 0) (
 (some (dL (0, 0, [], r0.2.2)))) (
 cond (decide (r0.2.1 < (lM (aJ .u8) p0 : Int))) (
 (some (dL (0, 0, [], 2)))) (
 γ21 [.d (.sl [.int .u8] (List.map (aJ .u8) r0.1)), dIq 0] [] [] fun r1 =>
 cond (r1.2.2 != 0) (
 (some (dL (0, 0, [], r1.2.2)))) (
 γ21 [.d (.sl [.int .u8] (List.map (aJ .u8) r0.1)), dIq r1.2.1] [] [] fun r2 =>
 cond (r2.2.2 != 0) (
 (some (dL (0, 0, [], r2.2.2)))) (
 cond (decide (0 ≤ r2.2.1) && decide (r2.2.1 ≤ ((lM (aJ .u8) r0.1) : Int))) (
 (some (.ret [dIq r1.1, dIq r2.1, .d (.sl [.int .u8] (List.take ((lM (aJ .u8) r0.1) - (Int.toNat r2.2.1)) (List.drop (Int.toNat r2.2.1) (List.map (aJ .u8) r0.1)))), dIq 0] [] []))) none)))) := by kernel_rfl
end
abbrev X14 : aS := C14 gG (cT 20 eU) (cT 21 bN)
theorem atI : X14 = aQ gG := by unfold X14 C14; repeat rw [bK fun _ h => h]
theorem aa3 (p0 : List Int) : Le (Option.map dL (rQ p0)) (bD SE 14 [.d (.sl [.int .u8] (List.map (aJ .u8) p0))] [] []) := by
 refine aY atI rfl ?_
 refine Le.trans ?_ (le_of_eq (T14 ..).symm)
 unfold rQ
 refine lQ eX aa9 (aih _ _) fun r0 _ => ?_
 refine lC ?_ ?_
 ·exact aF rfl
 ·refine lD (by simp only [EN]) ?_ ?_
  ·exact aF rfl
  ·refine lQ eX fG (pG _ _) fun r1 _ => ?_
   refine lC ?_ ?_
   ·exact aF rfl
   ·refine lQ eX fG (pG _ _) fun r2 _ => ?_
    refine lC ?_ ?_
    ·exact aF rfl
    ·refine lG (by simp only [EN]) ?_
     exact aF (by first | rfl | simp only [EN, dL] <;> rfl)
section
variable (Γ : Fun) (γ14 : Gm (Int × Int × (List Int) × Int)) (Λ2 J : Lam)
def C10 : aS := bM (aQ Γ) 14 dL γ14
theorem T10 (p0 : List Int) : bS SE (C10 Γ γ14) Λ2 J 10 [.d (.sl [.int .u8] (List.map (aJ .u8) p0))] [] [] =
 γ14 [.d (.sl [.int .u8] (List.map (aJ .u8) p0))] [] [] fun r0 =>
 (some (bN (r0.1, r0.2.1, r0.2.2.2))) := by kernel_rfl
end
abbrev X10 : aS := C10 gG (cT 14 dL)
theorem auz : X10 = aQ gG := by unfold X10 C10; rw [bK fun _ h => h]
theorem abw (p0 : List Int) : Le (Option.map bN (sA p0)) (bD SE 10 [.d (.sl [.int .u8] (List.map (aJ .u8) p0))] [] []) := by
 refine aY auz rfl ?_
 refine Le.trans ?_ (le_of_eq (T10 ..).symm)
 unfold sA
 refine lQ eX tL (aa3 _) fun r0 _ => ?_
 exact aF rfl
section
variable (Γ : Fun)  (Λ2 J : Lam)
def C42 : aS := aQ Γ
theorem T42 (p0 : Bool) (p1 : Int) : bS SE (C42 Γ) Λ2 J 42 [dBq p0, dIq p1] [] [] =
 cond p0 (
 (some (.pan (.ifc 77 (aH.av (aH.mk p1)))))) (
 (some (.ret [] [] []))) := by kernel_rfl
end
abbrev X42 : aS := C42 gG
theorem atK : X42 = aQ gG := rfl
theorem fN (p0 : Bool) (p1 : Int) : Le (Option.map eE (dC p0 p1)) (bD SE 42 [dBq p0, dIq p1] [] []) := by
 refine aY atK rfl ?_
 refine Le.trans ?_ (le_of_eq (T42 ..).symm)
 unfold dC
 refine lC ?_ ?_
 ·exact aF rfl
 ·exact aF rfl
section
variable (Γ : Fun) (γ21 : Gm (Int × Int × Int)) (γ42 : Gp aH (Unit)) (Λ2 J : Lam)
def C41 : aS := jJ (bM (aQ Γ) 21 bN γ21) 42 eE γ42
theorem T41 (p0 : aC) : bS SE (C41 Γ γ21 γ42) Λ2 J 41 [.ptr 2000000000 0] [⟨80, (aC.avs p0)⟩] [] =
 γ21 [.d (.sl [.int .u8] (List.map (aJ .u8) p0.b)), dIq p0.at_] [] [] fun r0 =>
 γ42 [dBq (r0.2.2 != 0), dIq r0.2.2] [] [] (fun e2 =>
 (some (.pan (.ifc 77 (aH.av e2))))) fun r1 =>
 (some (mB (r0.1, (aC.mk p0.b r0.2.1)))) := by kernel_rfl
end
abbrev X41 : aS := C41 gG (cT 21 bN) (cP 42 eE)
theorem auq : X41 = aQ gG := by unfold X41 C41; rw [bK fun _ h => h, dF fun _ h => h]
theorem bH (p0 : aC) : Le (Option.map bW (bF p0)) (bD SE 41 [.ptr 2000000000 0] [⟨80, (aC.avs p0)⟩] []) := by
 refine aY auq rfl ?_
 refine Le.trans ?_ (le_of_eq (T41 ..).symm)
 unfold bF
 refine lQ eX fG (pG _ _) fun r0 _ => ?_
 refine bO (good := good) eX fD (fN _ _) (fun e2 _ => ?_) (fun r1 _ => ?_)
 ·exact aF rfl
 ·exact aF rfl
section
variable (Γ : Fun) (γ21 : Gm (Int × Int × Int)) (Λ2 J : Lam)
def C80 : aS := bM (aQ Γ) 21 bN γ21
theorem T80 (p0 : List Int) (p1 p2 : Int) : bS SE (C80 Γ γ21) Λ2 J 80 [.d (.sl [.int .u8] (List.map (aJ .u8) p0)), dIq p1, dIq p2] [] [] =
 γ21 [.d (.sl [.int .u8] (List.map (aJ .u8) p0)), dIq p1] [] [] fun r0 =>
 cond (r0.2.2 != 0) (
 (some (kV ([], 0, r0.2.2)))) (
 cond (decide (r0.1 < 0)) (
 (some (kV ([], 0, 2)))) (
 cond (decide (r0.1 > p2)) (
 (some (kV ([], 0, 5)))) (
 cond (decide (r0.1 > (w6 ((lM (aJ .u8) p0 : Int) - r0.2.1)))) (
 (some (kV ([], 0, 3)))) (
 cond (decide (0 ≤ (w6 (r0.2.1 + r0.1))) && decide ((w6 (r0.2.1 + r0.1)) ≤ ((lM (aJ .u8) p0) : Int))) (
 cond (decide (0 ≤ (w6 (r0.2.1 + r0.1))) && decide ((w6 (r0.2.1 + r0.1)) ≤ (w6 (r0.2.1 + r0.1)))) (
  cond (decide (0 ≤ r0.2.1) && decide (r0.2.1 ≤ (w6 (r0.2.1 + r0.1)))) (
  (some (.ret [dSq (tQ (cH (List.map (aJ .u8) p0) (some r0.2.1) (some (w6 (r0.2.1 + r0.1))))), dIq (w6 (r0.2.1 + r0.1)), dIq 0] [] []))) none) none) none)))) := by kernel_rfl
end
abbrev X80 : aS := C80 gG (cT 21 bN)
theorem auc : X80 = aQ gG := by unfold X80 C80; rw [bK fun _ h => h]
theorem ajb (p0 : List Int) (p1 p2 : Int) : Le (Option.map kV (tC p0 p1 p2)) (bD SE 80 [.d (.sl [.int .u8] (List.map (aJ .u8) p0)), dIq p1, dIq p2] [] []) := by
 refine aY auc rfl ?_
 refine Le.trans ?_ (le_of_eq (T80 ..).symm)
 unfold tC
 refine lQ eX fG (pG _ _) fun r0 _ => ?_
 refine lC ?_ ?_
 ·exact aF rfl
 ·refine lC ?_ ?_
  ·exact aF rfl
  ·refine lC ?_ ?_
   ·exact aF rfl
   ·refine lD (by simp only [EN]) ?_ ?_
    ·exact aF rfl
    ·refine lG (by simp only [EN]) ?_
     refine lF ?_
     refine lF ?_
     exact aF (by first | rfl | simp only [EN, kV] <;> rfl)
section
variable (Γ : Fun) (γ80 : Gm (Str × Int × Int)) (γ42 : Gp aH (Unit)) (Λ2 J : Lam)
def C71 : aS := jJ (bM (aQ Γ) 80 kV γ80) 42 eE γ42
theorem T71 (p0 : aC) (p1 : Int) : bS SE (C71 Γ γ80 γ42) Λ2 J 71 [.ptr 2000000000 0, dIq p1] [⟨80, (aC.avs p0)⟩] [] =
 γ80 [.d (.sl [.int .u8] (List.map (aJ .u8) p0.b)), dIq p0.at_, dIq p1] [] [] fun r0 =>
 γ42 [dBq (r0.2.2 != 0), dIq r0.2.2] [] [] (fun e2 =>
 (some (.pan (.ifc 77 (aH.av e2))))) fun r1 =>
 (some (.ret [dSq r0.1] [⟨80, (aC.avs (aC.mk p0.b r0.2.1))⟩] [])) := by kernel_rfl
end
abbrev X71 : aS := C71 gG (cT 80 kV) (cP 42 eE)
theorem auF : X71 = aQ gG := by unfold X71 C71; rw [bK fun _ h => h, dF fun _ h => h]
theorem dJ (p0 : aC) (p1 : Int) : Le (Option.map cY (cK p0 p1)) (bD SE 71 [.ptr 2000000000 0, dIq p1] [⟨80, (aC.avs p0)⟩] []) := by
 refine aY auF rfl ?_
 refine Le.trans ?_ (le_of_eq (T71 ..).symm)
 unfold cK
 refine lQ eX aif (ajb _ _ _) fun r0 _ => ?_
 refine bO (good := good) eX fD (fN _ _) (fun e2 _ => ?_) (fun r1 _ => ?_)
 ·exact aF rfl
 ·exact aF rfl
section
variable (Γ : Fun) (γ41 : Gp aH (Int × aC)) (γ42 : Gp aH (Unit)) (Λ2 J : Lam)
def C58 : aS := jJ (jJ (aQ Γ) 41 bW γ41) 42 eE γ42
theorem T58 (p0 : aC) (p1 : Int) : bS SE (C58 Γ γ41 γ42) Λ2 J 58 [.ptr 2000000000 0, dIq p1] [⟨80, (aC.avs p0)⟩] [] =
 γ41 [.ptr 2000000000 0] [⟨80, (aC.avs p0)⟩] [] (fun e1 =>
 (some (.pan (.ifc 77 (aH.av e1))))) fun r0 =>
 cond (decide (r0.1 < 0)) (
 γ42 [dBq true, dIq 2] [] [] (fun e3 =>
  (some (.pan (.ifc 77 (aH.av e3))))) fun r2 =>
 (some (kY (r0.1, r0.2)))) (
 γ42 [dBq (decide (r0.1 ≥ p1)), dIq 2] [] [] (fun e5 =>
 (some (.pan (.ifc 77 (aH.av e5))))) fun r4 =>
 (some (kY (r0.1, r0.2)))) := by kernel_rfl
end
abbrev X58 : aS := C58 gG (cP 41 bW) (cP 42 eE)
theorem at2 : X58 = aQ gG := by unfold X58 C58; rw [dF fun _ h => h, dF fun _ h => h]
theorem gL (p0 : aC) (p1 : Int) : Le (Option.map cJ (dB p0 p1)) (bD SE 58 [.ptr 2000000000 0, dIq p1] [⟨80, (aC.avs p0)⟩] []) := by
 refine aY at2 rfl ?_
 refine Le.trans ?_ (le_of_eq (T58 ..).symm)
 unfold dB
 refine bO (good := good) eX bE (bH _) (fun e1 _ => ?_) (fun r0 _ => ?_)
 ·exact aF rfl
 ·refine lC ?_ ?_
  ·refine bO (good := good) eX fD (fN _ _) (fun e3 _ => ?_) (fun r2 _ => ?_)
   ·exact aF rfl
   ·exact aF rfl
  ·refine bO (good := good) eX fD (fN _ _) (fun e5 _ => ?_) (fun r4 _ => ?_)
   ·exact aF rfl
   ·exact aF rfl
section
variable (Γ : Fun)  (Λ2 J : Lam)
def C72 : aS := aQ Γ
theorem T72 (p0 p1 : Int) : bS SE (C72 Γ) Λ2 J 72 [dIq p0, dIq p1] [] [] =
 cond (decide (p1 ≥ 0)) (
 cond (decide (p1 < 32)) (
  cond (decide (0 ≤ p1)) (
  (rB ((bP .and .i64 (shr .i64 p0 p1) 1) == 1))) none) (
 (rB false))) (
 (rB false)) := by kernel_rfl
end
abbrev X72 : aS := C72 gG
theorem aut : X72 = aQ gG := rfl
theorem acM (p0 p1 : Int) : Le (Option.map aK (sS p0 p1)) (bD SE 72 [dIq p0, dIq p1] [] []) := by
 refine aY aut rfl ?_
 refine Le.trans ?_ (le_of_eq (T72 ..).symm)
 unfold sS
 refine lC ?_ ?_
 ·refine lC ?_ ?_
  ·refine lF ?_
   exact aF rfl
  ·exact aF rfl
 ·exact aF rfl
section
variable (Γ : Fun) (γ41 : Gp aH (Int × aC)) (γ42 : Gp aH (Unit)) (Λ2 J : Lam)
def C73 : aS := jJ (jJ (aQ Γ) 41 bW γ41) 42 eE γ42
theorem T73 (p0 : aC) (p1 : Int) : bS SE (C73 Γ γ41 γ42) Λ2 J 73 [.ptr 2000000000 0, dIq p1] [⟨80, (aC.avs p0)⟩] [] =
 γ41 [.ptr 2000000000 0] [⟨80, (aC.avs p0)⟩] [] (fun e1 =>
 (some (.pan (.ifc 77 (aH.av e1))))) fun r0 =>
 γ42 [dBq (decide (r0.1 < 0)), dIq 2] [] [] (fun e3 =>
 (some (.pan (.ifc 77 (aH.av e3))))) fun r2 =>
 γ42 [dBq (decide (r0.1 > p1)), dIq 5] [] [] (fun e5 =>
 (some (.pan (.ifc 77 (aH.av e5))))) fun r4 =>
 (some (kW (r0.1, r0.2))) := by kernel_rfl
end
abbrev X73 : aS := C73 gG (cP 41 bW) (cP 42 eE)
theorem auw : X73 = aQ gG := by unfold X73 C73; rw [dF fun _ h => h, dF fun _ h => h]
theorem qE (p0 : aC) (p1 : Int) : Le (Option.map dK (fH p0 p1)) (bD SE 73 [.ptr 2000000000 0, dIq p1] [⟨80, (aC.avs p0)⟩] []) := by
 refine aY auw rfl ?_
 refine Le.trans ?_ (le_of_eq (T73 ..).symm)
 unfold fH
 refine bO (good := good) eX bE (bH _) (fun e1 _ => ?_) (fun r0 _ => ?_)
 ·exact aF rfl
 ·refine bO (good := good) eX fD (fN _ _) (fun e3 _ => ?_) (fun r2 _ => ?_)
  ·exact aF rfl
  ·refine bO (good := good) eX fD (fN _ _) (fun e5 _ => ?_) (fun r4 _ => ?_)
   ·exact aF rfl
   ·exact aF rfl
def ajL (C : aS) (Λ2 J : Lam) (a0 a1 : Int) (a2 : List D) (a3 a4 : Str) (a5 : Int) (a6 : Bool) (a7 a8 : Int) (a9 : Str) (a10 : Int) (a11 : List D) (a12 : List (List D)) : Res := lab SE C Λ2 J 59 1 [1, 1, 1, 1, 1, 1, 1, 1, 1, 1, 0, 1, 0] (bU [(0, .ptr 2000000000 0), (2, .ptr 1000000000 0), (3, .ptr 1000000001 0), (32, dIq a0), (33, dIq a1)] [⟨51, (List.map AV.d a2)⟩, ⟨51, [dSq a3, dSq a4, dIq a5, dBq a6, dIq a7, dIq a8, dSq a9, dIq a10, .row 50108]⟩] [⟨80, (List.map AV.d a11)⟩] [] [(50108, ⟨aB.ks, 91, 32, a12⟩)])
section
variable (Γ : Fun) (γ71 : Gp aH (Str × aC)) (γ41 γ58 γ73 : Gp aH (Int × aC)) (Λ2 J : Lam)
def C59 : aS := jJ (jJ (jJ (jJ (aQ Γ) 71 cY γ71) 41 bW γ41) 58 cJ γ58) 73 dK γ73
theorem T59 (p0 : aC) : bS SE (C59 Γ γ71 γ41 γ58 γ73) Λ2 J 59 [.ptr 2000000000 0] [⟨80, (aC.avs p0)⟩] [] =
 γ71 [.ptr 2000000000 0, dIq 64] [⟨80, (aC.avs p0)⟩] [] (fun e1 =>
 (some (.pan (.ifc 77 (aH.av e1))))) fun r0 =>
 γ71 [.ptr 2000000000 0, dIq 256] [⟨80, (aC.avs r0.2)⟩] [] (fun e3 =>
 (some (.pan (.ifc 77 (aH.av e3))))) fun r2 =>
 γ41 [.ptr 2000000000 0] [⟨80, (aC.avs r2.2)⟩] [] (fun e5 =>
 (some (.pan (.ifc 77 (aH.av e5))))) fun r4 =>
 γ58 [.ptr 2000000000 0, dIq 2] [⟨80, (aC.avs r4.2)⟩] [] (fun e7 =>
 (some (.pan (.ifc 77 (aH.av e7))))) fun r6 =>
 γ41 [.ptr 2000000000 0] [⟨80, (aC.avs r6.2)⟩] [] (fun e9 =>
 (some (.pan (.ifc 77 (aH.av e9))))) fun r8 =>
 γ41 [.ptr 2000000000 0] [⟨80, (aC.avs r8.2)⟩] [] (fun e11 =>
 (some (.pan (.ifc 77 (aH.av e11))))) fun r10 =>
 γ71 [.ptr 2000000000 0, dIq 16] [⟨80, (aC.avs r10.2)⟩] [] (fun e13 =>
 (some (.pan (.ifc 77 (aH.av e13))))) fun r12 =>
 γ41 [.ptr 2000000000 0] [⟨80, (aC.avs r12.2)⟩] [] (fun e15 =>
 (some (.pan (.ifc 77 (aH.av e15))))) fun r14 =>
 γ73 [.ptr 2000000000 0, dIq 8] [⟨80, (aC.avs r14.2)⟩] [] (fun e17 =>
 (some (.pan (.ifc 77 (aH.av e17))))) fun r16 =>
 ajL (C59 Γ γ71 γ41 γ58 γ73) Λ2 J r16.1 0 [D.str [], D.str [], D.int .i64 0, D.bool false, D.int .i64 0, D.int .i64 0, D.str [], D.int .i64 0, D.sl aB.ks (List.map aB.enc [])] r0.1 r2.1 r4.1 (r6.1 == 1) r8.1 r10.1 r12.1 r14.1 (aC.enc r16.2) (List.map aB.enc []) := by kernel_rfl
theorem aqe (x32 x33 : Int) (b0 : aE) (b1_0 b1_1 : Str) (b1_2 : Int) (b1_3 : Bool) (b1_4 b1_5 : Int) (b1_6 : Str) (b1_7 : Int) (q0 : aC) (w50108 : List aB) : eA SE (C59 Γ γ71 γ41 γ58 γ73) Λ2 J 59 1 [1, 1, 1, 1, 1, 1, 1, 1, 1, 1, 0, 1, 0] (bU [(0, .ptr 2000000000 0), (2, .ptr 1000000000 0), (3, .ptr 1000000001 0), (32, dIq x32), (33, dIq x33)] [⟨51, (List.map AV.d (aE.enc b0))⟩, ⟨51, [dSq b1_0, dSq b1_1, dIq b1_2, dBq b1_3, dIq b1_4, dIq b1_5, dSq b1_6, dIq b1_7, .row 50108]⟩] [⟨80, (List.map AV.d (aC.enc q0))⟩] [] [(50108, ⟨aB.ks, 91, 32, (List.map aB.enc w50108)⟩)]) =
 cond (decide (x33 < x32)) (
 γ71 [.ptr 2000000000 0, dIq 16] [⟨80, (aC.avs q0)⟩] [] (fun e19 =>
  (some (.pan (.ifc 77 (aH.av e19))))) fun r18 =>
 γ71 [.ptr 2000000000 0, dIq 160] [⟨80, (aC.avs r18.2)⟩] [] (fun e21 =>
  (some (.pan (.ifc 77 (aH.av e21))))) fun r20 =>
 cond (decide ((lM aB.enc w50108 + lM aB.enc [(aB.mk r18.1 r20.1)]) * 32 ≤ 140737488355328)) (
  ajL (C59 Γ γ71 γ41 γ58 γ73) Λ2 J x32 (w6 (x33 + 1)) (aE.enc b0) b1_0 b1_1 b1_2 b1_3 b1_4 b1_5 b1_6 b1_7 (aC.enc r20.2) (((List.map aB.enc w50108) ++ (List.map aB.enc [(aB.mk r18.1 r20.1)])))) none) (
 (some (jR ((aE.mk b1_0 b1_1 b1_2 b1_3 b1_4 b1_5 b1_6 b1_7 w50108), q0)))) := by kernel_rfl
end
abbrev X59 : aS := C59 gG (cP 71 cY) (cP 41 bW) (cP 58 cJ) (cP 73 dK)
theorem apX : X59 = aQ gG := by unfold X59 C59; rw [dF fun _ h => h, dF fun _ h => h, dF fun _ h => h, dF fun _ h => h]
abbrev aqL := ajL X59 (dQ SE gG (SE.hl 59) (SE.hr 59)) (J0 SE X59)
theorem tS : ∀ (fu : Nat) (x32 x33 : Int) (b0 : aE) (b1_0 b1_1 : Str) (b1_2 : Int) (b1_3 : Bool) (b1_4 b1_5 : Int) (b1_6 : Str) (b1_7 : Int) (q0 : aC) (w50108 : List aB), Le (Option.map cV (eL fu x32 x33 b0 b1_0 b1_1 b1_2 b1_3 b1_4 b1_5 b1_6 b1_7 q0 w50108)) (aqL x32 x33 (aE.enc b0) b1_0 b1_1 b1_2 b1_3 b1_4 b1_5 b1_6 b1_7 (aC.enc q0) (List.map aB.enc w50108)) := by
 intro fu
 induction fu with
 | zero => intros; exact le_none
 | succ fu ih =>
  intro x32 x33 b0 b1_0 b1_1 b1_2 b1_3 b1_4 b1_5 b1_6 b1_7 q0 w50108
  refine Le.trans ?_ (le_of_eq ((bX apX).trans (aqe ..)).symm)
  unfold eL
  refine lC ?_ ?_
  ·refine bO (good := good) eX dI (dJ _ _) (fun e19 _ => ?_) (fun r18 _ => ?_)
   ·exact aF rfl
   ·refine bO (good := good) eX dI (dJ _ _) (fun e21 _ => ?_) (fun r20 _ => ?_)
    ·exact aF rfl
    ·refine lG (by simp only [EN]) ?_
     (try simp only [EN]); exact ih x32 (w6 (x33 + 1)) b0 b1_0 b1_1 b1_2 b1_3 b1_4 b1_5 b1_6 b1_7 r20.2 (w50108 ++ [(aB.mk r18.1 r20.1)])
  ·exact aF rfl
theorem oS (p0 : aC) : Le (Option.map cV (fL p0)) (bD SE 59 [.ptr 2000000000 0] [⟨80, (aC.avs p0)⟩] []) := by
 refine aY apX rfl ?_
 refine Le.trans ?_ (le_of_eq (T59 ..).symm)
 unfold fL
 refine bO (good := good) eX dI (dJ _ _) (fun e1 _ => ?_) (fun r0 _ => ?_)
 ·exact aF rfl
 ·refine bO (good := good) eX dI (dJ _ _) (fun e3 _ => ?_) (fun r2 _ => ?_)
  ·exact aF rfl
  ·refine bO (good := good) eX bE (bH _) (fun e5 _ => ?_) (fun r4 _ => ?_)
   ·exact aF rfl
   ·refine bO (good := good) eX fZ (gL _ _) (fun e7 _ => ?_) (fun r6 _ => ?_)
    ·exact aF rfl
    ·refine bO (good := good) eX bE (bH _) (fun e9 _ => ?_) (fun r8 _ => ?_)
     ·exact aF rfl
     ·refine bO (good := good) eX bE (bH _) (fun e11 _ => ?_) (fun r10 _ => ?_)
      ·exact aF rfl
      ·refine bO (good := good) eX dI (dJ _ _) (fun e13 _ => ?_) (fun r12 _ => ?_)
       ·exact aF rfl
       ·refine bO (good := good) eX bE (bH _) (fun e15 _ => ?_) (fun r14 _ => ?_)
        ·exact aF rfl
        ·refine bO (good := good) eX pL (qE _ _) (fun e17 _ => ?_) (fun r16 _ => ?_)
         ·exact aF rfl
         ·(try simp only [EN]); exact tS fuel r16.1 0 ((aE.mk [] [] 0 false 0 0 [] 0 [])) r0.1 r2.1 r4.1 (r6.1 == 1) r8.1 r10.1 r12.1 r14.1 r16.2 []
section
variable (Γ : Fun) (γ71 : Gp aH (Str × aC)) (γ58 : Gp aH (Int × aC)) (γ72 : Gm (Bool)) (γ41 : Gp aH (Int × aC)) (γ59 : Gp aH (aE × aC)) (Λ2 J : Lam)
def C57 : aS := jJ (jJ (bM (jJ (jJ (aQ Γ) 71 cY γ71) 58 cJ γ58) 72 aK γ72) 41 bW γ41) 59 cV γ59
theorem T57 (p0 : aC) : bS SE (C57 Γ γ71 γ58 γ72 γ41 γ59) Λ2 J 57 [.ptr 2000000000 0] [⟨80, (aC.avs p0)⟩] [] =
 γ71 [.ptr 2000000000 0, dIq 16] [⟨80, (aC.avs p0)⟩] [] (fun e1 =>
 (some (.pan (.ifc 77 (aH.av e1))))) fun r0 =>
 γ71 [.ptr 2000000000 0, dIq 16] [⟨80, (aC.avs r0.2)⟩] [] (fun e3 =>
 (some (.pan (.ifc 77 (aH.av e3))))) fun r2 =>
 γ58 [.ptr 2000000000 0, dIq 4] [⟨80, (aC.avs r2.2)⟩] [] (fun e5 =>
 (some (.pan (.ifc 77 (aH.av e5))))) fun r4 =>
 γ72 [dIq r4.1, dIq 0] [] [] fun r6 =>
 γ72 [dIq r4.1, dIq 1] [] [] fun r7 =>
 γ41 [.ptr 2000000000 0] [⟨80, (aC.avs r4.2)⟩] [] (fun e9 =>
 (some (.pan (.ifc 77 (aH.av e9))))) fun r8 =>
 γ41 [.ptr 2000000000 0] [⟨80, (aC.avs r8.2)⟩] [] (fun e11 =>
 (some (.pan (.ifc 77 (aH.av e11))))) fun r10 =>
 γ41 [.ptr 2000000000 0] [⟨80, (aC.avs r10.2)⟩] [] (fun e13 =>
 (some (.pan (.ifc 77 (aH.av e13))))) fun r12 =>
 cond r7 (
 γ41 [.ptr 2000000000 0] [⟨80, (aC.avs r12.2)⟩] [] (fun e15 =>
  (some (.pan (.ifc 77 (aH.av e15))))) fun r14 =>
 γ59 [.ptr 2000000000 0] [⟨80, (aC.avs r14.2)⟩] [] (fun e17 =>
  (some (.pan (.ifc 77 (aH.av e17))))) fun r16 =>
 (some (jP (((aA.mk 1 0 false (aE.mk [] [] 0 false 0 0 [] 0 []) r0.1 r2.1 r6 r8.1 r10.1 r12.1 (aW.mk r7 r14.1 r16.1) false 0 [] [] []), r16.2))))) (
 (some (jP (((aA.mk 1 0 false (aE.mk [] [] 0 false 0 0 [] 0 []) r0.1 r2.1 r6 r8.1 r10.1 r12.1 (aW.mk r7 0 (aE.mk [] [] 0 false 0 0 [] 0 [])) false 0 [] [] []), r12.2))))) := by kernel_rfl
end
abbrev X57 : aS := C57 gG (cP 71 cY) (cP 58 cJ) (cT 72 aK) (cP 41 bW) (cP 59 cV)
theorem atL : X57 = aQ gG := by unfold X57 C57; rw [dF fun _ h => h, dF fun _ h => h, bK fun _ h => h, dF fun _ h => h, dF fun _ h => h]
theorem wI (p0 : aC) : Le (Option.map eQ (gR p0)) (bD SE 57 [.ptr 2000000000 0] [⟨80, (aC.avs p0)⟩] []) := by
 refine aY atL rfl ?_
 refine Le.trans ?_ (le_of_eq (T57 ..).symm)
 unfold gR
 refine bO (good := good) eX dI (dJ _ _) (fun e1 _ => ?_) (fun r0 _ => ?_)
 ·exact aF rfl
 ·refine bO (good := good) eX dI (dJ _ _) (fun e3 _ => ?_) (fun r2 _ => ?_)
  ·exact aF rfl
  ·refine bO (good := good) eX fZ (gL _ _) (fun e5 _ => ?_) (fun r4 _ => ?_)
   ·exact aF rfl
   ·refine lQ eX bC (acM _ _) fun r6 _ => ?_
    refine lQ eX bC (acM _ _) fun r7 _ => ?_
    refine bO (good := good) eX bE (bH _) (fun e9 _ => ?_) (fun r8 _ => ?_)
    ·exact aF rfl
    ·refine bO (good := good) eX bE (bH _) (fun e11 _ => ?_) (fun r10 _ => ?_)
     ·exact aF rfl
     ·refine bO (good := good) eX bE (bH _) (fun e13 _ => ?_) (fun r12 _ => ?_)
      ·exact aF rfl
      ·refine lC ?_ ?_
       ·refine bO (good := good) eX bE (bH _) (fun e15 _ => ?_) (fun r14 _ => ?_)
        ·exact aF rfl
        ·refine bO (good := good) eX nY (oS _) (fun e17 _ => ?_) (fun r16 _ => ?_)
         ·exact aF rfl
         ·exact aF rfl
       ·exact aF rfl
def afQ (C : aS) (Λ2 J : Lam) (a0 a1 : Int) (a2 : List D) (a3 a4 : Int) (a5 : Bool) (a6 a7 : Str) (a8 : Int) (a9 : Bool) (a10 a11 : Int) (a12 : Str) (a13 : Int) (a14 : List (List D)) (a15 a16 : Str) (a17 : Bool) (a18 a19 a20 : Int) (a21 : Bool) (a22 : Int) (a23 a24 : Str) (a25 : Int) (a26 : Bool) (a27 a28 : Int) (a29 : Str) (a30 : Int) (a31 : List (List D)) (a32 : Bool) (a33 : Int) (a34 : List D) (a35 a36 a37 : List (List D)) : Res := lab SE C Λ2 J 60 1 [1, 1, 0, 1, 0] (bU [(0, .ptr 2000000000 0), (4, .ptr 1000000000 0), (5, .ptr 1000000001 0), (9, dIq a0), (10, dIq a1)] [⟨58, (List.map AV.d a2)⟩, ⟨58, [dIq a3, dIq a4, dBq a5, dSq a6, dSq a7, dIq a8, dBq a9, dIq a10, dIq a11, dSq a12, dIq a13, .d (.sl aB.ks a14), dSq a15, dSq a16, dBq a17, dIq a18, dIq a19, dIq a20, dBq a21, dIq a22, dSq a23, dSq a24, dIq a25, dBq a26, dIq a27, dIq a28, dSq a29, dIq a30, .d (.sl aB.ks a31), dBq a32, dIq a33, .row 50131, .row 50132, .row 50133]⟩] [⟨80, (List.map AV.d a34)⟩] [] [(50131, ⟨aG.ks, 93, 32, a35⟩), (50132, ⟨[.str], 9, 16, a36⟩), (50133, ⟨[.int .i64], 3, 8, a37⟩)])
section
variable (Γ : Fun) (γ73 : Gp aH (Int × aC)) (γ71 : Gp aH (Str × aC)) (γ41 γ58 : Gp aH (Int × aC)) (Λ2 J : Lam)
def C60 : aS := jJ (jJ (jJ (jJ (aQ Γ) 73 dK γ73) 71 cY γ71) 41 bW γ41) 58 cJ γ58
theorem T60 (p0 : aC) (p1 : aA) : bS SE (C60 Γ γ73 γ71 γ41 γ58) Λ2 J 60 [.ptr 2000000000 0, .agg [dIq p1.Kind, dIq p1.ID, dBq p1.Dup, dSq p1.Message.Topic, dSq p1.Message.Payload, dIq p1.Message.Level, dBq p1.Message.Retain, dIq p1.Message.Priority, dIq p1.Message.Expires, dSq p1.Message.From, dIq p1.Message.Seq, .d (.sl aB.ks (List.map aB.enc p1.Message.Props)), dSq p1.Client, dSq p1.User, dBq p1.Clean, dIq p1.Keep, dIq p1.Expiry, dIq p1.Window, dBq p1.Will.Set, dIq p1.Will.Delay, dSq p1.Will.Message.Topic, dSq p1.Will.Message.Payload, dIq p1.Will.Message.Level, dBq p1.Will.Message.Retain, dIq p1.Will.Message.Priority, dIq p1.Will.Message.Expires, dSq p1.Will.Message.From, dIq p1.Will.Message.Seq, .d (.sl aB.ks (List.map aB.enc p1.Will.Message.Props)), dBq p1.Present, dIq p1.Code, .row 2000000000, .row 2000000001, .row 2000000002]] [⟨80, (aC.avs p0)⟩] [⟨aG.ks, 93, 32, (List.map aG.enc p1.Subs)⟩, ⟨[.str], 9, 16, (List.map bA p1.Filters)⟩, ⟨[.int .i64], 3, 8, (List.map eI p1.Codes)⟩] =
 γ73 [.ptr 2000000000 0, dIq 32] [⟨80, (aC.avs p0)⟩] [] (fun e1 =>
 (some (.pan (.ifc 77 (aH.av e1))))) fun r0 =>
 afQ (C60 Γ γ73 γ71 γ41 γ58) Λ2 J r0.1 0 [D.int .i64 0, D.int .i64 0, D.bool false, D.str [], D.str [], D.int .i64 0, D.bool false, D.int .i64 0, D.int .i64 0, D.str [], D.int .i64 0, D.sl aB.ks (List.map aB.enc []), D.str [], D.str [], D.bool false, D.int .i64 0, D.int .i64 0, D.int .i64 0, D.bool false, D.int .i64 0, D.str [], D.str [], D.int .i64 0, D.bool false, D.int .i64 0, D.int .i64 0, D.str [], D.int .i64 0, D.sl aB.ks (List.map aB.enc []), D.bool false, D.int .i64 0, D.sl aG.ks (List.map aG.enc []), D.sl [.str] (List.map bA []), D.sl [.int .i64] (List.map eI [])] p1.Kind p1.ID p1.Dup p1.Message.Topic p1.Message.Payload p1.Message.Level p1.Message.Retain p1.Message.Priority p1.Message.Expires p1.Message.From p1.Message.Seq (List.map aB.enc p1.Message.Props) p1.Client p1.User p1.Clean p1.Keep p1.Expiry p1.Window p1.Will.Set p1.Will.Delay p1.Will.Message.Topic p1.Will.Message.Payload p1.Will.Message.Level p1.Will.Message.Retain p1.Will.Message.Priority p1.Will.Message.Expires p1.Will.Message.From p1.Will.Message.Seq (List.map aB.enc p1.Will.Message.Props) p1.Present p1.Code (aC.enc r0.2) (List.map aG.enc p1.Subs) (List.map bA p1.Filters) (List.map eI p1.Codes) := by kernel_rfl
theorem asx (x9 x10 : Int) (b0 : aA) (b1_0 b1_1 : Int) (b1_2 : Bool) (b1_3 b1_4 : Str) (b1_5 : Int) (b1_6 : Bool) (b1_7 b1_8 : Int) (b1_9 : Str) (b1_10 : Int) (b1_11 : List aB) (b1_12 b1_13 : Str) (b1_14 : Bool) (b1_15 b1_16 b1_17 : Int) (b1_18 : Bool) (b1_19 : Int) (b1_20 b1_21 : Str) (b1_22 : Int) (b1_23 : Bool) (b1_24 b1_25 : Int) (b1_26 : Str) (b1_27 : Int) (b1_28 : List aB) (b1_29 : Bool) (b1_30 : Int) (q0 : aC) (w50131 : List aG) (w50132 : List Str) (w50133 : List Int) : eA SE (C60 Γ γ73 γ71 γ41 γ58) Λ2 J 60 1 [1, 1, 0, 1, 0] (bU [(0, .ptr 2000000000 0), (4, .ptr 1000000000 0), (5, .ptr 1000000001 0), (9, dIq x9), (10, dIq x10)] [⟨58, (List.map AV.d (aA.enc b0))⟩, ⟨58, [dIq b1_0, dIq b1_1, dBq b1_2, dSq b1_3, dSq b1_4, dIq b1_5, dBq b1_6, dIq b1_7, dIq b1_8, dSq b1_9, dIq b1_10, .d (.sl aB.ks (List.map aB.enc b1_11)), dSq b1_12, dSq b1_13, dBq b1_14, dIq b1_15, dIq b1_16, dIq b1_17, dBq b1_18, dIq b1_19, dSq b1_20, dSq b1_21, dIq b1_22, dBq b1_23, dIq b1_24, dIq b1_25, dSq b1_26, dIq b1_27, .d (.sl aB.ks (List.map aB.enc b1_28)), dBq b1_29, dIq b1_30, .row 50131, .row 50132, .row 50133]⟩] [⟨80, (List.map AV.d (aC.enc q0))⟩] [] [(50131, ⟨aG.ks, 93, 32, (List.map aG.enc w50131)⟩), (50132, ⟨[.str], 9, 16, (List.map bA w50132)⟩), (50133, ⟨[.int .i64], 3, 8, (List.map eI w50133)⟩)]) =
 cond (decide (x10 < x9)) (
 cond (b1_0 == 8) (
  γ71 [.ptr 2000000000 0, dIq 88] [⟨80, (aC.avs q0)⟩] [] (fun e3 =>
  (some (.pan (.ifc 77 (aH.av e3))))) fun r2 =>
  γ41 [.ptr 2000000000 0] [⟨80, (aC.avs r2.2)⟩] [] (fun e5 =>
  (some (.pan (.ifc 77 (aH.av e5))))) fun r4 =>
  γ58 [.ptr 2000000000 0, dIq 2] [⟨80, (aC.avs r4.2)⟩] [] (fun e7 =>
  (some (.pan (.ifc 77 (aH.av e7))))) fun r6 =>
  cond (decide ((lM aG.enc w50131 + lM aG.enc [(aG.mk r2.1 r4.1 (r6.1 == 1))]) * 32 ≤ 140737488355328)) (
  afQ (C60 Γ γ73 γ71 γ41 γ58) Λ2 J x9 (w6 (x10 + 1)) (aA.enc b0) b1_0 b1_1 b1_2 b1_3 b1_4 b1_5 b1_6 b1_7 b1_8 b1_9 b1_10 (List.map aB.enc b1_11) b1_12 b1_13 b1_14 b1_15 b1_16 b1_17 b1_18 b1_19 b1_20 b1_21 b1_22 b1_23 b1_24 b1_25 b1_26 b1_27 (List.map aB.enc b1_28) b1_29 b1_30 (aC.enc r6.2) (((List.map aG.enc w50131) ++ (List.map aG.enc [(aG.mk r2.1 r4.1 (r6.1 == 1))]))) (List.map bA w50132) (List.map eI w50133)) none) (
 cond (b1_0 == 10) (
  γ71 [.ptr 2000000000 0, dIq 88] [⟨80, (aC.avs q0)⟩] [] (fun e9 =>
  (some (.pan (.ifc 77 (aH.av e9))))) fun r8 =>
  cond (decide ((lM bA w50132 + lM bA [r8.1]) * 16 ≤ 140737488355328)) (
  afQ (C60 Γ γ73 γ71 γ41 γ58) Λ2 J x9 (w6 (x10 + 1)) (aA.enc b0) b1_0 b1_1 b1_2 b1_3 b1_4 b1_5 b1_6 b1_7 b1_8 b1_9 b1_10 (List.map aB.enc b1_11) b1_12 b1_13 b1_14 b1_15 b1_16 b1_17 b1_18 b1_19 b1_20 b1_21 b1_22 b1_23 b1_24 b1_25 b1_26 b1_27 (List.map aB.enc b1_28) b1_29 b1_30 (aC.enc r8.2) (List.map aG.enc w50131) (((List.map bA w50132) ++ (List.map bA [r8.1]))) (List.map eI w50133)) none) (
 γ41 [.ptr 2000000000 0] [⟨80, (aC.avs q0)⟩] [] (fun e11 =>
  (some (.pan (.ifc 77 (aH.av e11))))) fun r10 =>
 cond (decide ((lM eI w50133 + lM eI [r10.1]) * 8 ≤ 140737488355328)) (
  afQ (C60 Γ γ73 γ71 γ41 γ58) Λ2 J x9 (w6 (x10 + 1)) (aA.enc b0) b1_0 b1_1 b1_2 b1_3 b1_4 b1_5 b1_6 b1_7 b1_8 b1_9 b1_10 (List.map aB.enc b1_11) b1_12 b1_13 b1_14 b1_15 b1_16 b1_17 b1_18 b1_19 b1_20 b1_21 b1_22 b1_23 b1_24 b1_25 b1_26 b1_27 (List.map aB.enc b1_28) b1_29 b1_30 (aC.enc r10.2) (List.map aG.enc w50131) (List.map bA w50132) (((List.map eI w50133) ++ (List.map eI [r10.1])))) none))) (
 (some (k9 (((aA.mk b1_0 b1_1 b1_2 (aE.mk b1_3 b1_4 b1_5 b1_6 b1_7 b1_8 b1_9 b1_10 b1_11) b1_12 b1_13 b1_14 b1_15 b1_16 b1_17 (aW.mk b1_18 b1_19 (aE.mk b1_20 b1_21 b1_22 b1_23 b1_24 b1_25 b1_26 b1_27 b1_28)) b1_29 b1_30 w50131 w50132 w50133), q0))))) := by kernel_rfl
end
abbrev X60 : aS := C60 gG (cP 73 dK) (cP 71 cY) (cP 41 bW) (cP 58 cJ)
theorem aqf : X60 = aQ gG := by unfold X60 C60; rw [dF fun _ h => h, dF fun _ h => h, dF fun _ h => h, dF fun _ h => h]
abbrev ar5 := afQ X60 (dQ SE gG (SE.hl 60) (SE.hr 60)) (J0 SE X60)
theorem wF : ∀ (fu : Nat) (x9 x10 : Int) (b0 : aA) (b1_0 b1_1 : Int) (b1_2 : Bool) (b1_3 b1_4 : Str) (b1_5 : Int) (b1_6 : Bool) (b1_7 b1_8 : Int) (b1_9 : Str) (b1_10 : Int) (b1_11 : List aB) (b1_12 b1_13 : Str) (b1_14 : Bool) (b1_15 b1_16 b1_17 : Int) (b1_18 : Bool) (b1_19 : Int) (b1_20 b1_21 : Str) (b1_22 : Int) (b1_23 : Bool) (b1_24 b1_25 : Int) (b1_26 : Str) (b1_27 : Int) (b1_28 : List aB) (b1_29 : Bool) (b1_30 : Int) (q0 : aC) (w50131 : List aG) (w50132 : List Str) (w50133 : List Int), Le (Option.map dW (cA fu x9 x10 b0 b1_0 b1_1 b1_2 b1_3 b1_4 b1_5 b1_6 b1_7 b1_8 b1_9 b1_10 b1_11 b1_12 b1_13 b1_14 b1_15 b1_16 b1_17 b1_18 b1_19 b1_20 b1_21 b1_22 b1_23 b1_24 b1_25 b1_26 b1_27 b1_28 b1_29 b1_30 q0 w50131 w50132 w50133)) (ar5 x9 x10 (aA.enc b0) b1_0 b1_1 b1_2 b1_3 b1_4 b1_5 b1_6 b1_7 b1_8 b1_9 b1_10 (List.map aB.enc b1_11) b1_12 b1_13 b1_14 b1_15 b1_16 b1_17 b1_18 b1_19 b1_20 b1_21 b1_22 b1_23 b1_24 b1_25 b1_26 b1_27 (List.map aB.enc b1_28) b1_29 b1_30 (aC.enc q0) (List.map aG.enc w50131) (List.map bA w50132) (List.map eI w50133)) := by
 intro fu
 induction fu with
 | zero => intros; exact le_none
 | succ fu ih =>
  intro x9 x10 b0 b1_0 b1_1 b1_2 b1_3 b1_4 b1_5 b1_6 b1_7 b1_8 b1_9 b1_10 b1_11 b1_12 b1_13 b1_14 b1_15 b1_16 b1_17 b1_18 b1_19 b1_20 b1_21 b1_22 b1_23 b1_24 b1_25 b1_26 b1_27 b1_28 b1_29 b1_30 q0 w50131 w50132 w50133
  refine Le.trans ?_ (le_of_eq ((bX aqf).trans (asx ..)).symm)
  unfold cA
  refine lC ?_ ?_
  ·refine lC ?_ ?_
   ·refine bO (good := good) eX dI (dJ _ _) (fun e3 _ => ?_) (fun r2 _ => ?_)
    ·exact aF rfl
    ·refine bO (good := good) eX bE (bH _) (fun e5 _ => ?_) (fun r4 _ => ?_)
     ·exact aF rfl
     ·refine bO (good := good) eX fZ (gL _ _) (fun e7 _ => ?_) (fun r6 _ => ?_)
      ·exact aF rfl
      ·refine lG (by simp only [EN]) ?_
       (try simp only [EN]); exact ih x9 (w6 (x10 + 1)) b0 b1_0 b1_1 b1_2 b1_3 b1_4 b1_5 b1_6 b1_7 b1_8 b1_9 b1_10 b1_11 b1_12 b1_13 b1_14 b1_15 b1_16 b1_17 b1_18 b1_19 b1_20 b1_21 b1_22 b1_23 b1_24 b1_25 b1_26 b1_27 b1_28 b1_29 b1_30 r6.2 (w50131 ++ [(aG.mk r2.1 r4.1 (r6.1 == 1))]) w50132 w50133
   ·refine lC ?_ ?_
    ·refine bO (good := good) eX dI (dJ _ _) (fun e9 _ => ?_) (fun r8 _ => ?_)
     ·exact aF rfl
     ·refine lG (by simp only [EN]) ?_
      (try simp only [EN]); exact ih x9 (w6 (x10 + 1)) b0 b1_0 b1_1 b1_2 b1_3 b1_4 b1_5 b1_6 b1_7 b1_8 b1_9 b1_10 b1_11 b1_12 b1_13 b1_14 b1_15 b1_16 b1_17 b1_18 b1_19 b1_20 b1_21 b1_22 b1_23 b1_24 b1_25 b1_26 b1_27 b1_28 b1_29 b1_30 r8.2 w50131 (w50132 ++ [r8.1]) w50133
    ·refine bO (good := good) eX bE (bH _) (fun e11 _ => ?_) (fun r10 _ => ?_)
     ·exact aF rfl
     ·refine lG (by simp only [EN]) ?_
      (try simp only [EN]); exact ih x9 (w6 (x10 + 1)) b0 b1_0 b1_1 b1_2 b1_3 b1_4 b1_5 b1_6 b1_7 b1_8 b1_9 b1_10 b1_11 b1_12 b1_13 b1_14 b1_15 b1_16 b1_17 b1_18 b1_19 b1_20 b1_21 b1_22 b1_23 b1_24 b1_25 b1_26 b1_27 b1_28 b1_29 b1_30 r10.2 w50131 w50132 (w50133 ++ [r10.1])
  ·exact aF rfl
theorem iW (p0 : aC) (p1 : aA) : Le (Option.map dW (cS p0 p1)) (bD SE 60 [.ptr 2000000000 0, .agg [dIq p1.Kind, dIq p1.ID, dBq p1.Dup, dSq p1.Message.Topic, dSq p1.Message.Payload, dIq p1.Message.Level, dBq p1.Message.Retain, dIq p1.Message.Priority, dIq p1.Message.Expires, dSq p1.Message.From, dIq p1.Message.Seq, .d (.sl aB.ks (List.map aB.enc p1.Message.Props)), dSq p1.Client, dSq p1.User, dBq p1.Clean, dIq p1.Keep, dIq p1.Expiry, dIq p1.Window, dBq p1.Will.Set, dIq p1.Will.Delay, dSq p1.Will.Message.Topic, dSq p1.Will.Message.Payload, dIq p1.Will.Message.Level, dBq p1.Will.Message.Retain, dIq p1.Will.Message.Priority, dIq p1.Will.Message.Expires, dSq p1.Will.Message.From, dIq p1.Will.Message.Seq, .d (.sl aB.ks (List.map aB.enc p1.Will.Message.Props)), dBq p1.Present, dIq p1.Code, .row 2000000000, .row 2000000001, .row 2000000002]] [⟨80, (aC.avs p0)⟩] [⟨aG.ks, 93, 32, (List.map aG.enc p1.Subs)⟩, ⟨[.str], 9, 16, (List.map bA p1.Filters)⟩, ⟨[.int .i64], 3, 8, (List.map eI p1.Codes)⟩]) := by
 refine aY aqf rfl ?_
 refine Le.trans ?_ (le_of_eq (T60 ..).symm)
 unfold cS
 refine bO (good := good) eX pL (qE _ _) (fun e1 _ => ?_) (fun r0 _ => ?_)
 ·exact aF rfl
 ·(try simp only [EN]); exact wF fuel r0.1 0 ((aA.mk 0 0 false (aE.mk [] [] 0 false 0 0 [] 0 []) [] [] false 0 0 0 (aW.mk false 0 (aE.mk [] [] 0 false 0 0 [] 0 [])) false 0 [] [] [])) p1.Kind p1.ID p1.Dup p1.Message.Topic p1.Message.Payload p1.Message.Level p1.Message.Retain p1.Message.Priority p1.Message.Expires p1.Message.From p1.Message.Seq p1.Message.Props p1.Client p1.User p1.Clean p1.Keep p1.Expiry p1.Window p1.Will.Set p1.Will.Delay p1.Will.Message.Topic p1.Will.Message.Payload p1.Will.Message.Level p1.Will.Message.Retain p1.Will.Message.Priority p1.Will.Message.Expires p1.Will.Message.From p1.Will.Message.Seq p1.Will.Message.Props p1.Present p1.Code r0.2 p1.Subs p1.Filters p1.Codes
section
variable (Γ : Fun) (γ57 : Gp aH (aA × aC)) (γ58 γ41 : Gp aH (Int × aC)) (γ59 : Gp aH (aE × aC)) (γ60 : Gp aH (aA × aC)) (Λ2 J : Lam)
def C43 : aS := jJ (jJ (jJ (jJ (jJ (aQ Γ) 57 eQ γ57) 58 cJ γ58) 41 bW γ41) 59 cV γ59) 60 dW γ60
theorem T43 (p0 : aC) (p1 : Int) : bS SE (C43 Γ γ57 γ58 γ41 γ59 γ60) Λ2 J 43 [.ptr 2000000000 0, dIq p1] [⟨80, (aC.avs p0)⟩] [] =
 cond (p1 == 1) (
 γ57 [.ptr 2000000000 0] [⟨80, (aC.avs p0)⟩] [] (fun e1 =>
  (some (.pan (.ifc 77 (aH.av e1))))) fun r0 =>
 (some (kA (r0.1, r0.2)))) (
 cond (p1 == 2) (
 γ58 [.ptr 2000000000 0, dIq 2] [⟨80, (aC.avs p0)⟩] [] (fun e3 =>
  (some (.pan (.ifc 77 (aH.av e3))))) fun r2 =>
 γ41 [.ptr 2000000000 0] [⟨80, (aC.avs r2.2)⟩] [] (fun e5 =>
  (some (.pan (.ifc 77 (aH.av e5))))) fun r4 =>
 (some (kA (((aA.mk p1 0 false (aE.mk [] [] 0 false 0 0 [] 0 []) [] [] false 0 0 0 (aW.mk false 0 (aE.mk [] [] 0 false 0 0 [] 0 [])) (r2.1 == 1) r4.1 [] [] []), r4.2))))) (
 cond (p1 == 3) (
 γ41 [.ptr 2000000000 0] [⟨80, (aC.avs p0)⟩] [] (fun e7 =>
  (some (.pan (.ifc 77 (aH.av e7))))) fun r6 =>
 γ58 [.ptr 2000000000 0, dIq 2] [⟨80, (aC.avs r6.2)⟩] [] (fun e9 =>
  (some (.pan (.ifc 77 (aH.av e9))))) fun r8 =>
 γ59 [.ptr 2000000000 0] [⟨80, (aC.avs r8.2)⟩] [] (fun e11 =>
  (some (.pan (.ifc 77 (aH.av e11))))) fun r10 =>
 (some (kA (((aA.mk p1 r6.1 (r8.1 == 1) r10.1 [] [] false 0 0 0 (aW.mk false 0 (aE.mk [] [] 0 false 0 0 [] 0 [])) false 0 [] [] []), r10.2))))) (
 cond (p1 == 4) (
 γ41 [.ptr 2000000000 0] [⟨80, (aC.avs p0)⟩] [] (fun e13 =>
  (some (.pan (.ifc 77 (aH.av e13))))) fun r12 =>
 (some (kA (((aA.mk p1 r12.1 false (aE.mk [] [] 0 false 0 0 [] 0 []) [] [] false 0 0 0 (aW.mk false 0 (aE.mk [] [] 0 false 0 0 [] 0 [])) false 0 [] [] []), r12.2))))) (
 cond (p1 == 5) (
 γ41 [.ptr 2000000000 0] [⟨80, (aC.avs p0)⟩] [] (fun e15 =>
  (some (.pan (.ifc 77 (aH.av e15))))) fun r14 =>
 (some (kA (((aA.mk p1 r14.1 false (aE.mk [] [] 0 false 0 0 [] 0 []) [] [] false 0 0 0 (aW.mk false 0 (aE.mk [] [] 0 false 0 0 [] 0 [])) false 0 [] [] []), r14.2))))) (
 cond (p1 == 6) (
 γ41 [.ptr 2000000000 0] [⟨80, (aC.avs p0)⟩] [] (fun e17 =>
  (some (.pan (.ifc 77 (aH.av e17))))) fun r16 =>
 (some (kA (((aA.mk p1 r16.1 false (aE.mk [] [] 0 false 0 0 [] 0 []) [] [] false 0 0 0 (aW.mk false 0 (aE.mk [] [] 0 false 0 0 [] 0 [])) false 0 [] [] []), r16.2))))) (
 cond (p1 == 7) (
 γ41 [.ptr 2000000000 0] [⟨80, (aC.avs p0)⟩] [] (fun e19 =>
  (some (.pan (.ifc 77 (aH.av e19))))) fun r18 =>
 (some (kA (((aA.mk p1 r18.1 false (aE.mk [] [] 0 false 0 0 [] 0 []) [] [] false 0 0 0 (aW.mk false 0 (aE.mk [] [] 0 false 0 0 [] 0 [])) false 0 [] [] []), r18.2))))) (
 cond (p1 == 8) (
 γ41 [.ptr 2000000000 0] [⟨80, (aC.avs p0)⟩] [] (fun e21 =>
  (some (.pan (.ifc 77 (aH.av e21))))) fun r20 =>
 γ60 [.ptr 2000000000 0, .agg [dIq p1, dIq r20.1, dBq false, dSq [], dSq [], dIq 0, dBq false, dIq 0, dIq 0, dSq [], dIq 0, .d (.sl aB.ks (List.map aB.enc [])), dSq [], dSq [], dBq false, dIq 0, dIq 0, dIq 0, dBq false, dIq 0, dSq [], dSq [], dIq 0, dBq false, dIq 0, dIq 0, dSq [], dIq 0, .d (.sl aB.ks (List.map aB.enc [])), dBq false, dIq 0, .row 2000000000, .row 2000000001, .row 2000000002]] [⟨80, (aC.avs r20.2)⟩] [⟨aG.ks, 93, 32, (List.map aG.enc [])⟩, ⟨[.str], 9, 16, (List.map bA [])⟩, ⟨[.int .i64], 3, 8, (List.map eI [])⟩] (fun e23 =>
  (some (.pan (.ifc 77 (aH.av e23))))) fun r22 =>
 (some (kA (r22.1, r22.2)))) (
 cond (p1 == 9) (
 γ41 [.ptr 2000000000 0] [⟨80, (aC.avs p0)⟩] [] (fun e25 =>
  (some (.pan (.ifc 77 (aH.av e25))))) fun r24 =>
 γ60 [.ptr 2000000000 0, .agg [dIq p1, dIq r24.1, dBq false, dSq [], dSq [], dIq 0, dBq false, dIq 0, dIq 0, dSq [], dIq 0, .d (.sl aB.ks (List.map aB.enc [])), dSq [], dSq [], dBq false, dIq 0, dIq 0, dIq 0, dBq false, dIq 0, dSq [], dSq [], dIq 0, dBq false, dIq 0, dIq 0, dSq [], dIq 0, .d (.sl aB.ks (List.map aB.enc [])), dBq false, dIq 0, .row 2000000000, .row 2000000001, .row 2000000002]] [⟨80, (aC.avs r24.2)⟩] [⟨aG.ks, 93, 32, (List.map aG.enc [])⟩, ⟨[.str], 9, 16, (List.map bA [])⟩, ⟨[.int .i64], 3, 8, (List.map eI [])⟩] (fun e27 =>
  (some (.pan (.ifc 77 (aH.av e27))))) fun r26 =>
 (some (kA (r26.1, r26.2)))) (
 cond (p1 == 10) (
 γ41 [.ptr 2000000000 0] [⟨80, (aC.avs p0)⟩] [] (fun e29 =>
  (some (.pan (.ifc 77 (aH.av e29))))) fun r28 =>
 γ60 [.ptr 2000000000 0, .agg [dIq p1, dIq r28.1, dBq false, dSq [], dSq [], dIq 0, dBq false, dIq 0, dIq 0, dSq [], dIq 0, .d (.sl aB.ks (List.map aB.enc [])), dSq [], dSq [], dBq false, dIq 0, dIq 0, dIq 0, dBq false, dIq 0, dSq [], dSq [], dIq 0, dBq false, dIq 0, dIq 0, dSq [], dIq 0, .d (.sl aB.ks (List.map aB.enc [])), dBq false, dIq 0, .row 2000000000, .row 2000000001, .row 2000000002]] [⟨80, (aC.avs r28.2)⟩] [⟨aG.ks, 93, 32, (List.map aG.enc [])⟩, ⟨[.str], 9, 16, (List.map bA [])⟩, ⟨[.int .i64], 3, 8, (List.map eI [])⟩] (fun e31 =>
  (some (.pan (.ifc 77 (aH.av e31))))) fun r30 =>
 (some (kA (r30.1, r30.2)))) (
 cond (p1 == 11) (
 γ41 [.ptr 2000000000 0] [⟨80, (aC.avs p0)⟩] [] (fun e33 =>
  (some (.pan (.ifc 77 (aH.av e33))))) fun r32 =>
 γ60 [.ptr 2000000000 0, .agg [dIq p1, dIq r32.1, dBq false, dSq [], dSq [], dIq 0, dBq false, dIq 0, dIq 0, dSq [], dIq 0, .d (.sl aB.ks (List.map aB.enc [])), dSq [], dSq [], dBq false, dIq 0, dIq 0, dIq 0, dBq false, dIq 0, dSq [], dSq [], dIq 0, dBq false, dIq 0, dIq 0, dSq [], dIq 0, .d (.sl aB.ks (List.map aB.enc [])), dBq false, dIq 0, .row 2000000000, .row 2000000001, .row 2000000002]] [⟨80, (aC.avs r32.2)⟩] [⟨aG.ks, 93, 32, (List.map aG.enc [])⟩, ⟨[.str], 9, 16, (List.map bA [])⟩, ⟨[.int .i64], 3, 8, (List.map eI [])⟩] (fun e35 =>
  (some (.pan (.ifc 77 (aH.av e35))))) fun r34 =>
 (some (kA (r34.1, r34.2)))) (
 cond (p1 == 14) (
 γ41 [.ptr 2000000000 0] [⟨80, (aC.avs p0)⟩] [] (fun e37 =>
  (some (.pan (.ifc 77 (aH.av e37))))) fun r36 =>
 (some (kA (((aA.mk p1 0 false (aE.mk [] [] 0 false 0 0 [] 0 []) [] [] false 0 0 0 (aW.mk false 0 (aE.mk [] [] 0 false 0 0 [] 0 [])) false r36.1 [] [] []), r36.2))))) (
 (some (kA (((aA.mk p1 0 false (aE.mk [] [] 0 false 0 0 [] 0 []) [] [] false 0 0 0 (aW.mk false 0 (aE.mk [] [] 0 false 0 0 [] 0 [])) false 0 [] [] []), p0)))))))))))))))) := by kernel_rfl
end
abbrev X43 : aS := C43 gG (cP 57 eQ) (cP 58 cJ) (cP 41 bW) (cP 59 cV) (cP 60 dW)
theorem atY : X43 = aQ gG := by unfold X43 C43; rw [dF fun _ h => h, dF fun _ h => h, dF fun _ h => h, dF fun _ h => h, dF fun _ h => h]
theorem pT (p0 : aC) (p1 : Int) : Le (Option.map eV (dZ p0 p1)) (bD SE 43 [.ptr 2000000000 0, dIq p1] [⟨80, (aC.avs p0)⟩] []) := by
 refine aY atY rfl ?_
 refine Le.trans ?_ (le_of_eq (T43 ..).symm)
 unfold dZ
 refine lC ?_ ?_
 ·refine bO (good := good) eX wD (wI _) (fun e1 _ => ?_) (fun r0 _ => ?_)
  ·exact aF rfl
  ·exact aF rfl
 ·refine lC ?_ ?_
  ·refine bO (good := good) eX fZ (gL _ _) (fun e3 _ => ?_) (fun r2 _ => ?_)
   ·exact aF rfl
   ·refine bO (good := good) eX bE (bH _) (fun e5 _ => ?_) (fun r4 _ => ?_)
    ·exact aF rfl
    ·exact aF rfl
  ·refine lC ?_ ?_
   ·refine bO (good := good) eX bE (bH _) (fun e7 _ => ?_) (fun r6 _ => ?_)
    ·exact aF rfl
    ·refine bO (good := good) eX fZ (gL _ _) (fun e9 _ => ?_) (fun r8 _ => ?_)
     ·exact aF rfl
     ·refine bO (good := good) eX nY (oS _) (fun e11 _ => ?_) (fun r10 _ => ?_)
      ·exact aF rfl
      ·exact aF rfl
   ·refine lC ?_ ?_
    ·refine bO (good := good) eX bE (bH _) (fun e13 _ => ?_) (fun r12 _ => ?_)
     ·exact aF rfl
     ·exact aF rfl
    ·refine lC ?_ ?_
     ·refine bO (good := good) eX bE (bH _) (fun e15 _ => ?_) (fun r14 _ => ?_)
      ·exact aF rfl
      ·exact aF rfl
     ·refine lC ?_ ?_
      ·refine bO (good := good) eX bE (bH _) (fun e17 _ => ?_) (fun r16 _ => ?_)
       ·exact aF rfl
       ·exact aF rfl
      ·refine lC ?_ ?_
       ·refine bO (good := good) eX bE (bH _) (fun e19 _ => ?_) (fun r18 _ => ?_)
        ·exact aF rfl
        ·exact aF rfl
       ·refine lC ?_ ?_
        ·refine bO (good := good) eX bE (bH _) (fun e21 _ => ?_) (fun r20 _ => ?_)
         ·exact aF rfl
         ·refine bO (good := good) eX iI (by (try simp only [EN]); exact iW r20.2 ((aA.mk p1 r20.1 false (aE.mk [] [] 0 false 0 0 [] 0 []) [] [] false 0 0 0 (aW.mk false 0 (aE.mk [] [] 0 false 0 0 [] 0 [])) false 0 [] [] []))) (fun e23 _ => ?_) (fun r22 _ => ?_)
          ·exact aF rfl
          ·exact aF rfl
        ·refine lC ?_ ?_
         ·refine bO (good := good) eX bE (bH _) (fun e25 _ => ?_) (fun r24 _ => ?_)
          ·exact aF rfl
          ·refine bO (good := good) eX iI (by (try simp only [EN]); exact iW r24.2 ((aA.mk p1 r24.1 false (aE.mk [] [] 0 false 0 0 [] 0 []) [] [] false 0 0 0 (aW.mk false 0 (aE.mk [] [] 0 false 0 0 [] 0 [])) false 0 [] [] []))) (fun e27 _ => ?_) (fun r26 _ => ?_)
           ·exact aF rfl
           ·exact aF rfl
         ·refine lC ?_ ?_
          ·refine bO (good := good) eX bE (bH _) (fun e29 _ => ?_) (fun r28 _ => ?_)
           ·exact aF rfl
           ·refine bO (good := good) eX iI (by (try simp only [EN]); exact iW r28.2 ((aA.mk p1 r28.1 false (aE.mk [] [] 0 false 0 0 [] 0 []) [] [] false 0 0 0 (aW.mk false 0 (aE.mk [] [] 0 false 0 0 [] 0 [])) false 0 [] [] []))) (fun e31 _ => ?_) (fun r30 _ => ?_)
            ·exact aF rfl
            ·exact aF rfl
          ·refine lC ?_ ?_
           ·refine bO (good := good) eX bE (bH _) (fun e33 _ => ?_) (fun r32 _ => ?_)
            ·exact aF rfl
            ·refine bO (good := good) eX iI (by (try simp only [EN]); exact iW r32.2 ((aA.mk p1 r32.1 false (aE.mk [] [] 0 false 0 0 [] 0 []) [] [] false 0 0 0 (aW.mk false 0 (aE.mk [] [] 0 false 0 0 [] 0 [])) false 0 [] [] []))) (fun e35 _ => ?_) (fun r34 _ => ?_)
             ·exact aF rfl
             ·exact aF rfl
           ·refine lC ?_ ?_
            ·refine bO (good := good) eX bE (bH _) (fun e37 _ => ?_) (fun r36 _ => ?_)
             ·exact aF rfl
             ·exact aF rfl
            ·exact aF rfl
section
variable (Γ : Fun) (γ41 : Gp aH (Int × aC)) (γ42 : Gp aH (Unit)) (γ43 : Gp aH (aA × aC)) (γ33 : Gm (Int)) (Λ2 J : Lam)
def C28 : aS := bM (jJ (jJ (jJ (aQ Γ) 41 bW γ41) 42 eE γ42) 43 eV γ43) 33 aI γ33
theorem T28 (p0 : List Int) : adE SE (C28 Γ γ41 γ42 γ43 γ33) 28 ajU [.d (.sl [.int .u8] (List.map (aJ .u8) p0))] [] [] =
 cond (decide ((lM (aJ .u8) p0 : Int) > 4096)) (
 (some (kP (((aA.mk 0 0 false (aE.mk [] [] 0 false 0 0 [] 0 []) [] [] false 0 0 0 (aW.mk false 0 (aE.mk [] [] 0 false 0 0 [] 0 [])) false 0 [] [] []), 5))))) (
 γ41 [.ptr 2000000000 0] [⟨80, (aC.avs (aC.mk p0 0))⟩] [] (fun e1 =>
 (some (kP (((aA.mk 0 0 false (aE.mk [] [] 0 false 0 0 [] 0 []) [] [] false 0 0 0 (aW.mk false 0 (aE.mk [] [] 0 false 0 0 [] 0 [])) false 0 [] [] []), e1.code))))) fun r0 =>
 cond (decide (r0.1 < 1)) (
 γ42 [dBq true, dIq 10] [] [] (fun e3 =>
  (some (kP (((aA.mk 0 0 false (aE.mk [] [] 0 false 0 0 [] 0 []) [] [] false 0 0 0 (aW.mk false 0 (aE.mk [] [] 0 false 0 0 [] 0 [])) false 0 [] [] []), e3.code))))) fun r2 =>
 γ43 [.ptr 2000000000 0, dIq r0.1] [⟨80, (aC.avs r0.2)⟩] [] (fun e5 =>
  (some (kP (((aA.mk 0 0 false (aE.mk [] [] 0 false 0 0 [] 0 []) [] [] false 0 0 0 (aW.mk false 0 (aE.mk [] [] 0 false 0 0 [] 0 [])) false 0 [] [] []), e5.code))))) fun r4 =>
 γ42 [dBq (decide (r4.2.at_ < (lM (aJ .u8) p0 : Int))), dIq 2] [] [] (fun e7 =>
  (some (kP (((aA.mk 0 0 false (aE.mk [] [] 0 false 0 0 [] 0 []) [] [] false 0 0 0 (aW.mk false 0 (aE.mk [] [] 0 false 0 0 [] 0 [])) false 0 [] [] []), e7.code))))) fun r6 =>
 γ33 [aA.av r4.1] [] [] fun r8 =>
 γ42 [dBq (r8 != 0), dIq r8] [] [] (fun e10 =>
  (some (kP (((aA.mk 0 0 false (aE.mk [] [] 0 false 0 0 [] 0 []) [] [] false 0 0 0 (aW.mk false 0 (aE.mk [] [] 0 false 0 0 [] 0 [])) false 0 [] [] []), e10.code))))) fun r9 =>
 (some (kP (r4.1, 0)))) (
 γ42 [dBq (decide (r0.1 > 14)), dIq 10] [] [] (fun e12 =>
 (some (kP (((aA.mk 0 0 false (aE.mk [] [] 0 false 0 0 [] 0 []) [] [] false 0 0 0 (aW.mk false 0 (aE.mk [] [] 0 false 0 0 [] 0 [])) false 0 [] [] []), e12.code))))) fun r11 =>
 γ43 [.ptr 2000000000 0, dIq r0.1] [⟨80, (aC.avs r0.2)⟩] [] (fun e14 =>
 (some (kP (((aA.mk 0 0 false (aE.mk [] [] 0 false 0 0 [] 0 []) [] [] false 0 0 0 (aW.mk false 0 (aE.mk [] [] 0 false 0 0 [] 0 [])) false 0 [] [] []), e14.code))))) fun r13 =>
 γ42 [dBq (decide (r13.2.at_ < (lM (aJ .u8) p0 : Int))), dIq 2] [] [] (fun e16 =>
 (some (kP (((aA.mk 0 0 false (aE.mk [] [] 0 false 0 0 [] 0 []) [] [] false 0 0 0 (aW.mk false 0 (aE.mk [] [] 0 false 0 0 [] 0 [])) false 0 [] [] []), e16.code))))) fun r15 =>
 γ33 [aA.av r13.1] [] [] fun r17 =>
 γ42 [dBq (r17 != 0), dIq r17] [] [] (fun e19 =>
 (some (kP (((aA.mk 0 0 false (aE.mk [] [] 0 false 0 0 [] 0 []) [] [] false 0 0 0 (aW.mk false 0 (aE.mk [] [] 0 false 0 0 [] 0 [])) false 0 [] [] []), e19.code))))) fun r18 =>
 (some (kP (r13.1, 0))))) := by kernel_rfl
end
abbrev X28 : aS := C28 gG (cP 41 bW) (cP 42 eE) (cP 43 eV) (cT 33 aI)
theorem atC : X28 = aQ gG := by unfold X28 C28; rw [dF fun _ h => h, dF fun _ h => h, dF fun _ h => h, bK fun _ h => h]
theorem ahm (p0 : List Int) : Le (Option.map kP (o8 p0)) (bD SE 28 [.d (.sl [.int .u8] (List.map (aJ .u8) p0))] [] []) := by
 refine amk atC rfl ?_
 refine Le.trans ?_ (le_of_eq (T28 ..).symm)
 unfold o8
 refine lD (by simp only [EN]) ?_ ?_
 ·exact aF rfl
 ·refine bO (good := good) eX bE (bH _) (fun e1 _ => ?_) (fun r0 _ => ?_)
  ·exact aF rfl
  ·refine lC ?_ ?_
   ·refine bO (good := good) eX fD (fN _ _) (fun e3 _ => ?_) (fun r2 _ => ?_)
    ·exact aF rfl
    ·refine bO (good := good) eX oO (pT _ _) (fun e5 _ => ?_) (fun r4 _ => ?_)
     ·exact aF rfl
     ·refine bO (good := good) eX fD (by (try simp only [EN]); exact fN (decide (r4.2.at_ < (List.length p0 : Int))) 2) (fun e7 _ => ?_) (fun r6 _ => ?_)
      ·exact aF rfl
      ·refine lQ eX aZ (uD _) fun r8 _ => ?_
       refine bO (good := good) eX fD (fN _ _) (fun e10 _ => ?_) (fun r9 _ => ?_)
       ·exact aF rfl
       ·exact aF rfl
   ·refine bO (good := good) eX fD (fN _ _) (fun e12 _ => ?_) (fun r11 _ => ?_)
    ·exact aF rfl
    ·refine bO (good := good) eX oO (pT _ _) (fun e14 _ => ?_) (fun r13 _ => ?_)
     ·exact aF rfl
     ·refine bO (good := good) eX fD (by (try simp only [EN]); exact fN (decide (r13.2.at_ < (List.length p0 : Int))) 2) (fun e16 _ => ?_) (fun r15 _ => ?_)
      ·exact aF rfl
      ·refine lQ eX aZ (uD _) fun r17 _ => ?_
       refine bO (good := good) eX fD (fN _ _) (fun e19 _ => ?_) (fun r18 _ => ?_)
       ·exact aF rfl
       ·exact aF rfl
def ak5 (C : aS) (Λ2 J : Lam) (a0 : List (List D)) (a1 : Int) (a2 : List (List D)) : Res := lab SE C Λ2 J 19 0 [1, 1, 1, 0, 0] (bU [(0, .d (.sl [.int .u8] a0)), (4, .row 3004), (5, dIq a1)] [] [] [] [(3004, ⟨aA.ks, 58, 416, a2⟩)])
section
variable (Γ : Fun) (γ21 : Gm (Int × Int × Int)) (γ28 : Gm (aA × Int)) (Λ2 J : Lam)
def C19 : aS := bM (bM (aQ Γ) 21 bN γ21) 28 kP γ28
theorem T19 (p0 : List Int) : bS SE (C19 Γ γ21 γ28) Λ2 J 19 [.d (.sl [.int .u8] (List.map (aJ .u8) p0))] [] [] =
 ak5 (C19 Γ γ21 γ28) Λ2 J (List.map (aJ .u8) p0) 0 (List.map aA.enc []) := by kernel_rfl
theorem arw (x0 : List Int) (x5 : Int) (w3004 : List aA) : eA SE (C19 Γ γ21 γ28) Λ2 J 19 0 [1, 1, 1, 0, 0] (bU [(0, .d (.sl [.int .u8] (List.map (aJ .u8) x0))), (4, .row 3004), (5, dIq x5)] [] [] [] [(3004, ⟨aA.ks, 58, 416, (List.map aA.enc w3004)⟩)]) =
 cond (decide (x5 < (lM (aJ .u8) x0 : Int))) (
 γ21 [.d (.sl [.int .u8] (List.map (aJ .u8) x0)), dIq x5] [] [] fun r0 =>
 cond (r0.2.2 != 0) (
  (some (gH ([], r0.2.2)))) (
 cond (decide (r0.1 < 0)) (
  (some (gH ([], 2)))) (
 cond (decide (r0.1 > 4096)) (
  (some (gH ([], 5)))) (
 cond (decide (r0.1 > (w6 ((lM (aJ .u8) x0 : Int) - r0.2.1)))) (
  (some (gH ([], 3)))) (
 cond (decide (0 ≤ (w6 (r0.2.1 + r0.1))) && decide ((w6 (r0.2.1 + r0.1)) ≤ ((lM (aJ .u8) x0) : Int))) (
  cond (decide (0 ≤ (w6 (r0.2.1 + r0.1))) && decide ((w6 (r0.2.1 + r0.1)) ≤ (w6 (r0.2.1 + r0.1)))) (
  cond (decide (0 ≤ r0.2.1) && decide (r0.2.1 ≤ (w6 (r0.2.1 + r0.1)))) (
   γ28 [.d (.sl [.int .u8] (cH (List.map (aJ .u8) x0) (some r0.2.1) (some (w6 (r0.2.1 + r0.1)))))] [] [] fun r1 =>
   cond (r1.2 != 0) (
   (some (gH ([], r1.2)))) (
   cond (decide ((lM aA.enc w3004 + lM aA.enc [r1.1]) * 416 ≤ 140737488355328)) (
   ak5 (C19 Γ γ21 γ28) Λ2 J (List.map (aJ .u8) x0) (w6 (r0.2.1 + r0.1)) (((List.map aA.enc w3004) ++ (List.map aA.enc [r1.1])))) none)) none) none) none))))) (
 (some (gH (w3004, 0)))) := by kernel_rfl
end
abbrev X19 : aS := C19 gG (cT 21 bN) (cT 28 kP)
theorem aqs : X19 = aQ gG := by unfold X19 C19; repeat rw [bK fun _ h => h]
abbrev asH := ak5 X19 (dQ SE gG (SE.hl 19) (SE.hr 19)) (J0 SE X19)
theorem ab2 : ∀ (fu : Nat) (x0 : List Int) (x5 : Int) (w3004 : List aA), Le (Option.map gH (nB fu x0 x5 w3004)) (asH (List.map (aJ .u8) x0) x5 (List.map aA.enc w3004)) := by
 intro fu
 induction fu with
 | zero => intros; exact le_none
 | succ fu ih =>
  intro x0 x5 w3004
  refine Le.trans ?_ (le_of_eq ((bX aqs).trans (arw ..)).symm)
  unfold nB
  refine lD (by simp only [EN]) ?_ ?_
  ·refine lQ eX fG (pG _ _) fun r0 _ => ?_
   refine lC ?_ ?_
   ·exact aF rfl
   ·refine lC ?_ ?_
    ·exact aF rfl
    ·refine lC ?_ ?_
     ·exact aF rfl
     ·refine lD (by simp only [EN]) ?_ ?_
      ·exact aF rfl
      ·refine lG (by simp only [EN]) ?_
       refine lF ?_
       refine lF ?_
       refine lQ eX afO (by (try simp only [EN]); exact ahm ((cH x0 (some r0.2.1) (some (w6 (r0.2.1 + r0.1)))))) fun r1 _ => ?_
       refine lC ?_ ?_
       ·exact aF rfl
       ·refine lG (by simp only [EN]) ?_
        (try simp only [EN]); exact ih x0 (w6 (r0.2.1 + r0.1)) (w3004 ++ [r1.1])
  ·exact aF rfl
theorem aet (p0 : List Int) : Le (Option.map gH (vD p0)) (bD SE 19 [.d (.sl [.int .u8] (List.map (aJ .u8) p0))] [] []) := by
 refine aY aqs rfl ?_
 refine Le.trans ?_ (le_of_eq (T19 ..).symm)
 unfold vD
 (try simp only [EN]); exact ab2 fuel p0 0 []
section
variable (Γ : Fun)  (Λ2 J : Lam)
def C7 : aS := aQ Γ
theorem T7 (p0 : aL) : bS SE (C7 Γ) Λ2 J 7 [aL.av p0] [] [] =
 (some (.ret [aL.av (aL.mk p0.Conn p0.Sent p0.Got true)] [] [])) := by kernel_rfl
end
abbrev X7 : aS := C7 gG
theorem Cr7 : X7 = aQ gG := rfl
theorem tM (p0 : aL) : Le (Option.map cF (nN p0)) (bD SE 7 [aL.av p0] [] []) := by
 refine aY Cr7 rfl ?_
 refine Le.trans ?_ (le_of_eq (T7 ..).symm)
 unfold nN
 exact aF rfl
section
variable (Γ : Fun) (γ14 : Gm (Int × Int × (List Int) × Int)) (γ19 : Gm ((List aA) × Int)) (γ7 : Gm (aL)) (Λ2 J : Lam)
def C13 : aS := bM (bM (bM (aQ Γ) 14 dL γ14) 19 gH γ19) 7 cF γ7
theorem T13 (p0 : aL) (p1 : List Int) : bS SE (C13 Γ γ14 γ19 γ7) Λ2 J 13 [aL.av p0, .d (.sl [.int .u8] (List.map (aJ .u8) p1))] [] [] =
 γ14 [.d (.sl [.int .u8] (List.map (aJ .u8) p1))] [] [] fun r0 =>
 cond (r0.2.2.2 != 0) (
 (some (hY ([], p0, r0.2.2.2)))) (
 γ19 [.d (.sl [.int .u8] (List.map (aJ .u8) r0.2.2.1))] [] [] fun r1 =>
 cond (r1.2 != 0) (
 (some (hY ([], p0, r1.2)))) (
 cond (r0.1 != p0.Conn) (
 (some (hY ([], p0, 8)))) (
 cond p0.Broken (
 (some (hY ([], p0, 21)))) (
 cond (decide (r0.2.1 ≤ p0.Got)) (
 (some (hY ([], p0, 26)))) (
 cond (decide ((w6 (r0.2.1 - 1)) > p0.Got)) (
 γ7 [aL.av p0] [] [] fun r2 =>
 (some (hY ([], r2, 22)))) (
 (some (hY (r1.1, (aL.mk p0.Conn p0.Sent (w6 (p0.Got + 1)) p0.Broken), 0))))))))) := by kernel_rfl
end
abbrev X13 : aS := C13 gG (cT 14 dL) (cT 19 gH) (cT 7 cF)
theorem atk : X13 = aQ gG := by unfold X13 C13; repeat rw [bK fun _ h => h]
theorem wU (p0 : aL) (p1 : List Int) : Le (Option.map hY (qQ p0 p1)) (bD SE 13 [aL.av p0, .d (.sl [.int .u8] (List.map (aJ .u8) p1))] [] []) := by
 refine aY atk rfl ?_
 refine Le.trans ?_ (le_of_eq (T13 ..).symm)
 unfold qQ
 refine lQ eX tL (aa3 _) fun r0 _ => ?_
 refine lC ?_ ?_
 ·exact aF rfl
 ·refine lQ eX adG (aet _) fun r1 _ => ?_
  refine lC ?_ ?_
  ·exact aF rfl
  ·refine lC ?_ ?_
   ·exact aF rfl
   ·refine lC ?_ ?_
    ·exact aF rfl
    ·refine lC ?_ ?_
     ·exact aF rfl
     ·refine lC ?_ ?_
      ·refine lQ eX hZ (tM _) fun r2 _ => ?_
       exact aF rfl
      ·exact aF rfl
section
variable (Γ : Fun) (γ5 : Gm (aL)) (γ12 : Gm ((List Int) × aL × Int)) (γ10 : Gm (Int × Int × Int)) (γ13 : Gm ((List aA) × aL × Int)) (γ7 : Gm (aL)) (Λ2 J : Lam)
def C9 : aS := bM (bM (bM (bM (bM (aQ Γ) 5 cF γ5) 12 iQ γ12) 10 bN γ10) 13 hY γ13) 7 cF γ7
theorem T9 : bS SE (C9 Γ γ5 γ12 γ10 γ13 γ7) Λ2 J 9 [] [] [] =
 γ5 [dIq 1] [] [] fun r0 =>
 γ12 [aL.av r0, .d (.sl aA.ks (List.map aA.enc []))] [] [] fun r1 =>
 γ10 [.d (.sl [.int .u8] (List.map (aJ .u8) r1.1))] [] [] fun r2 =>
 γ5 [dIq 1] [] [] fun r3 =>
 γ13 [aL.av r3, .d (.sl [.int .u8] (List.map (aJ .u8) r1.1))] [] [] fun r4 =>
 γ13 [aL.av r4.2.1, .d (.sl [.int .u8] (List.map (aJ .u8) r1.1))] [] [] fun r5 =>
 cond (r1.2.2 == 0) (
 cond ((r1.2.1.Conn == 1) && ((r1.2.1.Sent == 1) && ((r1.2.1.Got == 0) && ((r1.2.1.Broken == false) && true)))) (
  cond (r2.1 == 1) (
  cond (r2.2.1 == 1) (
   cond (r2.2.2 == 0) (
   cond ((lM (aJ .u8) r1.1 : Int) == 7) (
    cond (decide (0 ≤ 0) && decide (0 < (lM (aJ .u8) r1.1 : Int))) (
    cond ((aX (cE (aJ .u8) r1.1 0 0)) == 4) (
     cond (r4.2.2 == 0) (
     cond ((r4.2.1.Conn == 1) && ((r4.2.1.Sent == 0) && ((r4.2.1.Got == 1) && ((r4.2.1.Broken == false) && true)))) (
      cond (r5.2.2 == 26) (
      cond ((r5.2.1.Conn == r4.2.1.Conn) && ((r5.2.1.Sent == r4.2.1.Sent) && ((r5.2.1.Got == r4.2.1.Got) && ((r5.2.1.Broken == r4.2.1.Broken) && true)))) (
       γ7 [aL.av r4.2.1] [] [] fun r6 =>
       (rB r6.Broken)) (
      (rB false))) (
      (rB false))) (
     (rB false))) (
     (rB false))) (
    (rB false))) none) (
   (rB false))) (
   (rB false))) (
  (rB false))) (
  (rB false))) (
 (rB false))) (
 (rB false)) := by kernel_rfl
end
abbrev X9 : aS := C9 gG (cT 5 cF) (cT 12 iQ) (cT 10 bN) (cT 13 hY) (cT 7 cF)
theorem Cr9 : X9 = aQ gG := by unfold X9 C9; repeat rw [bK fun _ h => h]
theorem n7 : Le (Option.map aK (jE)) (bD SE 9 [] [] []) := by
 refine aY Cr9 rfl ?_
 refine Le.trans ?_ (le_of_eq (T9 _ _ _ _ _ _ _ _ ).symm)
 unfold jE
 refine lQ eX hZ (wP _) fun r0 _ => ?_
 refine lQ eX agL (by (try simp only [EN]); exact ahj r0 []) fun r1 _ => ?_
 refine lQ eX fG (abw _) fun r2 _ => ?_
 refine lQ eX hZ (wP _) fun r3 _ => ?_
 refine lQ eX vU (wU _ _) fun r4 _ => ?_
 refine lQ eX vU (wU _ _) fun r5 _ => ?_
 refine lC ?_ ?_
 ·refine lC ?_ ?_
  ·refine lC ?_ ?_
   ·refine lC ?_ ?_
    ·refine lC ?_ ?_
     ·refine lD (by simp only [EN]) ?_ ?_
      ·refine lG (by simp only [EN]) ?_
       refine lD (by simp only [EN]) ?_ ?_
       ·refine lC ?_ ?_
        ·refine lC ?_ ?_
         ·refine lC ?_ ?_
          ·refine lC ?_ ?_
           ·refine lQ eX hZ (tM _) fun r6 _ => ?_
            exact aF rfl
           ·exact aF rfl
          ·exact aF rfl
         ·exact aF rfl
        ·exact aF rfl
       ·exact aF rfl
      ·exact aF rfl
     ·exact aF rfl
    ·exact aF rfl
   ·exact aF rfl
  ·exact aF rfl
 ·exact aF rfl
section
variable (Γ : Fun)  (Λ2 J : Lam)
def C32 : aS := aQ Γ
theorem T32 (p0 : Int) : bS SE (C32 Γ) Λ2 J 32 [.d (.int .u64 p0)] [] [] =
 cond ((Int.tmod p0 2) == 0) (
 (rI (w6 (IntKind.wrap .u64 (Int.tdiv p0 2))))) (
 (rI (w6 ((w6 (0 - (w6 (IntKind.wrap .u64 (Int.tdiv p0 2))))) - 1)))) := by kernel_rfl
end
abbrev X32 : aS := C32 gG
theorem atr : X32 = aQ gG := rfl
theorem aa8 (p0 : Int) : Le (Option.map aI (kE p0)) (bD SE 32 [.d (.int .u64 p0)] [] []) := by
 refine aY atr rfl ?_
 refine Le.trans ?_ (le_of_eq (T32 ..).symm)
 unfold kE
 refine lC ?_ ?_
 ·exact aF rfl
 ·exact aF rfl
def adx (C : aS) (Λ2 J : Lam) (a0 : List (List D)) (a1 a2 a3 a4 a5 a6 : Int) (a7 a8 a9 : Bool) : Res := lab SE C Λ2 J 23 0 [1, 1, 1, 1, 0, 1, 0, 0, 1, 0, 0, 1, 1, 1, 0] (bU [(0, .d (.sl [.int .u8] a0)), (1, dIq a1), (7, .d (.int .u64 a2)), (8, .d (.int .u64 a3)), (9, dIq a4), (10, .d (.int .u8 a5)), (42, dIq a6), (43, dBq a7), (44, dBq a8), (47, dBq a9)] [] [] [] [])
def al5 (C : aS) (Λ2 J : Lam) (a0 : List (List D)) (a1 a2 a3 a4 : Int) : Res := lab SE C Λ2 J 23 0 [1, 1, 1, 1, 0, 1, 0] (bU [(0, .d (.sl [.int .u8] a0)), (1, dIq a1), (7, .d (.int .u64 a2)), (8, .d (.int .u64 a3)), (9, dIq a4)] [] [] [] [])
def aoK (C : aS) (Λ2 J : Lam) (a0 : List (List D)) (a1 : Int) : Res := lab SE C Λ2 J 23 0 [1, 1, 0] (bU [(0, .d (.sl [.int .u8] a0)), (1, dIq a1)] [] [] [] [])
section
variable (Γ : Fun) (γ32 : Gm (Int)) (Λ2 J : Lam)
def C23 : aS := bM (aQ Γ) 32 aI γ32
theorem T23 (p0 : List Int) (p1 : Int) : bS SE (C23 Γ γ32) Λ2 J 23 [.d (.sl [.int .u8] (List.map (aJ .u8) p0)), dIq p1] [] [] =
 cond (decide (p1 < 0)) (
 (some (bN (0, 0, 1)))) (
 cond (decide (p1 > (lM (aJ .u8) p0 : Int))) (
 (some (bN (0, 0, 1)))) (
 aoK (C23 Γ γ32) Λ2 J (List.map (aJ .u8) p0) p1)) := by kernel_rfl
theorem apZ (x0 : List Int) (x1 x7 x8 x9 x10 x42 : Int) (x43 x44 x47 : Bool) : eA SE (C23 Γ γ32) Λ2 J 23 0 [1, 1, 1, 1, 0, 1, 0, 0, 1, 0, 0, 1, 1, 1, 0] (bU [(0, .d (.sl [.int .u8] (List.map (aJ .u8) x0))), (1, dIq x1), (7, .d (.int .u64 x7)), (8, .d (.int .u64 x8)), (9, dIq x9), (10, .d (.int .u8 x10)), (42, dIq x42), (43, dBq x43), (44, dBq x44), (47, dBq x47)] [] [] [] []) =
 cond (decide (x10 < 128)) (
 γ32 [.d (.int .u64 (IntKind.wrap .u64 (x7 + (IntKind.wrap .u64 ((IntKind.wrap .u64 (Int.tmod x10 128)) * x8)))))] [] [] fun r0 =>
 (some (bN (r0, (w6 ((w6 (x1 + x9)) + 1)), 0)))) (
 al5 (C23 Γ γ32) Λ2 J (List.map (aJ .u8) x0) x1 (IntKind.wrap .u64 (x7 + (IntKind.wrap .u64 ((IntKind.wrap .u64 (Int.tmod x10 128)) * x8)))) (IntKind.wrap .u64 (x8 * 128)) (w6 (x9 + 1))) := by kernel_rfl
theorem arB (x0 : List Int) (x1 x7 x8 x9 : Int) : eA SE (C23 Γ γ32) Λ2 J 23 0 [1, 1, 1, 1, 0, 1, 0] (bU [(0, .d (.sl [.int .u8] (List.map (aJ .u8) x0))), (1, dIq x1), (7, .d (.int .u64 x7)), (8, .d (.int .u64 x8)), (9, dIq x9)] [] [] [] []) =
 cond (decide (x9 < 10)) (
 cond (decide (x9 ≥ (w6 ((lM (aJ .u8) x0 : Int) - x1)))) (
  (some (bN (0, 0, 3)))) (
 cond (iB (w6 (x1 + x9)) (lM (aJ .u8) x0 : Int)) (
  cond (x9 == 9) (
  cond ((aX (cE (aJ .u8) x0 (w6 (x1 + x9)) 0)) != 1) (
   (some (bN (0, 0, 2)))) (
  cond (decide (x9 > 0)) (
   cond ((aX (cE (aJ .u8) x0 (w6 (x1 + x9)) 0)) == 0) (
   (some (bN (0, 0, 2)))) (
   adx (C23 Γ γ32) Λ2 J (List.map (aJ .u8) x0) x1 x7 x8 x9 ((aX (cE (aJ .u8) x0 (w6 (x1 + x9)) 0))) x9 (decide (x9 > 0)) true (((aX (cE (aJ .u8) x0 (w6 (x1 + x9)) 0)) == 0)))) (
  adx (C23 Γ γ32) Λ2 J (List.map (aJ .u8) x0) x1 x7 x8 x9 ((aX (cE (aJ .u8) x0 (w6 (x1 + x9)) 0))) x9 (decide (x9 > 0)) false false))) (
  cond (decide (x9 > 0)) (
  cond ((aX (cE (aJ .u8) x0 (w6 (x1 + x9)) 0)) == 0) (
   (some (bN (0, 0, 2)))) (
  adx (C23 Γ γ32) Λ2 J (List.map (aJ .u8) x0) x1 x7 x8 x9 ((aX (cE (aJ .u8) x0 (w6 (x1 + x9)) 0))) x9 (decide (x9 > 0)) true (((aX (cE (aJ .u8) x0 (w6 (x1 + x9)) 0)) == 0)))) (
  adx (C23 Γ γ32) Λ2 J (List.map (aJ .u8) x0) x1 x7 x8 x9 ((aX (cE (aJ .u8) x0 (w6 (x1 + x9)) 0))) x9 (decide (x9 > 0)) false false))) none)) (
 (some (bN (0, 0, 2)))) := by kernel_rfl
theorem aru (x0 : List Int) (x1 : Int) : eA SE (C23 Γ γ32) Λ2 J 23 0 [1, 1, 0] (bU [(0, .d (.sl [.int .u8] (List.map (aJ .u8) x0))), (1, dIq x1)] [] [] [] []) =
 al5 (C23 Γ γ32) Λ2 J (List.map (aJ .u8) x0) x1 0 1 0 := by kernel_rfl
end
abbrev X23 : aS := C23 gG (cT 32 aI)
theorem alX : X23 = aQ gG := by unfold X23 C23; rw [bK fun _ h => h]
abbrev aqc := adx X23 (dQ SE gG (SE.hl 23) (SE.hr 23)) (J0 SE X23)
abbrev aoQ := al5 X23 (dQ SE gG (SE.hl 23) (SE.hr 23)) (J0 SE X23)
abbrev as0 := aoK X23 (dQ SE gG (SE.hl 23) (SE.hr 23)) (J0 SE X23)
theorem jZ (k6 : (List Int) → Int → Int → Int → Int → Option (Int × Int × Int)) (hk6 : ∀ (x0 : List Int) (x1 x7 x8 x9 : Int), Le (Option.map bN (k6 x0 x1 x7 x8 x9)) (aoQ (List.map (aJ .u8) x0) x1 x7 x8 x9)) (x0 : List Int) (x1 x7 x8 x9 x10 x42 : Int) (x43 x44 x47 : Bool) : Le (Option.map bN (dU k6 x0 x1 x7 x8 x9 x10 x42 x43 x44 x47)) (aqc (List.map (aJ .u8) x0) x1 x7 x8 x9 x10 x42 x43 x44 x47) := by
 refine Le.trans ?_ (le_of_eq ((bX alX).trans (apZ ..)).symm)
 unfold dU
 refine lC ?_ ?_
 ·refine lQ eX aZ (aa8 _) fun r0 _ => ?_
  exact aF rfl
 ·exact hk6 x0 x1 (IntKind.wrap .u64 (x7 + (IntKind.wrap .u64 ((IntKind.wrap .u64 (Int.tmod x10 128)) * x8)))) (IntKind.wrap .u64 (x8 * 128)) (w6 (x9 + 1))
theorem abm : ∀ (fu : Nat) (x0 : List Int) (x1 x7 x8 x9 : Int), Le (Option.map bN (bY fu x0 x1 x7 x8 x9)) (aoQ (List.map (aJ .u8) x0) x1 x7 x8 x9) := by
 intro fu
 induction fu with
 | zero => intros; exact le_none
 | succ fu ih =>
  intro x0 x1 x7 x8 x9
  refine Le.trans ?_ (le_of_eq ((bX alX).trans (arB ..)).symm)
  unfold bY
  refine lC ?_ ?_
  ·refine lD (by simp only [EN]) ?_ ?_
   ·exact aF rfl
   ·refine lG (by simp only [EN]) ?_
    refine lC ?_ ?_
    ·refine lD (by simp only [EN]) ?_ ?_
     ·exact aF rfl
     ·refine lC ?_ ?_
      ·refine lD (by simp only [EN]) ?_ ?_
       ·exact aF rfl
       ·(try simp only [EN]); exact jZ _ (ih) x0 x1 x7 x8 x9 (List.getD x0 (Int.toNat (w6 (x1 + x9))) default) x9 (decide (x9 > 0)) true ((List.getD x0 (Int.toNat (w6 (x1 + x9))) default) == 0)
      ·(try simp only [EN]); exact jZ _ (ih) x0 x1 x7 x8 x9 (List.getD x0 (Int.toNat (w6 (x1 + x9))) default) x9 (decide (x9 > 0)) false false
    ·refine lC ?_ ?_
     ·refine lD (by simp only [EN]) ?_ ?_
      ·exact aF rfl
      ·(try simp only [EN]); exact jZ _ (ih) x0 x1 x7 x8 x9 (List.getD x0 (Int.toNat (w6 (x1 + x9))) default) x9 (decide (x9 > 0)) true ((List.getD x0 (Int.toNat (w6 (x1 + x9))) default) == 0)
     ·(try simp only [EN]); exact jZ _ (ih) x0 x1 x7 x8 x9 (List.getD x0 (Int.toNat (w6 (x1 + x9))) default) x9 (decide (x9 > 0)) false false
  ·exact aF rfl
theorem abv (x0 : List Int) (x1 : Int) : Le (Option.map bN (mS x0 x1)) (as0 (List.map (aJ .u8) x0) x1) := by
 refine Le.trans ?_ (le_of_eq ((bX alX).trans (aru ..)).symm)
 unfold mS
 exact abm fuel x0 x1 0 1 0
theorem qF (p0 : List Int) (p1 : Int) : Le (Option.map bN (iV p0 p1)) (bD SE 23 [.d (.sl [.int .u8] (List.map (aJ .u8) p0)), dIq p1] [] []) := by
 refine aY alX rfl ?_
 refine Le.trans ?_ (le_of_eq (T23 ..).symm)
 unfold iV
 refine lC ?_ ?_
 ·exact aF rfl
 ·refine lD (by simp only [EN]) ?_ ?_
  ·exact aF rfl
  ·exact abv p0 p1
section
variable (Γ : Fun) (γ23 : Gm (Int × Int × Int)) (Λ2 J : Lam)
def C30 : aS := bM (aQ Γ) 23 bN γ23
theorem T30 (p0 : List Int) (p1 p2 : Int) : bS SE (C30 Γ γ23) Λ2 J 30 [.d (.sl [.int .u8] (List.map (aJ .u8) p0)), dIq p1, dIq p2] [] [] =
 γ23 [.d (.sl [.int .u8] (List.map (aJ .u8) p0)), dIq p1] [] [] fun r0 =>
 cond (r0.2.2 != 0) (
 (some (bN (0, 0, r0.2.2)))) (
 cond (decide (r0.1 < 0)) (
 (some (bN (0, 0, 2)))) (
 cond (decide (r0.1 > p2)) (
 (some (bN (0, 0, 5)))) (
 (some (bN (r0.1, r0.2.1, 0)))))) := by kernel_rfl
end
abbrev X30 : aS := C30 gG (cT 23 bN)
theorem aud : X30 = aQ gG := by unfold X30 C30; rw [bK fun _ h => h]
theorem acn (p0 : List Int) (p1 p2 : Int) : Le (Option.map bN (lB p0 p1 p2)) (bD SE 30 [.d (.sl [.int .u8] (List.map (aJ .u8) p0)), dIq p1, dIq p2] [] []) := by
 refine aY aud rfl ?_
 refine Le.trans ?_ (le_of_eq (T30 ..).symm)
 unfold lB
 refine lQ eX fG (qF _ _) fun r0 _ => ?_
 refine lC ?_ ?_
 ·exact aF rfl
 ·refine lC ?_ ?_
  ·exact aF rfl
  ·refine lC ?_ ?_
   ·exact aF rfl
   ·exact aF rfl
def als (C : aS) (Λ2 J : Lam) (a0 : List (List D)) (a1 a2 : Int) : Res := lab SE C Λ2 J 44 0 [1, 1, 0, 1, 0] (bU [(0, .d (.sl [.int .u8] a0)), (3, .d (.int .u64 a1)), (4, dIq a2)] [] [] [] [])
section
variable (Γ : Fun)  (Λ2 J : Lam)
def C44 : aS := aQ Γ
theorem T44 (p0 : List Int) : bS SE (C44 Γ) Λ2 J 44 [.d (.sl [.int .u8] (List.map (aJ .u8) p0))] [] [] =
 als (C44 Γ) Λ2 J (List.map (aJ .u8) p0) 2166136261 0 := by kernel_rfl
theorem ar3 (x0 : List Int) (x3 x4 : Int) : eA SE (C44 Γ) Λ2 J 44 0 [1, 1, 0, 1, 0] (bU [(0, .d (.sl [.int .u8] (List.map (aJ .u8) x0))), (3, .d (.int .u64 x3)), (4, dIq x4)] [] [] [] []) =
 cond (decide (x4 < (lM (aJ .u8) x0 : Int))) (
 cond (iB x4 (lM (aJ .u8) x0 : Int)) (
  als (C44 Γ) Λ2 J (List.map (aJ .u8) x0) ((Int.tmod (IntKind.wrap .u64 ((bP .xor .u64 x3 (IntKind.wrap .u64 (aX (cE (aJ .u8) x0 x4 0)))) * 16777619)) 4294967296)) (w6 (x4 + 1))) none) (
 (rI (w6 x3))) := by kernel_rfl
end
abbrev X44 : aS := C44 gG
theorem apY : X44 = aQ gG := rfl
abbrev asi := als X44 (dQ SE gG (SE.hl 44) (SE.hr 44)) (J0 SE X44)
theorem abl : ∀ (fu : Nat) (x0 : List Int) (x3 x4 : Int), Le (Option.map aI (gF fu x0 x3 x4)) (asi (List.map (aJ .u8) x0) x3 x4) := by
 intro fu
 induction fu with
 | zero => intros; exact le_none
 | succ fu ih =>
  intro x0 x3 x4
  refine Le.trans ?_ (le_of_eq ((bX apY).trans (ar3 ..)).symm)
  unfold gF
  refine lD (by simp only [EN]) ?_ ?_
  ·refine lG (by simp only [EN]) ?_
   (try simp only [EN]); exact ih x0 (Int.tmod (IntKind.wrap .u64 ((bP .xor .u64 x3 (IntKind.wrap .u64 (List.getD x0 (Int.toNat x4) default))) * 16777619)) 4294967296) (w6 (x4 + 1))
  ·exact aF rfl
theorem adU (p0 : List Int) : Le (Option.map aI (mM p0)) (bD SE 44 [.d (.sl [.int .u8] (List.map (aJ .u8) p0))] [] []) := by
 refine aY apY rfl ?_
 refine Le.trans ?_ (le_of_eq (T44 ..).symm)
 unfold mM
 exact abl fuel p0 2166136261 0
section
variable (Γ : Fun)  (Λ2 J : Lam)
def C61 : aS := aQ Γ
theorem T61 (p0 : Int) : bS SE (C61 Γ) Λ2 J 61 [dIq p0] [] [] =
 cond (decide (p0 ≥ 0)) (
 (some (.ret [.d (.int .u64 (IntKind.wrap .u64 ((IntKind.wrap .u64 p0) * 2)))] [] []))) (
 (some (.ret [.d (.int .u64 (IntKind.wrap .u64 ((IntKind.wrap .u64 ((IntKind.wrap .u64 (w6 (0 - (w6 (p0 + 1))))) * 2)) + 1)))] [] []))) := by kernel_rfl
end
abbrev X61 : aS := C61 gG
theorem atQ : X61 = aQ gG := rfl
theorem acJ (p0 : Int) : Le (Option.map gM (lV p0)) (bD SE 61 [dIq p0] [] []) := by
 refine aY atQ rfl ?_
 refine Le.trans ?_ (le_of_eq (T61 ..).symm)
 unfold lV
 refine lC ?_ ?_
 ·exact aF rfl
 ·exact aF rfl
def akZ (C : aS) (Λ2 J : Lam) (a0 : Int) (a1 : List (List D)) : Res := lab SE C Λ2 J 45 0 [1, 1, 1, 0, 0] (bU [(5, .row 3005), (6, .d (.int .u64 a0))] [] [] [] [(3005, ⟨[.int .u8], 5, 1, a1⟩)])
section
variable (Γ : Fun) (γ61 : Gm (Int)) (Λ2 J : Lam)
def C45 : aS := bM (aQ Γ) 61 gM γ61
theorem T45 (p0 : List Int) (p1 : Int) : bS SE (C45 Γ γ61) Λ2 J 45 [.d (.sl [.int .u8] (List.map (aJ .u8) p0)), dIq p1] [] [] =
 cond (decide ((lM (aJ .u8) [] + lM (aJ .u8) p0) * 1 ≤ 140737488355328)) (
 γ61 [dIq p1] [] [] fun r0 =>
 akZ (C45 Γ γ61) Λ2 J r0 (((List.map (aJ .u8) []) ++ (List.map (aJ .u8) p0)))) none := by kernel_rfl
theorem asu (x6 : Int) (w3005 : List Int) : eA SE (C45 Γ γ61) Λ2 J 45 0 [1, 1, 1, 0, 0] (bU [(5, .row 3005), (6, .d (.int .u64 x6))] [] [] [] [(3005, ⟨[.int .u8], 5, 1, (List.map (aJ .u8) w3005)⟩)]) =
 cond (decide (x6 ≥ 128)) (
 cond (decide ((lM (aJ .u8) w3005 + lM (aJ .u8) [(IntKind.wrap .u8 ((IntKind.wrap .u8 (Int.tmod x6 128)) + 128))]) * 1 ≤ 140737488355328)) (
  akZ (C45 Γ γ61) Λ2 J (IntKind.wrap .u64 (Int.tdiv x6 128)) (((List.map (aJ .u8) w3005) ++ (List.map (aJ .u8) [(IntKind.wrap .u8 ((IntKind.wrap .u8 (Int.tmod x6 128)) + 128))])))) none) (
 cond (decide ((lM (aJ .u8) w3005 + lM (aJ .u8) [(IntKind.wrap .u8 x6)]) * 1 ≤ 140737488355328)) (
 (some (.ret [.row 0] [] [⟨[.int .u8], 5, 1, ((List.map (aJ .u8) w3005) ++ (List.map (aJ .u8) [(IntKind.wrap .u8 x6)]))⟩]))) none) := by kernel_rfl
end
abbrev X45 : aS := C45 gG (cT 61 gM)
theorem ap0 : X45 = aQ gG := by unfold X45 C45; rw [bK fun _ h => h]
abbrev asC := akZ X45 (dQ SE gG (SE.hl 45) (SE.hr 45)) (J0 SE X45)
theorem zP : ∀ (fu : Nat) (x6 : Int) (w3005 : List Int), Le (Option.map aP (eP fu x6 w3005)) (asC x6 (List.map (aJ .u8) w3005)) := by
 intro fu
 induction fu with
 | zero => intros; exact le_none
 | succ fu ih =>
  intro x6 w3005
  refine Le.trans ?_ (le_of_eq ((bX ap0).trans (asu ..)).symm)
  unfold eP
  refine lC ?_ ?_
  ·refine lG (by simp only [EN]) ?_
   (try simp only [EN]); exact ih (IntKind.wrap .u64 (Int.tdiv x6 128)) (w3005 ++ [(IntKind.wrap .u8 ((IntKind.wrap .u8 (Int.tmod x6 128)) + 128))])
  ·refine lG (by simp only [EN]) ?_
   exact aF (by first | rfl | simp only [EN, aP] <;> rfl)
theorem abt (p0 : List Int) (p1 : Int) : Le (Option.map aP (iF p0 p1)) (bD SE 45 [.d (.sl [.int .u8] (List.map (aJ .u8) p0)), dIq p1] [] []) := by
 refine aY ap0 rfl ?_
 refine Le.trans ?_ (le_of_eq (T45 ..).symm)
 unfold iF
 refine lG (by simp only [EN]) ?_
 refine lQ eX acu (acJ _) fun r0 _ => ?_
 (try simp only [EN]); exact zP fuel r0 (([] : List Int) ++ p0)
section
variable (Γ : Fun) (γ44 : Gm (Int)) (γ45 : Gm ((List Int))) (Λ2 J : Lam)
def C31 : aS := bM (bM (aQ Γ) 44 aI γ44) 45 aP γ45
theorem T31 (p0 : List Int) : bS SE (C31 Γ γ44 γ45) Λ2 J 31 [.d (.sl [.int .u8] (List.map (aJ .u8) p0))] [] [] =
 cond (decide ((lM (aJ .u8) p0 : Int) > 65536)) (
 (some (.ret [.row 0] [] [⟨[.int .u8], 5, 1, []⟩]))) (
 γ44 [.d (.sl [.int .u8] (List.map (aJ .u8) p0))] [] [] fun r0 =>
 γ45 [.d (.sl [.int .u8] (List.map (aJ .u8) [])), dIq (lM (aJ .u8) p0 : Int)] [] [] fun r1 =>
 cond (decide ((lM (aJ .u8) r1 + lM (aJ .u8) [(IntKind.wrap .u8 (shr .i64 r0 24)), (IntKind.wrap .u8 (bP .and .i64 (shr .i64 r0 16) 255)), (IntKind.wrap .u8 (bP .and .i64 (shr .i64 r0 8) 255)), (IntKind.wrap .u8 (bP .and .i64 r0 255))]) * 1 ≤ 140737488355328)) (
 cond (decide ((List.length ((List.map (aJ .u8) r1) ++ (List.map (aJ .u8) [(IntKind.wrap .u8 (shr .i64 r0 24)), (IntKind.wrap .u8 (bP .and .i64 (shr .i64 r0 16) 255)), (IntKind.wrap .u8 (bP .and .i64 (shr .i64 r0 8) 255)), (IntKind.wrap .u8 (bP .and .i64 r0 255))])) + lM (aJ .u8) p0) * 1 ≤ 140737488355328)) (
  (some (.ret [.row 0] [] [⟨[.int .u8], 5, 1, (((List.map (aJ .u8) r1) ++ (List.map (aJ .u8) [(IntKind.wrap .u8 (shr .i64 r0 24)), (IntKind.wrap .u8 (bP .and .i64 (shr .i64 r0 16) 255)), (IntKind.wrap .u8 (bP .and .i64 (shr .i64 r0 8) 255)), (IntKind.wrap .u8 (bP .and .i64 r0 255))])) ++ (List.map (aJ .u8) p0))⟩]))) none) none) := by kernel_rfl
end
abbrev X31 : aS := C31 gG (cT 44 aI) (cT 45 aP)
theorem atT : X31 = aQ gG := by unfold X31 C31; repeat rw [bK fun _ h => h]
theorem acI (p0 : List Int) : Le (Option.map aP (lW p0)) (bD SE 31 [.d (.sl [.int .u8] (List.map (aJ .u8) p0))] [] []) := by
 refine aY atT rfl ?_
 refine Le.trans ?_ (le_of_eq (T31 ..).symm)
 unfold lW
 refine lD (by simp only [EN]) ?_ ?_
 ·exact aF rfl
 ·refine lQ eX aZ (adU _) fun r0 _ => ?_
  refine lQ eX aU (by (try simp only [EN]); exact abt [] (List.length p0 : Int)) fun r1 _ => ?_
  refine lG (by simp only [EN]) ?_
  refine lG (by simp only [EN]) ?_
  exact aF (by first | rfl | simp only [EN, aP] <;> rfl)
end Te
end PX
