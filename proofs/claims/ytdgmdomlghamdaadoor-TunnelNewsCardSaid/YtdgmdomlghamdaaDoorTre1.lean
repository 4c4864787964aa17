import Derived.Test.YtdgmdomlghamdaaDoorTre0
set_option linter.unusedVariables false
set_option linter.unusedSimpArgs false
set_option maxRecDepth 100000
noncomputable section
namespace PX
open Go
open Md
namespace Te
def alK (C : aS) (Λ2 J : Lam) (a0 : List (List D)) (a1 a2 : Int) (a3 : List (List D)) : Res := lab SE C Λ2 J 37 0 [1, 1, 0, 1, 0] (bU [(5, .row 3005), (12, .d (.sl aG.ks a0)), (13, .d (.int .i64 a1)), (14, .d (.int .i64 a2))] [] [] [] [(3005, ⟨[.int .u8], 5, 1, a3⟩)])
section
variable (Γ : Fun) (γ17 γ56 : Gm ((List Int))) (γ35 : Gm (Int)) (Λ2 J : Lam)
def C37 : aS := bM (bM (bM (aQ Γ) 17 aP γ17) 56 aP γ56) 35 aI γ35
theorem T37 (p0 : List Int) (p1 : List aG) : bS SE (C37 Γ γ17 γ56 γ35) Λ2 J 37 [.d (.sl [.int .u8] (List.map (aJ .u8) p0)), .d (.sl aG.ks (List.map aG.enc p1))] [] [] =
 γ17 [.d (.sl [.int .u8] (List.map (aJ .u8) p0)), .d (.int .i64 (lM aG.enc p1 : Int))] [] [] fun r0 =>
 alK (C37 Γ γ17 γ56 γ35) Λ2 J (List.map aG.enc p1) (lM aG.enc p1 : Int) 0 (List.map (aJ .u8) r0) := by kernel_rfl
theorem arX (x12 : List aG) (x13 x14 : Int) (w3005 : List Int) : eA SE (C37 Γ γ17 γ56 γ35) Λ2 J 37 0 [1, 1, 0, 1, 0] (bU [(5, .row 3005), (12, .d (.sl aG.ks (List.map aG.enc x12))), (13, .d (.int .i64 x13)), (14, .d (.int .i64 x14))] [] [] [] [(3005, ⟨[.int .u8], 5, 1, (List.map (aJ .u8) w3005)⟩)]) =
 cond (decide (x14 < x13)) (
 cond (iB x14 (lM aG.enc x12 : Int)) (
  γ56 [.d (.sl [.int .u8] (List.map (aJ .u8) w3005)), .d (.str (bZ (cE aG.enc x12 x14 0)))] [] [] fun r1 =>
  γ17 [.d (.sl [.int .u8] (List.map (aJ .u8) r1)), .d (.int .i64 (aX (cE aG.enc x12 x14 1)))] [] [] fun r2 =>
  γ35 [.d (.sl [.bool] [[D.bool (cG (cE aG.enc x12 x14 2))]])] [] [] fun r3 =>
  γ17 [.d (.sl [.int .u8] (List.map (aJ .u8) r2)), .d (.int .i64 r3)] [] [] fun r4 =>
  alK (C37 Γ γ17 γ56 γ35) Λ2 J (List.map aG.enc x12) x13 (w6 (x14 + 1)) (List.map (aJ .u8) r4)) none) (
 (some (.ret [.row 0] [] [⟨[.int .u8], 5, 1, (List.map (aJ .u8) w3005)⟩]))) := by kernel_rfl
end
abbrev X37 : aS := C37 gG (cT 17 aP) (cT 56 aP) (cT 35 aI)
theorem aqp : X37 = aQ gG := by unfold X37 C37; repeat rw [bK fun _ h => h]
abbrev asR := alK X37 (dQ SE gG (SE.hl 37) (SE.hr 37)) (J0 SE X37)
theorem yC : ∀ (fu : Nat) (x12 : List aG) (x13 x14 : Int) (w3005 : List Int), Le (Option.map aP (fE fu x12 x13 x14 w3005)) (asR (List.map aG.enc x12) x13 x14 (List.map (aJ .u8) w3005)) := by
 intro fu
 induction fu with
 | zero => intros; exact le_none
 | succ fu ih =>
  intro x12 x13 x14 w3005
  refine Le.trans ?_ (le_of_eq ((bX aqp).trans (arX ..)).symm)
  unfold fE
  refine lC ?_ ?_
  ·refine lG (by simp only [EN]) ?_
   refine lQ eX aU (by (try simp only [EN]); exact gW w3005 ((List.getD x12 (Int.toNat x14) default).Filter)) fun r1 _ => ?_
   refine lQ eX aU (by (try simp only [EN]); exact bR r1 ((List.getD x12 (Int.toNat x14) default).Level)) fun r2 _ => ?_
   refine lQ eX aZ (by (try simp only [EN]); exact o6 [(List.getD x12 (Int.toNat x14) default).NoLocal]) fun r3 _ => ?_
   refine lQ eX aU (bR _ _) fun r4 _ => ?_
   exact ih x12 x13 (w6 (x14 + 1)) r4
  ·exact aF rfl
theorem aa7 (p0 : List Int) (p1 : List aG) : Le (Option.map aP (j8 p0 p1)) (bD SE 37 [.d (.sl [.int .u8] (List.map (aJ .u8) p0)), .d (.sl aG.ks (List.map aG.enc p1))] [] []) := by
 refine aY aqp rfl ?_
 refine Le.trans ?_ (le_of_eq (T37 ..).symm)
 unfold j8
 refine lQ eX aU (by (try simp only [EN]); exact bR p0 (List.length p1 : Int)) fun r0 _ => ?_
 (try simp only [EN]); exact yC fuel p1 (List.length p1 : Int) 0 r0
def ak9 (C : aS) (Λ2 J : Lam) (a0 : List (List D)) (a1 a2 : Int) (a3 : List (List D)) : Res := lab SE C Λ2 J 38 0 [1, 1, 0, 1, 0] (bU [(5, .row 3005), (13, .d (.sl [.str] a0)), (14, .d (.int .i64 a1)), (15, .d (.int .i64 a2))] [] [] [] [(3005, ⟨[.int .u8], 5, 1, a3⟩)])
section
variable (Γ : Fun) (γ26 γ25 : Gm ((List Int))) (Λ2 J : Lam)
def C38 : aS := bM (bM (aQ Γ) 26 aP γ26) 25 aP γ25
theorem T38 (p0 : List Int) (p1 : List Str) : bS SE (C38 Γ γ26 γ25) Λ2 J 38 [.d (.sl [.int .u8] (List.map (aJ .u8) p0)), .d (.sl [.str] (List.map bA p1))] [] [] =
 γ26 [.d (.sl [.int .u8] (List.map (aJ .u8) p0)), .d (.int .i64 10)] [] [] fun r0 =>
 γ25 [.row 2000000000, .d (.int .i64 (lM bA p1 : Int))] [] [⟨[.int .u8], 5, 1, (List.map (aJ .u8) r0)⟩] fun r1 =>
 ak9 (C38 Γ γ26 γ25) Λ2 J (List.map bA p1) (lM bA p1 : Int) 0 (List.map (aJ .u8) r1) := by kernel_rfl
theorem asW (x13 : List Str) (x14 x15 : Int) (w3005 : List Int) : eA SE (C38 Γ γ26 γ25) Λ2 J 38 0 [1, 1, 0, 1, 0] (bU [(5, .row 3005), (13, .d (.sl [.str] (List.map bA x13))), (14, .d (.int .i64 x14)), (15, .d (.int .i64 x15))] [] [] [] [(3005, ⟨[.int .u8], 5, 1, (List.map (aJ .u8) w3005)⟩)]) =
 cond (decide (x15 < x14)) (
 cond (iB x15 (lM bA x13 : Int)) (
  γ25 [.row 2000000000, .d (.int .i64 (List.length (bZ (cE bA x13 x15 0)) : Int))] [] [⟨[.int .u8], 5, 1, (List.map (aJ .u8) w3005)⟩] fun r2 =>
  cond (decide ((lM (aJ .u8) r2 + List.length (eS (bZ (cE bA x13 x15 0)))) * 1 ≤ 140737488355328)) (
  ak9 (C38 Γ γ26 γ25) Λ2 J (List.map bA x13) x14 (w6 (x15 + 1)) (((List.map (aJ .u8) r2) ++ (eS (bZ (cE bA x13 x15 0)))))) none) none) (
 (some (.ret [.row 0] [] [⟨[.int .u8], 5, 1, (List.map (aJ .u8) w3005)⟩]))) := by kernel_rfl
end
abbrev X38 : aS := C38 gG (cT 26 aP) (cT 25 aP)
theorem aq1 : X38 = aQ gG := by unfold X38 C38; repeat rw [bK fun _ h => h]
abbrev arO := ak9 X38 (dQ SE gG (SE.hl 38) (SE.hr 38)) (J0 SE X38)
theorem acH : ∀ (fu : Nat) (x13 : List Str) (x14 x15 : Int) (w3005 : List Int), Le (Option.map aP (hU fu x13 x14 x15 w3005)) (arO (List.map bA x13) x14 x15 (List.map (aJ .u8) w3005)) := by
 intro fu
 induction fu with
 | zero => intros; exact le_none
 | succ fu ih =>
  intro x13 x14 x15 w3005
  refine Le.trans ?_ (le_of_eq ((bX aq1).trans (asW ..)).symm)
  unfold hU
  refine lC ?_ ?_
  ·refine lG (by simp only [EN]) ?_
   refine lQ eX aU (by (try simp only [EN]); exact vP w3005 (List.length (List.getD x13 (Int.toNat x15) default) : Int)) fun r2 _ => ?_
   refine lG (by simp only [EN]) ?_
   (try simp only [EN]); exact ih x13 x14 (w6 (x15 + 1)) (r2 ++ (ofStr (List.getD x13 (Int.toNat x15) default)))
  ·exact aF rfl
theorem afz (p0 : List Int) (p1 : List Str) : Le (Option.map aP (oZ p0 p1)) (bD SE 38 [.d (.sl [.int .u8] (List.map (aJ .u8) p0)), .d (.sl [.str] (List.map bA p1))] [] []) := by
 refine aY aq1 rfl ?_
 refine Le.trans ?_ (le_of_eq (T38 ..).symm)
 unfold oZ
 refine lQ eX aU (wK _ _) fun r0 _ => ?_
 refine lQ eX aU (by (try simp only [EN]); exact vP r0 (List.length p1 : Int)) fun r1 _ => ?_
 (try simp only [EN]); exact acH fuel p1 (List.length p1 : Int) 0 r1
def afL (C : aS) (Λ2 J : Lam) (a0 : List (List D)) (a1 a2 : Int) (a3 : List (List D)) : Res := lab SE C Λ2 J 24 0 [1, 1, 1, 0, 1, 0, 1, 1, 1, 1, 1, 1, 1, 1, 1, 1, 1, 0, 1, 1, 0] (bU [(5, .row 3005), (79, .d (.sl [.int .i64] a0)), (80, .d (.int .i64 a1)), (81, .d (.int .i64 a2))] [] [] [] [(3005, ⟨[.int .u8], 5, 1, a3⟩)])
section
variable (Γ : Fun) (γ33 : Gm (Int)) (γ17 γ34 : Gm ((List Int))) (γ35 : Gm (Int)) (γ36 γ37 γ38 : Gm ((List Int))) (Λ2 J : Lam)
def C24 : aS := bM (bM (bM (bM (bM (bM (bM (aQ Γ) 33 aI γ33) 17 aP γ17) 34 aP γ34) 35 aI γ35) 36 aP γ36) 37 aP γ37) 38 aP γ38
theorem T24 (p0 : aA) : bS SE (C24 Γ γ33 γ17 γ34 γ35 γ36 γ37 γ38) Λ2 J 24 [aA.av p0] [] [] =
 γ33 [aA.av p0] [] [] fun r0 =>
 cond (r0 != 0) (
 (some (.ret [.row 0, .d (.int .i64 r0)] [] [⟨[.int .u8], 5, 1, []⟩]))) (
 γ17 [.d (.sl [.int .u8] (List.map (aJ .u8) [])), .d (.int .i64 p0.Kind)] [] [] fun r1 =>
 cond (p0.Kind == 1) (
 γ34 [.d (.sl [.int .u8] (List.map (aJ .u8) r1)), aA.av p0] [] [] fun r2 =>
 (some (.ret [.row 0, .d (.int .i64 0)] [] [⟨[.int .u8], 5, 1, (List.map (aJ .u8) r2)⟩]))) (
 cond (p0.Kind == 2) (
 γ35 [.d (.sl [.bool] (List.map hO [p0.Present]))] [] [] fun r3 =>
 γ17 [.d (.sl [.int .u8] (List.map (aJ .u8) r1)), .d (.int .i64 r3)] [] [] fun r4 =>
 γ17 [.d (.sl [.int .u8] (List.map (aJ .u8) r4)), .d (.int .i64 p0.Code)] [] [] fun r5 =>
 (some (.ret [.row 0, .d (.int .i64 0)] [] [⟨[.int .u8], 5, 1, (List.map (aJ .u8) r5)⟩]))) (
 cond (p0.Kind == 3) (
 γ17 [.d (.sl [.int .u8] (List.map (aJ .u8) r1)), .d (.int .i64 p0.ID)] [] [] fun r6 =>
 γ35 [.d (.sl [.bool] (List.map hO [p0.Dup]))] [] [] fun r7 =>
 γ17 [.d (.sl [.int .u8] (List.map (aJ .u8) r6)), .d (.int .i64 r7)] [] [] fun r8 =>
 γ36 [.d (.sl [.int .u8] (List.map (aJ .u8) r8)), aE.av p0.Message] [] [] fun r9 =>
 (some (.ret [.row 0, .d (.int .i64 0)] [] [⟨[.int .u8], 5, 1, (List.map (aJ .u8) r9)⟩]))) (
 cond (p0.Kind == 4) (
 γ17 [.d (.sl [.int .u8] (List.map (aJ .u8) r1)), .d (.int .i64 p0.ID)] [] [] fun r10 =>
 (some (.ret [.row 0, .d (.int .i64 0)] [] [⟨[.int .u8], 5, 1, (List.map (aJ .u8) r10)⟩]))) (
 cond (p0.Kind == 5) (
 γ17 [.d (.sl [.int .u8] (List.map (aJ .u8) r1)), .d (.int .i64 p0.ID)] [] [] fun r11 =>
 (some (.ret [.row 0, .d (.int .i64 0)] [] [⟨[.int .u8], 5, 1, (List.map (aJ .u8) r11)⟩]))) (
 cond (p0.Kind == 6) (
 γ17 [.d (.sl [.int .u8] (List.map (aJ .u8) r1)), .d (.int .i64 p0.ID)] [] [] fun r12 =>
 (some (.ret [.row 0, .d (.int .i64 0)] [] [⟨[.int .u8], 5, 1, (List.map (aJ .u8) r12)⟩]))) (
 cond (p0.Kind == 7) (
 γ17 [.d (.sl [.int .u8] (List.map (aJ .u8) r1)), .d (.int .i64 p0.ID)] [] [] fun r13 =>
 (some (.ret [.row 0, .d (.int .i64 0)] [] [⟨[.int .u8], 5, 1, (List.map (aJ .u8) r13)⟩]))) (
 cond (p0.Kind == 8) (
 γ17 [.d (.sl [.int .u8] (List.map (aJ .u8) r1)), .d (.int .i64 p0.ID)] [] [] fun r14 =>
 γ37 [.d (.sl [.int .u8] (List.map (aJ .u8) r14)), .d (.sl aG.ks (List.map aG.enc p0.Subs))] [] [] fun r15 =>
 (some (.ret [.row 0, .d (.int .i64 0)] [] [⟨[.int .u8], 5, 1, (List.map (aJ .u8) r15)⟩]))) (
 cond (p0.Kind == 9) (
 γ17 [.d (.sl [.int .u8] (List.map (aJ .u8) r1)), .d (.int .i64 p0.ID)] [] [] fun r16 =>
 γ17 [.d (.sl [.int .u8] (List.map (aJ .u8) r16)), .d (.int .i64 (lM eI p0.Codes : Int))] [] [] fun r17 =>
 afL (C24 Γ γ33 γ17 γ34 γ35 γ36 γ37 γ38) Λ2 J (List.map eI p0.Codes) (lM eI p0.Codes : Int) 0 (List.map (aJ .u8) r17)) (
 cond (p0.Kind == 11) (
 γ17 [.d (.sl [.int .u8] (List.map (aJ .u8) r1)), .d (.int .i64 p0.ID)] [] [] fun r18 =>
 γ17 [.d (.sl [.int .u8] (List.map (aJ .u8) r18)), .d (.int .i64 (lM eI p0.Codes : Int))] [] [] fun r19 =>
 afL (C24 Γ γ33 γ17 γ34 γ35 γ36 γ37 γ38) Λ2 J (List.map eI p0.Codes) (lM eI p0.Codes : Int) 0 (List.map (aJ .u8) r19)) (
 cond (p0.Kind == 10) (
 γ17 [.d (.sl [.int .u8] (List.map (aJ .u8) r1)), .d (.int .i64 p0.ID)] [] [] fun r20 =>
 γ38 [.d (.sl [.int .u8] (List.map (aJ .u8) r20)), .d (.sl [.str] (List.map bA p0.Filters))] [] [] fun r21 =>
 (some (.ret [.row 0, .d (.int .i64 0)] [] [⟨[.int .u8], 5, 1, (List.map (aJ .u8) r21)⟩]))) (
 cond (p0.Kind == 14) (
 γ17 [.d (.sl [.int .u8] (List.map (aJ .u8) r1)), .d (.int .i64 p0.Code)] [] [] fun r22 =>
 (some (.ret [.row 0, .d (.int .i64 0)] [] [⟨[.int .u8], 5, 1, (List.map (aJ .u8) r22)⟩]))) (
 (some (.ret [.row 0, .d (.int .i64 0)] [] [⟨[.int .u8], 5, 1, (List.map (aJ .u8) r1)⟩]))))))))))))))) := by kernel_rfl
theorem ap6 (x79 : List Int) (x80 x81 : Int) (w3005 : List Int) : eA SE (C24 Γ γ33 γ17 γ34 γ35 γ36 γ37 γ38) Λ2 J 24 0 [1, 1, 1, 0, 1, 0, 1, 1, 1, 1, 1, 1, 1, 1, 1, 1, 1, 0, 1, 1, 0] (bU [(5, .row 3005), (79, .d (.sl [.int .i64] (List.map eI x79))), (80, .d (.int .i64 x80)), (81, .d (.int .i64 x81))] [] [] [] [(3005, ⟨[.int .u8], 5, 1, (List.map (aJ .u8) w3005)⟩)]) =
 cond (decide (x81 < x80)) (
 cond (iB x81 (lM eI x79 : Int)) (
  γ17 [.d (.sl [.int .u8] (List.map (aJ .u8) w3005)), .d (.int .i64 (aX (cE eI x79 x81 0)))] [] [] fun r23 =>
  afL (C24 Γ γ33 γ17 γ34 γ35 γ36 γ37 γ38) Λ2 J (List.map eI x79) x80 (w6 (x81 + 1)) (List.map (aJ .u8) r23)) none) (
 (some (.ret [.row 0, .d (.int .i64 0)] [] [⟨[.int .u8], 5, 1, (List.map (aJ .u8) w3005)⟩]))) := by kernel_rfl
end
abbrev X24 : aS := C24 gG (cT 33 aI) (cT 17 aP) (cT 34 aP) (cT 35 aI) (cT 36 aP) (cT 37 aP) (cT 38 aP)
theorem aqY : X24 = aQ gG := by unfold X24 C24; repeat rw [bK fun _ h => h]
abbrev aqW := afL X24 (dQ SE gG (SE.hl 24) (SE.hr 24)) (J0 SE X24)
theorem vT : ∀ (fu : Nat) (x79 : List Int) (x80 x81 : Int) (w3005 : List Int), Le (Option.map eD (fY fu x79 x80 x81 w3005)) (aqW (List.map eI x79) x80 x81 (List.map (aJ .u8) w3005)) := by
 intro fu
 induction fu with
 | zero => intros; exact le_none
 | succ fu ih =>
  intro x79 x80 x81 w3005
  refine Le.trans ?_ (le_of_eq ((bX aqY).trans (ap6 ..)).symm)
  unfold fY
  refine lC ?_ ?_
  ·refine lG (by simp only [EN]) ?_
   refine lQ eX aU (by (try simp only [EN]); exact bR w3005 (List.getD x79 (Int.toNat x81) default)) fun r23 _ => ?_
   exact ih x79 x80 (w6 (x81 + 1)) r23
  ·exact aF rfl
theorem ag4 (p0 : aA) : Le (Option.map eD (rS p0)) (bD SE 24 [aA.av p0] [] []) := by
 refine aY aqY rfl ?_
 refine Le.trans ?_ (le_of_eq (T24 ..).symm)
 unfold rS
 refine lQ eX aZ (uD _) fun r0 _ => ?_
 refine lC ?_ ?_
 ·exact aF rfl
 ·refine lQ eX aU (by (try simp only [EN]); exact bR [] p0.Kind) fun r1 _ => ?_
  refine lC ?_ ?_
  ·refine lQ eX aU (agG _ _) fun r2 _ => ?_
   exact aF rfl
  ·refine lC ?_ ?_
   ·refine lQ eX aZ (o6 _) fun r3 _ => ?_
    refine lQ eX aU (bR _ _) fun r4 _ => ?_
    refine lQ eX aU (bR _ _) fun r5 _ => ?_
    exact aF rfl
   ·refine lC ?_ ?_
    ·refine lQ eX aU (bR _ _) fun r6 _ => ?_
     refine lQ eX aZ (o6 _) fun r7 _ => ?_
     refine lQ eX aU (bR _ _) fun r8 _ => ?_
     refine lQ eX aU (abd _ _) fun r9 _ => ?_
     exact aF rfl
    ·refine lC ?_ ?_
     ·refine lQ eX aU (bR _ _) fun r10 _ => ?_
      exact aF rfl
     ·refine lC ?_ ?_
      ·refine lQ eX aU (bR _ _) fun r11 _ => ?_
       exact aF rfl
      ·refine lC ?_ ?_
       ·refine lQ eX aU (bR _ _) fun r12 _ => ?_
        exact aF rfl
       ·refine lC ?_ ?_
        ·refine lQ eX aU (bR _ _) fun r13 _ => ?_
         exact aF rfl
        ·refine lC ?_ ?_
         ·refine lQ eX aU (bR _ _) fun r14 _ => ?_
          refine lQ eX aU (aa7 _ _) fun r15 _ => ?_
          exact aF rfl
         ·refine lC ?_ ?_
          ·refine lQ eX aU (bR _ _) fun r16 _ => ?_
           refine lQ eX aU (by (try simp only [EN]); exact bR r16 (List.length p0.Codes : Int)) fun r17 _ => ?_
           (try simp only [EN]); exact vT fuel p0.Codes (List.length p0.Codes : Int) 0 r17
          ·refine lC ?_ ?_
           ·refine lQ eX aU (bR _ _) fun r18 _ => ?_
            refine lQ eX aU (by (try simp only [EN]); exact bR r18 (List.length p0.Codes : Int)) fun r19 _ => ?_
            (try simp only [EN]); exact vT fuel p0.Codes (List.length p0.Codes : Int) 0 r19
           ·refine lC ?_ ?_
            ·refine lQ eX aU (bR _ _) fun r20 _ => ?_
             refine lQ eX aU (afz _ _) fun r21 _ => ?_
             exact aF rfl
            ·refine lC ?_ ?_
             ·refine lQ eX aU (bR _ _) fun r22 _ => ?_
              exact aF rfl
             ·exact aF rfl
def alz (C : aS) (Λ2 J : Lam) (a0 : List (List D)) (a1 a2 : Int) (a3 : List (List D)) : Res := lab SE C Λ2 J 16 0 [1, 1, 0, 1, 0] (bU [(4, .row 3004), (9, .d (.sl aA.ks a0)), (10, .d (.int .i64 a1)), (11, .d (.int .i64 a2))] [] [] [] [(3004, ⟨[.int .u8], 5, 1, a3⟩)])
section
variable (Γ : Fun) (γ24 : Gm ((List Int) × Int)) (γ17 : Gm ((List Int))) (Λ2 J : Lam)
def C16 : aS := bM (bM (aQ Γ) 24 eD γ24) 17 aP γ17
theorem T16 (p0 : List aA) : bS SE (C16 Γ γ24 γ17) Λ2 J 16 [.d (.sl aA.ks (List.map aA.enc p0))] [] [] =
 alz (C16 Γ γ24 γ17) Λ2 J (List.map aA.enc p0) (lM aA.enc p0 : Int) 0 (List.map (aJ .u8) []) := by kernel_rfl
theorem asm (x9 : List aA) (x10 x11 : Int) (w3004 : List Int) : eA SE (C16 Γ γ24 γ17) Λ2 J 16 0 [1, 1, 0, 1, 0] (bU [(4, .row 3004), (9, .d (.sl aA.ks (List.map aA.enc x9))), (10, .d (.int .i64 x10)), (11, .d (.int .i64 x11))] [] [] [] [(3004, ⟨[.int .u8], 5, 1, (List.map (aJ .u8) w3004)⟩)]) =
 cond (decide (x11 < x10)) (
 cond (iB x11 (lM aA.enc x9 : Int)) (
  γ24 [.agg [.d (.int .i64 (aX (cE aA.enc x9 x11 0))), .d (.int .i64 (aX (cE aA.enc x9 x11 1))), .d (.bool (cG (cE aA.enc x9 x11 2))), .d (.str (bZ (cE aA.enc x9 x11 3))), .d (.str (bZ (cE aA.enc x9 x11 4))), .d (.int .i64 (aX (cE aA.enc x9 x11 5))), .d (.bool (cG (cE aA.enc x9 x11 6))), .d (.int .i64 (aX (cE aA.enc x9 x11 7))), .d (.int .i64 (aX (cE aA.enc x9 x11 8))), .d (.str (bZ (cE aA.enc x9 x11 9))), .d (.int .i64 (aX (cE aA.enc x9 x11 10))), .d (.sl aB.ks (dSl (cE aA.enc x9 x11 11))), .d (.str (bZ (cE aA.enc x9 x11 12))), .d (.str (bZ (cE aA.enc x9 x11 13))), .d (.bool (cG (cE aA.enc x9 x11 14))), .d (.int .i64 (aX (cE aA.enc x9 x11 15))), .d (.int .i64 (aX (cE aA.enc x9 x11 16))), .d (.int .i64 (aX (cE aA.enc x9 x11 17))), .d (.bool (cG (cE aA.enc x9 x11 18))), .d (.int .i64 (aX (cE aA.enc x9 x11 19))), .d (.str (bZ (cE aA.enc x9 x11 20))), .d (.str (bZ (cE aA.enc x9 x11 21))), .d (.int .i64 (aX (cE aA.enc x9 x11 22))), .d (.bool (cG (cE aA.enc x9 x11 23))), .d (.int .i64 (aX (cE aA.enc x9 x11 24))), .d (.int .i64 (aX (cE aA.enc x9 x11 25))), .d (.str (bZ (cE aA.enc x9 x11 26))), .d (.int .i64 (aX (cE aA.enc x9 x11 27))), .d (.sl aB.ks (dSl (cE aA.enc x9 x11 28))), .d (.bool (cG (cE aA.enc x9 x11 29))), .d (.int .i64 (aX (cE aA.enc x9 x11 30))), .d (.sl aG.ks (dSl (cE aA.enc x9 x11 31))), .d (.sl [.str] (dSl (cE aA.enc x9 x11 32))), .d (.sl [.int .i64] (dSl (cE aA.enc x9 x11 33)))]] [] [] fun r0 =>
  cond (r0.2 != 0) (
  (some (.ret [.row 0, .d (.int .i64 r0.2)] [] [⟨[.int .u8], 5, 1, []⟩]))) (
  γ17 [.d (.sl [.int .u8] (List.map (aJ .u8) w3004)), .d (.int .i64 (lM (aJ .u8) r0.1 : Int))] [] [] fun r1 =>
  cond (decide ((lM (aJ .u8) r1 + lM (aJ .u8) r0.1) * 1 ≤ 140737488355328)) (
  alz (C16 Γ γ24 γ17) Λ2 J (List.map aA.enc x9) x10 (w6 (x11 + 1)) (((List.map (aJ .u8) r1) ++ (List.map (aJ .u8) r0.1)))) none)) none) (
 (some (.ret [.row 0, .d (.int .i64 0)] [] [⟨[.int .u8], 5, 1, (List.map (aJ .u8) w3004)⟩]))) := by kernel_rfl
end
abbrev X16 : aS := C16 gG (cT 24 eD) (cT 17 aP)
theorem aqB : X16 = aQ gG := by unfold X16 C16; repeat rw [bK fun _ h => h]
abbrev asV := alz X16 (dQ SE gG (SE.hl 16) (SE.hr 16)) (J0 SE X16)
theorem abE : ∀ (fu : Nat) (x9 : List aA) (x10 x11 : Int) (w3004 : List Int), Le (Option.map eD (gV fu x9 x10 x11 w3004)) (asV (List.map aA.enc x9) x10 x11 (List.map (aJ .u8) w3004)) := by
 intro fu
 induction fu with
 | zero => intros; exact le_none
 | succ fu ih =>
  intro x9 x10 x11 w3004
  refine Le.trans ?_ (le_of_eq ((bX aqB).trans (asm ..)).symm)
  unfold gV
  refine lC ?_ ?_
  ·refine lG (by simp only [EN]) ?_
   refine lQ eX zW (by (try simp only [EN]); exact ag4 (List.getD x9 (Int.toNat x11) default)) fun r0 _ => ?_
   refine lC ?_ ?_
   ·exact aF rfl
   ·refine lQ eX aU (by (try simp only [EN]); exact bR w3004 (List.length r0.1 : Int)) fun r1 _ => ?_
    refine lG (by simp only [EN]) ?_
    (try simp only [EN]); exact ih x9 x10 (w6 (x11 + 1)) (r1 ++ r0.1)
  ·exact aF rfl
theorem aeq (p0 : List aA) : Le (Option.map eD (nV p0)) (bD SE 16 [.d (.sl aA.ks (List.map aA.enc p0))] [] []) := by
 refine aY aqB rfl ?_
 refine Le.trans ?_ (le_of_eq (T16 ..).symm)
 unfold nV
 (try simp only [EN]); exact abE fuel p0 (List.length p0 : Int) 0 []
def alx (C : aS) (Λ2 J : Lam) (a0 : Int) (a1 : List (List D)) (a2 a3 : Int) : Res := lab SE C Λ2 J 27 0 [1, 1, 0, 1, 0] (bU [(3, .d (.int .u32 a0)), (6, .d (.sl [.int .u8] a1)), (7, .d (.int .i64 a2)), (8, .d (.int .i64 a3))] [] [] [] [])
section
variable (Γ : Fun)  (Λ2 J : Lam)
def C27 : aS := aQ Γ
theorem T27 (p0 : List Int) : bS SE (C27 Γ) Λ2 J 27 [.d (.sl [.int .u8] (List.map (aJ .u8) p0))] [] [] =
 alx (C27 Γ) Λ2 J 2166136261 (List.map (aJ .u8) p0) (lM (aJ .u8) p0 : Int) 0 := by kernel_rfl
theorem asG (x3 : Int) (x6 : List Int) (x7 x8 : Int) : eA SE (C27 Γ) Λ2 J 27 0 [1, 1, 0, 1, 0] (bU [(3, .d (.int .u32 x3)), (6, .d (.sl [.int .u8] (List.map (aJ .u8) x6))), (7, .d (.int .i64 x7)), (8, .d (.int .i64 x8))] [] [] [] []) =
 cond (decide (x8 < x7)) (
 cond (iB x8 (lM (aJ .u8) x6 : Int)) (
  alx (C27 Γ) Λ2 J ((IntKind.wrap .u32 ((bP .xor .u32 x3 (IntKind.wrap .u32 (aX (cE (aJ .u8) x6 x8 0)))) * 16777619))) (List.map (aJ .u8) x6) x7 (w6 (x8 + 1))) none) (
 (rI (w6 x3))) := by kernel_rfl
end
abbrev X27 : aS := C27 gG
theorem aqH : X27 = aQ gG := rfl
abbrev arT := alx X27 (dQ SE gG (SE.hl 27) (SE.hr 27)) (J0 SE X27)
theorem af6 : ∀ (fu : Nat) (x3 : Int) (x6 : List Int) (x7 x8 : Int), Le (Option.map aI (mC fu x3 x6 x7 x8)) (arT x3 (List.map (aJ .u8) x6) x7 x8) := by
 intro fu
 induction fu with
 | zero => intros; exact le_none
 | succ fu ih =>
  intro x3 x6 x7 x8
  refine Le.trans ?_ (le_of_eq ((bX aqH).trans (asG ..)).symm)
  unfold mC
  refine lC ?_ ?_
  ·refine lG (by simp only [EN]) ?_
   (try simp only [EN]); exact ih (IntKind.wrap .u32 ((bP .xor .u32 x3 (IntKind.wrap .u32 (List.getD x6 (Int.toNat x8) default))) * 16777619)) x6 x7 (w6 (x8 + 1))
  ·exact aF rfl
theorem acT (p0 : List Int) : Le (Option.map aI (tD p0)) (bD SE 27 [.d (.sl [.int .u8] (List.map (aJ .u8) p0))] [] []) := by
 refine aY aqH rfl ?_
 refine Le.trans ?_ (le_of_eq (T27 ..).symm)
 unfold tD
 (try simp only [EN]); exact af6 fuel 2166136261 p0 (List.length p0 : Int) 0
section
variable (Γ : Fun) (γ27 : Gm (Int)) (γ17 : Gm ((List Int))) (Λ2 J : Lam)
def C18 : aS := bM (bM (aQ Γ) 27 aI γ27) 17 aP γ17
theorem T18 (p0 : List Int) : bS SE (C18 Γ γ27 γ17) Λ2 J 18 [.d (.sl [.int .u8] (List.map (aJ .u8) p0))] [] [] =
 cond (decide ((lM (aJ .u8) p0 : Int) > 65536)) (
 (some (.ret [.row 0] [] [⟨[.int .u8], 5, 1, []⟩]))) (
 γ27 [.d (.sl [.int .u8] (List.map (aJ .u8) p0))] [] [] fun r0 =>
 γ17 [.d (.sl [.int .u8] (List.map (aJ .u8) [])), .d (.int .i64 (lM (aJ .u8) p0 : Int))] [] [] fun r1 =>
 cond (decide ((lM (aJ .u8) r1 + lM (aJ .u8) [(IntKind.wrap .u8 (shr .i64 r0 24)), (IntKind.wrap .u8 (shr .i64 r0 16)), (IntKind.wrap .u8 (shr .i64 r0 8)), (IntKind.wrap .u8 r0)]) * 1 ≤ 140737488355328)) (
 cond (decide ((List.length ((List.map (aJ .u8) r1) ++ (List.map (aJ .u8) [(IntKind.wrap .u8 (shr .i64 r0 24)), (IntKind.wrap .u8 (shr .i64 r0 16)), (IntKind.wrap .u8 (shr .i64 r0 8)), (IntKind.wrap .u8 r0)])) + lM (aJ .u8) p0) * 1 ≤ 140737488355328)) (
  (some (.ret [.row 0] [] [⟨[.int .u8], 5, 1, (((List.map (aJ .u8) r1) ++ (List.map (aJ .u8) [(IntKind.wrap .u8 (shr .i64 r0 24)), (IntKind.wrap .u8 (shr .i64 r0 16)), (IntKind.wrap .u8 (shr .i64 r0 8)), (IntKind.wrap .u8 r0)])) ++ (List.map (aJ .u8) p0))⟩]))) none) none) := by kernel_rfl
end
abbrev X18 : aS := C18 gG (cT 27 aI) (cT 17 aP)
theorem atv : X18 = aQ gG := by unfold X18 C18; repeat rw [bK fun _ h => h]
theorem air (p0 : List Int) : Le (Option.map aP (tV p0)) (bD SE 18 [.d (.sl [.int .u8] (List.map (aJ .u8) p0))] [] []) := by
 refine aY atv rfl ?_
 refine Le.trans ?_ (le_of_eq (T18 ..).symm)
 unfold tV
 refine lD (by simp only [EN]) ?_ ?_
 ·exact aF rfl
 ·refine lQ eX aZ (acT _) fun r0 _ => ?_
  refine lQ eX aU (by (try simp only [EN]); exact bR [] (List.length p0 : Int)) fun r1 _ => ?_
  refine lG (by simp only [EN]) ?_
  refine lG (by simp only [EN]) ?_
  exact aF (by first | rfl | simp only [EN, aP] <;> rfl)
def ao7 (C : aS) (Λ2 J : Lam) (a0 : List (List D)) (a1 a2 : List D) : Res := lab SE C Λ2 J 12 0 [1, 1, 1, 0] (bU [(1, .d (.sl aA.ks a0)), (2, .ptr 1000000000 0), (5, .ptr 1000000001 0)] [⟨23, (List.map AV.d a1)⟩, ⟨23, (List.map AV.d a2)⟩] [] [] [])
section
variable (Γ : Fun) (γ16 : Gm ((List Int) × Int)) (γ17 γ18 : Gm ((List Int))) (Λ2 J : Lam)
def C12 : aS := bM (bM (bM (aQ Γ) 16 eD γ16) 17 aP γ17) 18 aP γ18
theorem T12 (p0 : aL) (p1 : List aA) : bS SE (C12 Γ γ16 γ17 γ18) Λ2 J 12 [aL.av p0, .d (.sl aA.ks (List.map aA.enc p1))] [] [] =
 cond p0.Broken (
 (some (.ret [.row 0, aL.av p0, .d (.int .i64 21)] [] [⟨[.int .u8], 5, 1, []⟩]))) (
 cond (decide (p0.Conn < 0)) (
 (some (.ret [.row 0, aL.av p0, .d (.int .i64 1)] [] [⟨[.int .u8], 5, 1, []⟩]))) (
 cond (decide (p0.Conn > 1099511627776)) (
 (some (.ret [.row 0, aL.av p0, .d (.int .i64 1)] [] [⟨[.int .u8], 5, 1, []⟩]))) (
 cond (decide (p0.Sent < 0)) (
 (some (.ret [.row 0, aL.av p0, .d (.int .i64 1)] [] [⟨[.int .u8], 5, 1, []⟩]))) (
 cond (decide (p0.Sent ≥ 1099511627776)) (
 (some (.ret [.row 0, aL.av p0, .d (.int .i64 1)] [] [⟨[.int .u8], 5, 1, []⟩]))) (
 ao7 (C12 Γ γ16 γ17 γ18) Λ2 J (List.map aA.enc p1) (aL.enc p0) (aL.enc (aL.mk 0 0 0 false))))))) := by kernel_rfl
theorem arD (x1 : List aA) (b0 b1 : aL) : eA SE (C12 Γ γ16 γ17 γ18) Λ2 J 12 0 [1, 1, 1, 0] (bU [(1, .d (.sl aA.ks (List.map aA.enc x1))), (2, .ptr 1000000000 0), (5, .ptr 1000000001 0)] [⟨23, (List.map AV.d (aL.enc b0))⟩, ⟨23, (List.map AV.d (aL.enc b1))⟩] [] [] []) =
 γ16 [.d (.sl aA.ks (List.map aA.enc x1))] [] [] fun r0 =>
 cond (r0.2 != 0) (
 (some (.ret [.row 0, aL.av b0, .d (.int .i64 r0.2)] [] [⟨[.int .u8], 5, 1, []⟩]))) (
 γ17 [.d (.sl [.int .u8] (List.map (aJ .u8) [])), .d (.int .i64 b0.Conn)] [] [] fun r1 =>
 γ17 [.d (.sl [.int .u8] (List.map (aJ .u8) r1)), .d (.int .i64 (w6 (b0.Sent + 1)))] [] [] fun r2 =>
 cond (decide ((lM (aJ .u8) r2 + lM (aJ .u8) r0.1) * 1 ≤ 140737488355328)) (
 cond (decide ((List.length ((List.map (aJ .u8) r2) ++ (List.map (aJ .u8) r0.1)) : Int) > 65536)) (
  (some (.ret [.row 0, aL.av b0, .d (.int .i64 5)] [] [⟨[.int .u8], 5, 1, []⟩]))) (
 γ18 [.d (.sl [.int .u8] ((List.map (aJ .u8) r2) ++ (List.map (aJ .u8) r0.1)))] [] [] fun r3 =>
 (some (.ret [.row 0, aL.av (aL.mk b0.Conn (w6 (b0.Sent + 1)) b0.Got b0.Broken), .d (.int .i64 0)] [] [⟨[.int .u8], 5, 1, (List.map (aJ .u8) r3)⟩])))) none) := by kernel_rfl
end
abbrev X12 : aS := C12 gG (cT 16 eD) (cT 17 aP) (cT 18 aP)
theorem aqq : X12 = aQ gG := by unfold X12 C12; repeat rw [bK fun _ h => h]
abbrev ass := ao7 X12 (dQ SE gG (SE.hl 12) (SE.hr 12)) (J0 SE X12)
theorem aeA (x1 : List aA) (b0 b1 : aL) : Le (Option.map iQ (rK x1 b0 b1)) (ass (List.map aA.enc x1) (aL.enc b0) (aL.enc b1)) := by
 refine Le.trans ?_ (le_of_eq ((bX aqq).trans (arD ..)).symm)
 unfold rK
 refine lQ eX zW (aeq _) fun r0 _ => ?_
 refine lC ?_ ?_
 ·exact aF rfl
 ·refine lQ eX aU (by (try simp only [EN]); exact bR [] b0.Conn) fun r1 _ => ?_
  refine lQ eX aU (bR _ _) fun r2 _ => ?_
  refine lG (by simp only [EN]) ?_
  refine lD (by simp only [EN]) ?_ ?_
  ·exact aF rfl
  ·refine lQ eX aU (by (try simp only [EN]); exact air (r2 ++ r0.1)) fun r3 _ => ?_
   exact aF rfl
theorem ahj (p0 : aL) (p1 : List aA) : Le (Option.map iQ (rR p0 p1)) (bD SE 12 [aL.av p0, .d (.sl aA.ks (List.map aA.enc p1))] [] []) := by
 refine aY aqq rfl ?_
 refine Le.trans ?_ (le_of_eq (T12 ..).symm)
 unfold rR
 refine lC ?_ ?_
 ·exact aF rfl
 ·refine lC ?_ ?_
  ·exact aF rfl
  ·refine lC ?_ ?_
   ·exact aF rfl
   ·refine lC ?_ ?_
    ·exact aF rfl
    ·refine lC ?_ ?_
     ·exact aF rfl
     ·exact aeA p1 p0 (aL.mk 0 0 0 false)
section
variable (Γ : Fun)  (Λ2 J : Lam)
def C29 : aS := aQ Γ
theorem T29 (p0 : Int) : bS SE (C29 Γ) Λ2 J 29 [.d (.int .u64 p0)] [] [] =
 cond ((bP .and .u64 p0 1) == 1) (
 (rI (w6 ((w6 (0 - (w6 (shr .u64 p0 1)))) - 1)))) (
 (rI (w6 (shr .u64 p0 1)))) := by kernel_rfl
end
abbrev X29 : aS := C29 gG
theorem att : X29 = aQ gG := rfl
theorem ahs (p0 : Int) : Le (Option.map aI (hI p0)) (bD SE 29 [.d (.int .u64 p0)] [] []) := by
 refine aY att rfl ?_
 refine Le.trans ?_ (le_of_eq (T29 ..).symm)
 unfold hI
 refine lC ?_ ?_
 ·exact aF rfl
 ·exact aF rfl
def ads (C : aS) (Λ2 J : Lam) (a0 : List (List D)) (a1 a2 a3 a4 a5 : Int) (a6 a7 a8 : Bool) : Res := lab SE C Λ2 J 21 0 [1, 1, 1, 1, 0, 0, 0, 0, 1, 1, 1, 0] (bU [(0, .d (.sl [.int .u8] a0)), (1, .d (.int .i64 a1)), (7, .d (.int .u64 a2)), (8, .d (.int .i64 a3)), (9, .d (.int .u8 a4)), (39, .d (.int .i64 a5)), (40, .d (.bool a6)), (41, .d (.bool a7)), (44, .d (.bool a8))] [] [] [] [])
def alc (C : aS) (Λ2 J : Lam) (a0 : List (List D)) (a1 a2 a3 : Int) : Res := lab SE C Λ2 J 21 0 [1, 1, 1, 1, 0] (bU [(0, .d (.sl [.int .u8] a0)), (1, .d (.int .i64 a1)), (7, .d (.int .u64 a2)), (8, .d (.int .i64 a3))] [] [] [] [])
def aoM (C : aS) (Λ2 J : Lam) (a0 : List (List D)) (a1 : Int) : Res := lab SE C Λ2 J 21 0 [1, 1, 0] (bU [(0, .d (.sl [.int .u8] a0)), (1, .d (.int .i64 a1))] [] [] [] [])
section
variable (Γ : Fun) (γ29 : Gm (Int)) (Λ2 J : Lam)
def C21 : aS := bM (aQ Γ) 29 aI γ29
theorem T21 (p0 : List Int) (p1 : Int) : bS SE (C21 Γ γ29) Λ2 J 21 [.d (.sl [.int .u8] (List.map (aJ .u8) p0)), .d (.int .i64 p1)] [] [] =
 cond (decide (p1 < 0)) (
 (some (.ret [.d (.int .i64 0), .d (.int .i64 0), .d (.int .i64 1)] [] []))) (
 cond (decide (p1 > (lM (aJ .u8) p0 : Int))) (
 (some (.ret [.d (.int .i64 0), .d (.int .i64 0), .d (.int .i64 1)] [] []))) (
 aoM (C21 Γ γ29) Λ2 J (List.map (aJ .u8) p0) p1)) := by kernel_rfl
theorem aqy (x0 : List Int) (x1 x7 x8 x9 x39 : Int) (x40 x41 x44 : Bool) : eA SE (C21 Γ γ29) Λ2 J 21 0 [1, 1, 1, 1, 0, 0, 0, 0, 1, 1, 1, 0] (bU [(0, .d (.sl [.int .u8] (List.map (aJ .u8) x0))), (1, .d (.int .i64 x1)), (7, .d (.int .u64 x7)), (8, .d (.int .i64 x8)), (9, .d (.int .u8 x9)), (39, .d (.int .i64 x39)), (40, .d (.bool x40)), (41, .d (.bool x41)), (44, .d (.bool x44))] [] [] [] []) =
 cond (decide (0 ≤ (w6 (7 * x8)))) (
 cond (decide (x9 < 128)) (
  γ29 [.d (.int .u64 (bP .or .u64 x7 (shl .u64 (IntKind.wrap .u64 (bP .and .u8 x9 127)) (w6 (7 * x8)))))] [] [] fun r0 =>
  (some (.ret [.d (.int .i64 r0), .d (.int .i64 (w6 ((w6 (x1 + x8)) + 1))), .d (.int .i64 0)] [] []))) (
 alc (C21 Γ γ29) Λ2 J (List.map (aJ .u8) x0) x1 ((bP .or .u64 x7 (shl .u64 (IntKind.wrap .u64 (bP .and .u8 x9 127)) (w6 (7 * x8))))) (w6 (x8 + 1)))) none := by kernel_rfl
theorem ar2 (x0 : List Int) (x1 x7 x8 : Int) : eA SE (C21 Γ γ29) Λ2 J 21 0 [1, 1, 1, 1, 0] (bU [(0, .d (.sl [.int .u8] (List.map (aJ .u8) x0))), (1, .d (.int .i64 x1)), (7, .d (.int .u64 x7)), (8, .d (.int .i64 x8))] [] [] [] []) =
 cond ((w6 (x1 + x8)) == (lM (aJ .u8) x0 : Int)) (
 (some (.ret [.d (.int .i64 0), .d (.int .i64 0), .d (.int .i64 3)] [] []))) (
 cond (iB (w6 (x1 + x8)) (lM (aJ .u8) x0 : Int)) (
 cond (x8 == 9) (
  cond (decide ((aX (cE (aJ .u8) x0 (w6 (x1 + x8)) 0)) > 1)) (
  (some (.ret [.d (.int .i64 0), .d (.int .i64 0), .d (.int .i64 2)] [] []))) (
  cond (decide (x8 > 0)) (
  cond ((aX (cE (aJ .u8) x0 (w6 (x1 + x8)) 0)) == 0) (
   (some (.ret [.d (.int .i64 0), .d (.int .i64 0), .d (.int .i64 2)] [] []))) (
  ads (C21 Γ γ29) Λ2 J (List.map (aJ .u8) x0) x1 x7 x8 ((aX (cE (aJ .u8) x0 (w6 (x1 + x8)) 0))) x8 (decide (x8 > 0)) true (((aX (cE (aJ .u8) x0 (w6 (x1 + x8)) 0)) == 0)))) (
  ads (C21 Γ γ29) Λ2 J (List.map (aJ .u8) x0) x1 x7 x8 ((aX (cE (aJ .u8) x0 (w6 (x1 + x8)) 0))) x8 (decide (x8 > 0)) false false))) (
 cond (decide (x8 > 0)) (
  cond ((aX (cE (aJ .u8) x0 (w6 (x1 + x8)) 0)) == 0) (
  (some (.ret [.d (.int .i64 0), .d (.int .i64 0), .d (.int .i64 2)] [] []))) (
  ads (C21 Γ γ29) Λ2 J (List.map (aJ .u8) x0) x1 x7 x8 ((aX (cE (aJ .u8) x0 (w6 (x1 + x8)) 0))) x8 (decide (x8 > 0)) true (((aX (cE (aJ .u8) x0 (w6 (x1 + x8)) 0)) == 0)))) (
 ads (C21 Γ γ29) Λ2 J (List.map (aJ .u8) x0) x1 x7 x8 ((aX (cE (aJ .u8) x0 (w6 (x1 + x8)) 0))) x8 (decide (x8 > 0)) false false))) none) := by kernel_rfl
theorem asQ (x0 : List Int) (x1 : Int) : eA SE (C21 Γ γ29) Λ2 J 21 0 [1, 1, 0] (bU [(0, .d (.sl [.int .u8] (List.map (aJ .u8) x0))), (1, .d (.int .i64 x1))] [] [] [] []) =
 alc (C21 Γ γ29) Λ2 J (List.map (aJ .u8) x0) x1 0 0 := by kernel_rfl
end
abbrev X21 : aS := C21 gG (cT 29 aI)
theorem al0 : X21 = aQ gG := by unfold X21 C21; rw [bK fun _ h => h]
abbrev aqg := ads X21 (dQ SE gG (SE.hl 21) (SE.hr 21)) (J0 SE X21)
abbrev ao3 := alc X21 (dQ SE gG (SE.hl 21) (SE.hr 21)) (J0 SE X21)
abbrev asK := aoM X21 (dQ SE gG (SE.hl 21) (SE.hr 21)) (J0 SE X21)
theorem pV (k6 : (List Int) → Int → Int → Int → Option (Int × Int × Int)) (hk6 : ∀ (x0 : List Int) (x1 x7 x8 : Int), Le (Option.map bN (k6 x0 x1 x7 x8)) (ao3 (List.map (aJ .u8) x0) x1 x7 x8)) (x0 : List Int) (x1 x7 x8 x9 x39 : Int) (x40 x41 x44 : Bool) : Le (Option.map bN (hJ k6 x0 x1 x7 x8 x9 x39 x40 x41 x44)) (aqg (List.map (aJ .u8) x0) x1 x7 x8 x9 x39 x40 x41 x44) := by
 refine Le.trans ?_ (le_of_eq ((bX al0).trans (aqy ..)).symm)
 unfold hJ
 refine lF ?_
 refine lC ?_ ?_
 ·refine lQ eX aZ (ahs _) fun r0 _ => ?_
  exact aF rfl
 ·(try simp only [EN]); exact hk6 x0 x1 ((bP .or .u64 x7 (shl .u64 (IntKind.wrap .u64 (bP .and .u8 x9 127)) (w6 (7 * x8))))) (w6 (x8 + 1))
theorem aha : ∀ (fu : Nat) (x0 : List Int) (x1 x7 x8 : Int), Le (Option.map bN (cX fu x0 x1 x7 x8)) (ao3 (List.map (aJ .u8) x0) x1 x7 x8) := by
 intro fu
 induction fu with
 | zero => intros; exact le_none
 | succ fu ih =>
  intro x0 x1 x7 x8
  refine Le.trans ?_ (le_of_eq ((bX al0).trans (ar2 ..)).symm)
  unfold cX
  refine lD (by simp only [EN]) ?_ ?_
  ·exact aF rfl
  ·refine lG (by simp only [EN]) ?_
   refine lC ?_ ?_
   ·refine lD (by simp only [EN]) ?_ ?_
    ·exact aF rfl
    ·refine lC ?_ ?_
     ·refine lD (by simp only [EN]) ?_ ?_
      ·exact aF rfl
      ·(try simp only [EN]); exact pV _ (ih) x0 x1 x7 x8 (List.getD x0 (Int.toNat (w6 (x1 + x8))) default) x8 (decide (x8 > 0)) true ((List.getD x0 (Int.toNat (w6 (x1 + x8))) default) == 0)
     ·(try simp only [EN]); exact pV _ (ih) x0 x1 x7 x8 (List.getD x0 (Int.toNat (w6 (x1 + x8))) default) x8 (decide (x8 > 0)) false false
   ·refine lC ?_ ?_
    ·refine lD (by simp only [EN]) ?_ ?_
     ·exact aF rfl
     ·(try simp only [EN]); exact pV _ (ih) x0 x1 x7 x8 (List.getD x0 (Int.toNat (w6 (x1 + x8))) default) x8 (decide (x8 > 0)) true ((List.getD x0 (Int.toNat (w6 (x1 + x8))) default) == 0)
    ·(try simp only [EN]); exact pV _ (ih) x0 x1 x7 x8 (List.getD x0 (Int.toNat (w6 (x1 + x8))) default) x8 (decide (x8 > 0)) false false
theorem aht (x0 : List Int) (x1 : Int) : Le (Option.map bN (sC x0 x1)) (asK (List.map (aJ .u8) x0) x1) := by
 refine Le.trans ?_ (le_of_eq ((bX al0).trans (asQ ..)).symm)
 unfold sC
 exact aha fuel x0 x1 0 0
theorem pG (p0 : List Int) (p1 : Int) : Le (Option.map bN (kU p0 p1)) (bD SE 21 [.d (.sl [.int .u8] (List.map (aJ .u8) p0)), .d (.int .i64 p1)] [] []) := by
 refine aY al0 rfl ?_
 refine Le.trans ?_ (le_of_eq (T21 ..).symm)
 unfold kU
 refine lC ?_ ?_
 ·exact aF rfl
 ·refine lD (by simp only [EN]) ?_ ?_
  ·exact aF rfl
  ·exact aht p0 p1
section
variable (Γ : Fun) (γ21 : Gm (Int × Int × Int)) (γ27 : Gm (Int)) (Λ2 J : Lam)
def C20 : aS := bM (bM (aQ Γ) 21 bN γ21) 27 aI γ27
theorem T20 (p0 : List Int) (p1 : Int) : bS SE (C20 Γ γ21 γ27) Λ2 J 20 [.d (.sl [.int .u8] (List.map (aJ .u8) p0)), .d (.int .i64 p1)] [] [] =
 γ21 [.d (.sl [.int .u8] (List.map (aJ .u8) p0)), .d (.int .i64 p1)] [] [] fun r0 =>
 cond (r0.2.2 != 0) (
 (some (.ret [.row 0, .d (.int .i64 0), .d (.int .i64 r0.2.2)] [] [⟨[.int .u8], 5, 1, []⟩]))) (
 cond (decide (r0.1 < 0)) (
 (some (.ret [.row 0, .d (.int .i64 0), .d (.int .i64 2)] [] [⟨[.int .u8], 5, 1, []⟩]))) (
 cond (decide (r0.1 > 65536)) (
 (some (.ret [.row 0, .d (.int .i64 0), .d (.int .i64 5)] [] [⟨[.int .u8], 5, 1, []⟩]))) (
 cond (decide ((w6 ((lM (aJ .u8) p0 : Int) - r0.2.1)) < (w6 (4 + r0.1)))) (
 (some (.ret [.row 0, .d (.int .i64 0), .d (.int .i64 3)] [] [⟨[.int .u8], 5, 1, []⟩]))) (
 cond (decide (0 ≤ (w6 (r0.2.1 + 4))) && decide ((w6 (r0.2.1 + 4)) ≤ ((lM (aJ .u8) p0) : Int))) (
 cond (decide (0 ≤ (w6 (r0.2.1 + 4))) && decide ((w6 (r0.2.1 + 4)) ≤ (w6 (r0.2.1 + 4)))) (
  cond (decide (0 ≤ r0.2.1) && decide (r0.2.1 ≤ (w6 (r0.2.1 + 4)))) (
  cond (decide (0 ≤ r0.1) && decide (r0.1 ≤ r0.1) && decide (r0.1 * 1 ≤ 281474976710656)) (
   cond (decide (0 ≤ (w6 ((w6 (r0.2.1 + 4)) + r0.1))) && decide ((w6 ((w6 (r0.2.1 + 4)) + r0.1)) ≤ ((lM (aJ .u8) p0) : Int))) (
   cond (decide (0 ≤ (w6 (r0.2.1 + 4))) && decide ((w6 (r0.2.1 + 4)) ≤ (w6 ((w6 (r0.2.1 + 4)) + r0.1)))) (
    cond (decide (0 ≤ 0) && decide (0 < (List.length (cH (List.map (aJ .u8) p0) (some r0.2.1) (some (w6 (r0.2.1 + 4)))) : Int))) (
    cond (decide (0 ≤ 1) && decide (1 < (List.length (cH (List.map (aJ .u8) p0) (some r0.2.1) (some (w6 (r0.2.1 + 4)))) : Int))) (
     cond (decide (0 ≤ 2) && decide (2 < (List.length (cH (List.map (aJ .u8) p0) (some r0.2.1) (some (w6 (r0.2.1 + 4)))) : Int))) (
     cond (decide (0 ≤ 3) && decide (3 < (List.length (cH (List.map (aJ .u8) p0) (some r0.2.1) (some (w6 (r0.2.1 + 4)))) : Int))) (
      γ27 [.d (.sl [.int .u8] (List.take (List.length (List.replicate (Int.toNat r0.1) [D.int .u8 0])) (cH (List.map (aJ .u8) p0) (some (w6 (r0.2.1 + 4))) (some (w6 ((w6 (r0.2.1 + 4)) + r0.1)))) ++ List.drop (min (List.length (cH (List.map (aJ .u8) p0) (some (w6 (r0.2.1 + 4))) (some (w6 ((w6 (r0.2.1 + 4)) + r0.1))))) (List.length (List.replicate (Int.toNat r0.1) [D.int .u8 0]))) (List.replicate (Int.toNat r0.1) [D.int .u8 0])))] [] [] fun r1 =>
      cond ((bP .or .i64 (bP .or .i64 (bP .or .i64 (shl .i64 (w6 (aX (cellAt (elemAt (cH (List.map (aJ .u8) p0) (some r0.2.1) (some (w6 (r0.2.1 + 4)))) (Int.toNat 0)) 0))) 24) (shl .i64 (w6 (aX (cellAt (elemAt (cH (List.map (aJ .u8) p0) (some r0.2.1) (some (w6 (r0.2.1 + 4)))) (Int.toNat 1)) 0))) 16)) (shl .i64 (w6 (aX (cellAt (elemAt (cH (List.map (aJ .u8) p0) (some r0.2.1) (some (w6 (r0.2.1 + 4)))) (Int.toNat 2)) 0))) 8)) (w6 (aX (cellAt (elemAt (cH (List.map (aJ .u8) p0) (some r0.2.1) (some (w6 (r0.2.1 + 4)))) (Int.toNat 3)) 0)))) != r1) (
      (some (.ret [.row 0, .d (.int .i64 0), .d (.int .i64 4)] [] [⟨[.int .u8], 5, 1, []⟩]))) (
      (some (.ret [.row 0, .d (.int .i64 (w6 ((w6 (r0.2.1 + 4)) + r0.1))), .d (.int .i64 0)] [] [⟨[.int .u8], 5, 1, (List.take (List.length (List.replicate (Int.toNat r0.1) [D.int .u8 0])) (cH (List.map (aJ .u8) p0) (some (w6 (r0.2.1 + 4))) (some (w6 ((w6 (r0.2.1 + 4)) + r0.1)))) ++ List.drop (min (List.length (cH (List.map (aJ .u8) p0) (some (w6 (r0.2.1 + 4))) (some (w6 ((w6 (r0.2.1 + 4)) + r0.1))))) (List.length (List.replicate (Int.toNat r0.1) [D.int .u8 0]))) (List.replicate (Int.toNat r0.1) [D.int .u8 0]))⟩])))) none) none) none) none) none) none) none) none) none) none)))) := by kernel_rfl
end
abbrev X20 : aS := C20 gG (cT 21 bN) (cT 27 aI)
theorem atn : X20 = aQ gG := by unfold X20 C20; repeat rw [bK fun _ h => h]
theorem aih (p0 : List Int) (p1 : Int) : Le (Option.map eU (tU p0 p1)) (bD SE 20 [.d (.sl [.int .u8] (List.map (aJ .u8) p0)), .d (.int .i64 p1)] [] []) := by
 refine aY atn rfl ?_
 refine Le.trans ?_ (le_of_eq (T20 ..).symm)
 unfold tU
 refine lQ eX fG (pG _ _) fun r0 _ => ?_
 refine lC ?_ ?_
 ·exact aF rfl
 ·refine lC ?_ ?_
  ·exact aF rfl
  ·refine lC ?_ ?_
   ·exact aF rfl
   ·refine lD (by simp only [EN]) ?_ ?_
    ·exact aF rfl
    ·refine lG (by simp only [EN]) ?_
     refine lF ?_
     refine lF ?_
     refine lF ?_
     refine lG (by simp only [EN]) ?_
     refine lF ?_
     refine lG (by simp only [EN]) ?_
     refine lG (by simp only [EN]) ?_
     refine lG (by simp only [EN]) ?_
     refine lG (by simp only [EN]) ?_
     refine lQ eX aZ (by (try simp only [EN]); exact acT ((List.take (List.length (List.replicate (Int.toNat r0.1) (default : Int))) (cH p0 (some (w6 (r0.2.1 + 4))) (some (w6 ((w6 (r0.2.1 + 4)) + r0.1)))) ++ List.drop (min (List.length (cH p0 (some (w6 (r0.2.1 + 4))) (some (w6 ((w6 (r0.2.1 + 4)) + r0.1))))) (List.length (List.replicate (Int.toNat r0.1) (default : Int)))) (List.replicate (Int.toNat r0.1) (default : Int))))) fun r1 _ => ?_
     refine lD (by simp only [EN]) ?_ ?_
     ·exact aF rfl
     ·exact aF (by first | rfl | simp only [EN, eU] <;> rfl)
section
variable (Γ : Fun) (γ20 : Gm ((List Int) × Int × Int)) (γ21 : Gm (Int × Int × Int)) (Λ2 J : Lam)
def C14 : aS := bM (bM (aQ Γ) 20 eU γ20) 21 bN γ21
theorem T14 (p0 : List Int) : bS SE (C14 Γ γ20 γ21) Λ2 J 14 [.d (.sl [.int .u8] (List.map (aJ .u8) p0))] [] [] =
 γ20 [.d (.sl [.int .u8] (List.map (aJ .u8) p0)), .d (.int .i64 0)] [] [] fun r0 =>
 cond (r0.2.2 != 0) (
 (some (.ret [.d (.int .i64 0), .d (.int .i64 0), .d (.sl [.int .u8] (List.map (aJ .u8) [])), .d (.int .i64 r0.2.2)] [] []))) (
 cond (decide (r0.2.1 < (lM (aJ .u8) p0 : Int))) (
 (some (.ret [.d (.int .i64 0), .d (.int .i64 0), .d (.sl [.int .u8] (List.map (aJ .u8) [])), .d (.int .i64 2)] [] []))) (
 γ21 [.d (.sl [.int .u8] (List.map (aJ .u8) r0.1)), .d (.int .i64 0)] [] [] fun r1 =>
 cond (r1.2.2 != 0) (
 (some (.ret [.d (.int .i64 0), .d (.int .i64 0), .d (.sl [.int .u8] (List.map (aJ .u8) [])), .d (.int .i64 r1.2.2)] [] []))) (
 γ21 [.d (.sl [.int .u8] (List.map (aJ .u8) r0.1)), .d (.int .i64 r1.2.1)] [] [] fun r2 =>
 cond (r2.2.2 != 0) (
 (some (.ret [.d (.int .i64 0), .d (.int .i64 0), .d (.sl [.int .u8] (List.map (aJ .u8) [])), .d (.int .i64 r2.2.2)] [] []))) (
 cond (decide (0 ≤ r2.2.1) && decide (r2.2.1 ≤ ((lM (aJ .u8) r0.1) : Int))) (
 (some (.ret [.d (.int .i64 r1.1), .d (.int .i64 r2.1), .d (.sl [.int .u8] (List.take ((lM (aJ .u8) r0.1) - (Int.toNat r2.2.1)) (List.drop (Int.toNat r2.2.1) (List.map (aJ .u8) r0.1)))), .d (.int .i64 0)] [] []))) none)))) := by kernel_rfl
end
abbrev X14 : aS := C14 gG (cT 20 eU) (cT 21 bN)
theorem atI : X14 = aQ gG := by unfold X14 C14; repeat rw [bK fun _ h => h]
theorem aa3 (p0 : List Int) : Le (Option.map dL (rQ p0)) (bD SE 14 [.d (.sl [.int .u8] (List.map (aJ .u8) p0))] [] []) := by
 refine aY atI rfl ?_
 refine Le.trans ?_ (le_of_eq (T14 ..).symm)
 unfold rQ
 refine lQ eX aa9 (aih _ _) fun r0 _ => ?_
 refine lC ?_ ?_
 ·exact aF rfl
 ·refine lD (by simp only [EN]) ?_ ?_
  ·exact aF rfl
  ·refine lQ eX fG (pG _ _) fun r1 _ => ?_
   refine lC ?_ ?_
   ·exact aF rfl
   ·refine lQ eX fG (pG _ _) fun r2 _ => ?_
    refine lC ?_ ?_
    ·exact aF rfl
    ·refine lG (by simp only [EN]) ?_
     exact aF (by first | rfl | simp only [EN, dL] <;> rfl)
section
variable (Γ : Fun) (γ14 : Gm (Int × Int × (List Int) × Int)) (Λ2 J : Lam)
def C10 : aS := bM (aQ Γ) 14 dL γ14
theorem T10 (p0 : List Int) : bS SE (C10 Γ γ14) Λ2 J 10 [.d (.sl [.int .u8] (List.map (aJ .u8) p0))] [] [] =
 γ14 [.d (.sl [.int .u8] (List.map (aJ .u8) p0))] [] [] fun r0 =>
 (some (.ret [.d (.int .i64 r0.1), .d (.int .i64 r0.2.1), .d (.int .i64 r0.2.2.2)] [] [])) := by kernel_rfl
end
abbrev X10 : aS := C10 gG (cT 14 dL)
theorem auz : X10 = aQ gG := by unfold X10 C10; rw [bK fun _ h => h]
theorem abw (p0 : List Int) : Le (Option.map bN (sA p0)) (bD SE 10 [.d (.sl [.int .u8] (List.map (aJ .u8) p0))] [] []) := by
 refine aY auz rfl ?_
 refine Le.trans ?_ (le_of_eq (T10 ..).symm)
 unfold sA
 refine lQ eX tL (aa3 _) fun r0 _ => ?_
 exact aF rfl
section
variable (Γ : Fun)  (Λ2 J : Lam)
def C42 : aS := aQ Γ
theorem T42 (p0 : Bool) (p1 : Int) : bS SE (C42 Γ) Λ2 J 42 [.d (.bool p0), .d (.int .i64 p1)] [] [] =
 cond p0 (
 (some (.pan (.ifc 77 (aH.av (aH.mk p1)))))) (
 (some (.ret [] [] []))) := by kernel_rfl
end
abbrev X42 : aS := C42 gG
theorem atK : X42 = aQ gG := rfl
theorem fN (p0 : Bool) (p1 : Int) : Le (Option.map eE (dC p0 p1)) (bD SE 42 [.d (.bool p0), .d (.int .i64 p1)] [] []) := by
 refine aY atK rfl ?_
 refine Le.trans ?_ (le_of_eq (T42 ..).symm)
 unfold dC
 refine lC ?_ ?_
 ·exact aF rfl
 ·exact aF rfl
section
variable (Γ : Fun) (γ21 : Gm (Int × Int × Int)) (γ42 : Gp aH (Unit)) (Λ2 J : Lam)
def C41 : aS := jJ (bM (aQ Γ) 21 bN γ21) 42 eE γ42
theorem T41 (p0 : aC) : bS SE (C41 Γ γ21 γ42) Λ2 J 41 [.ptr 2000000000 0] [⟨80, (aC.avs p0)⟩] [] =
 γ21 [.d (.sl [.int .u8] (List.map (aJ .u8) p0.b)), .d (.int .i64 p0.at_)] [] [] fun r0 =>
 γ42 [.d (.bool (r0.2.2 != 0)), .d (.int .i64 r0.2.2)] [] [] (fun e2 =>
 (some (.pan (.ifc 77 (aH.av e2))))) fun r1 =>
 (some (.ret [.d (.int .i64 r0.1)] [⟨80, (aC.avs (aC.mk p0.b r0.2.1))⟩] [])) := by kernel_rfl
end
abbrev X41 : aS := C41 gG (cT 21 bN) (cP 42 eE)
theorem auq : X41 = aQ gG := by unfold X41 C41; rw [bK fun _ h => h, dF fun _ h => h]
theorem bH (p0 : aC) : Le (Option.map bW (bF p0)) (bD SE 41 [.ptr 2000000000 0] [⟨80, (aC.avs p0)⟩] []) := by
 refine aY auq rfl ?_
 refine Le.trans ?_ (le_of_eq (T41 ..).symm)
 unfold bF
 refine lQ eX fG (pG _ _) fun r0 _ => ?_
 refine bO (good := good) eX fD (fN _ _) (fun e2 _ => ?_) (fun r1 _ => ?_)
 ·exact aF rfl
 ·exact aF rfl
section
variable (Γ : Fun) (γ21 : Gm (Int × Int × Int)) (Λ2 J : Lam)
def C80 : aS := bM (aQ Γ) 21 bN γ21
theorem T80 (p0 : List Int) (p1 p2 : Int) : bS SE (C80 Γ γ21) Λ2 J 80 [.d (.sl [.int .u8] (List.map (aJ .u8) p0)), .d (.int .i64 p1), .d (.int .i64 p2)] [] [] =
 γ21 [.d (.sl [.int .u8] (List.map (aJ .u8) p0)), .d (.int .i64 p1)] [] [] fun r0 =>
 cond (r0.2.2 != 0) (
 (some (.ret [.d (.str []), .d (.int .i64 0), .d (.int .i64 r0.2.2)] [] []))) (
 cond (decide (r0.1 < 0)) (
 (some (.ret [.d (.str []), .d (.int .i64 0), .d (.int .i64 2)] [] []))) (
 cond (decide (r0.1 > p2)) (
 (some (.ret [.d (.str []), .d (.int .i64 0), .d (.int .i64 5)] [] []))) (
 cond (decide (r0.1 > (w6 ((lM (aJ .u8) p0 : Int) - r0.2.1)))) (
 (some (.ret [.d (.str []), .d (.int .i64 0), .d (.int .i64 3)] [] []))) (
 cond (decide (0 ≤ (w6 (r0.2.1 + r0.1))) && decide ((w6 (r0.2.1 + r0.1)) ≤ ((lM (aJ .u8) p0) : Int))) (
 cond (decide (0 ≤ (w6 (r0.2.1 + r0.1))) && decide ((w6 (r0.2.1 + r0.1)) ≤ (w6 (r0.2.1 + r0.1)))) (
  cond (decide (0 ≤ r0.2.1) && decide (r0.2.1 ≤ (w6 (r0.2.1 + r0.1)))) (
  (some (.ret [.d (.str (tQ (cH (List.map (aJ .u8) p0) (some r0.2.1) (some (w6 (r0.2.1 + r0.1)))))), .d (.int .i64 (w6 (r0.2.1 + r0.1))), .d (.int .i64 0)] [] []))) none) none) none)))) := by kernel_rfl
end
abbrev X80 : aS := C80 gG (cT 21 bN)
theorem auc : X80 = aQ gG := by unfold X80 C80; rw [bK fun _ h => h]
theorem ajb (p0 : List Int) (p1 p2 : Int) : Le (Option.map kV (tC p0 p1 p2)) (bD SE 80 [.d (.sl [.int .u8] (List.map (aJ .u8) p0)), .d (.int .i64 p1), .d (.int .i64 p2)] [] []) := by
 refine aY auc rfl ?_
 refine Le.trans ?_ (le_of_eq (T80 ..).symm)
 unfold tC
 refine lQ eX fG (pG _ _) fun r0 _ => ?_
 refine lC ?_ ?_
 ·exact aF rfl
 ·refine lC ?_ ?_
  ·exact aF rfl
  ·refine lC ?_ ?_
   ·exact aF rfl
   ·refine lD (by simp only [EN]) ?_ ?_
    ·exact aF rfl
    ·refine lG (by simp only [EN]) ?_
     refine lF ?_
     refine lF ?_
     exact aF (by first | rfl | simp only [EN, kV] <;> rfl)
section
variable (Γ : Fun) (γ80 : Gm (Str × Int × Int)) (γ42 : Gp aH (Unit)) (Λ2 J : Lam)
def C71 : aS := jJ (bM (aQ Γ) 80 kV γ80) 42 eE γ42
theorem T71 (p0 : aC) (p1 : Int) : bS SE (C71 Γ γ80 γ42) Λ2 J 71 [.ptr 2000000000 0, .d (.int .i64 p1)] [⟨80, (aC.avs p0)⟩] [] =
 γ80 [.d (.sl [.int .u8] (List.map (aJ .u8) p0.b)), .d (.int .i64 p0.at_), .d (.int .i64 p1)] [] [] fun r0 =>
 γ42 [.d (.bool (r0.2.2 != 0)), .d (.int .i64 r0.2.2)] [] [] (fun e2 =>
 (some (.pan (.ifc 77 (aH.av e2))))) fun r1 =>
 (some (.ret [.d (.str r0.1)] [⟨80, (aC.avs (aC.mk p0.b r0.2.1))⟩] [])) := by kernel_rfl
end
abbrev X71 : aS := C71 gG (cT 80 kV) (cP 42 eE)
theorem auF : X71 = aQ gG := by unfold X71 C71; rw [bK fun _ h => h, dF fun _ h => h]
theorem dJ (p0 : aC) (p1 : Int) : Le (Option.map cY (cK p0 p1)) (bD SE 71 [.ptr 2000000000 0, .d (.int .i64 p1)] [⟨80, (aC.avs p0)⟩] []) := by
 refine aY auF rfl ?_
 refine Le.trans ?_ (le_of_eq (T71 ..).symm)
 unfold cK
 refine lQ eX aif (ajb _ _ _) fun r0 _ => ?_
 refine bO (good := good) eX fD (fN _ _) (fun e2 _ => ?_) (fun r1 _ => ?_)
 ·exact aF rfl
 ·exact aF rfl
section
variable (Γ : Fun) (γ41 : Gp aH (Int × aC)) (γ42 : Gp aH (Unit)) (Λ2 J : Lam)
def C58 : aS := jJ (jJ (aQ Γ) 41 bW γ41) 42 eE γ42
theorem T58 (p0 : aC) (p1 : Int) : bS SE (C58 Γ γ41 γ42) Λ2 J 58 [.ptr 2000000000 0, .d (.int .i64 p1)] [⟨80, (aC.avs p0)⟩] [] =
 γ41 [.ptr 2000000000 0] [⟨80, (aC.avs p0)⟩] [] (fun e1 =>
 (some (.pan (.ifc 77 (aH.av e1))))) fun r0 =>
 cond (decide (r0.1 < 0)) (
 γ42 [.d (.bool true), .d (.int .i64 2)] [] [] (fun e3 =>
  (some (.pan (.ifc 77 (aH.av e3))))) fun r2 =>
 (some (.ret [.d (.int .i64 r0.1)] [⟨80, (aC.avs r0.2)⟩] []))) (
 γ42 [.d (.bool (decide (r0.1 ≥ p1))), .d (.int .i64 2)] [] [] (fun e5 =>
 (some (.pan (.ifc 77 (aH.av e5))))) fun r4 =>
 (some (.ret [.d (.int .i64 r0.1)] [⟨80, (aC.avs r0.2)⟩] []))) := by kernel_rfl
end
abbrev X58 : aS := C58 gG (cP 41 bW) (cP 42 eE)
theorem at2 : X58 = aQ gG := by unfold X58 C58; rw [dF fun _ h => h, dF fun _ h => h]
theorem gL (p0 : aC) (p1 : Int) : Le (Option.map cJ (dB p0 p1)) (bD SE 58 [.ptr 2000000000 0, .d (.int .i64 p1)] [⟨80, (aC.avs p0)⟩] []) := by
 refine aY at2 rfl ?_
 refine Le.trans ?_ (le_of_eq (T58 ..).symm)
 unfold dB
 refine bO (good := good) eX bE (bH _) (fun e1 _ => ?_) (fun r0 _ => ?_)
 ·exact aF rfl
 ·refine lC ?_ ?_
  ·refine bO (good := good) eX fD (fN _ _) (fun e3 _ => ?_) (fun r2 _ => ?_)
   ·exact aF rfl
   ·exact aF rfl
  ·refine bO (good := good) eX fD (fN _ _) (fun e5 _ => ?_) (fun r4 _ => ?_)
   ·exact aF rfl
   ·exact aF rfl
section
variable (Γ : Fun)  (Λ2 J : Lam)
def C72 : aS := aQ Γ
theorem T72 (p0 p1 : Int) : bS SE (C72 Γ) Λ2 J 72 [.d (.int .i64 p0), .d (.int .i64 p1)] [] [] =
 cond (decide (p1 ≥ 0)) (
 cond (decide (p1 < 32)) (
  cond (decide (0 ≤ p1)) (
  (rB ((bP .and .i64 (shr .i64 p0 p1) 1) == 1))) none) (
 (rB false))) (
 (rB false)) := by kernel_rfl
end
abbrev X72 : aS := C72 gG
theorem aut : X72 = aQ gG := rfl
theorem acM (p0 p1 : Int) : Le (Option.map aK (sS p0 p1)) (bD SE 72 [.d (.int .i64 p0), .d (.int .i64 p1)] [] []) := by
 refine aY aut rfl ?_
 refine Le.trans ?_ (le_of_eq (T72 ..).symm)
 unfold sS
 refine lC ?_ ?_
 ·refine lC ?_ ?_
  ·refine lF ?_
   exact aF rfl
  ·exact aF rfl
 ·exact aF rfl
section
variable (Γ : Fun) (γ41 : Gp aH (Int × aC)) (γ42 : Gp aH (Unit)) (Λ2 J : Lam)
def C73 : aS := jJ (jJ (aQ Γ) 41 bW γ41) 42 eE γ42
theorem T73 (p0 : aC) (p1 : Int) : bS SE (C73 Γ γ41 γ42) Λ2 J 73 [.ptr 2000000000 0, .d (.int .i64 p1)] [⟨80, (aC.avs p0)⟩] [] =
 γ41 [.ptr 2000000000 0] [⟨80, (aC.avs p0)⟩] [] (fun e1 =>
 (some (.pan (.ifc 77 (aH.av e1))))) fun r0 =>
 γ42 [.d (.bool (decide (r0.1 < 0))), .d (.int .i64 2)] [] [] (fun e3 =>
 (some (.pan (.ifc 77 (aH.av e3))))) fun r2 =>
 γ42 [.d (.bool (decide (r0.1 > p1))), .d (.int .i64 5)] [] [] (fun e5 =>
 (some (.pan (.ifc 77 (aH.av e5))))) fun r4 =>
 (some (.ret [.d (.int .i64 r0.1)] [⟨80, (aC.avs r0.2)⟩] [])) := by kernel_rfl
end
abbrev X73 : aS := C73 gG (cP 41 bW) (cP 42 eE)
theorem auw : X73 = aQ gG := by unfold X73 C73; rw [dF fun _ h => h, dF fun _ h => h]
theorem qE (p0 : aC) (p1 : Int) : Le (Option.map dK (fH p0 p1)) (bD SE 73 [.ptr 2000000000 0, .d (.int .i64 p1)] [⟨80, (aC.avs p0)⟩] []) := by
 refine aY auw rfl ?_
 refine Le.trans ?_ (le_of_eq (T73 ..).symm)
 unfold fH
 refine bO (good := good) eX bE (bH _) (fun e1 _ => ?_) (fun r0 _ => ?_)
 ·exact aF rfl
 ·refine bO (good := good) eX fD (fN _ _) (fun e3 _ => ?_) (fun r2 _ => ?_)
  ·exact aF rfl
  ·refine bO (good := good) eX fD (fN _ _) (fun e5 _ => ?_) (fun r4 _ => ?_)
   ·exact aF rfl
   ·exact aF rfl
def ajL (C : aS) (Λ2 J : Lam) (a0 a1 : Int) (a2 : List D) (a3 a4 : Str) (a5 : Int) (a6 : Bool) (a7 a8 : Int) (a9 : Str) (a10 : Int) (a11 : List D) (a12 : List (List D)) : Res := lab SE C Λ2 J 59 1 [1, 1, 1, 1, 1, 1, 1, 1, 1, 1, 0, 1, 0] (bU [(0, .ptr 2000000000 0), (2, .ptr 1000000000 0), (3, .ptr 1000000001 0), (32, .d (.int .i64 a0)), (33, .d (.int .i64 a1))] [⟨51, (List.map AV.d a2)⟩, ⟨51, [.d (.str a3), .d (.str a4), .d (.int .i64 a5), .d (.bool a6), .d (.int .i64 a7), .d (.int .i64 a8), .d (.str a9), .d (.int .i64 a10), .row 50108]⟩] [⟨80, (List.map AV.d a11)⟩] [] [(50108, ⟨aB.ks, 91, 32, a12⟩)])
section
variable (Γ : Fun) (γ71 : Gp aH (Str × aC)) (γ41 γ58 γ73 : Gp aH (Int × aC)) (Λ2 J : Lam)
def C59 : aS := jJ (jJ (jJ (jJ (aQ Γ) 71 cY γ71) 41 bW γ41) 58 cJ γ58) 73 dK γ73
theorem T59 (p0 : aC) : bS SE (C59 Γ γ71 γ41 γ58 γ73) Λ2 J 59 [.ptr 2000000000 0] [⟨80, (aC.avs p0)⟩] [] =
 γ71 [.ptr 2000000000 0, .d (.int .i64 64)] [⟨80, (aC.avs p0)⟩] [] (fun e1 =>
 (some (.pan (.ifc 77 (aH.av e1))))) fun r0 =>
 γ71 [.ptr 2000000000 0, .d (.int .i64 256)] [⟨80, (aC.avs r0.2)⟩] [] (fun e3 =>
 (some (.pan (.ifc 77 (aH.av e3))))) fun r2 =>
 γ41 [.ptr 2000000000 0] [⟨80, (aC.avs r2.2)⟩] [] (fun e5 =>
 (some (.pan (.ifc 77 (aH.av e5))))) fun r4 =>
 γ58 [.ptr 2000000000 0, .d (.int .i64 2)] [⟨80, (aC.avs r4.2)⟩] [] (fun e7 =>
 (some (.pan (.ifc 77 (aH.av e7))))) fun r6 =>
 γ41 [.ptr 2000000000 0] [⟨80, (aC.avs r6.2)⟩] [] (fun e9 =>
 (some (.pan (.ifc 77 (aH.av e9))))) fun r8 =>
 γ41 [.ptr 2000000000 0] [⟨80, (aC.avs r8.2)⟩] [] (fun e11 =>
 (some (.pan (.ifc 77 (aH.av e11))))) fun r10 =>
 γ71 [.ptr 2000000000 0, .d (.int .i64 16)] [⟨80, (aC.avs r10.2)⟩] [] (fun e13 =>
 (some (.pan (.ifc 77 (aH.av e13))))) fun r12 =>
 γ41 [.ptr 2000000000 0] [⟨80, (aC.avs r12.2)⟩] [] (fun e15 =>
 (some (.pan (.ifc 77 (aH.av e15))))) fun r14 =>
 γ73 [.ptr 2000000000 0, .d (.int .i64 8)] [⟨80, (aC.avs r14.2)⟩] [] (fun e17 =>
 (some (.pan (.ifc 77 (aH.av e17))))) fun r16 =>
 ajL (C59 Γ γ71 γ41 γ58 γ73) Λ2 J r16.1 0 [D.str [], D.str [], D.int .i64 0, D.bool false, D.int .i64 0, D.int .i64 0, D.str [], D.int .i64 0, D.sl aB.ks (List.map aB.enc [])] r0.1 r2.1 r4.1 (r6.1 == 1) r8.1 r10.1 r12.1 r14.1 (aC.enc r16.2) (List.map aB.enc []) := by kernel_rfl
theorem aqe (x32 x33 : Int) (b0 : aE) (b1_0 b1_1 : Str) (b1_2 : Int) (b1_3 : Bool) (b1_4 b1_5 : Int) (b1_6 : Str) (b1_7 : Int) (q0 : aC) (w50108 : List aB) : eA SE (C59 Γ γ71 γ41 γ58 γ73) Λ2 J 59 1 [1, 1, 1, 1, 1, 1, 1, 1, 1, 1, 0, 1, 0] (bU [(0, .ptr 2000000000 0), (2, .ptr 1000000000 0), (3, .ptr 1000000001 0), (32, .d (.int .i64 x32)), (33, .d (.int .i64 x33))] [⟨51, (List.map AV.d (aE.enc b0))⟩, ⟨51, [.d (.str b1_0), .d (.str b1_1), .d (.int .i64 b1_2), .d (.bool b1_3), .d (.int .i64 b1_4), .d (.int .i64 b1_5), .d (.str b1_6), .d (.int .i64 b1_7), .row 50108]⟩] [⟨80, (List.map AV.d (aC.enc q0))⟩] [] [(50108, ⟨aB.ks, 91, 32, (List.map aB.enc w50108)⟩)]) =
 cond (decide (x33 < x32)) (
 γ71 [.ptr 2000000000 0, .d (.int .i64 16)] [⟨80, (aC.avs q0)⟩] [] (fun e19 =>
  (some (.pan (.ifc 77 (aH.av e19))))) fun r18 =>
 γ71 [.ptr 2000000000 0, .d (.int .i64 160)] [⟨80, (aC.avs r18.2)⟩] [] (fun e21 =>
  (some (.pan (.ifc 77 (aH.av e21))))) fun r20 =>
 cond (decide ((lM aB.enc w50108 + lM aB.enc [(aB.mk r18.1 r20.1)]) * 32 ≤ 140737488355328)) (
  ajL (C59 Γ γ71 γ41 γ58 γ73) Λ2 J x32 (w6 (x33 + 1)) (aE.enc b0) b1_0 b1_1 b1_2 b1_3 b1_4 b1_5 b1_6 b1_7 (aC.enc r20.2) (((List.map aB.enc w50108) ++ (List.map aB.enc [(aB.mk r18.1 r20.1)])))) none) (
 (some (.ret [.agg [.d (.str b1_0), .d (.str b1_1), .d (.int .i64 b1_2), .d (.bool b1_3), .d (.int .i64 b1_4), .d (.int .i64 b1_5), .d (.str b1_6), .d (.int .i64 b1_7), .row 0]] [⟨80, (aC.avs q0)⟩] [⟨aB.ks, 91, 32, (List.map aB.enc w50108)⟩]))) := by kernel_rfl
end
abbrev X59 : aS := C59 gG (cP 71 cY) (cP 41 bW) (cP 58 cJ) (cP 73 dK)
theorem apX : X59 = aQ gG := by unfold X59 C59; rw [dF fun _ h => h, dF fun _ h => h, dF fun _ h => h, dF fun _ h => h]
abbrev aqL := ajL X59 (dQ SE gG (SE.hl 59) (SE.hr 59)) (J0 SE X59)
theorem tS : ∀ (fu : Nat) (x32 x33 : Int) (b0 : aE) (b1_0 b1_1 : Str) (b1_2 : Int) (b1_3 : Bool) (b1_4 b1_5 : Int) (b1_6 : Str) (b1_7 : Int) (q0 : aC) (w50108 : List aB), Le (Option.map cV (eL fu x32 x33 b0 b1_0 b1_1 b1_2 b1_3 b1_4 b1_5 b1_6 b1_7 q0 w50108)) (aqL x32 x33 (aE.enc b0) b1_0 b1_1 b1_2 b1_3 b1_4 b1_5 b1_6 b1_7 (aC.enc q0) (List.map aB.enc w50108)) := by
 intro fu
 induction fu with
 | zero => intros; exact le_none
 | succ fu ih =>
  intro x32 x33 b0 b1_0 b1_1 b1_2 b1_3 b1_4 b1_5 b1_6 b1_7 q0 w50108
  refine Le.trans ?_ (le_of_eq ((bX apX).trans (aqe ..)).symm)
  unfold eL
  refine lC ?_ ?_
  ·refine bO (good := good) eX dI (dJ _ _) (fun e19 _ => ?_) (fun r18 _ => ?_)
   ·exact aF rfl
   ·refine bO (good := good) eX dI (dJ _ _) (fun e21 _ => ?_) (fun r20 _ => ?_)
    ·exact aF rfl
    ·refine lG (by simp only [EN]) ?_
     (try simp only [EN]); exact ih x32 (w6 (x33 + 1)) b0 b1_0 b1_1 b1_2 b1_3 b1_4 b1_5 b1_6 b1_7 r20.2 (w50108 ++ [(aB.mk r18.1 r20.1)])
  ·exact aF rfl
theorem oS (p0 : aC) : Le (Option.map cV (fL p0)) (bD SE 59 [.ptr 2000000000 0] [⟨80, (aC.avs p0)⟩] []) := by
 refine aY apX rfl ?_
 refine Le.trans ?_ (le_of_eq (T59 ..).symm)
 unfold fL
 refine bO (good := good) eX dI (dJ _ _) (fun e1 _ => ?_) (fun r0 _ => ?_)
 ·exact aF rfl
 ·refine bO (good := good) eX dI (dJ _ _) (fun e3 _ => ?_) (fun r2 _ => ?_)
  ·exact aF rfl
  ·refine bO (good := good) eX bE (bH _) (fun e5 _ => ?_) (fun r4 _ => ?_)
   ·exact aF rfl
   ·refine bO (good := good) eX fZ (gL _ _) (fun e7 _ => ?_) (fun r6 _ => ?_)
    ·exact aF rfl
    ·refine bO (good := good) eX bE (bH _) (fun e9 _ => ?_) (fun r8 _ => ?_)
     ·exact aF rfl
     ·refine bO (good := good) eX bE (bH _) (fun e11 _ => ?_) (fun r10 _ => ?_)
      ·exact aF rfl
      ·refine bO (good := good) eX dI (dJ _ _) (fun e13 _ => ?_) (fun r12 _ => ?_)
       ·exact aF rfl
       ·refine bO (good := good) eX bE (bH _) (fun e15 _ => ?_) (fun r14 _ => ?_)
        ·exact aF rfl
        ·refine bO (good := good) eX pL (qE _ _) (fun e17 _ => ?_) (fun r16 _ => ?_)
         ·exact aF rfl
         ·(try simp only [EN]); exact tS fuel r16.1 0 ((aE.mk [] [] 0 false 0 0 [] 0 [])) r0.1 r2.1 r4.1 (r6.1 == 1) r8.1 r10.1 r12.1 r14.1 r16.2 []
section
variable (Γ : Fun) (γ71 : Gp aH (Str × aC)) (γ58 : Gp aH (Int × aC)) (γ72 : Gm (Bool)) (γ41 : Gp aH (Int × aC)) (γ59 : Gp aH (aE × aC)) (Λ2 J : Lam)
def C57 : aS := jJ (jJ (bM (jJ (jJ (aQ Γ) 71 cY γ71) 58 cJ γ58) 72 aK γ72) 41 bW γ41) 59 cV γ59
theorem T57 (p0 : aC) : bS SE (C57 Γ γ71 γ58 γ72 γ41 γ59) Λ2 J 57 [.ptr 2000000000 0] [⟨80, (aC.avs p0)⟩] [] =
 γ71 [.ptr 2000000000 0, .d (.int .i64 16)] [⟨80, (aC.avs p0)⟩] [] (fun e1 =>
 (some (.pan (.ifc 77 (aH.av e1))))) fun r0 =>
 γ71 [.ptr 2000000000 0, .d (.int .i64 16)] [⟨80, (aC.avs r0.2)⟩] [] (fun e3 =>
 (some (.pan (.ifc 77 (aH.av e3))))) fun r2 =>
 γ58 [.ptr 2000000000 0, .d (.int .i64 4)] [⟨80, (aC.avs r2.2)⟩] [] (fun e5 =>
 (some (.pan (.ifc 77 (aH.av e5))))) fun r4 =>
 γ72 [.d (.int .i64 r4.1), .d (.int .i64 0)] [] [] fun r6 =>
 γ72 [.d (.int .i64 r4.1), .d (.int .i64 1)] [] [] fun r7 =>
 γ41 [.ptr 2000000000 0] [⟨80, (aC.avs r4.2)⟩] [] (fun e9 =>
 (some (.pan (.ifc 77 (aH.av e9))))) fun r8 =>
 γ41 [.ptr 2000000000 0] [⟨80, (aC.avs r8.2)⟩] [] (fun e11 =>
 (some (.pan (.ifc 77 (aH.av e11))))) fun r10 =>
 γ41 [.ptr 2000000000 0] [⟨80, (aC.avs r10.2)⟩] [] (fun e13 =>
 (some (.pan (.ifc 77 (aH.av e13))))) fun r12 =>
 cond r7 (
 γ41 [.ptr 2000000000 0] [⟨80, (aC.avs r12.2)⟩] [] (fun e15 =>
  (some (.pan (.ifc 77 (aH.av e15))))) fun r14 =>
 γ59 [.ptr 2000000000 0] [⟨80, (aC.avs r14.2)⟩] [] (fun e17 =>
  (some (.pan (.ifc 77 (aH.av e17))))) fun r16 =>
 (some (.ret [.agg [.d (.int .i64 1), .d (.int .i64 0), .d (.bool false), .d (.str []), .d (.str []), .d (.int .i64 0), .d (.bool false), .d (.int .i64 0), .d (.int .i64 0), .d (.str []), .d (.int .i64 0), .row 0, .d (.str r0.1), .d (.str r2.1), .d (.bool r6), .d (.int .i64 r8.1), .d (.int .i64 r10.1), .d (.int .i64 r12.1), .d (.bool r7), .d (.int .i64 r14.1), .d (.str r16.1.Topic), .d (.str r16.1.Payload), .d (.int .i64 r16.1.Level), .d (.bool r16.1.Retain), .d (.int .i64 r16.1.Priority), .d (.int .i64 r16.1.Expires), .d (.str r16.1.From), .d (.int .i64 r16.1.Seq), .row 1, .d (.bool false), .d (.int .i64 0), .row 2, .row 3, .row 4]] [⟨80, (aC.avs r16.2)⟩] [⟨aB.ks, 91, 32, (List.map aB.enc [])⟩, ⟨aB.ks, 91, 32, (List.map aB.enc r16.1.Props)⟩, ⟨aG.ks, 93, 32, (List.map aG.enc [])⟩, ⟨[.str], 9, 16, (List.map bA [])⟩, ⟨[.int .i64], 3, 8, (List.map eI [])⟩]))) (
 (some (.ret [.agg [.d (.int .i64 1), .d (.int .i64 0), .d (.bool false), .d (.str []), .d (.str []), .d (.int .i64 0), .d (.bool false), .d (.int .i64 0), .d (.int .i64 0), .d (.str []), .d (.int .i64 0), .row 0, .d (.str r0.1), .d (.str r2.1), .d (.bool r6), .d (.int .i64 r8.1), .d (.int .i64 r10.1), .d (.int .i64 r12.1), .d (.bool r7), .d (.int .i64 0), .d (.str []), .d (.str []), .d (.int .i64 0), .d (.bool false), .d (.int .i64 0), .d (.int .i64 0), .d (.str []), .d (.int .i64 0), .row 1, .d (.bool false), .d (.int .i64 0), .row 2, .row 3, .row 4]] [⟨80, (aC.avs r12.2)⟩] [⟨aB.ks, 91, 32, (List.map aB.enc [])⟩, ⟨aB.ks, 91, 32, (List.map aB.enc [])⟩, ⟨aG.ks, 93, 32, (List.map aG.enc [])⟩, ⟨[.str], 9, 16, (List.map bA [])⟩, ⟨[.int .i64], 3, 8, (List.map eI [])⟩]))) := by kernel_rfl
end
abbrev X57 : aS := C57 gG (cP 71 cY) (cP 58 cJ) (cT 72 aK) (cP 41 bW) (cP 59 cV)
theorem atL : X57 = aQ gG := by unfold X57 C57; rw [dF fun _ h => h, dF fun _ h => h, bK fun _ h => h, dF fun _ h => h, dF fun _ h => h]
theorem wI (p0 : aC) : Le (Option.map eQ (gR p0)) (bD SE 57 [.ptr 2000000000 0] [⟨80, (aC.avs p0)⟩] []) := by
 refine aY atL rfl ?_
 refine Le.trans ?_ (le_of_eq (T57 ..).symm)
 unfold gR
 refine bO (good := good) eX dI (dJ _ _) (fun e1 _ => ?_) (fun r0 _ => ?_)
 ·exact aF rfl
 ·refine bO (good := good) eX dI (dJ _ _) (fun e3 _ => ?_) (fun r2 _ => ?_)
  ·exact aF rfl
  ·refine bO (good := good) eX fZ (gL _ _) (fun e5 _ => ?_) (fun r4 _ => ?_)
   ·exact aF rfl
   ·refine lQ eX bC (acM _ _) fun r6 _ => ?_
    refine lQ eX bC (acM _ _) fun r7 _ => ?_
    refine bO (good := good) eX bE (bH _) (fun e9 _ => ?_) (fun r8 _ => ?_)
    ·exact aF rfl
    ·refine bO (good := good) eX bE (bH _) (fun e11 _ => ?_) (fun r10 _ => ?_)
     ·exact aF rfl
     ·refine bO (good := good) eX bE (bH _) (fun e13 _ => ?_) (fun r12 _ => ?_)
      ·exact aF rfl
      ·refine lC ?_ ?_
       ·refine bO (good := good) eX bE (bH _) (fun e15 _ => ?_) (fun r14 _ => ?_)
        ·exact aF rfl
        ·refine bO (good := good) eX nY (oS _) (fun e17 _ => ?_) (fun r16 _ => ?_)
         ·exact aF rfl
         ·exact aF rfl
       ·exact aF rfl
def afQ (C : aS) (Λ2 J : Lam) (a0 a1 : Int) (a2 : List D) (a3 a4 : Int) (a5 : Bool) (a6 a7 : Str) (a8 : Int) (a9 : Bool) (a10 a11 : Int) (a12 : Str) (a13 : Int) (a14 : List (List D)) (a15 a16 : Str) (a17 : Bool) (a18 a19 a20 : Int) (a21 : Bool) (a22 : Int) (a23 a24 : Str) (a25 : Int) (a26 : Bool) (a27 a28 : Int) (a29 : Str) (a30 : Int) (a31 : List (List D)) (a32 : Bool) (a33 : Int) (a34 : List D) (a35 a36 a37 : List (List D)) : Res := lab SE C Λ2 J 60 1 [1, 1, 0, 1, 0] (bU [(0, .ptr 2000000000 0), (4, .ptr 1000000000 0), (5, .ptr 1000000001 0), (9, .d (.int .i64 a0)), (10, .d (.int .i64 a1))] [⟨58, (List.map AV.d a2)⟩, ⟨58, [.d (.int .i64 a3), .d (.int .i64 a4), .d (.bool a5), .d (.str a6), .d (.str a7), .d (.int .i64 a8), .d (.bool a9), .d (.int .i64 a10), .d (.int .i64 a11), .d (.str a12), .d (.int .i64 a13), .d (.sl aB.ks a14), .d (.str a15), .d (.str a16), .d (.bool a17), .d (.int .i64 a18), .d (.int .i64 a19), .d (.int .i64 a20), .d (.bool a21), .d (.int .i64 a22), .d (.str a23), .d (.str a24), .d (.int .i64 a25), .d (.bool a26), .d (.int .i64 a27), .d (.int .i64 a28), .d (.str a29), .d (.int .i64 a30), .d (.sl aB.ks a31), .d (.bool a32), .d (.int .i64 a33), .row 50131, .row 50132, .row 50133]⟩] [⟨80, (List.map AV.d a34)⟩] [] [(50131, ⟨aG.ks, 93, 32, a35⟩), (50132, ⟨[.str], 9, 16, a36⟩), (50133, ⟨[.int .i64], 3, 8, a37⟩)])
section
variable (Γ : Fun) (γ73 : Gp aH (Int × aC)) (γ71 : Gp aH (Str × aC)) (γ41 γ58 : Gp aH (Int × aC)) (Λ2 J : Lam)
def C60 : aS := jJ (jJ (jJ (jJ (aQ Γ) 73 dK γ73) 71 cY γ71) 41 bW γ41) 58 cJ γ58
theorem T60 (p0 : aC) (p1 : aA) : bS SE (C60 Γ γ73 γ71 γ41 γ58) Λ2 J 60 [.ptr 2000000000 0, .agg [.d (.int .i64 p1.Kind), .d (.int .i64 p1.ID), .d (.bool p1.Dup), .d (.str p1.Message.Topic), .d (.str p1.Message.Payload), .d (.int .i64 p1.Message.Level), .d (.bool p1.Message.Retain), .d (.int .i64 p1.Message.Priority), .d (.int .i64 p1.Message.Expires), .d (.str p1.Message.From), .d (.int .i64 p1.Message.Seq), .d (.sl aB.ks (List.map aB.enc p1.Message.Props)), .d (.str p1.Client), .d (.str p1.User), .d (.bool p1.Clean), .d (.int .i64 p1.Keep), .d (.int .i64 p1.Expiry), .d (.int .i64 p1.Window), .d (.bool p1.Will.Set), .d (.int .i64 p1.Will.Delay), .d (.str p1.Will.Message.Topic), .d (.str p1.Will.Message.Payload), .d (.int .i64 p1.Will.Message.Level), .d (.bool p1.Will.Message.Retain), .d (.int .i64 p1.Will.Message.Priority), .d (.int .i64 p1.Will.Message.Expires), .d (.str p1.Will.Message.From), .d (.int .i64 p1.Will.Message.Seq), .d (.sl aB.ks (List.map aB.enc p1.Will.Message.Props)), .d (.bool p1.Present), .d (.int .i64 p1.Code), .row 2000000000, .row 2000000001, .row 2000000002]] [⟨80, (aC.avs p0)⟩] [⟨aG.ks, 93, 32, (List.map aG.enc p1.Subs)⟩, ⟨[.str], 9, 16, (List.map bA p1.Filters)⟩, ⟨[.int .i64], 3, 8, (List.map eI p1.Codes)⟩] =
 γ73 [.ptr 2000000000 0, .d (.int .i64 32)] [⟨80, (aC.avs p0)⟩] [] (fun e1 =>
 (some (.pan (.ifc 77 (aH.av e1))))) fun r0 =>
 afQ (C60 Γ γ73 γ71 γ41 γ58) Λ2 J r0.1 0 [D.int .i64 0, D.int .i64 0, D.bool false, D.str [], D.str [], D.int .i64 0, D.bool false, D.int .i64 0, D.int .i64 0, D.str [], D.int .i64 0, D.sl aB.ks (List.map aB.enc []), D.str [], D.str [], D.bool false, D.int .i64 0, D.int .i64 0, D.int .i64 0, D.bool false, D.int .i64 0, D.str [], D.str [], D.int .i64 0, D.bool false, D.int .i64 0, D.int .i64 0, D.str [], D.int .i64 0, D.sl aB.ks (List.map aB.enc []), D.bool false, D.int .i64 0, D.sl aG.ks (List.map aG.enc []), D.sl [.str] (List.map bA []), D.sl [.int .i64] (List.map eI [])] p1.Kind p1.ID p1.Dup p1.Message.Topic p1.Message.Payload p1.Message.Level p1.Message.Retain p1.Message.Priority p1.Message.Expires p1.Message.From p1.Message.Seq (List.map aB.enc p1.Message.Props) p1.Client p1.User p1.Clean p1.Keep p1.Expiry p1.Window p1.Will.Set p1.Will.Delay p1.Will.Message.Topic p1.Will.Message.Payload p1.Will.Message.Level p1.Will.Message.Retain p1.Will.Message.Priority p1.Will.Message.Expires p1.Will.Message.From p1.Will.Message.Seq (List.map aB.enc p1.Will.Message.Props) p1.Present p1.Code (aC.enc r0.2) (List.map aG.enc p1.Subs) (List.map bA p1.Filters) (List.map eI p1.Codes) := by kernel_rfl
theorem asx (x9 x10 : Int) (b0 : aA) (b1_0 b1_1 : Int) (b1_2 : Bool) (b1_3 b1_4 : Str) (b1_5 : Int) (b1_6 : Bool) (b1_7 b1_8 : Int) (b1_9 : Str) (b1_10 : Int) (b1_11 : List aB) (b1_12 b1_13 : Str) (b1_14 : Bool) (b1_15 b1_16 b1_17 : Int) (b1_18 : Bool) (b1_19 : Int) (b1_20 b1_21 : Str) (b1_22 : Int) (b1_23 : Bool) (b1_24 b1_25 : Int) (b1_26 : Str) (b1_27 : Int) (b1_28 : List aB) (b1_29 : Bool) (b1_30 : Int) (q0 : aC) (w50131 : List aG) (w50132 : List Str) (w50133 : List Int) : eA SE (C60 Γ γ73 γ71 γ41 γ58) Λ2 J 60 1 [1, 1, 0, 1, 0] (bU [(0, .ptr 2000000000 0), (4, .ptr 1000000000 0), (5, .ptr 1000000001 0), (9, .d (.int .i64 x9)), (10, .d (.int .i64 x10))] [⟨58, (List.map AV.d (aA.enc b0))⟩, ⟨58, [.d (.int .i64 b1_0), .d (.int .i64 b1_1), .d (.bool b1_2), .d (.str b1_3), .d (.str b1_4), .d (.int .i64 b1_5), .d (.bool b1_6), .d (.int .i64 b1_7), .d (.int .i64 b1_8), .d (.str b1_9), .d (.int .i64 b1_10), .d (.sl aB.ks (List.map aB.enc b1_11)), .d (.str b1_12), .d (.str b1_13), .d (.bool b1_14), .d (.int .i64 b1_15), .d (.int .i64 b1_16), .d (.int .i64 b1_17), .d (.bool b1_18), .d (.int .i64 b1_19), .d (.str b1_20), .d (.str b1_21), .d (.int .i64 b1_22), .d (.bool b1_23), .d (.int .i64 b1_24), .d (.int .i64 b1_25), .d (.str b1_26), .d (.int .i64 b1_27), .d (.sl aB.ks (List.map aB.enc b1_28)), .d (.bool b1_29), .d (.int .i64 b1_30), .row 50131, .row 50132, .row 50133]⟩] [⟨80, (List.map AV.d (aC.enc q0))⟩] [] [(50131, ⟨aG.ks, 93, 32, (List.map aG.enc w50131)⟩), (50132, ⟨[.str], 9, 16, (List.map bA w50132)⟩), (50133, ⟨[.int .i64], 3, 8, (List.map eI w50133)⟩)]) =
 cond (decide (x10 < x9)) (
 cond (b1_0 == 8) (
  γ71 [.ptr 2000000000 0, .d (.int .i64 88)] [⟨80, (aC.avs q0)⟩] [] (fun e3 =>
  (some (.pan (.ifc 77 (aH.av e3))))) fun r2 =>
  γ41 [.ptr 2000000000 0] [⟨80, (aC.avs r2.2)⟩] [] (fun e5 =>
  (some (.pan (.ifc 77 (aH.av e5))))) fun r4 =>
  γ58 [.ptr 2000000000 0, .d (.int .i64 2)] [⟨80, (aC.avs r4.2)⟩] [] (fun e7 =>
  (some (.pan (.ifc 77 (aH.av e7))))) fun r6 =>
  cond (decide ((lM aG.enc w50131 + lM aG.enc [(aG.mk r2.1 r4.1 (r6.1 == 1))]) * 32 ≤ 140737488355328)) (
  afQ (C60 Γ γ73 γ71 γ41 γ58) Λ2 J x9 (w6 (x10 + 1)) (aA.enc b0) b1_0 b1_1 b1_2 b1_3 b1_4 b1_5 b1_6 b1_7 b1_8 b1_9 b1_10 (List.map aB.enc b1_11) b1_12 b1_13 b1_14 b1_15 b1_16 b1_17 b1_18 b1_19 b1_20 b1_21 b1_22 b1_23 b1_24 b1_25 b1_26 b1_27 (List.map aB.enc b1_28) b1_29 b1_30 (aC.enc r6.2) (((List.map aG.enc w50131) ++ (List.map aG.enc [(aG.mk r2.1 r4.1 (r6.1 == 1))]))) (List.map bA w50132) (List.map eI w50133)) none) (
 cond (b1_0 == 10) (
  γ71 [.ptr 2000000000 0, .d (.int .i64 88)] [⟨80, (aC.avs q0)⟩] [] (fun e9 =>
  (some (.pan (.ifc 77 (aH.av e9))))) fun r8 =>
  cond (decide ((lM bA w50132 + lM bA [r8.1]) * 16 ≤ 140737488355328)) (
  afQ (C60 Γ γ73 γ71 γ41 γ58) Λ2 J x9 (w6 (x10 + 1)) (aA.enc b0) b1_0 b1_1 b1_2 b1_3 b1_4 b1_5 b1_6 b1_7 b1_8 b1_9 b1_10 (List.map aB.enc b1_11) b1_12 b1_13 b1_14 b1_15 b1_16 b1_17 b1_18 b1_19 b1_20 b1_21 b1_22 b1_23 b1_24 b1_25 b1_26 b1_27 (List.map aB.enc b1_28) b1_29 b1_30 (aC.enc r8.2) (List.map aG.enc w50131) (((List.map bA w50132) ++ (List.map bA [r8.1]))) (List.map eI w50133)) none) (
 γ41 [.ptr 2000000000 0] [⟨80, (aC.avs q0)⟩] [] (fun e11 =>
  (some (.pan (.ifc 77 (aH.av e11))))) fun r10 =>
 cond (decide ((lM eI w50133 + lM eI [r10.1]) * 8 ≤ 140737488355328)) (
  afQ (C60 Γ γ73 γ71 γ41 γ58) Λ2 J x9 (w6 (x10 + 1)) (aA.enc b0) b1_0 b1_1 b1_2 b1_3 b1_4 b1_5 b1_6 b1_7 b1_8 b1_9 b1_10 (List.map aB.enc b1_11) b1_12 b1_13 b1_14 b1_15 b1_16 b1_17 b1_18 b1_19 b1_20 b1_21 b1_22 b1_23 b1_24 b1_25 b1_26 b1_27 (List.map aB.enc b1_28) b1_29 b1_30 (aC.enc r10.2) (List.map aG.enc w50131) (List.map bA w50132) (((List.map eI w50133) ++ (List.map eI [r10.1])))) none))) (
 (some (.ret [.agg [.d (.int .i64 b1_0), .d (.int .i64 b1_1), .d (.bool b1_2), .d (.str b1_3), .d (.str b1_4), .d (.int .i64 b1_5), .d (.bool b1_6), .d (.int .i64 b1_7), .d (.int .i64 b1_8), .d (.str b1_9), .d (.int .i64 b1_10), .d (.sl aB.ks (List.map aB.enc b1_11)), .d (.str b1_12), .d (.str b1_13), .d (.bool b1_14), .d (.int .i64 b1_15), .d (.int .i64 b1_16), .d (.int .i64 b1_17), .d (.bool b1_18), .d (.int .i64 b1_19), .d (.str b1_20), .d (.str b1_21), .d (.int .i64 b1_22), .d (.bool b1_23), .d (.int .i64 b1_24), .d (.int .i64 b1_25), .d (.str b1_26), .d (.int .i64 b1_27), .d (.sl aB.ks (List.map aB.enc b1_28)), .d (.bool b1_29), .d (.int .i64 b1_30), .row 0, .row 1, .row 2]] [⟨80, (aC.avs q0)⟩] [⟨aG.ks, 93, 32, (List.map aG.enc w50131)⟩, ⟨[.str], 9, 16, (List.map bA w50132)⟩, ⟨[.int .i64], 3, 8, (List.map eI w50133)⟩]))) := by kernel_rfl
end
abbrev X60 : aS := C60 gG (cP 73 dK) (cP 71 cY) (cP 41 bW) (cP 58 cJ)
theorem aqf : X60 = aQ gG := by unfold X60 C60; rw [dF fun _ h => h, dF fun _ h => h, dF fun _ h => h, dF fun _ h => h]
abbrev ar5 := afQ X60 (dQ SE gG (SE.hl 60) (SE.hr 60)) (J0 SE X60)
theorem wF : ∀ (fu : Nat) (x9 x10 : Int) (b0 : aA) (b1_0 b1_1 : Int) (b1_2 : Bool) (b1_3 b1_4 : Str) (b1_5 : Int) (b1_6 : Bool) (b1_7 b1_8 : Int) (b1_9 : Str) (b1_10 : Int) (b1_11 : List aB) (b1_12 b1_13 : Str) (b1_14 : Bool) (b1_15 b1_16 b1_17 : Int) (b1_18 : Bool) (b1_19 : Int) (b1_20 b1_21 : Str) (b1_22 : Int) (b1_23 : Bool) (b1_24 b1_25 : Int) (b1_26 : Str) (b1_27 : Int) (b1_28 : List aB) (b1_29 : Bool) (b1_30 : Int) (q0 : aC) (w50131 : List aG) (w50132 : List Str) (w50133 : List Int), Le (Option.map dW (cA fu x9 x10 b0 b1_0 b1_1 b1_2 b1_3 b1_4 b1_5 b1_6 b1_7 b1_8 b1_9 b1_10 b1_11 b1_12 b1_13 b1_14 b1_15 b1_16 b1_17 b1_18 b1_19 b1_20 b1_21 b1_22 b1_23 b1_24 b1_25 b1_26 b1_27 b1_28 b1_29 b1_30 q0 w50131 w50132 w50133)) (ar5 x9 x10 (aA.enc b0) b1_0 b1_1 b1_2 b1_3 b1_4 b1_5 b1_6 b1_7 b1_8 b1_9 b1_10 (List.map aB.enc b1_11) b1_12 b1_13 b1_14 b1_15 b1_16 b1_17 b1_18 b1_19 b1_20 b1_21 b1_22 b1_23 b1_24 b1_25 b1_26 b1_27 (List.map aB.enc b1_28) b1_29 b1_30 (aC.enc q0) (List.map aG.enc w50131) (List.map bA w50132) (List.map eI w50133)) := by
 intro fu
 induction fu with
 | zero => intros; exact le_none
 | succ fu ih =>
  intro x9 x10 b0 b1_0 b1_1 b1_2 b1_3 b1_4 b1_5 b1_6 b1_7 b1_8 b1_9 b1_10 b1_11 b1_12 b1_13 b1_14 b1_15 b1_16 b1_17 b1_18 b1_19 b1_20 b1_21 b1_22 b1_23 b1_24 b1_25 b1_26 b1_27 b1_28 b1_29 b1_30 q0 w50131 w50132 w50133
  refine Le.trans ?_ (le_of_eq ((bX aqf).trans (asx ..)).symm)
  unfold cA
  refine lC ?_ ?_
  ·refine lC ?_ ?_
   ·refine bO (good := good) eX dI (dJ _ _) (fun e3 _ => ?_) (fun r2 _ => ?_)
    ·exact aF rfl
    ·refine bO (good := good) eX bE (bH _) (fun e5 _ => ?_) (fun r4 _ => ?_)
     ·exact aF rfl
     ·refine bO (good := good) eX fZ (gL _ _) (fun e7 _ => ?_) (fun r6 _ => ?_)
      ·exact aF rfl
      ·refine lG (by simp only [EN]) ?_
       (try simp only [EN]); exact ih x9 (w6 (x10 + 1)) b0 b1_0 b1_1 b1_2 b1_3 b1_4 b1_5 b1_6 b1_7 b1_8 b1_9 b1_10 b1_11 b1_12 b1_13 b1_14 b1_15 b1_16 b1_17 b1_18 b1_19 b1_20 b1_21 b1_22 b1_23 b1_24 b1_25 b1_26 b1_27 b1_28 b1_29 b1_30 r6.2 (w50131 ++ [(aG.mk r2.1 r4.1 (r6.1 == 1))]) w50132 w50133
   ·refine lC ?_ ?_
    ·refine bO (good := good) eX dI (dJ _ _) (fun e9 _ => ?_) (fun r8 _ => ?_)
     ·exact aF rfl
     ·refine lG (by simp only [EN]) ?_
      (try simp only [EN]); exact ih x9 (w6 (x10 + 1)) b0 b1_0 b1_1 b1_2 b1_3 b1_4 b1_5 b1_6 b1_7 b1_8 b1_9 b1_10 b1_11 b1_12 b1_13 b1_14 b1_15 b1_16 b1_17 b1_18 b1_19 b1_20 b1_21 b1_22 b1_23 b1_24 b1_25 b1_26 b1_27 b1_28 b1_29 b1_30 r8.2 w50131 (w50132 ++ [r8.1]) w50133
    ·refine bO (good := good) eX bE (bH _) (fun e11 _ => ?_) (fun r10 _ => ?_)
     ·exact aF rfl
     ·refine lG (by simp only [EN]) ?_
      (try simp only [EN]); exact ih x9 (w6 (x10 + 1)) b0 b1_0 b1_1 b1_2 b1_3 b1_4 b1_5 b1_6 b1_7 b1_8 b1_9 b1_10 b1_11 b1_12 b1_13 b1_14 b1_15 b1_16 b1_17 b1_18 b1_19 b1_20 b1_21 b1_22 b1_23 b1_24 b1_25 b1_26 b1_27 b1_28 b1_29 b1_30 r10.2 w50131 w50132 (w50133 ++ [r10.1])
  ·exact aF rfl
theorem iW (p0 : aC) (p1 : aA) : Le (Option.map dW (cS p0 p1)) (bD SE 60 [.ptr 2000000000 0, .agg [.d (.int .i64 p1.Kind), .d (.int .i64 p1.ID), .d (.bool p1.Dup), .d (.str p1.Message.Topic), .d (.str p1.Message.Payload), .d (.int .i64 p1.Message.Level), .d (.bool p1.Message.Retain), .d (.int .i64 p1.Message.Priority), .d (.int .i64 p1.Message.Expires), .d (.str p1.Message.From), .d (.int .i64 p1.Message.Seq), .d (.sl aB.ks (List.map aB.enc p1.Message.Props)), .d (.str p1.Client), .d (.str p1.User), .d (.bool p1.Clean), .d (.int .i64 p1.Keep), .d (.int .i64 p1.Expiry), .d (.int .i64 p1.Window), .d (.bool p1.Will.Set), .d (.int .i64 p1.Will.Delay), .d (.str p1.Will.Message.Topic), .d (.str p1.Will.Message.Payload), .d (.int .i64 p1.Will.Message.Level), .d (.bool p1.Will.Message.Retain), .d (.int .i64 p1.Will.Message.Priority), .d (.int .i64 p1.Will.Message.Expires), .d (.str p1.Will.Message.From), .d (.int .i64 p1.Will.Message.Seq), .d (.sl aB.ks (List.map aB.enc p1.Will.Message.Props)), .d (.bool p1.Present), .d (.int .i64 p1.Code), .row 2000000000, .row 2000000001, .row 2000000002]] [⟨80, (aC.avs p0)⟩] [⟨aG.ks, 93, 32, (List.map aG.enc p1.Subs)⟩, ⟨[.str], 9, 16, (List.map bA p1.Filters)⟩, ⟨[.int .i64], 3, 8, (List.map eI p1.Codes)⟩]) := by
 refine aY aqf rfl ?_
 refine Le.trans ?_ (le_of_eq (T60 ..).symm)
 unfold cS
 refine bO (good := good) eX pL (qE _ _) (fun e1 _ => ?_) (fun r0 _ => ?_)
 ·exact aF rfl
 ·(try simp only [EN]); exact wF fuel r0.1 0 ((aA.mk 0 0 false (aE.mk [] [] 0 false 0 0 [] 0 []) [] [] false 0 0 0 (aW.mk false 0 (aE.mk [] [] 0 false 0 0 [] 0 [])) false 0 [] [] [])) p1.Kind p1.ID p1.Dup p1.Message.Topic p1.Message.Payload p1.Message.Level p1.Message.Retain p1.Message.Priority p1.Message.Expires p1.Message.From p1.Message.Seq p1.Message.Props p1.Client p1.User p1.Clean p1.Keep p1.Expiry p1.Window p1.Will.Set p1.Will.Delay p1.Will.Message.Topic p1.Will.Message.Payload p1.Will.Message.Level p1.Will.Message.Retain p1.Will.Message.Priority p1.Will.Message.Expires p1.Will.Message.From p1.Will.Message.Seq p1.Will.Message.Props p1.Present p1.Code r0.2 p1.Subs p1.Filters p1.Codes
section
variable (Γ : Fun) (γ57 : Gp aH (aA × aC)) (γ58 γ41 : Gp aH (Int × aC)) (γ59 : Gp aH (aE × aC)) (γ60 : Gp aH (aA × aC)) (Λ2 J : Lam)
def C43 : aS := jJ (jJ (jJ (jJ (jJ (aQ Γ) 57 eQ γ57) 58 cJ γ58) 41 bW γ41) 59 cV γ59) 60 dW γ60
theorem T43 (p0 : aC) (p1 : Int) : bS SE (C43 Γ γ57 γ58 γ41 γ59 γ60) Λ2 J 43 [.ptr 2000000000 0, .d (.int .i64 p1)] [⟨80, (aC.avs p0)⟩] [] =
 cond (p1 == 1) (
 γ57 [.ptr 2000000000 0] [⟨80, (aC.avs p0)⟩] [] (fun e1 =>
  (some (.pan (.ifc 77 (aH.av e1))))) fun r0 =>
 (some (.ret [.agg [.d (.int .i64 r0.1.Kind), .d (.int .i64 r0.1.ID), .d (.bool r0.1.Dup), .d (.str r0.1.Message.Topic), .d (.str r0.1.Message.Payload), .d (.int .i64 r0.1.Message.Level), .d (.bool r0.1.Message.Retain), .d (.int .i64 r0.1.Message.Priority), .d (.int .i64 r0.1.Message.Expires), .d (.str r0.1.Message.From), .d (.int .i64 r0.1.Message.Seq), .d (.sl aB.ks (List.map aB.enc r0.1.Message.Props)), .d (.str r0.1.Client), .d (.str r0.1.User), .d (.bool r0.1.Clean), .d (.int .i64 r0.1.Keep), .d (.int .i64 r0.1.Expiry), .d (.int .i64 r0.1.Window), .d (.bool r0.1.Will.Set), .d (.int .i64 r0.1.Will.Delay), .d (.str r0.1.Will.Message.Topic), .d (.str r0.1.Will.Message.Payload), .d (.int .i64 r0.1.Will.Message.Level), .d (.bool r0.1.Will.Message.Retain), .d (.int .i64 r0.1.Will.Message.Priority), .d (.int .i64 r0.1.Will.Message.Expires), .d (.str r0.1.Will.Message.From), .d (.int .i64 r0.1.Will.Message.Seq), .d (.sl aB.ks (List.map aB.enc r0.1.Will.Message.Props)), .d (.bool r0.1.Present), .d (.int .i64 r0.1.Code), .row 0, .row 1, .row 2]] [⟨80, (aC.avs r0.2)⟩] [⟨aG.ks, 93, 32, (List.map aG.enc r0.1.Subs)⟩, ⟨[.str], 9, 16, (List.map bA r0.1.Filters)⟩, ⟨[.int .i64], 3, 8, (List.map eI r0.1.Codes)⟩]))) (
 cond (p1 == 2) (
 γ58 [.ptr 2000000000 0, .d (.int .i64 2)] [⟨80, (aC.avs p0)⟩] [] (fun e3 =>
  (some (.pan (.ifc 77 (aH.av e3))))) fun r2 =>
 γ41 [.ptr 2000000000 0] [⟨80, (aC.avs r2.2)⟩] [] (fun e5 =>
  (some (.pan (.ifc 77 (aH.av e5))))) fun r4 =>
 (some (.ret [.agg [.d (.int .i64 p1), .d (.int .i64 0), .d (.bool false), .d (.str []), .d (.str []), .d (.int .i64 0), .d (.bool false), .d (.int .i64 0), .d (.int .i64 0), .d (.str []), .d (.int .i64 0), .d (.sl aB.ks (List.map aB.enc [])), .d (.str []), .d (.str []), .d (.bool false), .d (.int .i64 0), .d (.int .i64 0), .d (.int .i64 0), .d (.bool false), .d (.int .i64 0), .d (.str []), .d (.str []), .d (.int .i64 0), .d (.bool false), .d (.int .i64 0), .d (.int .i64 0), .d (.str []), .d (.int .i64 0), .d (.sl aB.ks (List.map aB.enc [])), .d (.bool (r2.1 == 1)), .d (.int .i64 r4.1), .row 0, .row 1, .row 2]] [⟨80, (aC.avs r4.2)⟩] [⟨aG.ks, 93, 32, (List.map aG.enc [])⟩, ⟨[.str], 9, 16, (List.map bA [])⟩, ⟨[.int .i64], 3, 8, (List.map eI [])⟩]))) (
 cond (p1 == 3) (
 γ41 [.ptr 2000000000 0] [⟨80, (aC.avs p0)⟩] [] (fun e7 =>
  (some (.pan (.ifc 77 (aH.av e7))))) fun r6 =>
 γ58 [.ptr 2000000000 0, .d (.int .i64 2)] [⟨80, (aC.avs r6.2)⟩] [] (fun e9 =>
  (some (.pan (.ifc 77 (aH.av e9))))) fun r8 =>
 γ59 [.ptr 2000000000 0] [⟨80, (aC.avs r8.2)⟩] [] (fun e11 =>
  (some (.pan (.ifc 77 (aH.av e11))))) fun r10 =>
 (some (.ret [.agg [.d (.int .i64 p1), .d (.int .i64 r6.1), .d (.bool (r8.1 == 1)), .d (.str r10.1.Topic), .d (.str r10.1.Payload), .d (.int .i64 r10.1.Level), .d (.bool r10.1.Retain), .d (.int .i64 r10.1.Priority), .d (.int .i64 r10.1.Expires), .d (.str r10.1.From), .d (.int .i64 r10.1.Seq), .d (.sl aB.ks (List.map aB.enc r10.1.Props)), .d (.str []), .d (.str []), .d (.bool false), .d (.int .i64 0), .d (.int .i64 0), .d (.int .i64 0), .d (.bool false), .d (.int .i64 0), .d (.str []), .d (.str []), .d (.int .i64 0), .d (.bool false), .d (.int .i64 0), .d (.int .i64 0), .d (.str []), .d (.int .i64 0), .d (.sl aB.ks (List.map aB.enc [])), .d (.bool false), .d (.int .i64 0), .row 0, .row 1, .row 2]] [⟨80, (aC.avs r10.2)⟩] [⟨aG.ks, 93, 32, (List.map aG.enc [])⟩, ⟨[.str], 9, 16, (List.map bA [])⟩, ⟨[.int .i64], 3, 8, (List.map eI [])⟩]))) (
 cond (p1 == 4) (
 γ41 [.ptr 2000000000 0] [⟨80, (aC.avs p0)⟩] [] (fun e13 =>
  (some (.pan (.ifc 77 (aH.av e13))))) fun r12 =>
 (some (.ret [.agg [.d (.int .i64 p1), .d (.int .i64 r12.1), .d (.bool false), .d (.str []), .d (.str []), .d (.int .i64 0), .d (.bool false), .d (.int .i64 0), .d (.int .i64 0), .d (.str []), .d (.int .i64 0), .d (.sl aB.ks (List.map aB.enc [])), .d (.str []), .d (.str []), .d (.bool false), .d (.int .i64 0), .d (.int .i64 0), .d (.int .i64 0), .d (.bool false), .d (.int .i64 0), .d (.str []), .d (.str []), .d (.int .i64 0), .d (.bool false), .d (.int .i64 0), .d (.int .i64 0), .d (.str []), .d (.int .i64 0), .d (.sl aB.ks (List.map aB.enc [])), .d (.bool false), .d (.int .i64 0), .row 0, .row 1, .row 2]] [⟨80, (aC.avs r12.2)⟩] [⟨aG.ks, 93, 32, (List.map aG.enc [])⟩, ⟨[.str], 9, 16, (List.map bA [])⟩, ⟨[.int .i64], 3, 8, (List.map eI [])⟩]))) (
 cond (p1 == 5) (
 γ41 [.ptr 2000000000 0] [⟨80, (aC.avs p0)⟩] [] (fun e15 =>
  (some (.pan (.ifc 77 (aH.av e15))))) fun r14 =>
 (some (.ret [.agg [.d (.int .i64 p1), .d (.int .i64 r14.1), .d (.bool false), .d (.str []), .d (.str []), .d (.int .i64 0), .d (.bool false), .d (.int .i64 0), .d (.int .i64 0), .d (.str []), .d (.int .i64 0), .d (.sl aB.ks (List.map aB.enc [])), .d (.str []), .d (.str []), .d (.bool false), .d (.int .i64 0), .d (.int .i64 0), .d (.int .i64 0), .d (.bool false), .d (.int .i64 0), .d (.str []), .d (.str []), .d (.int .i64 0), .d (.bool false), .d (.int .i64 0), .d (.int .i64 0), .d (.str []), .d (.int .i64 0), .d (.sl aB.ks (List.map aB.enc [])), .d (.bool false), .d (.int .i64 0), .row 0, .row 1, .row 2]] [⟨80, (aC.avs r14.2)⟩] [⟨aG.ks, 93, 32, (List.map aG.enc [])⟩, ⟨[.str], 9, 16, (List.map bA [])⟩, ⟨[.int .i64], 3, 8, (List.map eI [])⟩]))) (
 cond (p1 == 6) (
 γ41 [.ptr 2000000000 0] [⟨80, (aC.avs p0)⟩] [] (fun e17 =>
  (some (.pan (.ifc 77 (aH.av e17))))) fun r16 =>
 (some (.ret [.agg [.d (.int .i64 p1), .d (.int .i64 r16.1), .d (.bool false), .d (.str []), .d (.str []), .d (.int .i64 0), .d (.bool false), .d (.int .i64 0), .d (.int .i64 0), .d (.str []), .d (.int .i64 0), .d (.sl aB.ks (List.map aB.enc [])), .d (.str []), .d (.str []), .d (.bool false), .d (.int .i64 0), .d (.int .i64 0), .d (.int .i64 0), .d (.bool false), .d (.int .i64 0), .d (.str []), .d (.str []), .d (.int .i64 0), .d (.bool false), .d (.int .i64 0), .d (.int .i64 0), .d (.str []), .d (.int .i64 0), .d (.sl aB.ks (List.map aB.enc [])), .d (.bool false), .d (.int .i64 0), .row 0, .row 1, .row 2]] [⟨80, (aC.avs r16.2)⟩] [⟨aG.ks, 93, 32, (List.map aG.enc [])⟩, ⟨[.str], 9, 16, (List.map bA [])⟩, ⟨[.int .i64], 3, 8, (List.map eI [])⟩]))) (
 cond (p1 == 7) (
 γ41 [.ptr 2000000000 0] [⟨80, (aC.avs p0)⟩] [] (fun e19 =>
  (some (.pan (.ifc 77 (aH.av e19))))) fun r18 =>
 (some (.ret [.agg [.d (.int .i64 p1), .d (.int .i64 r18.1), .d (.bool false), .d (.str []), .d (.str []), .d (.int .i64 0), .d (.bool false), .d (.int .i64 0), .d (.int .i64 0), .d (.str []), .d (.int .i64 0), .d (.sl aB.ks (List.map aB.enc [])), .d (.str []), .d (.str []), .d (.bool false), .d (.int .i64 0), .d (.int .i64 0), .d (.int .i64 0), .d (.bool false), .d (.int .i64 0), .d (.str []), .d (.str []), .d (.int .i64 0), .d (.bool false), .d (.int .i64 0), .d (.int .i64 0), .d (.str []), .d (.int .i64 0), .d (.sl aB.ks (List.map aB.enc [])), .d (.bool false), .d (.int .i64 0), .row 0, .row 1, .row 2]] [⟨80, (aC.avs r18.2)⟩] [⟨aG.ks, 93, 32, (List.map aG.enc [])⟩, ⟨[.str], 9, 16, (List.map bA [])⟩, ⟨[.int .i64], 3, 8, (List.map eI [])⟩]))) (
 cond (p1 == 8) (
 γ41 [.ptr 2000000000 0] [⟨80, (aC.avs p0)⟩] [] (fun e21 =>
  (some (.pan (.ifc 77 (aH.av e21))))) fun r20 =>
 γ60 [.ptr 2000000000 0, .agg [.d (.int .i64 p1), .d (.int .i64 r20.1), .d (.bool false), .d (.str []), .d (.str []), .d (.int .i64 0), .d (.bool false), .d (.int .i64 0), .d (.int .i64 0), .d (.str []), .d (.int .i64 0), .d (.sl aB.ks (List.map aB.enc [])), .d (.str []), .d (.str []), .d (.bool false), .d (.int .i64 0), .d (.int .i64 0), .d (.int .i64 0), .d (.bool false), .d (.int .i64 0), .d (.str []), .d (.str []), .d (.int .i64 0), .d (.bool false), .d (.int .i64 0), .d (.int .i64 0), .d (.str []), .d (.int .i64 0), .d (.sl aB.ks (List.map aB.enc [])), .d (.bool false), .d (.int .i64 0), .row 2000000000, .row 2000000001, .row 2000000002]] [⟨80, (aC.avs r20.2)⟩] [⟨aG.ks, 93, 32, (List.map aG.enc [])⟩, ⟨[.str], 9, 16, (List.map bA [])⟩, ⟨[.int .i64], 3, 8, (List.map eI [])⟩] (fun e23 =>
  (some (.pan (.ifc 77 (aH.av e23))))) fun r22 =>
 (some (.ret [.agg [.d (.int .i64 r22.1.Kind), .d (.int .i64 r22.1.ID), .d (.bool r22.1.Dup), .d (.str r22.1.Message.Topic), .d (.str r22.1.Message.Payload), .d (.int .i64 r22.1.Message.Level), .d (.bool r22.1.Message.Retain), .d (.int .i64 r22.1.Message.Priority), .d (.int .i64 r22.1.Message.Expires), .d (.str r22.1.Message.From), .d (.int .i64 r22.1.Message.Seq), .d (.sl aB.ks (List.map aB.enc r22.1.Message.Props)), .d (.str r22.1.Client), .d (.str r22.1.User), .d (.bool r22.1.Clean), .d (.int .i64 r22.1.Keep), .d (.int .i64 r22.1.Expiry), .d (.int .i64 r22.1.Window), .d (.bool r22.1.Will.Set), .d (.int .i64 r22.1.Will.Delay), .d (.str r22.1.Will.Message.Topic), .d (.str r22.1.Will.Message.Payload), .d (.int .i64 r22.1.Will.Message.Level), .d (.bool r22.1.Will.Message.Retain), .d (.int .i64 r22.1.Will.Message.Priority), .d (.int .i64 r22.1.Will.Message.Expires), .d (.str r22.1.Will.Message.From), .d (.int .i64 r22.1.Will.Message.Seq), .d (.sl aB.ks (List.map aB.enc r22.1.Will.Message.Props)), .d (.bool r22.1.Present), .d (.int .i64 r22.1.Code), .row 0, .row 1, .row 2]] [⟨80, (aC.avs r22.2)⟩] [⟨aG.ks, 93, 32, (List.map aG.enc r22.1.Subs)⟩, ⟨[.str], 9, 16, (List.map bA r22.1.Filters)⟩, ⟨[.int .i64], 3, 8, (List.map eI r22.1.Codes)⟩]))) (
 cond (p1 == 9) (
 γ41 [.ptr 2000000000 0] [⟨80, (aC.avs p0)⟩] [] (fun e25 =>
  (some (.pan (.ifc 77 (aH.av e25))))) fun r24 =>
 γ60 [.ptr 2000000000 0, .agg [.d (.int .i64 p1), .d (.int .i64 r24.1), .d (.bool false), .d (.str []), .d (.str []), .d (.int .i64 0), .d (.bool false), .d (.int .i64 0), .d (.int .i64 0), .d (.str []), .d (.int .i64 0), .d (.sl aB.ks (List.map aB.enc [])), .d (.str []), .d (.str []), .d (.bool false), .d (.int .i64 0), .d (.int .i64 0), .d (.int .i64 0), .d (.bool false), .d (.int .i64 0), .d (.str []), .d (.str []), .d (.int .i64 0), .d (.bool false), .d (.int .i64 0), .d (.int .i64 0), .d (.str []), .d (.int .i64 0), .d (.sl aB.ks (List.map aB.enc [])), .d (.bool false), .d (.int .i64 0), .row 2000000000, .row 2000000001, .row 2000000002]] [⟨80, (aC.avs r24.2)⟩] [⟨aG.ks, 93, 32, (List.map aG.enc [])⟩, ⟨[.str], 9, 16, (List.map bA [])⟩, ⟨[.int .i64], 3, 8, (List.map eI [])⟩] (fun e27 =>
  (some (.pan (.ifc 77 (aH.av e27))))) fun r26 =>
 (some (.ret [.agg [.d (.int .i64 r26.1.Kind), .d (.int .i64 r26.1.ID), .d (.bool r26.1.Dup), .d (.str r26.1.Message.Topic), .d (.str r26.1.Message.Payload), .d (.int .i64 r26.1.Message.Level), .d (.bool r26.1.Message.Retain), .d (.int .i64 r26.1.Message.Priority), .d (.int .i64 r26.1.Message.Expires), .d (.str r26.1.Message.From), .d (.int .i64 r26.1.Message.Seq), .d (.sl aB.ks (List.map aB.enc r26.1.Message.Props)), .d (.str r26.1.Client), .d (.str r26.1.User), .d (.bool r26.1.Clean), .d (.int .i64 r26.1.Keep), .d (.int .i64 r26.1.Expiry), .d (.int .i64 r26.1.Window), .d (.bool r26.1.Will.Set), .d (.int .i64 r26.1.Will.Delay), .d (.str r26.1.Will.Message.Topic), .d (.str r26.1.Will.Message.Payload), .d (.int .i64 r26.1.Will.Message.Level), .d (.bool r26.1.Will.Message.Retain), .d (.int .i64 r26.1.Will.Message.Priority), .d (.int .i64 r26.1.Will.Message.Expires), .d (.str r26.1.Will.Message.From), .d (.int .i64 r26.1.Will.Message.Seq), .d (.sl aB.ks (List.map aB.enc r26.1.Will.Message.Props)), .d (.bool r26.1.Present), .d (.int .i64 r26.1.Code), .row 0, .row 1, .row 2]] [⟨80, (aC.avs r26.2)⟩] [⟨aG.ks, 93, 32, (List.map aG.enc r26.1.Subs)⟩, ⟨[.str], 9, 16, (List.map bA r26.1.Filters)⟩, ⟨[.int .i64], 3, 8, (List.map eI r26.1.Codes)⟩]))) (
 cond (p1 == 10) (
 γ41 [.ptr 2000000000 0] [⟨80, (aC.avs p0)⟩] [] (fun e29 =>
  (some (.pan (.ifc 77 (aH.av e29))))) fun r28 =>
 γ60 [.ptr 2000000000 0, .agg [.d (.int .i64 p1), .d (.int .i64 r28.1), .d (.bool false), .d (.str []), .d (.str []), .d (.int .i64 0), .d (.bool false), .d (.int .i64 0), .d (.int .i64 0), .d (.str []), .d (.int .i64 0), .d (.sl aB.ks (List.map aB.enc [])), .d (.str []), .d (.str []), .d (.bool false), .d (.int .i64 0), .d (.int .i64 0), .d (.int .i64 0), .d (.bool false), .d (.int .i64 0), .d (.str []), .d (.str []), .d (.int .i64 0), .d (.bool false), .d (.int .i64 0), .d (.int .i64 0), .d (.str []), .d (.int .i64 0), .d (.sl aB.ks (List.map aB.enc [])), .d (.bool false), .d (.int .i64 0), .row 2000000000, .row 2000000001, .row 2000000002]] [⟨80, (aC.avs r28.2)⟩] [⟨aG.ks, 93, 32, (List.map aG.enc [])⟩, ⟨[.str], 9, 16, (List.map bA [])⟩, ⟨[.int .i64], 3, 8, (List.map eI [])⟩] (fun e31 =>
  (some (.pan (.ifc 77 (aH.av e31))))) fun r30 =>
 (some (.ret [.agg [.d (.int .i64 r30.1.Kind), .d (.int .i64 r30.1.ID), .d (.bool r30.1.Dup), .d (.str r30.1.Message.Topic), .d (.str r30.1.Message.Payload), .d (.int .i64 r30.1.Message.Level), .d (.bool r30.1.Message.Retain), .d (.int .i64 r30.1.Message.Priority), .d (.int .i64 r30.1.Message.Expires), .d (.str r30.1.Message.From), .d (.int .i64 r30.1.Message.Seq), .d (.sl aB.ks (List.map aB.enc r30.1.Message.Props)), .d (.str r30.1.Client), .d (.str r30.1.User), .d (.bool r30.1.Clean), .d (.int .i64 r30.1.Keep), .d (.int .i64 r30.1.Expiry), .d (.int .i64 r30.1.Window), .d (.bool r30.1.Will.Set), .d (.int .i64 r30.1.Will.Delay), .d (.str r30.1.Will.Message.Topic), .d (.str r30.1.Will.Message.Payload), .d (.int .i64 r30.1.Will.Message.Level), .d (.bool r30.1.Will.Message.Retain), .d (.int .i64 r30.1.Will.Message.Priority), .d (.int .i64 r30.1.Will.Message.Expires), .d (.str r30.1.Will.Message.From), .d (.int .i64 r30.1.Will.Message.Seq), .d (.sl aB.ks (List.map aB.enc r30.1.Will.Message.Props)), .d (.bool r30.1.Present), .d (.int .i64 r30.1.Code), .row 0, .row 1, .row 2]] [⟨80, (aC.avs r30.2)⟩] [⟨aG.ks, 93, 32, (List.map aG.enc r30.1.Subs)⟩, ⟨[.str], 9, 16, (List.map bA r30.1.Filters)⟩, ⟨[.int .i64], 3, 8, (List.map eI r30.1.Codes)⟩]))) (
 cond (p1 == 11) (
 γ41 [.ptr 2000000000 0] [⟨80, (aC.avs p0)⟩] [] (fun e33 =>
  (some (.pan (.ifc 77 (aH.av e33))))) fun r32 =>
 γ60 [.ptr 2000000000 0, .agg [.d (.int .i64 p1), .d (.int .i64 r32.1), .d (.bool false), .d (.str []), .d (.str []), .d (.int .i64 0), .d (.bool false), .d (.int .i64 0), .d (.int .i64 0), .d (.str []), .d (.int .i64 0), .d (.sl aB.ks (List.map aB.enc [])), .d (.str []), .d (.str []), .d (.bool false), .d (.int .i64 0), .d (.int .i64 0), .d (.int .i64 0), .d (.bool false), .d (.int .i64 0), .d (.str []), .d (.str []), .d (.int .i64 0), .d (.bool false), .d (.int .i64 0), .d (.int .i64 0), .d (.str []), .d (.int .i64 0), .d (.sl aB.ks (List.map aB.enc [])), .d (.bool false), .d (.int .i64 0), .row 2000000000, .row 2000000001, .row 2000000002]] [⟨80, (aC.avs r32.2)⟩] [⟨aG.ks, 93, 32, (List.map aG.enc [])⟩, ⟨[.str], 9, 16, (List.map bA [])⟩, ⟨[.int .i64], 3, 8, (List.map eI [])⟩] (fun e35 =>
  (some (.pan (.ifc 77 (aH.av e35))))) fun r34 =>
 (some (.ret [.agg [.d (.int .i64 r34.1.Kind), .d (.int .i64 r34.1.ID), .d (.bool r34.1.Dup), .d (.str r34.1.Message.Topic), .d (.str r34.1.Message.Payload), .d (.int .i64 r34.1.Message.Level), .d (.bool r34.1.Message.Retain), .d (.int .i64 r34.1.Message.Priority), .d (.int .i64 r34.1.Message.Expires), .d (.str r34.1.Message.From), .d (.int .i64 r34.1.Message.Seq), .d (.sl aB.ks (List.map aB.enc r34.1.Message.Props)), .d (.str r34.1.Client), .d (.str r34.1.User), .d (.bool r34.1.Clean), .d (.int .i64 r34.1.Keep), .d (.int .i64 r34.1.Expiry), .d (.int .i64 r34.1.Window), .d (.bool r34.1.Will.Set), .d (.int .i64 r34.1.Will.Delay), .d (.str r34.1.Will.Message.Topic), .d (.str r34.1.Will.Message.Payload), .d (.int .i64 r34.1.Will.Message.Level), .d (.bool r34.1.Will.Message.Retain), .d (.int .i64 r34.1.Will.Message.Priority), .d (.int .i64 r34.1.Will.Message.Expires), .d (.str r34.1.Will.Message.From), .d (.int .i64 r34.1.Will.Message.Seq), .d (.sl aB.ks (List.map aB.enc r34.1.Will.Message.Props)), .d (.bool r34.1.Present), .d (.int .i64 r34.1.Code), .row 0, .row 1, .row 2]] [⟨80, (aC.avs r34.2)⟩] [⟨aG.ks, 93, 32, (List.map aG.enc r34.1.Subs)⟩, ⟨[.str], 9, 16, (List.map bA r34.1.Filters)⟩, ⟨[.int .i64], 3, 8, (List.map eI r34.1.Codes)⟩]))) (
 cond (p1 == 14) (
 γ41 [.ptr 2000000000 0] [⟨80, (aC.avs p0)⟩] [] (fun e37 =>
  (some (.pan (.ifc 77 (aH.av e37))))) fun r36 =>
 (some (.ret [.agg [.d (.int .i64 p1), .d (.int .i64 0), .d (.bool false), .d (.str []), .d (.str []), .d (.int .i64 0), .d (.bool false), .d (.int .i64 0), .d (.int .i64 0), .d (.str []), .d (.int .i64 0), .d (.sl aB.ks (List.map aB.enc [])), .d (.str []), .d (.str []), .d (.bool false), .d (.int .i64 0), .d (.int .i64 0), .d (.int .i64 0), .d (.bool false), .d (.int .i64 0), .d (.str []), .d (.str []), .d (.int .i64 0), .d (.bool false), .d (.int .i64 0), .d (.int .i64 0), .d (.str []), .d (.int .i64 0), .d (.sl aB.ks (List.map aB.enc [])), .d (.bool false), .d (.int .i64 r36.1), .row 0, .row 1, .row 2]] [⟨80, (aC.avs r36.2)⟩] [⟨aG.ks, 93, 32, (List.map aG.enc [])⟩, ⟨[.str], 9, 16, (List.map bA [])⟩, ⟨[.int .i64], 3, 8, (List.map eI [])⟩]))) (
 (some (.ret [.agg [.d (.int .i64 p1), .d (.int .i64 0), .d (.bool false), .d (.str []), .d (.str []), .d (.int .i64 0), .d (.bool false), .d (.int .i64 0), .d (.int .i64 0), .d (.str []), .d (.int .i64 0), .d (.sl aB.ks (List.map aB.enc [])), .d (.str []), .d (.str []), .d (.bool false), .d (.int .i64 0), .d (.int .i64 0), .d (.int .i64 0), .d (.bool false), .d (.int .i64 0), .d (.str []), .d (.str []), .d (.int .i64 0), .d (.bool false), .d (.int .i64 0), .d (.int .i64 0), .d (.str []), .d (.int .i64 0), .d (.sl aB.ks (List.map aB.enc [])), .d (.bool false), .d (.int .i64 0), .row 0, .row 1, .row 2]] [⟨80, (aC.avs p0)⟩] [⟨aG.ks, 93, 32, (List.map aG.enc [])⟩, ⟨[.str], 9, 16, (List.map bA [])⟩, ⟨[.int .i64], 3, 8, (List.map eI [])⟩])))))))))))))) := by kernel_rfl
end
abbrev X43 : aS := C43 gG (cP 57 eQ) (cP 58 cJ) (cP 41 bW) (cP 59 cV) (cP 60 dW)
theorem atY : X43 = aQ gG := by unfold X43 C43; rw [dF fun _ h => h, dF fun _ h => h, dF fun _ h => h, dF fun _ h => h, dF fun _ h => h]
theorem pT (p0 : aC) (p1 : Int) : Le (Option.map eV (dZ p0 p1)) (bD SE 43 [.ptr 2000000000 0, .d (.int .i64 p1)] [⟨80, (aC.avs p0)⟩] []) := by
 refine aY atY rfl ?_
 refine Le.trans ?_ (le_of_eq (T43 ..).symm)
 unfold dZ
 refine lC ?_ ?_
 ·refine bO (good := good) eX wD (wI _) (fun e1 _ => ?_) (fun r0 _ => ?_)
  ·exact aF rfl
  ·exact aF rfl
 ·refine lC ?_ ?_
  ·refine bO (good := good) eX fZ (gL _ _) (fun e3 _ => ?_) (fun r2 _ => ?_)
   ·exact aF rfl
   ·refine bO (good := good) eX bE (bH _) (fun e5 _ => ?_) (fun r4 _ => ?_)
    ·exact aF rfl
    ·exact aF rfl
  ·refine lC ?_ ?_
   ·refine bO (good := good) eX bE (bH _) (fun e7 _ => ?_) (fun r6 _ => ?_)
    ·exact aF rfl
    ·refine bO (good := good) eX fZ (gL _ _) (fun e9 _ => ?_) (fun r8 _ => ?_)
     ·exact aF rfl
     ·refine bO (good := good) eX nY (oS _) (fun e11 _ => ?_) (fun r10 _ => ?_)
      ·exact aF rfl
      ·exact aF rfl
   ·refine lC ?_ ?_
    ·refine bO (good := good) eX bE (bH _) (fun e13 _ => ?_) (fun r12 _ => ?_)
     ·exact aF rfl
     ·exact aF rfl
    ·refine lC ?_ ?_
     ·refine bO (good := good) eX bE (bH _) (fun e15 _ => ?_) (fun r14 _ => ?_)
      ·exact aF rfl
      ·exact aF rfl
     ·refine lC ?_ ?_
      ·refine bO (good := good) eX bE (bH _) (fun e17 _ => ?_) (fun r16 _ => ?_)
       ·exact aF rfl
       ·exact aF rfl
      ·refine lC ?_ ?_
       ·refine bO (good := good) eX bE (bH _) (fun e19 _ => ?_) (fun r18 _ => ?_)
        ·exact aF rfl
        ·exact aF rfl
       ·refine lC ?_ ?_
        ·refine bO (good := good) eX bE (bH _) (fun e21 _ => ?_) (fun r20 _ => ?_)
         ·exact aF rfl
         ·refine bO (good := good) eX iI (by (try simp only [EN]); exact iW r20.2 ((aA.mk p1 r20.1 false (aE.mk [] [] 0 false 0 0 [] 0 []) [] [] false 0 0 0 (aW.mk false 0 (aE.mk [] [] 0 false 0 0 [] 0 [])) false 0 [] [] []))) (fun e23 _ => ?_) (fun r22 _ => ?_)
          ·exact aF rfl
          ·exact aF rfl
        ·refine lC ?_ ?_
         ·refine bO (good := good) eX bE (bH _) (fun e25 _ => ?_) (fun r24 _ => ?_)
          ·exact aF rfl
          ·refine bO (good := good) eX iI (by (try simp only [EN]); exact iW r24.2 ((aA.mk p1 r24.1 false (aE.mk [] [] 0 false 0 0 [] 0 []) [] [] false 0 0 0 (aW.mk false 0 (aE.mk [] [] 0 false 0 0 [] 0 [])) false 0 [] [] []))) (fun e27 _ => ?_) (fun r26 _ => ?_)
           ·exact aF rfl
           ·exact aF rfl
         ·refine lC ?_ ?_
          ·refine bO (good := good) eX bE (bH _) (fun e29 _ => ?_) (fun r28 _ => ?_)
           ·exact aF rfl
           ·refine bO (good := good) eX iI (by (try simp only [EN]); exact iW r28.2 ((aA.mk p1 r28.1 false (aE.mk [] [] 0 false 0 0 [] 0 []) [] [] false 0 0 0 (aW.mk false 0 (aE.mk [] [] 0 false 0 0 [] 0 [])) false 0 [] [] []))) (fun e31 _ => ?_) (fun r30 _ => ?_)
            ·exact aF rfl
            ·exact aF rfl
          ·refine lC ?_ ?_
           ·refine bO (good := good) eX bE (bH _) (fun e33 _ => ?_) (fun r32 _ => ?_)
            ·exact aF rfl
            ·refine bO (good := good) eX iI (by (try simp only [EN]); exact iW r32.2 ((aA.mk p1 r32.1 false (aE.mk [] [] 0 false 0 0 [] 0 []) [] [] false 0 0 0 (aW.mk false 0 (aE.mk [] [] 0 false 0 0 [] 0 [])) false 0 [] [] []))) (fun e35 _ => ?_) (fun r34 _ => ?_)
             ·exact aF rfl
             ·exact aF rfl
           ·refine lC ?_ ?_
            ·refine bO (good := good) eX bE (bH _) (fun e37 _ => ?_) (fun r36 _ => ?_)
             ·exact aF rfl
             ·exact aF rfl
            ·exact aF rfl
section
variable (Γ : Fun) (γ41 : Gp aH (Int × aC)) (γ42 : Gp aH (Unit)) (γ43 : Gp aH (aA × aC)) (γ33 : Gm (Int)) (Λ2 J : Lam)
def C28 : aS := bM (jJ (jJ (jJ (aQ Γ) 41 bW γ41) 42 eE γ42) 43 eV γ43) 33 aI γ33
theorem T28 (p0 : List Int) : adE SE (C28 Γ γ41 γ42 γ43 γ33) 28 ajU [.d (.sl [.int .u8] (List.map (aJ .u8) p0))] [] [] =
 cond (decide ((lM (aJ .u8) p0 : Int) > 4096)) (
 (some (.ret [.agg [.d (.int .i64 0), .d (.int .i64 0), .d (.bool false), .d (.str []), .d (.str []), .d (.int .i64 0), .d (.bool false), .d (.int .i64 0), .d (.int .i64 0), .d (.str []), .d (.int .i64 0), .d (.sl aB.ks (List.map aB.enc [])), .d (.str []), .d (.str []), .d (.bool false), .d (.int .i64 0), .d (.int .i64 0), .d (.int .i64 0), .d (.bool false), .d (.int .i64 0), .d (.str []), .d (.str []), .d (.int .i64 0), .d (.bool false), .d (.int .i64 0), .d (.int .i64 0), .d (.str []), .d (.int .i64 0), .d (.sl aB.ks (List.map aB.enc [])), .d (.bool false), .d (.int .i64 0), .row 0, .row 1, .row 2], .d (.int .i64 5)] [] [⟨aG.ks, 93, 32, (List.map aG.enc [])⟩, ⟨[.str], 9, 16, (List.map bA [])⟩, ⟨[.int .i64], 3, 8, (List.map eI [])⟩]))) (
 γ41 [.ptr 2000000000 0] [⟨80, (aC.avs (aC.mk p0 0))⟩] [] (fun e1 =>
 (some (.ret [.agg [.d (.int .i64 0), .d (.int .i64 0), .d (.bool false), .d (.str []), .d (.str []), .d (.int .i64 0), .d (.bool false), .d (.int .i64 0), .d (.int .i64 0), .d (.str []), .d (.int .i64 0), .d (.sl aB.ks (List.map aB.enc [])), .d (.str []), .d (.str []), .d (.bool false), .d (.int .i64 0), .d (.int .i64 0), .d (.int .i64 0), .d (.bool false), .d (.int .i64 0), .d (.str []), .d (.str []), .d (.int .i64 0), .d (.bool false), .d (.int .i64 0), .d (.int .i64 0), .d (.str []), .d (.int .i64 0), .d (.sl aB.ks (List.map aB.enc [])), .d (.bool false), .d (.int .i64 0), .row 0, .row 1, .row 2], .d (.int .i64 e1.code)] [] [⟨aG.ks, 93, 32, (List.map aG.enc [])⟩, ⟨[.str], 9, 16, (List.map bA [])⟩, ⟨[.int .i64], 3, 8, (List.map eI [])⟩]))) fun r0 =>
 cond (decide (r0.1 < 1)) (
 γ42 [.d (.bool true), .d (.int .i64 10)] [] [] (fun e3 =>
  (some (.ret [.agg [.d (.int .i64 0), .d (.int .i64 0), .d (.bool false), .d (.str []), .d (.str []), .d (.int .i64 0), .d (.bool false), .d (.int .i64 0), .d (.int .i64 0), .d (.str []), .d (.int .i64 0), .d (.sl aB.ks (List.map aB.enc [])), .d (.str []), .d (.str []), .d (.bool false), .d (.int .i64 0), .d (.int .i64 0), .d (.int .i64 0), .d (.bool false), .d (.int .i64 0), .d (.str []), .d (.str []), .d (.int .i64 0), .d (.bool false), .d (.int .i64 0), .d (.int .i64 0), .d (.str []), .d (.int .i64 0), .d (.sl aB.ks (List.map aB.enc [])), .d (.bool false), .d (.int .i64 0), .row 0, .row 1, .row 2], .d (.int .i64 e3.code)] [] [⟨aG.ks, 93, 32, (List.map aG.enc [])⟩, ⟨[.str], 9, 16, (List.map bA [])⟩, ⟨[.int .i64], 3, 8, (List.map eI [])⟩]))) fun r2 =>
 γ43 [.ptr 2000000000 0, .d (.int .i64 r0.1)] [⟨80, (aC.avs r0.2)⟩] [] (fun e5 =>
  (some (.ret [.agg [.d (.int .i64 0), .d (.int .i64 0), .d (.bool false), .d (.str []), .d (.str []), .d (.int .i64 0), .d (.bool false), .d (.int .i64 0), .d (.int .i64 0), .d (.str []), .d (.int .i64 0), .d (.sl aB.ks (List.map aB.enc [])), .d (.str []), .d (.str []), .d (.bool false), .d (.int .i64 0), .d (.int .i64 0), .d (.int .i64 0), .d (.bool false), .d (.int .i64 0), .d (.str []), .d (.str []), .d (.int .i64 0), .d (.bool false), .d (.int .i64 0), .d (.int .i64 0), .d (.str []), .d (.int .i64 0), .d (.sl aB.ks (List.map aB.enc [])), .d (.bool false), .d (.int .i64 0), .row 0, .row 1, .row 2], .d (.int .i64 e5.code)] [] [⟨aG.ks, 93, 32, (List.map aG.enc [])⟩, ⟨[.str], 9, 16, (List.map bA [])⟩, ⟨[.int .i64], 3, 8, (List.map eI [])⟩]))) fun r4 =>
 γ42 [.d (.bool (decide (r4.2.at_ < (lM (aJ .u8) p0 : Int)))), .d (.int .i64 2)] [] [] (fun e7 =>
  (some (.ret [.agg [.d (.int .i64 0), .d (.int .i64 0), .d (.bool false), .d (.str []), .d (.str []), .d (.int .i64 0), .d (.bool false), .d (.int .i64 0), .d (.int .i64 0), .d (.str []), .d (.int .i64 0), .d (.sl aB.ks (List.map aB.enc [])), .d (.str []), .d (.str []), .d (.bool false), .d (.int .i64 0), .d (.int .i64 0), .d (.int .i64 0), .d (.bool false), .d (.int .i64 0), .d (.str []), .d (.str []), .d (.int .i64 0), .d (.bool false), .d (.int .i64 0), .d (.int .i64 0), .d (.str []), .d (.int .i64 0), .d (.sl aB.ks (List.map aB.enc [])), .d (.bool false), .d (.int .i64 0), .row 0, .row 1, .row 2], .d (.int .i64 e7.code)] [] [⟨aG.ks, 93, 32, (List.map aG.enc [])⟩, ⟨[.str], 9, 16, (List.map bA [])⟩, ⟨[.int .i64], 3, 8, (List.map eI [])⟩]))) fun r6 =>
 γ33 [aA.av r4.1] [] [] fun r8 =>
 γ42 [.d (.bool (r8 != 0)), .d (.int .i64 r8)] [] [] (fun e10 =>
  (some (.ret [.agg [.d (.int .i64 0), .d (.int .i64 0), .d (.bool false), .d (.str []), .d (.str []), .d (.int .i64 0), .d (.bool false), .d (.int .i64 0), .d (.int .i64 0), .d (.str []), .d (.int .i64 0), .d (.sl aB.ks (List.map aB.enc [])), .d (.str []), .d (.str []), .d (.bool false), .d (.int .i64 0), .d (.int .i64 0), .d (.int .i64 0), .d (.bool false), .d (.int .i64 0), .d (.str []), .d (.str []), .d (.int .i64 0), .d (.bool false), .d (.int .i64 0), .d (.int .i64 0), .d (.str []), .d (.int .i64 0), .d (.sl aB.ks (List.map aB.enc [])), .d (.bool false), .d (.int .i64 0), .row 0, .row 1, .row 2], .d (.int .i64 e10.code)] [] [⟨aG.ks, 93, 32, (List.map aG.enc [])⟩, ⟨[.str], 9, 16, (List.map bA [])⟩, ⟨[.int .i64], 3, 8, (List.map eI [])⟩]))) fun r9 =>
 (some (.ret [.agg [.d (.int .i64 r4.1.Kind), .d (.int .i64 r4.1.ID), .d (.bool r4.1.Dup), .d (.str r4.1.Message.Topic), .d (.str r4.1.Message.Payload), .d (.int .i64 r4.1.Message.Level), .d (.bool r4.1.Message.Retain), .d (.int .i64 r4.1.Message.Priority), .d (.int .i64 r4.1.Message.Expires), .d (.str r4.1.Message.From), .d (.int .i64 r4.1.Message.Seq), .d (.sl aB.ks (List.map aB.enc r4.1.Message.Props)), .d (.str r4.1.Client), .d (.str r4.1.User), .d (.bool r4.1.Clean), .d (.int .i64 r4.1.Keep), .d (.int .i64 r4.1.Expiry), .d (.int .i64 r4.1.Window), .d (.bool r4.1.Will.Set), .d (.int .i64 r4.1.Will.Delay), .d (.str r4.1.Will.Message.Topic), .d (.str r4.1.Will.Message.Payload), .d (.int .i64 r4.1.Will.Message.Level), .d (.bool r4.1.Will.Message.Retain), .d (.int .i64 r4.1.Will.Message.Priority), .d (.int .i64 r4.1.Will.Message.Expires), .d (.str r4.1.Will.Message.From), .d (.int .i64 r4.1.Will.Message.Seq), .d (.sl aB.ks (List.map aB.enc r4.1.Will.Message.Props)), .d (.bool r4.1.Present), .d (.int .i64 r4.1.Code), .row 0, .row 1, .row 2], .d (.int .i64 0)] [] [⟨aG.ks, 93, 32, (List.map aG.enc r4.1.Subs)⟩, ⟨[.str], 9, 16, (List.map bA r4.1.Filters)⟩, ⟨[.int .i64], 3, 8, (List.map eI r4.1.Codes)⟩]))) (
 γ42 [.d (.bool (decide (r0.1 > 14))), .d (.int .i64 10)] [] [] (fun e12 =>
 (some (.ret [.agg [.d (.int .i64 0), .d (.int .i64 0), .d (.bool false), .d (.str []), .d (.str []), .d (.int .i64 0), .d (.bool false), .d (.int .i64 0), .d (.int .i64 0), .d (.str []), .d (.int .i64 0), .d (.sl aB.ks (List.map aB.enc [])), .d (.str []), .d (.str []), .d (.bool false), .d (.int .i64 0), .d (.int .i64 0), .d (.int .i64 0), .d (.bool false), .d (.int .i64 0), .d (.str []), .d (.str []), .d (.int .i64 0), .d (.bool false), .d (.int .i64 0), .d (.int .i64 0), .d (.str []), .d (.int .i64 0), .d (.sl aB.ks (List.map aB.enc [])), .d (.bool false), .d (.int .i64 0), .row 0, .row 1, .row 2], .d (.int .i64 e12.code)] [] [⟨aG.ks, 93, 32, (List.map aG.enc [])⟩, ⟨[.str], 9, 16, (List.map bA [])⟩, ⟨[.int .i64], 3, 8, (List.map eI [])⟩]))) fun r11 =>
 γ43 [.ptr 2000000000 0, .d (.int .i64 r0.1)] [⟨80, (aC.avs r0.2)⟩] [] (fun e14 =>
 (some (.ret [.agg [.d (.int .i64 0), .d (.int .i64 0), .d (.bool false), .d (.str []), .d (.str []), .d (.int .i64 0), .d (.bool false), .d (.int .i64 0), .d (.int .i64 0), .d (.str []), .d (.int .i64 0), .d (.sl aB.ks (List.map aB.enc [])), .d (.str []), .d (.str []), .d (.bool false), .d (.int .i64 0), .d (.int .i64 0), .d (.int .i64 0), .d (.bool false), .d (.int .i64 0), .d (.str []), .d (.str []), .d (.int .i64 0), .d (.bool false), .d (.int .i64 0), .d (.int .i64 0), .d (.str []), .d (.int .i64 0), .d (.sl aB.ks (List.map aB.enc [])), .d (.bool false), .d (.int .i64 0), .row 0, .row 1, .row 2], .d (.int .i64 e14.code)] [] [⟨aG.ks, 93, 32, (List.map aG.enc [])⟩, ⟨[.str], 9, 16, (List.map bA [])⟩, ⟨[.int .i64], 3, 8, (List.map eI [])⟩]))) fun r13 =>
 γ42 [.d (.bool (decide (r13.2.at_ < (lM (aJ .u8) p0 : Int)))), .d (.int .i64 2)] [] [] (fun e16 =>
 (some (.ret [.agg [.d (.int .i64 0), .d (.int .i64 0), .d (.bool false), .d (.str []), .d (.str []), .d (.int .i64 0), .d (.bool false), .d (.int .i64 0), .d (.int .i64 0), .d (.str []), .d (.int .i64 0), .d (.sl aB.ks (List.map aB.enc [])), .d (.str []), .d (.str []), .d (.bool false), .d (.int .i64 0), .d (.int .i64 0), .d (.int .i64 0), .d (.bool false), .d (.int .i64 0), .d (.str []), .d (.str []), .d (.int .i64 0), .d (.bool false), .d (.int .i64 0), .d (.int .i64 0), .d (.str []), .d (.int .i64 0), .d (.sl aB.ks (List.map aB.enc [])), .d (.bool false), .d (.int .i64 0), .row 0, .row 1, .row 2], .d (.int .i64 e16.code)] [] [⟨aG.ks, 93, 32, (List.map aG.enc [])⟩, ⟨[.str], 9, 16, (List.map bA [])⟩, ⟨[.int .i64], 3, 8, (List.map eI [])⟩]))) fun r15 =>
 γ33 [aA.av r13.1] [] [] fun r17 =>
 γ42 [.d (.bool (r17 != 0)), .d (.int .i64 r17)] [] [] (fun e19 =>
 (some (.ret [.agg [.d (.int .i64 0), .d (.int .i64 0), .d (.bool false), .d (.str []), .d (.str []), .d (.int .i64 0), .d (.bool false), .d (.int .i64 0), .d (.int .i64 0), .d (.str []), .d (.int .i64 0), .d (.sl aB.ks (List.map aB.enc [])), .d (.str []), .d (.str []), .d (.bool false), .d (.int .i64 0), .d (.int .i64 0), .d (.int .i64 0), .d (.bool false), .d (.int .i64 0), .d (.str []), .d (.str []), .d (.int .i64 0), .d (.bool false), .d (.int .i64 0), .d (.int .i64 0), .d (.str []), .d (.int .i64 0), .d (.sl aB.ks (List.map aB.enc [])), .d (.bool false), .d (.int .i64 0), .row 0, .row 1, .row 2], .d (.int .i64 e19.code)] [] [⟨aG.ks, 93, 32, (List.map aG.enc [])⟩, ⟨[.str], 9, 16, (List.map bA [])⟩, ⟨[.int .i64], 3, 8, (List.map eI [])⟩]))) fun r18 =>
 (some (.ret [.agg [.d (.int .i64 r13.1.Kind), .d (.int .i64 r13.1.ID), .d (.bool r13.1.Dup), .d (.str r13.1.Message.Topic), .d (.str r13.1.Message.Payload), .d (.int .i64 r13.1.Message.Level), .d (.bool r13.1.Message.Retain), .d (.int .i64 r13.1.Message.Priority), .d (.int .i64 r13.1.Message.Expires), .d (.str r13.1.Message.From), .d (.int .i64 r13.1.Message.Seq), .d (.sl aB.ks (List.map aB.enc r13.1.Message.Props)), .d (.str r13.1.Client), .d (.str r13.1.User), .d (.bool r13.1.Clean), .d (.int .i64 r13.1.Keep), .d (.int .i64 r13.1.Expiry), .d (.int .i64 r13.1.Window), .d (.bool r13.1.Will.Set), .d (.int .i64 r13.1.Will.Delay), .d (.str r13.1.Will.Message.Topic), .d (.str r13.1.Will.Message.Payload), .d (.int .i64 r13.1.Will.Message.Level), .d (.bool r13.1.Will.Message.Retain), .d (.int .i64 r13.1.Will.Message.Priority), .d (.int .i64 r13.1.Will.Message.Expires), .d (.str r13.1.Will.Message.From), .d (.int .i64 r13.1.Will.Message.Seq), .d (.sl aB.ks (List.map aB.enc r13.1.Will.Message.Props)), .d (.bool r13.1.Present), .d (.int .i64 r13.1.Code), .row 0, .row 1, .row 2], .d (.int .i64 0)] [] [⟨aG.ks, 93, 32, (List.map aG.enc r13.1.Subs)⟩, ⟨[.str], 9, 16, (List.map bA r13.1.Filters)⟩, ⟨[.int .i64], 3, 8, (List.map eI r13.1.Codes)⟩])))) := by kernel_rfl
end
abbrev X28 : aS := C28 gG (cP 41 bW) (cP 42 eE) (cP 43 eV) (cT 33 aI)
theorem atC : X28 = aQ gG := by unfold X28 C28; rw [dF fun _ h => h, dF fun _ h => h, dF fun _ h => h, bK fun _ h => h]
theorem ahm (p0 : List Int) : Le (Option.map kP (o8 p0)) (bD SE 28 [.d (.sl [.int .u8] (List.map (aJ .u8) p0))] [] []) := by
 refine amk atC rfl ?_
 refine Le.trans ?_ (le_of_eq (T28 ..).symm)
 unfold o8
 refine lD (by simp only [EN]) ?_ ?_
 ·exact aF rfl
 ·refine bO (good := good) eX bE (bH _) (fun e1 _ => ?_) (fun r0 _ => ?_)
  ·exact aF rfl
  ·refine lC ?_ ?_
   ·refine bO (good := good) eX fD (fN _ _) (fun e3 _ => ?_) (fun r2 _ => ?_)
    ·exact aF rfl
    ·refine bO (good := good) eX oO (pT _ _) (fun e5 _ => ?_) (fun r4 _ => ?_)
     ·exact aF rfl
     ·refine bO (good := good) eX fD (by (try simp only [EN]); exact fN (decide (r4.2.at_ < (List.length p0 : Int))) 2) (fun e7 _ => ?_) (fun r6 _ => ?_)
      ·exact aF rfl
      ·refine lQ eX aZ (uD _) fun r8 _ => ?_
       refine bO (good := good) eX fD (fN _ _) (fun e10 _ => ?_) (fun r9 _ => ?_)
       ·exact aF rfl
       ·exact aF rfl
   ·refine bO (good := good) eX fD (fN _ _) (fun e12 _ => ?_) (fun r11 _ => ?_)
    ·exact aF rfl
    ·refine bO (good := good) eX oO (pT _ _) (fun e14 _ => ?_) (fun r13 _ => ?_)
     ·exact aF rfl
     ·refine bO (good := good) eX fD (by (try simp only [EN]); exact fN (decide (r13.2.at_ < (List.length p0 : Int))) 2) (fun e16 _ => ?_) (fun r15 _ => ?_)
      ·exact aF rfl
      ·refine lQ eX aZ (uD _) fun r17 _ => ?_
       refine bO (good := good) eX fD (fN _ _) (fun e19 _ => ?_) (fun r18 _ => ?_)
       ·exact aF rfl
       ·exact aF rfl
end Te
end PX
