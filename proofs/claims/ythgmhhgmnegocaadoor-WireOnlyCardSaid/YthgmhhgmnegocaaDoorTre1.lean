import Derived.Test.YthgmhhgmnegocaaDoorTre0
set_option linter.unusedVariables false
set_option linter.unusedSimpArgs false
set_option maxRecDepth 100000
noncomputable section
namespace PX
open Go
open Md
namespace Te
def akq (C : aS) (Λ2 J : Lam) (a0 : List (List D)) (a1 a2 : Int) (a3 : List (List D)) : Res := lab SE C Λ2 J 21 0 [1, 1, 0, 1, 0] (bN [(5, .row 3005), (13, .d (.sl [.str] a0)), (14, .d (.int .i64 a1)), (15, .d (.int .i64 a2))] [] [] [] [(3005, ⟨[.int .u8], 5, 1, a3⟩)])
section
variable (Γ : Fun) (γ43 γ42 : Gm ((List Int))) (Λ2 J : Lam)
def C21 : aS := bM (bM (aR Γ) 43 aQ γ43) 42 aQ γ42
theorem T21 (p0 : List Int) (p1 : List Str) : bV SE (C21 Γ γ43 γ42) Λ2 J 21 [.d (.sl [.int .u8] (List.map (aN .u8) p0)), .d (.sl [.str] (List.map aV p1))] [] [] =
 γ43 [.d (.sl [.int .u8] (List.map (aN .u8) p0)), .d (.int .i64 10)] [] [] fun r0 =>
 γ42 [.row 2000000000, .d (.int .i64 (lM aV p1 : Int))] [] [⟨[.int .u8], 5, 1, (List.map (aN .u8) r0)⟩] fun r1 =>
 akq (C21 Γ γ43 γ42) Λ2 J (List.map aV p1) (lM aV p1 : Int) 0 (List.map (aN .u8) r1) := by kernel_rfl
theorem ap7 (x13 : List Str) (x14 x15 : Int) (w3005 : List Int) : dY SE (C21 Γ γ43 γ42) Λ2 J 21 0 [1, 1, 0, 1, 0] (bN [(5, .row 3005), (13, .d (.sl [.str] (List.map aV x13))), (14, .d (.int .i64 x14)), (15, .d (.int .i64 x15))] [] [] [] [(3005, ⟨[.int .u8], 5, 1, (List.map (aN .u8) w3005)⟩)]) =
 cond (decide (x15 < x14)) (
 cond (iB x15 (lM aV x13 : Int)) (
  γ42 [.row 2000000000, .d (.int .i64 (List.length (bT (cE aV x13 x15 0)) : Int))] [] [⟨[.int .u8], 5, 1, (List.map (aN .u8) w3005)⟩] fun r2 =>
  cond (decide ((lM (aN .u8) r2 + List.length (eP (bT (cE aV x13 x15 0)))) * 1 ≤ 140737488355328)) (
  akq (C21 Γ γ43 γ42) Λ2 J (List.map aV x13) x14 (w6 (x15 + 1)) (((List.map (aN .u8) r2) ++ (eP (bT (cE aV x13 x15 0)))))) none) none) (
 (some (.ret [.row 0] [] [⟨[.int .u8], 5, 1, (List.map (aN .u8) w3005)⟩]))) := by kernel_rfl
end
abbrev X21 : aS := C21 gG (cT 43 aQ) (cT 42 aQ)
theorem apb : X21 = aR gG := by unfold X21 C21; repeat rw [bP fun _ h => h]
abbrev aqj := akq X21 (dM SE gG (SE.hl 21) (SE.hr 21)) (J0 SE X21)
theorem acg : ∀ (fu : Nat) (x13 : List Str) (x14 x15 : Int) (w3005 : List Int), Le (Option.map aQ (iE fu x13 x14 x15 w3005)) (aqj (List.map aV x13) x14 x15 (List.map (aN .u8) w3005)) := by
 intro fu
 induction fu with
 | zero => intros; exact le_none
 | succ fu ih =>
  intro x13 x14 x15 w3005
  refine Le.trans ?_ (le_of_eq ((bU apb).trans (ap7 ..)).symm)
  unfold iE
  refine lC ?_ ?_
  ·refine lG (by simp only [EN]) ?_
   refine lQ eX aW (by (try simp only [EN]); exact uR w3005 (List.length (List.getD x13 (Int.toNat x15) default) : Int)) fun r2 _ => ?_
   refine lG (by simp only [EN]) ?_
   (try simp only [EN]); exact ih x13 x14 (w6 (x15 + 1)) (r2 ++ (ofStr (List.getD x13 (Int.toNat x15) default)))
  ·exact aG rfl
theorem aeS (p0 : List Int) (p1 : List Str) : Le (Option.map aQ (oL p0 p1)) (bE SE 21 [.d (.sl [.int .u8] (List.map (aN .u8) p0)), .d (.sl [.str] (List.map aV p1))] [] []) := by
 refine bB apb rfl ?_
 refine Le.trans ?_ (le_of_eq (T21 ..).symm)
 unfold oL
 refine lQ eX aW (vQ _ _) fun r0 _ => ?_
 refine lQ eX aW (by (try simp only [EN]); exact uR r0 (List.length p1 : Int)) fun r1 _ => ?_
 (try simp only [EN]); exact acg fuel p1 (List.length p1 : Int) 0 r1
def ahT (C : aS) (Λ2 J : Lam) (a0 : List (List D)) (a1 a2 : Int) (a3 : List (List D)) : Res := lab SE C Λ2 J 6 0 [1, 1, 1, 0, 1, 0, 1, 1, 1, 1, 1, 1, 1, 1, 1, 1, 1, 0, 1, 1, 0] (bN [(5, .row 3005), (79, .d (.sl [.int .i64] a0)), (80, .d (.int .i64 a1)), (81, .d (.int .i64 a2))] [] [] [] [(3005, ⟨[.int .u8], 5, 1, a3⟩)])
section
variable (Γ : Fun) (γ15 : Gm (Int)) (γ16 γ17 : Gm ((List Int))) (γ18 : Gm (Int)) (γ19 γ20 γ21 : Gm ((List Int))) (Λ2 J : Lam)
def C6 : aS := bM (bM (bM (bM (bM (bM (bM (aR Γ) 15 aJ γ15) 16 aQ γ16) 17 aQ γ17) 18 aJ γ18) 19 aQ γ19) 20 aQ γ20) 21 aQ γ21
theorem T6 (p0 : aA) : bV SE (C6 Γ γ15 γ16 γ17 γ18 γ19 γ20 γ21) Λ2 J 6 [aA.av p0] [] [] =
 γ15 [aA.av p0] [] [] fun r0 =>
 cond (r0 != 0) (
 (some (.ret [.row 0, .d (.int .i64 r0)] [] [⟨[.int .u8], 5, 1, []⟩]))) (
 γ16 [.d (.sl [.int .u8] (List.map (aN .u8) [])), .d (.int .i64 p0.Kind)] [] [] fun r1 =>
 cond (p0.Kind == 1) (
 γ17 [.d (.sl [.int .u8] (List.map (aN .u8) r1)), aA.av p0] [] [] fun r2 =>
 (some (.ret [.row 0, .d (.int .i64 0)] [] [⟨[.int .u8], 5, 1, (List.map (aN .u8) r2)⟩]))) (
 cond (p0.Kind == 2) (
 γ18 [.d (.sl [.bool] (List.map hZ [p0.Present]))] [] [] fun r3 =>
 γ16 [.d (.sl [.int .u8] (List.map (aN .u8) r1)), .d (.int .i64 r3)] [] [] fun r4 =>
 γ16 [.d (.sl [.int .u8] (List.map (aN .u8) r4)), .d (.int .i64 p0.Code)] [] [] fun r5 =>
 (some (.ret [.row 0, .d (.int .i64 0)] [] [⟨[.int .u8], 5, 1, (List.map (aN .u8) r5)⟩]))) (
 cond (p0.Kind == 3) (
 γ16 [.d (.sl [.int .u8] (List.map (aN .u8) r1)), .d (.int .i64 p0.ID)] [] [] fun r6 =>
 γ18 [.d (.sl [.bool] (List.map hZ [p0.Dup]))] [] [] fun r7 =>
 γ16 [.d (.sl [.int .u8] (List.map (aN .u8) r6)), .d (.int .i64 r7)] [] [] fun r8 =>
 γ19 [.d (.sl [.int .u8] (List.map (aN .u8) r8)), aC.av p0.Message] [] [] fun r9 =>
 (some (.ret [.row 0, .d (.int .i64 0)] [] [⟨[.int .u8], 5, 1, (List.map (aN .u8) r9)⟩]))) (
 cond (p0.Kind == 4) (
 γ16 [.d (.sl [.int .u8] (List.map (aN .u8) r1)), .d (.int .i64 p0.ID)] [] [] fun r10 =>
 (some (.ret [.row 0, .d (.int .i64 0)] [] [⟨[.int .u8], 5, 1, (List.map (aN .u8) r10)⟩]))) (
 cond (p0.Kind == 5) (
 γ16 [.d (.sl [.int .u8] (List.map (aN .u8) r1)), .d (.int .i64 p0.ID)] [] [] fun r11 =>
 (some (.ret [.row 0, .d (.int .i64 0)] [] [⟨[.int .u8], 5, 1, (List.map (aN .u8) r11)⟩]))) (
 cond (p0.Kind == 6) (
 γ16 [.d (.sl [.int .u8] (List.map (aN .u8) r1)), .d (.int .i64 p0.ID)] [] [] fun r12 =>
 (some (.ret [.row 0, .d (.int .i64 0)] [] [⟨[.int .u8], 5, 1, (List.map (aN .u8) r12)⟩]))) (
 cond (p0.Kind == 7) (
 γ16 [.d (.sl [.int .u8] (List.map (aN .u8) r1)), .d (.int .i64 p0.ID)] [] [] fun r13 =>
 (some (.ret [.row 0, .d (.int .i64 0)] [] [⟨[.int .u8], 5, 1, (List.map (aN .u8) r13)⟩]))) (
 cond (p0.Kind == 8) (
 γ16 [.d (.sl [.int .u8] (List.map (aN .u8) r1)), .d (.int .i64 p0.ID)] [] [] fun r14 =>
 γ20 [.d (.sl [.int .u8] (List.map (aN .u8) r14)), .d (.sl aF.ks (List.map aF.enc p0.Subs))] [] [] fun r15 =>
 (some (.ret [.row 0, .d (.int .i64 0)] [] [⟨[.int .u8], 5, 1, (List.map (aN .u8) r15)⟩]))) (
 cond (p0.Kind == 9) (
 γ16 [.d (.sl [.int .u8] (List.map (aN .u8) r1)), .d (.int .i64 p0.ID)] [] [] fun r16 =>
 γ16 [.d (.sl [.int .u8] (List.map (aN .u8) r16)), .d (.int .i64 (lM eI p0.Codes : Int))] [] [] fun r17 =>
 ahT (C6 Γ γ15 γ16 γ17 γ18 γ19 γ20 γ21) Λ2 J (List.map eI p0.Codes) (lM eI p0.Codes : Int) 0 (List.map (aN .u8) r17)) (
 cond (p0.Kind == 11) (
 γ16 [.d (.sl [.int .u8] (List.map (aN .u8) r1)), .d (.int .i64 p0.ID)] [] [] fun r18 =>
 γ16 [.d (.sl [.int .u8] (List.map (aN .u8) r18)), .d (.int .i64 (lM eI p0.Codes : Int))] [] [] fun r19 =>
 ahT (C6 Γ γ15 γ16 γ17 γ18 γ19 γ20 γ21) Λ2 J (List.map eI p0.Codes) (lM eI p0.Codes : Int) 0 (List.map (aN .u8) r19)) (
 cond (p0.Kind == 10) (
 γ16 [.d (.sl [.int .u8] (List.map (aN .u8) r1)), .d (.int .i64 p0.ID)] [] [] fun r20 =>
 γ21 [.d (.sl [.int .u8] (List.map (aN .u8) r20)), .d (.sl [.str] (List.map aV p0.Filters))] [] [] fun r21 =>
 (some (.ret [.row 0, .d (.int .i64 0)] [] [⟨[.int .u8], 5, 1, (List.map (aN .u8) r21)⟩]))) (
 cond (p0.Kind == 14) (
 γ16 [.d (.sl [.int .u8] (List.map (aN .u8) r1)), .d (.int .i64 p0.Code)] [] [] fun r22 =>
 (some (.ret [.row 0, .d (.int .i64 0)] [] [⟨[.int .u8], 5, 1, (List.map (aN .u8) r22)⟩]))) (
 (some (.ret [.row 0, .d (.int .i64 0)] [] [⟨[.int .u8], 5, 1, (List.map (aN .u8) r1)⟩]))))))))))))))) := by kernel_rfl
theorem aqs (x79 : List Int) (x80 x81 : Int) (w3005 : List Int) : dY SE (C6 Γ γ15 γ16 γ17 γ18 γ19 γ20 γ21) Λ2 J 6 0 [1, 1, 1, 0, 1, 0, 1, 1, 1, 1, 1, 1, 1, 1, 1, 1, 1, 0, 1, 1, 0] (bN [(5, .row 3005), (79, .d (.sl [.int .i64] (List.map eI x79))), (80, .d (.int .i64 x80)), (81, .d (.int .i64 x81))] [] [] [] [(3005, ⟨[.int .u8], 5, 1, (List.map (aN .u8) w3005)⟩)]) =
 cond (decide (x81 < x80)) (
 cond (iB x81 (lM eI x79 : Int)) (
  γ16 [.d (.sl [.int .u8] (List.map (aN .u8) w3005)), .d (.int .i64 (aY (cE eI x79 x81 0)))] [] [] fun r23 =>
  ahT (C6 Γ γ15 γ16 γ17 γ18 γ19 γ20 γ21) Λ2 J (List.map eI x79) x80 (w6 (x81 + 1)) (List.map (aN .u8) r23)) none) (
 (some (.ret [.row 0, .d (.int .i64 0)] [] [⟨[.int .u8], 5, 1, (List.map (aN .u8) w3005)⟩]))) := by kernel_rfl
end
abbrev X6 : aS := C6 gG (cT 15 aJ) (cT 16 aQ) (cT 17 aQ) (cT 18 aJ) (cT 19 aQ) (cT 20 aQ) (cT 21 aQ)
theorem Cr6 : X6 = aR gG := by unfold X6 C6; repeat rw [bP fun _ h => h]
abbrev ap9 := ahT X6 (dM SE gG (SE.hl 6) (SE.hr 6)) (J0 SE X6)
theorem vB : ∀ (fu : Nat) (x79 : List Int) (x80 x81 : Int) (w3005 : List Int), Le (Option.map cH (gD fu x79 x80 x81 w3005)) (ap9 (List.map eI x79) x80 x81 (List.map (aN .u8) w3005)) := by
 intro fu
 induction fu with
 | zero => intros; exact le_none
 | succ fu ih =>
  intro x79 x80 x81 w3005
  refine Le.trans ?_ (le_of_eq ((bU Cr6).trans (aqs ..)).symm)
  unfold gD
  refine lC ?_ ?_
  ·refine lG (by simp only [EN]) ?_
   refine lQ eX aW (by (try simp only [EN]); exact bR w3005 (List.getD x79 (Int.toNat x81) default)) fun r23 _ => ?_
   exact ih x79 x80 (w6 (x81 + 1)) r23
  ·exact aG rfl
theorem uE (p0 : aA) : Le (Option.map cH (m0 p0)) (bE SE 6 [aA.av p0] [] []) := by
 refine bB Cr6 rfl ?_
 refine Le.trans ?_ (le_of_eq (T6 ..).symm)
 unfold m0
 refine lQ eX bA (sT _) fun r0 _ => ?_
 refine lC ?_ ?_
 ·exact aG rfl
 ·refine lQ eX aW (by (try simp only [EN]); exact bR [] p0.Kind) fun r1 _ => ?_
  refine lC ?_ ?_
  ·refine lQ eX aW (afa _ _) fun r2 _ => ?_
   exact aG rfl
  ·refine lC ?_ ?_
   ·refine lQ eX bA (oM _) fun r3 _ => ?_
    refine lQ eX aW (bR _ _) fun r4 _ => ?_
    refine lQ eX aW (bR _ _) fun r5 _ => ?_
    exact aG rfl
   ·refine lC ?_ ?_
    ·refine lQ eX aW (bR _ _) fun r6 _ => ?_
     refine lQ eX bA (oM _) fun r7 _ => ?_
     refine lQ eX aW (bR _ _) fun r8 _ => ?_
     refine lQ eX aW (aaZ _ _) fun r9 _ => ?_
     exact aG rfl
    ·refine lC ?_ ?_
     ·refine lQ eX aW (bR _ _) fun r10 _ => ?_
      exact aG rfl
     ·refine lC ?_ ?_
      ·refine lQ eX aW (bR _ _) fun r11 _ => ?_
       exact aG rfl
      ·refine lC ?_ ?_
       ·refine lQ eX aW (bR _ _) fun r12 _ => ?_
        exact aG rfl
       ·refine lC ?_ ?_
        ·refine lQ eX aW (bR _ _) fun r13 _ => ?_
         exact aG rfl
        ·refine lC ?_ ?_
         ·refine lQ eX aW (bR _ _) fun r14 _ => ?_
          refine lQ eX aW (aaQ _ _) fun r15 _ => ?_
          exact aG rfl
         ·refine lC ?_ ?_
          ·refine lQ eX aW (bR _ _) fun r16 _ => ?_
           refine lQ eX aW (by (try simp only [EN]); exact bR r16 (List.length p0.Codes : Int)) fun r17 _ => ?_
           (try simp only [EN]); exact vB fuel p0.Codes (List.length p0.Codes : Int) 0 r17
          ·refine lC ?_ ?_
           ·refine lQ eX aW (bR _ _) fun r18 _ => ?_
            refine lQ eX aW (by (try simp only [EN]); exact bR r18 (List.length p0.Codes : Int)) fun r19 _ => ?_
            (try simp only [EN]); exact vB fuel p0.Codes (List.length p0.Codes : Int) 0 r19
           ·refine lC ?_ ?_
            ·refine lQ eX aW (bR _ _) fun r20 _ => ?_
             refine lQ eX aW (aeS _ _) fun r21 _ => ?_
             exact aG rfl
            ·refine lC ?_ ?_
             ·refine lQ eX aW (bR _ _) fun r22 _ => ?_
              exact aG rfl
             ·exact aG rfl
section
variable (Γ : Fun)  (Λ2 J : Lam)
def C45 : aS := aR Γ
theorem T45 (p0 : Int) : bV SE (C45 Γ) Λ2 J 45 [.d (.int .u64 p0)] [] [] =
 cond ((dB .and .u64 p0 1) == 1) (
 (rI (w6 ((w6 (0 - (w6 (shr .u64 p0 1)))) - 1)))) (
 (rI (w6 (shr .u64 p0 1)))) := by kernel_rfl
end
abbrev X45 : aS := C45 gG
theorem asr : X45 = aR gG := rfl
theorem agw (p0 : Int) : Le (Option.map aJ (hX p0)) (bE SE 45 [.d (.int .u64 p0)] [] []) := by
 refine bB asr rfl ?_
 refine Le.trans ?_ (le_of_eq (T45 ..).symm)
 unfold hX
 refine lC ?_ ?_
 ·exact aG rfl
 ·exact aG rfl
def acs (C : aS) (Λ2 J : Lam) (a0 : List (List D)) (a1 a2 a3 a4 a5 : Int) (a6 a7 a8 : Bool) : Res := lab SE C Λ2 J 22 0 [1, 1, 1, 1, 0, 0, 0, 0, 1, 1, 1, 0] (bN [(0, .d (.sl [.int .u8] a0)), (1, .d (.int .i64 a1)), (7, .d (.int .u64 a2)), (8, .d (.int .i64 a3)), (9, .d (.int .u8 a4)), (39, .d (.int .i64 a5)), (40, .d (.bool a6)), (41, .d (.bool a7)), (44, .d (.bool a8))] [] [] [] [])
def akX (C : aS) (Λ2 J : Lam) (a0 : List (List D)) (a1 a2 a3 : Int) : Res := lab SE C Λ2 J 22 0 [1, 1, 1, 1, 0] (bN [(0, .d (.sl [.int .u8] a0)), (1, .d (.int .i64 a1)), (7, .d (.int .u64 a2)), (8, .d (.int .i64 a3))] [] [] [] [])
def an1 (C : aS) (Λ2 J : Lam) (a0 : List (List D)) (a1 : Int) : Res := lab SE C Λ2 J 22 0 [1, 1, 0] (bN [(0, .d (.sl [.int .u8] a0)), (1, .d (.int .i64 a1))] [] [] [] [])
section
variable (Γ : Fun) (γ45 : Gm (Int)) (Λ2 J : Lam)
def C22 : aS := bM (aR Γ) 45 aJ γ45
theorem T22 (p0 : List Int) (p1 : Int) : bV SE (C22 Γ γ45) Λ2 J 22 [.d (.sl [.int .u8] (List.map (aN .u8) p0)), .d (.int .i64 p1)] [] [] =
 cond (decide (p1 < 0)) (
 (some (.ret [.d (.int .i64 0), .d (.int .i64 0), .d (.int .i64 1)] [] []))) (
 cond (decide (p1 > (lM (aN .u8) p0 : Int))) (
 (some (.ret [.d (.int .i64 0), .d (.int .i64 0), .d (.int .i64 1)] [] []))) (
 an1 (C22 Γ γ45) Λ2 J (List.map (aN .u8) p0) p1)) := by kernel_rfl
theorem aoV (x0 : List Int) (x1 x7 x8 x9 x39 : Int) (x40 x41 x44 : Bool) : dY SE (C22 Γ γ45) Λ2 J 22 0 [1, 1, 1, 1, 0, 0, 0, 0, 1, 1, 1, 0] (bN [(0, .d (.sl [.int .u8] (List.map (aN .u8) x0))), (1, .d (.int .i64 x1)), (7, .d (.int .u64 x7)), (8, .d (.int .i64 x8)), (9, .d (.int .u8 x9)), (39, .d (.int .i64 x39)), (40, .d (.bool x40)), (41, .d (.bool x41)), (44, .d (.bool x44))] [] [] [] []) =
 cond (decide (0 ≤ (w6 (7 * x8)))) (
 cond (decide (x9 < 128)) (
  γ45 [.d (.int .u64 (dB .or .u64 x7 (shl .u64 (IntKind.wrap .u64 (dB .and .u8 x9 127)) (w6 (7 * x8)))))] [] [] fun r0 =>
  (some (.ret [.d (.int .i64 r0), .d (.int .i64 (w6 ((w6 (x1 + x8)) + 1))), .d (.int .i64 0)] [] []))) (
 akX (C22 Γ γ45) Λ2 J (List.map (aN .u8) x0) x1 ((dB .or .u64 x7 (shl .u64 (IntKind.wrap .u64 (dB .and .u8 x9 127)) (w6 (7 * x8))))) (w6 (x8 + 1)))) none := by kernel_rfl
theorem arh (x0 : List Int) (x1 x7 x8 : Int) : dY SE (C22 Γ γ45) Λ2 J 22 0 [1, 1, 1, 1, 0] (bN [(0, .d (.sl [.int .u8] (List.map (aN .u8) x0))), (1, .d (.int .i64 x1)), (7, .d (.int .u64 x7)), (8, .d (.int .i64 x8))] [] [] [] []) =
 cond ((w6 (x1 + x8)) == (lM (aN .u8) x0 : Int)) (
 (some (.ret [.d (.int .i64 0), .d (.int .i64 0), .d (.int .i64 3)] [] []))) (
 cond (iB (w6 (x1 + x8)) (lM (aN .u8) x0 : Int)) (
 cond (x8 == 9) (
  cond (decide ((aY (cE (aN .u8) x0 (w6 (x1 + x8)) 0)) > 1)) (
  (some (.ret [.d (.int .i64 0), .d (.int .i64 0), .d (.int .i64 2)] [] []))) (
  cond (decide (x8 > 0)) (
  cond ((aY (cE (aN .u8) x0 (w6 (x1 + x8)) 0)) == 0) (
   (some (.ret [.d (.int .i64 0), .d (.int .i64 0), .d (.int .i64 2)] [] []))) (
  acs (C22 Γ γ45) Λ2 J (List.map (aN .u8) x0) x1 x7 x8 ((aY (cE (aN .u8) x0 (w6 (x1 + x8)) 0))) x8 (decide (x8 > 0)) true (((aY (cE (aN .u8) x0 (w6 (x1 + x8)) 0)) == 0)))) (
  acs (C22 Γ γ45) Λ2 J (List.map (aN .u8) x0) x1 x7 x8 ((aY (cE (aN .u8) x0 (w6 (x1 + x8)) 0))) x8 (decide (x8 > 0)) false false))) (
 cond (decide (x8 > 0)) (
  cond ((aY (cE (aN .u8) x0 (w6 (x1 + x8)) 0)) == 0) (
  (some (.ret [.d (.int .i64 0), .d (.int .i64 0), .d (.int .i64 2)] [] []))) (
  acs (C22 Γ γ45) Λ2 J (List.map (aN .u8) x0) x1 x7 x8 ((aY (cE (aN .u8) x0 (w6 (x1 + x8)) 0))) x8 (decide (x8 > 0)) true (((aY (cE (aN .u8) x0 (w6 (x1 + x8)) 0)) == 0)))) (
 acs (C22 Γ γ45) Λ2 J (List.map (aN .u8) x0) x1 x7 x8 ((aY (cE (aN .u8) x0 (w6 (x1 + x8)) 0))) x8 (decide (x8 > 0)) false false))) none) := by kernel_rfl
theorem aqH (x0 : List Int) (x1 : Int) : dY SE (C22 Γ γ45) Λ2 J 22 0 [1, 1, 0] (bN [(0, .d (.sl [.int .u8] (List.map (aN .u8) x0))), (1, .d (.int .i64 x1))] [] [] [] []) =
 akX (C22 Γ γ45) Λ2 J (List.map (aN .u8) x0) x1 0 0 := by kernel_rfl
end
abbrev X22 : aS := C22 gG (cT 45 aJ)
theorem akW : X22 = aR gG := by unfold X22 C22; rw [bP fun _ h => h]
abbrev apm := acs X22 (dM SE gG (SE.hl 22) (SE.hr 22)) (J0 SE X22)
abbrev anM := akX X22 (dM SE gG (SE.hl 22) (SE.hr 22)) (J0 SE X22)
abbrev aqG := an1 X22 (dM SE gG (SE.hl 22) (SE.hr 22)) (J0 SE X22)
theorem pE (k6 : (List Int) → Int → Int → Int → Option (Int × Int × Int)) (hk6 : ∀ (x0 : List Int) (x1 x7 x8 : Int), Le (Option.map eY (k6 x0 x1 x7 x8)) (anM (List.map (aN .u8) x0) x1 x7 x8)) (x0 : List Int) (x1 x7 x8 x9 x39 : Int) (x40 x41 x44 : Bool) : Le (Option.map eY (hY k6 x0 x1 x7 x8 x9 x39 x40 x41 x44)) (apm (List.map (aN .u8) x0) x1 x7 x8 x9 x39 x40 x41 x44) := by
 refine Le.trans ?_ (le_of_eq ((bU akW).trans (aoV ..)).symm)
 unfold hY
 refine lF ?_
 refine lC ?_ ?_
 ·refine lQ eX bA (agw _) fun r0 _ => ?_
  exact aG rfl
 ·(try simp only [EN]); exact hk6 x0 x1 ((dB .or .u64 x7 (shl .u64 (IntKind.wrap .u64 (dB .and .u8 x9 127)) (w6 (7 * x8))))) (w6 (x8 + 1))
theorem agz : ∀ (fu : Nat) (x0 : List Int) (x1 x7 x8 : Int), Le (Option.map eY (cR fu x0 x1 x7 x8)) (anM (List.map (aN .u8) x0) x1 x7 x8) := by
 intro fu
 induction fu with
 | zero => intros; exact le_none
 | succ fu ih =>
  intro x0 x1 x7 x8
  refine Le.trans ?_ (le_of_eq ((bU akW).trans (arh ..)).symm)
  unfold cR
  refine lD (by simp only [EN]) ?_ ?_
  ·exact aG rfl
  ·refine lG (by simp only [EN]) ?_
   refine lC ?_ ?_
   ·refine lD (by simp only [EN]) ?_ ?_
    ·exact aG rfl
    ·refine lC ?_ ?_
     ·refine lD (by simp only [EN]) ?_ ?_
      ·exact aG rfl
      ·(try simp only [EN]); exact pE _ (ih) x0 x1 x7 x8 (List.getD x0 (Int.toNat (w6 (x1 + x8))) default) x8 (decide (x8 > 0)) true ((List.getD x0 (Int.toNat (w6 (x1 + x8))) default) == 0)
     ·(try simp only [EN]); exact pE _ (ih) x0 x1 x7 x8 (List.getD x0 (Int.toNat (w6 (x1 + x8))) default) x8 (decide (x8 > 0)) false false
   ·refine lC ?_ ?_
    ·refine lD (by simp only [EN]) ?_ ?_
     ·exact aG rfl
     ·(try simp only [EN]); exact pE _ (ih) x0 x1 x7 x8 (List.getD x0 (Int.toNat (w6 (x1 + x8))) default) x8 (decide (x8 > 0)) true ((List.getD x0 (Int.toNat (w6 (x1 + x8))) default) == 0)
    ·(try simp only [EN]); exact pE _ (ih) x0 x1 x7 x8 (List.getD x0 (Int.toNat (w6 (x1 + x8))) default) x8 (decide (x8 > 0)) false false
theorem af6 (x0 : List Int) (x1 : Int) : Le (Option.map eY (rK x0 x1)) (aqG (List.map (aN .u8) x0) x1) := by
 refine Le.trans ?_ (le_of_eq ((bU akW).trans (aqH ..)).symm)
 unfold rK
 exact agz fuel x0 x1 0 0
theorem aaF (p0 : List Int) (p1 : Int) : Le (Option.map eY (oF p0 p1)) (bE SE 22 [.d (.sl [.int .u8] (List.map (aN .u8) p0)), .d (.int .i64 p1)] [] []) := by
 refine bB akW rfl ?_
 refine Le.trans ?_ (le_of_eq (T22 ..).symm)
 unfold oF
 refine lC ?_ ?_
 ·exact aG rfl
 ·refine lD (by simp only [EN]) ?_ ?_
  ·exact aG rfl
  ·exact af6 p0 p1
section
variable (Γ : Fun)  (Λ2 J : Lam)
def C13 : aS := aR Γ
theorem T13 (p0 : Bool) (p1 : Int) : bV SE (C13 Γ) Λ2 J 13 [.d (.bool p0), .d (.int .i64 p1)] [] [] =
 cond p0 (
 (some (.pan (.ifc 49 (aI.av (aI.mk p1)))))) (
 (some (.ret [] [] []))) := by kernel_rfl
end
abbrev X13 : aS := C13 gG
theorem as9 : X13 = aR gG := rfl
theorem fS (p0 : Bool) (p1 : Int) : Le (Option.map eA (cX p0 p1)) (bE SE 13 [.d (.bool p0), .d (.int .i64 p1)] [] []) := by
 refine bB as9 rfl ?_
 refine Le.trans ?_ (le_of_eq (T13 ..).symm)
 unfold cX
 refine lC ?_ ?_
 ·exact aG rfl
 ·exact aG rfl
section
variable (Γ : Fun) (γ22 : Gm (Int × Int × Int)) (γ13 : Gp aI (Unit)) (Λ2 J : Lam)
def C12 : aS := jL (bM (aR Γ) 22 eY γ22) 13 eA γ13
theorem T12 (p0 : aE) : bV SE (C12 Γ γ22 γ13) Λ2 J 12 [.ptr 2000000000 0] [⟨52, (aE.avs p0)⟩] [] =
 γ22 [.d (.sl [.int .u8] (List.map (aN .u8) p0.b)), .d (.int .i64 p0.at_)] [] [] fun r0 =>
 γ13 [.d (.bool (r0.2.2 != 0)), .d (.int .i64 r0.2.2)] [] [] (fun e2 =>
 (some (.pan (.ifc 49 (aI.av e2))))) fun r1 =>
 (some (.ret [.d (.int .i64 r0.1)] [⟨52, (aE.avs (aE.mk p0.b r0.2.1))⟩] [])) := by kernel_rfl
end
abbrev X12 : aS := C12 gG (cT 22 eY) (cP 13 eA)
theorem asb : X12 = aR gG := by unfold X12 C12; rw [bP fun _ h => h, dD fun _ h => h]
theorem bG (p0 : aE) : Le (Option.map bQ (bD p0)) (bE SE 12 [.ptr 2000000000 0] [⟨52, (aE.avs p0)⟩] []) := by
 refine bB asb rfl ?_
 refine Le.trans ?_ (le_of_eq (T12 ..).symm)
 unfold bD
 refine lQ eX yJ (aaF _ _) fun r0 _ => ?_
 refine bJ (good := good) eX fD (fS _ _) (fun e2 _ => ?_) (fun r1 _ => ?_)
 ·exact aG rfl
 ·exact aG rfl
section
variable (Γ : Fun) (γ22 : Gm (Int × Int × Int)) (Λ2 J : Lam)
def C60 : aS := bM (aR Γ) 22 eY γ22
theorem T60 (p0 : List Int) (p1 p2 : Int) : bV SE (C60 Γ γ22) Λ2 J 60 [.d (.sl [.int .u8] (List.map (aN .u8) p0)), .d (.int .i64 p1), .d (.int .i64 p2)] [] [] =
 γ22 [.d (.sl [.int .u8] (List.map (aN .u8) p0)), .d (.int .i64 p1)] [] [] fun r0 =>
 cond (r0.2.2 != 0) (
 (some (.ret [.d (.str []), .d (.int .i64 0), .d (.int .i64 r0.2.2)] [] []))) (
 cond (decide (r0.1 < 0)) (
 (some (.ret [.d (.str []), .d (.int .i64 0), .d (.int .i64 2)] [] []))) (
 cond (decide (r0.1 > p2)) (
 (some (.ret [.d (.str []), .d (.int .i64 0), .d (.int .i64 5)] [] []))) (
 cond (decide (r0.1 > (w6 ((lM (aN .u8) p0 : Int) - r0.2.1)))) (
 (some (.ret [.d (.str []), .d (.int .i64 0), .d (.int .i64 3)] [] []))) (
 cond (decide (0 ≤ (w6 (r0.2.1 + r0.1))) && decide ((w6 (r0.2.1 + r0.1)) ≤ ((lM (aN .u8) p0) : Int))) (
 cond (decide (0 ≤ (w6 (r0.2.1 + r0.1))) && decide ((w6 (r0.2.1 + r0.1)) ≤ (w6 (r0.2.1 + r0.1)))) (
  cond (decide (0 ≤ r0.2.1) && decide (r0.2.1 ≤ (w6 (r0.2.1 + r0.1)))) (
  (some (.ret [.d (.str (pW (eQ (List.map (aN .u8) p0) (some r0.2.1) (some (w6 (r0.2.1 + r0.1)))))), .d (.int .i64 (w6 (r0.2.1 + r0.1))), .d (.int .i64 0)] [] []))) none) none) none)))) := by kernel_rfl
end
abbrev X60 : aS := C60 gG (cT 22 eY)
theorem ar2 : X60 = aR gG := by unfold X60 C60; rw [bP fun _ h => h]
theorem aiV (p0 : List Int) (p1 p2 : Int) : Le (Option.map kU (qF p0 p1 p2)) (bE SE 60 [.d (.sl [.int .u8] (List.map (aN .u8) p0)), .d (.int .i64 p1), .d (.int .i64 p2)] [] []) := by
 refine bB ar2 rfl ?_
 refine Le.trans ?_ (le_of_eq (T60 ..).symm)
 unfold qF
 refine lQ eX yJ (aaF _ _) fun r0 _ => ?_
 refine lC ?_ ?_
 ·exact aG rfl
 ·refine lC ?_ ?_
  ·exact aG rfl
  ·refine lC ?_ ?_
   ·exact aG rfl
   ·refine lD (by simp only [EN]) ?_ ?_
    ·exact aG rfl
    ·refine lG (by simp only [EN]) ?_
     refine lF ?_
     refine lF ?_
     exact aG (by first | rfl | simp only [EN, kU] <;> rfl)
section
variable (Γ : Fun) (γ60 : Gm (Str × Int × Int)) (γ13 : Gp aI (Unit)) (Λ2 J : Lam)
def C47 : aS := jL (bM (aR Γ) 60 kU γ60) 13 eA γ13
theorem T47 (p0 : aE) (p1 : Int) : bV SE (C47 Γ γ60 γ13) Λ2 J 47 [.ptr 2000000000 0, .d (.int .i64 p1)] [⟨52, (aE.avs p0)⟩] [] =
 γ60 [.d (.sl [.int .u8] (List.map (aN .u8) p0.b)), .d (.int .i64 p0.at_), .d (.int .i64 p1)] [] [] fun r0 =>
 γ13 [.d (.bool (r0.2.2 != 0)), .d (.int .i64 r0.2.2)] [] [] (fun e2 =>
 (some (.pan (.ifc 49 (aI.av e2))))) fun r1 =>
 (some (.ret [.d (.str r0.1)] [⟨52, (aE.avs (aE.mk p0.b r0.2.1))⟩] [])) := by kernel_rfl
end
abbrev X47 : aS := C47 gG (cT 60 kU) (cP 13 eA)
theorem asA : X47 = aR gG := by unfold X47 C47; rw [bP fun _ h => h, dD fun _ h => h]
theorem dH (p0 : aE) (p1 : Int) : Le (Option.map cN (cD p0 p1)) (bE SE 47 [.ptr 2000000000 0, .d (.int .i64 p1)] [⟨52, (aE.avs p0)⟩] []) := by
 refine bB asA rfl ?_
 refine Le.trans ?_ (le_of_eq (T47 ..).symm)
 unfold cD
 refine lQ eX ahB (aiV _ _ _) fun r0 _ => ?_
 refine bJ (good := good) eX fD (fS _ _) (fun e2 _ => ?_) (fun r1 _ => ?_)
 ·exact aG rfl
 ·exact aG rfl
section
variable (Γ : Fun) (γ12 : Gp aI (Int × aE)) (γ13 : Gp aI (Unit)) (Λ2 J : Lam)
def C29 : aS := jL (jL (aR Γ) 12 bQ γ12) 13 eA γ13
theorem T29 (p0 : aE) (p1 : Int) : bV SE (C29 Γ γ12 γ13) Λ2 J 29 [.ptr 2000000000 0, .d (.int .i64 p1)] [⟨52, (aE.avs p0)⟩] [] =
 γ12 [.ptr 2000000000 0] [⟨52, (aE.avs p0)⟩] [] (fun e1 =>
 (some (.pan (.ifc 49 (aI.av e1))))) fun r0 =>
 cond (decide (r0.1 < 0)) (
 γ13 [.d (.bool true), .d (.int .i64 2)] [] [] (fun e3 =>
  (some (.pan (.ifc 49 (aI.av e3))))) fun r2 =>
 (some (.ret [.d (.int .i64 r0.1)] [⟨52, (aE.avs r0.2)⟩] []))) (
 γ13 [.d (.bool (decide (r0.1 ≥ p1))), .d (.int .i64 2)] [] [] (fun e5 =>
 (some (.pan (.ifc 49 (aI.av e5))))) fun r4 =>
 (some (.ret [.d (.int .i64 r0.1)] [⟨52, (aE.avs r0.2)⟩] []))) := by kernel_rfl
end
abbrev X29 : aS := C29 gG (cP 12 bQ) (cP 13 eA)
theorem asp : X29 = aR gG := by unfold X29 C29; rw [dD fun _ h => h, dD fun _ h => h]
theorem gQ (p0 : aE) (p1 : Int) : Le (Option.map cC (cV p0 p1)) (bE SE 29 [.ptr 2000000000 0, .d (.int .i64 p1)] [⟨52, (aE.avs p0)⟩] []) := by
 refine bB asp rfl ?_
 refine Le.trans ?_ (le_of_eq (T29 ..).symm)
 unfold cV
 refine bJ (good := good) eX bC (bG _) (fun e1 _ => ?_) (fun r0 _ => ?_)
 ·exact aG rfl
 ·refine lC ?_ ?_
  ·refine bJ (good := good) eX fD (fS _ _) (fun e3 _ => ?_) (fun r2 _ => ?_)
   ·exact aG rfl
   ·exact aG rfl
  ·refine bJ (good := good) eX fD (fS _ _) (fun e5 _ => ?_) (fun r4 _ => ?_)
   ·exact aG rfl
   ·exact aG rfl
section
variable (Γ : Fun)  (Λ2 J : Lam)
def C48 : aS := aR Γ
theorem T48 (p0 p1 : Int) : bV SE (C48 Γ) Λ2 J 48 [.d (.int .i64 p0), .d (.int .i64 p1)] [] [] =
 cond (decide (p1 ≥ 0)) (
 cond (decide (p1 < 32)) (
  cond (decide (0 ≤ p1)) (
  (rB ((dB .and .i64 (shr .i64 p0 p1) 1) == 1))) none) (
 (rB false))) (
 (rB false)) := by kernel_rfl
end
abbrev X48 : aS := C48 gG
theorem arW : X48 = aR gG := rfl
theorem adq (p0 p1 : Int) : Le (Option.map aH (sQ p0 p1)) (bE SE 48 [.d (.int .i64 p0), .d (.int .i64 p1)] [] []) := by
 refine bB arW rfl ?_
 refine Le.trans ?_ (le_of_eq (T48 ..).symm)
 unfold sQ
 refine lC ?_ ?_
 ·refine lC ?_ ?_
  ·refine lF ?_
   exact aG rfl
  ·exact aG rfl
 ·exact aG rfl
section
variable (Γ : Fun) (γ12 : Gp aI (Int × aE)) (γ13 : Gp aI (Unit)) (Λ2 J : Lam)
def C49 : aS := jL (jL (aR Γ) 12 bQ γ12) 13 eA γ13
theorem T49 (p0 : aE) (p1 : Int) : bV SE (C49 Γ γ12 γ13) Λ2 J 49 [.ptr 2000000000 0, .d (.int .i64 p1)] [⟨52, (aE.avs p0)⟩] [] =
 γ12 [.ptr 2000000000 0] [⟨52, (aE.avs p0)⟩] [] (fun e1 =>
 (some (.pan (.ifc 49 (aI.av e1))))) fun r0 =>
 γ13 [.d (.bool (decide (r0.1 < 0))), .d (.int .i64 2)] [] [] (fun e3 =>
 (some (.pan (.ifc 49 (aI.av e3))))) fun r2 =>
 γ13 [.d (.bool (decide (r0.1 > p1))), .d (.int .i64 5)] [] [] (fun e5 =>
 (some (.pan (.ifc 49 (aI.av e5))))) fun r4 =>
 (some (.ret [.d (.int .i64 r0.1)] [⟨52, (aE.avs r0.2)⟩] [])) := by kernel_rfl
end
abbrev X49 : aS := C49 gG (cP 12 bQ) (cP 13 eA)
theorem asV : X49 = aR gG := by unfold X49 C49; rw [dD fun _ h => h, dD fun _ h => h]
theorem pR (p0 : aE) (p1 : Int) : Le (Option.map dI (fG p0 p1)) (bE SE 49 [.ptr 2000000000 0, .d (.int .i64 p1)] [⟨52, (aE.avs p0)⟩] []) := by
 refine bB asV rfl ?_
 refine Le.trans ?_ (le_of_eq (T49 ..).symm)
 unfold fG
 refine bJ (good := good) eX bC (bG _) (fun e1 _ => ?_) (fun r0 _ => ?_)
 ·exact aG rfl
 ·refine bJ (good := good) eX fD (fS _ _) (fun e3 _ => ?_) (fun r2 _ => ?_)
  ·exact aG rfl
  ·refine bJ (good := good) eX fD (fS _ _) (fun e5 _ => ?_) (fun r4 _ => ?_)
   ·exact aG rfl
   ·exact aG rfl
def aiQ (C : aS) (Λ2 J : Lam) (a0 a1 : Int) (a2 : List D) (a3 a4 : Str) (a5 : Int) (a6 : Bool) (a7 a8 : Int) (a9 : Str) (a10 : Int) (a11 : List D) (a12 : List (List D)) : Res := lab SE C Λ2 J 30 1 [1, 1, 1, 1, 1, 1, 1, 1, 1, 1, 0, 1, 0] (bN [(0, .ptr 2000000000 0), (2, .ptr 1000000000 0), (3, .ptr 1000000001 0), (32, .d (.int .i64 a0)), (33, .d (.int .i64 a1))] [⟨26, (List.map AV.d a2)⟩, ⟨26, [.d (.str a3), .d (.str a4), .d (.int .i64 a5), .d (.bool a6), .d (.int .i64 a7), .d (.int .i64 a8), .d (.str a9), .d (.int .i64 a10), .row 50108]⟩] [⟨52, (List.map AV.d a11)⟩] [] [(50108, ⟨aB.ks, 80, 32, a12⟩)])
section
variable (Γ : Fun) (γ47 : Gp aI (Str × aE)) (γ12 γ29 γ49 : Gp aI (Int × aE)) (Λ2 J : Lam)
def C30 : aS := jL (jL (jL (jL (aR Γ) 47 cN γ47) 12 bQ γ12) 29 cC γ29) 49 dI γ49
theorem T30 (p0 : aE) : bV SE (C30 Γ γ47 γ12 γ29 γ49) Λ2 J 30 [.ptr 2000000000 0] [⟨52, (aE.avs p0)⟩] [] =
 γ47 [.ptr 2000000000 0, .d (.int .i64 64)] [⟨52, (aE.avs p0)⟩] [] (fun e1 =>
 (some (.pan (.ifc 49 (aI.av e1))))) fun r0 =>
 γ47 [.ptr 2000000000 0, .d (.int .i64 256)] [⟨52, (aE.avs r0.2)⟩] [] (fun e3 =>
 (some (.pan (.ifc 49 (aI.av e3))))) fun r2 =>
 γ12 [.ptr 2000000000 0] [⟨52, (aE.avs r2.2)⟩] [] (fun e5 =>
 (some (.pan (.ifc 49 (aI.av e5))))) fun r4 =>
 γ29 [.ptr 2000000000 0, .d (.int .i64 2)] [⟨52, (aE.avs r4.2)⟩] [] (fun e7 =>
 (some (.pan (.ifc 49 (aI.av e7))))) fun r6 =>
 γ12 [.ptr 2000000000 0] [⟨52, (aE.avs r6.2)⟩] [] (fun e9 =>
 (some (.pan (.ifc 49 (aI.av e9))))) fun r8 =>
 γ12 [.ptr 2000000000 0] [⟨52, (aE.avs r8.2)⟩] [] (fun e11 =>
 (some (.pan (.ifc 49 (aI.av e11))))) fun r10 =>
 γ47 [.ptr 2000000000 0, .d (.int .i64 16)] [⟨52, (aE.avs r10.2)⟩] [] (fun e13 =>
 (some (.pan (.ifc 49 (aI.av e13))))) fun r12 =>
 γ12 [.ptr 2000000000 0] [⟨52, (aE.avs r12.2)⟩] [] (fun e15 =>
 (some (.pan (.ifc 49 (aI.av e15))))) fun r14 =>
 γ49 [.ptr 2000000000 0, .d (.int .i64 8)] [⟨52, (aE.avs r14.2)⟩] [] (fun e17 =>
 (some (.pan (.ifc 49 (aI.av e17))))) fun r16 =>
 aiQ (C30 Γ γ47 γ12 γ29 γ49) Λ2 J r16.1 0 [D.str [], D.str [], D.int .i64 0, D.bool false, D.int .i64 0, D.int .i64 0, D.str [], D.int .i64 0, D.sl aB.ks (List.map aB.enc [])] r0.1 r2.1 r4.1 (r6.1 == 1) r8.1 r10.1 r12.1 r14.1 (aE.enc r16.2) (List.map aB.enc []) := by kernel_rfl
theorem apM (x32 x33 : Int) (b0 : aC) (b1_0 b1_1 : Str) (b1_2 : Int) (b1_3 : Bool) (b1_4 b1_5 : Int) (b1_6 : Str) (b1_7 : Int) (q0 : aE) (w50108 : List aB) : dY SE (C30 Γ γ47 γ12 γ29 γ49) Λ2 J 30 1 [1, 1, 1, 1, 1, 1, 1, 1, 1, 1, 0, 1, 0] (bN [(0, .ptr 2000000000 0), (2, .ptr 1000000000 0), (3, .ptr 1000000001 0), (32, .d (.int .i64 x32)), (33, .d (.int .i64 x33))] [⟨26, (List.map AV.d (aC.enc b0))⟩, ⟨26, [.d (.str b1_0), .d (.str b1_1), .d (.int .i64 b1_2), .d (.bool b1_3), .d (.int .i64 b1_4), .d (.int .i64 b1_5), .d (.str b1_6), .d (.int .i64 b1_7), .row 50108]⟩] [⟨52, (List.map AV.d (aE.enc q0))⟩] [] [(50108, ⟨aB.ks, 80, 32, (List.map aB.enc w50108)⟩)]) =
 cond (decide (x33 < x32)) (
 γ47 [.ptr 2000000000 0, .d (.int .i64 16)] [⟨52, (aE.avs q0)⟩] [] (fun e19 =>
  (some (.pan (.ifc 49 (aI.av e19))))) fun r18 =>
 γ47 [.ptr 2000000000 0, .d (.int .i64 160)] [⟨52, (aE.avs r18.2)⟩] [] (fun e21 =>
  (some (.pan (.ifc 49 (aI.av e21))))) fun r20 =>
 cond (decide ((lM aB.enc w50108 + lM aB.enc [(aB.mk r18.1 r20.1)]) * 32 ≤ 140737488355328)) (
  aiQ (C30 Γ γ47 γ12 γ29 γ49) Λ2 J x32 (w6 (x33 + 1)) (aC.enc b0) b1_0 b1_1 b1_2 b1_3 b1_4 b1_5 b1_6 b1_7 (aE.enc r20.2) (((List.map aB.enc w50108) ++ (List.map aB.enc [(aB.mk r18.1 r20.1)])))) none) (
 (some (.ret [.agg [.d (.str b1_0), .d (.str b1_1), .d (.int .i64 b1_2), .d (.bool b1_3), .d (.int .i64 b1_4), .d (.int .i64 b1_5), .d (.str b1_6), .d (.int .i64 b1_7), .row 0]] [⟨52, (aE.avs q0)⟩] [⟨aB.ks, 80, 32, (List.map aB.enc w50108)⟩]))) := by kernel_rfl
end
abbrev X30 : aS := C30 gG (cP 47 cN) (cP 12 bQ) (cP 29 cC) (cP 49 dI)
theorem apa : X30 = aR gG := by unfold X30 C30; rw [dD fun _ h => h, dD fun _ h => h, dD fun _ h => h, dD fun _ h => h]
abbrev apC := aiQ X30 (dM SE gG (SE.hl 30) (SE.hr 30)) (J0 SE X30)
theorem tN : ∀ (fu : Nat) (x32 x33 : Int) (b0 : aC) (b1_0 b1_1 : Str) (b1_2 : Int) (b1_3 : Bool) (b1_4 b1_5 : Int) (b1_6 : Str) (b1_7 : Int) (q0 : aE) (w50108 : List aB), Le (Option.map cM (eK fu x32 x33 b0 b1_0 b1_1 b1_2 b1_3 b1_4 b1_5 b1_6 b1_7 q0 w50108)) (apC x32 x33 (aC.enc b0) b1_0 b1_1 b1_2 b1_3 b1_4 b1_5 b1_6 b1_7 (aE.enc q0) (List.map aB.enc w50108)) := by
 intro fu
 induction fu with
 | zero => intros; exact le_none
 | succ fu ih =>
  intro x32 x33 b0 b1_0 b1_1 b1_2 b1_3 b1_4 b1_5 b1_6 b1_7 q0 w50108
  refine Le.trans ?_ (le_of_eq ((bU apa).trans (apM ..)).symm)
  unfold eK
  refine lC ?_ ?_
  ·refine bJ (good := good) eX dG (dH _ _) (fun e19 _ => ?_) (fun r18 _ => ?_)
   ·exact aG rfl
   ·refine bJ (good := good) eX dG (dH _ _) (fun e21 _ => ?_) (fun r20 _ => ?_)
    ·exact aG rfl
    ·refine lG (by simp only [EN]) ?_
     (try simp only [EN]); exact ih x32 (w6 (x33 + 1)) b0 b1_0 b1_1 b1_2 b1_3 b1_4 b1_5 b1_6 b1_7 r20.2 (w50108 ++ [(aB.mk r18.1 r20.1)])
  ·exact aG rfl
theorem oP (p0 : aE) : Le (Option.map cM (fO p0)) (bE SE 30 [.ptr 2000000000 0] [⟨52, (aE.avs p0)⟩] []) := by
 refine bB apa rfl ?_
 refine Le.trans ?_ (le_of_eq (T30 ..).symm)
 unfold fO
 refine bJ (good := good) eX dG (dH _ _) (fun e1 _ => ?_) (fun r0 _ => ?_)
 ·exact aG rfl
 ·refine bJ (good := good) eX dG (dH _ _) (fun e3 _ => ?_) (fun r2 _ => ?_)
  ·exact aG rfl
  ·refine bJ (good := good) eX bC (bG _) (fun e5 _ => ?_) (fun r4 _ => ?_)
   ·exact aG rfl
   ·refine bJ (good := good) eX gH (gQ _ _) (fun e7 _ => ?_) (fun r6 _ => ?_)
    ·exact aG rfl
    ·refine bJ (good := good) eX bC (bG _) (fun e9 _ => ?_) (fun r8 _ => ?_)
     ·exact aG rfl
     ·refine bJ (good := good) eX bC (bG _) (fun e11 _ => ?_) (fun r10 _ => ?_)
      ·exact aG rfl
      ·refine bJ (good := good) eX dG (dH _ _) (fun e13 _ => ?_) (fun r12 _ => ?_)
       ·exact aG rfl
       ·refine bJ (good := good) eX bC (bG _) (fun e15 _ => ?_) (fun r14 _ => ?_)
        ·exact aG rfl
        ·refine bJ (good := good) eX pG (pR _ _) (fun e17 _ => ?_) (fun r16 _ => ?_)
         ·exact aG rfl
         ·(try simp only [EN]); exact tN fuel r16.1 0 ((aC.mk [] [] 0 false 0 0 [] 0 [])) r0.1 r2.1 r4.1 (r6.1 == 1) r8.1 r10.1 r12.1 r14.1 r16.2 []
section
variable (Γ : Fun) (γ47 : Gp aI (Str × aE)) (γ29 : Gp aI (Int × aE)) (γ48 : Gm (Bool)) (γ12 : Gp aI (Int × aE)) (γ30 : Gp aI (aC × aE)) (Λ2 J : Lam)
def C28 : aS := jL (jL (bM (jL (jL (aR Γ) 47 cN γ47) 29 cC γ29) 48 aH γ48) 12 bQ γ12) 30 cM γ30
theorem T28 (p0 : aE) : bV SE (C28 Γ γ47 γ29 γ48 γ12 γ30) Λ2 J 28 [.ptr 2000000000 0] [⟨52, (aE.avs p0)⟩] [] =
 γ47 [.ptr 2000000000 0, .d (.int .i64 16)] [⟨52, (aE.avs p0)⟩] [] (fun e1 =>
 (some (.pan (.ifc 49 (aI.av e1))))) fun r0 =>
 γ47 [.ptr 2000000000 0, .d (.int .i64 16)] [⟨52, (aE.avs r0.2)⟩] [] (fun e3 =>
 (some (.pan (.ifc 49 (aI.av e3))))) fun r2 =>
 γ29 [.ptr 2000000000 0, .d (.int .i64 4)] [⟨52, (aE.avs r2.2)⟩] [] (fun e5 =>
 (some (.pan (.ifc 49 (aI.av e5))))) fun r4 =>
 γ48 [.d (.int .i64 r4.1), .d (.int .i64 0)] [] [] fun r6 =>
 γ48 [.d (.int .i64 r4.1), .d (.int .i64 1)] [] [] fun r7 =>
 γ12 [.ptr 2000000000 0] [⟨52, (aE.avs r4.2)⟩] [] (fun e9 =>
 (some (.pan (.ifc 49 (aI.av e9))))) fun r8 =>
 γ12 [.ptr 2000000000 0] [⟨52, (aE.avs r8.2)⟩] [] (fun e11 =>
 (some (.pan (.ifc 49 (aI.av e11))))) fun r10 =>
 γ12 [.ptr 2000000000 0] [⟨52, (aE.avs r10.2)⟩] [] (fun e13 =>
 (some (.pan (.ifc 49 (aI.av e13))))) fun r12 =>
 cond r7 (
 γ12 [.ptr 2000000000 0] [⟨52, (aE.avs r12.2)⟩] [] (fun e15 =>
  (some (.pan (.ifc 49 (aI.av e15))))) fun r14 =>
 γ30 [.ptr 2000000000 0] [⟨52, (aE.avs r14.2)⟩] [] (fun e17 =>
  (some (.pan (.ifc 49 (aI.av e17))))) fun r16 =>
 (some (.ret [.agg [.d (.int .i64 1), .d (.int .i64 0), .d (.bool false), .d (.str []), .d (.str []), .d (.int .i64 0), .d (.bool false), .d (.int .i64 0), .d (.int .i64 0), .d (.str []), .d (.int .i64 0), .row 0, .d (.str r0.1), .d (.str r2.1), .d (.bool r6), .d (.int .i64 r8.1), .d (.int .i64 r10.1), .d (.int .i64 r12.1), .d (.bool r7), .d (.int .i64 r14.1), .d (.str r16.1.Topic), .d (.str r16.1.Payload), .d (.int .i64 r16.1.Level), .d (.bool r16.1.Retain), .d (.int .i64 r16.1.Priority), .d (.int .i64 r16.1.Expires), .d (.str r16.1.From), .d (.int .i64 r16.1.Seq), .row 1, .d (.bool false), .d (.int .i64 0), .row 2, .row 3, .row 4]] [⟨52, (aE.avs r16.2)⟩] [⟨aB.ks, 80, 32, (List.map aB.enc [])⟩, ⟨aB.ks, 80, 32, (List.map aB.enc r16.1.Props)⟩, ⟨aF.ks, 47, 32, (List.map aF.enc [])⟩, ⟨[.str], 9, 16, (List.map aV [])⟩, ⟨[.int .i64], 3, 8, (List.map eI [])⟩]))) (
 (some (.ret [.agg [.d (.int .i64 1), .d (.int .i64 0), .d (.bool false), .d (.str []), .d (.str []), .d (.int .i64 0), .d (.bool false), .d (.int .i64 0), .d (.int .i64 0), .d (.str []), .d (.int .i64 0), .row 0, .d (.str r0.1), .d (.str r2.1), .d (.bool r6), .d (.int .i64 r8.1), .d (.int .i64 r10.1), .d (.int .i64 r12.1), .d (.bool r7), .d (.int .i64 0), .d (.str []), .d (.str []), .d (.int .i64 0), .d (.bool false), .d (.int .i64 0), .d (.int .i64 0), .d (.str []), .d (.int .i64 0), .row 1, .d (.bool false), .d (.int .i64 0), .row 2, .row 3, .row 4]] [⟨52, (aE.avs r12.2)⟩] [⟨aB.ks, 80, 32, (List.map aB.enc [])⟩, ⟨aB.ks, 80, 32, (List.map aB.enc [])⟩, ⟨aF.ks, 47, 32, (List.map aF.enc [])⟩, ⟨[.str], 9, 16, (List.map aV [])⟩, ⟨[.int .i64], 3, 8, (List.map eI [])⟩]))) := by kernel_rfl
end
abbrev X28 : aS := C28 gG (cP 47 cN) (cP 29 cC) (cT 48 aH) (cP 12 bQ) (cP 30 cM)
theorem asX : X28 = aR gG := by unfold X28 C28; rw [dD fun _ h => h, dD fun _ h => h, bP fun _ h => h, dD fun _ h => h, dD fun _ h => h]
theorem vU (p0 : aE) : Le (Option.map eJ (gY p0)) (bE SE 28 [.ptr 2000000000 0] [⟨52, (aE.avs p0)⟩] []) := by
 refine bB asX rfl ?_
 refine Le.trans ?_ (le_of_eq (T28 ..).symm)
 unfold gY
 refine bJ (good := good) eX dG (dH _ _) (fun e1 _ => ?_) (fun r0 _ => ?_)
 ·exact aG rfl
 ·refine bJ (good := good) eX dG (dH _ _) (fun e3 _ => ?_) (fun r2 _ => ?_)
  ·exact aG rfl
  ·refine bJ (good := good) eX gH (gQ _ _) (fun e5 _ => ?_) (fun r4 _ => ?_)
   ·exact aG rfl
   ·refine lQ eX aU (adq _ _) fun r6 _ => ?_
    refine lQ eX aU (adq _ _) fun r7 _ => ?_
    refine bJ (good := good) eX bC (bG _) (fun e9 _ => ?_) (fun r8 _ => ?_)
    ·exact aG rfl
    ·refine bJ (good := good) eX bC (bG _) (fun e11 _ => ?_) (fun r10 _ => ?_)
     ·exact aG rfl
     ·refine bJ (good := good) eX bC (bG _) (fun e13 _ => ?_) (fun r12 _ => ?_)
      ·exact aG rfl
      ·refine lC ?_ ?_
       ·refine bJ (good := good) eX bC (bG _) (fun e15 _ => ?_) (fun r14 _ => ?_)
        ·exact aG rfl
        ·refine bJ (good := good) eX nS (oP _) (fun e17 _ => ?_) (fun r16 _ => ?_)
         ·exact aG rfl
         ·exact aG rfl
       ·exact aG rfl
def afB (C : aS) (Λ2 J : Lam) (a0 a1 : Int) (a2 : List D) (a3 a4 : Int) (a5 : Bool) (a6 a7 : Str) (a8 : Int) (a9 : Bool) (a10 a11 : Int) (a12 : Str) (a13 : Int) (a14 : List (List D)) (a15 a16 : Str) (a17 : Bool) (a18 a19 a20 : Int) (a21 : Bool) (a22 : Int) (a23 a24 : Str) (a25 : Int) (a26 : Bool) (a27 a28 : Int) (a29 : Str) (a30 : Int) (a31 : List (List D)) (a32 : Bool) (a33 : Int) (a34 : List D) (a35 a36 a37 : List (List D)) : Res := lab SE C Λ2 J 31 1 [1, 1, 0, 1, 0] (bN [(0, .ptr 2000000000 0), (4, .ptr 1000000000 0), (5, .ptr 1000000001 0), (9, .d (.int .i64 a0)), (10, .d (.int .i64 a1))] [⟨33, (List.map AV.d a2)⟩, ⟨33, [.d (.int .i64 a3), .d (.int .i64 a4), .d (.bool a5), .d (.str a6), .d (.str a7), .d (.int .i64 a8), .d (.bool a9), .d (.int .i64 a10), .d (.int .i64 a11), .d (.str a12), .d (.int .i64 a13), .d (.sl aB.ks a14), .d (.str a15), .d (.str a16), .d (.bool a17), .d (.int .i64 a18), .d (.int .i64 a19), .d (.int .i64 a20), .d (.bool a21), .d (.int .i64 a22), .d (.str a23), .d (.str a24), .d (.int .i64 a25), .d (.bool a26), .d (.int .i64 a27), .d (.int .i64 a28), .d (.str a29), .d (.int .i64 a30), .d (.sl aB.ks a31), .d (.bool a32), .d (.int .i64 a33), .row 50131, .row 50132, .row 50133]⟩] [⟨52, (List.map AV.d a34)⟩] [] [(50131, ⟨aF.ks, 47, 32, a35⟩), (50132, ⟨[.str], 9, 16, a36⟩), (50133, ⟨[.int .i64], 3, 8, a37⟩)])
section
variable (Γ : Fun) (γ49 : Gp aI (Int × aE)) (γ47 : Gp aI (Str × aE)) (γ12 γ29 : Gp aI (Int × aE)) (Λ2 J : Lam)
def C31 : aS := jL (jL (jL (jL (aR Γ) 49 dI γ49) 47 cN γ47) 12 bQ γ12) 29 cC γ29
theorem T31 (p0 : aE) (p1 : aA) : bV SE (C31 Γ γ49 γ47 γ12 γ29) Λ2 J 31 [.ptr 2000000000 0, .agg [.d (.int .i64 p1.Kind), .d (.int .i64 p1.ID), .d (.bool p1.Dup), .d (.str p1.Message.Topic), .d (.str p1.Message.Payload), .d (.int .i64 p1.Message.Level), .d (.bool p1.Message.Retain), .d (.int .i64 p1.Message.Priority), .d (.int .i64 p1.Message.Expires), .d (.str p1.Message.From), .d (.int .i64 p1.Message.Seq), .d (.sl aB.ks (List.map aB.enc p1.Message.Props)), .d (.str p1.Client), .d (.str p1.User), .d (.bool p1.Clean), .d (.int .i64 p1.Keep), .d (.int .i64 p1.Expiry), .d (.int .i64 p1.Window), .d (.bool p1.Will.Set), .d (.int .i64 p1.Will.Delay), .d (.str p1.Will.Message.Topic), .d (.str p1.Will.Message.Payload), .d (.int .i64 p1.Will.Message.Level), .d (.bool p1.Will.Message.Retain), .d (.int .i64 p1.Will.Message.Priority), .d (.int .i64 p1.Will.Message.Expires), .d (.str p1.Will.Message.From), .d (.int .i64 p1.Will.Message.Seq), .d (.sl aB.ks (List.map aB.enc p1.Will.Message.Props)), .d (.bool p1.Present), .d (.int .i64 p1.Code), .row 2000000000, .row 2000000001, .row 2000000002]] [⟨52, (aE.avs p0)⟩] [⟨aF.ks, 47, 32, (List.map aF.enc p1.Subs)⟩, ⟨[.str], 9, 16, (List.map aV p1.Filters)⟩, ⟨[.int .i64], 3, 8, (List.map eI p1.Codes)⟩] =
 γ49 [.ptr 2000000000 0, .d (.int .i64 32)] [⟨52, (aE.avs p0)⟩] [] (fun e1 =>
 (some (.pan (.ifc 49 (aI.av e1))))) fun r0 =>
 afB (C31 Γ γ49 γ47 γ12 γ29) Λ2 J r0.1 0 [D.int .i64 0, D.int .i64 0, D.bool false, D.str [], D.str [], D.int .i64 0, D.bool false, D.int .i64 0, D.int .i64 0, D.str [], D.int .i64 0, D.sl aB.ks (List.map aB.enc []), D.str [], D.str [], D.bool false, D.int .i64 0, D.int .i64 0, D.int .i64 0, D.bool false, D.int .i64 0, D.str [], D.str [], D.int .i64 0, D.bool false, D.int .i64 0, D.int .i64 0, D.str [], D.int .i64 0, D.sl aB.ks (List.map aB.enc []), D.bool false, D.int .i64 0, D.sl aF.ks (List.map aF.enc []), D.sl [.str] (List.map aV []), D.sl [.int .i64] (List.map eI [])] p1.Kind p1.ID p1.Dup p1.Message.Topic p1.Message.Payload p1.Message.Level p1.Message.Retain p1.Message.Priority p1.Message.Expires p1.Message.From p1.Message.Seq (List.map aB.enc p1.Message.Props) p1.Client p1.User p1.Clean p1.Keep p1.Expiry p1.Window p1.Will.Set p1.Will.Delay p1.Will.Message.Topic p1.Will.Message.Payload p1.Will.Message.Level p1.Will.Message.Retain p1.Will.Message.Priority p1.Will.Message.Expires p1.Will.Message.From p1.Will.Message.Seq (List.map aB.enc p1.Will.Message.Props) p1.Present p1.Code (aE.enc r0.2) (List.map aF.enc p1.Subs) (List.map aV p1.Filters) (List.map eI p1.Codes) := by kernel_rfl
theorem aru (x9 x10 : Int) (b0 : aA) (b1_0 b1_1 : Int) (b1_2 : Bool) (b1_3 b1_4 : Str) (b1_5 : Int) (b1_6 : Bool) (b1_7 b1_8 : Int) (b1_9 : Str) (b1_10 : Int) (b1_11 : List aB) (b1_12 b1_13 : Str) (b1_14 : Bool) (b1_15 b1_16 b1_17 : Int) (b1_18 : Bool) (b1_19 : Int) (b1_20 b1_21 : Str) (b1_22 : Int) (b1_23 : Bool) (b1_24 b1_25 : Int) (b1_26 : Str) (b1_27 : Int) (b1_28 : List aB) (b1_29 : Bool) (b1_30 : Int) (q0 : aE) (w50131 : List aF) (w50132 : List Str) (w50133 : List Int) : dY SE (C31 Γ γ49 γ47 γ12 γ29) Λ2 J 31 1 [1, 1, 0, 1, 0] (bN [(0, .ptr 2000000000 0), (4, .ptr 1000000000 0), (5, .ptr 1000000001 0), (9, .d (.int .i64 x9)), (10, .d (.int .i64 x10))] [⟨33, (List.map AV.d (aA.enc b0))⟩, ⟨33, [.d (.int .i64 b1_0), .d (.int .i64 b1_1), .d (.bool b1_2), .d (.str b1_3), .d (.str b1_4), .d (.int .i64 b1_5), .d (.bool b1_6), .d (.int .i64 b1_7), .d (.int .i64 b1_8), .d (.str b1_9), .d (.int .i64 b1_10), .d (.sl aB.ks (List.map aB.enc b1_11)), .d (.str b1_12), .d (.str b1_13), .d (.bool b1_14), .d (.int .i64 b1_15), .d (.int .i64 b1_16), .d (.int .i64 b1_17), .d (.bool b1_18), .d (.int .i64 b1_19), .d (.str b1_20), .d (.str b1_21), .d (.int .i64 b1_22), .d (.bool b1_23), .d (.int .i64 b1_24), .d (.int .i64 b1_25), .d (.str b1_26), .d (.int .i64 b1_27), .d (.sl aB.ks (List.map aB.enc b1_28)), .d (.bool b1_29), .d (.int .i64 b1_30), .row 50131, .row 50132, .row 50133]⟩] [⟨52, (List.map AV.d (aE.enc q0))⟩] [] [(50131, ⟨aF.ks, 47, 32, (List.map aF.enc w50131)⟩), (50132, ⟨[.str], 9, 16, (List.map aV w50132)⟩), (50133, ⟨[.int .i64], 3, 8, (List.map eI w50133)⟩)]) =
 cond (decide (x10 < x9)) (
 cond (b1_0 == 8) (
  γ47 [.ptr 2000000000 0, .d (.int .i64 88)] [⟨52, (aE.avs q0)⟩] [] (fun e3 =>
  (some (.pan (.ifc 49 (aI.av e3))))) fun r2 =>
  γ12 [.ptr 2000000000 0] [⟨52, (aE.avs r2.2)⟩] [] (fun e5 =>
  (some (.pan (.ifc 49 (aI.av e5))))) fun r4 =>
  γ29 [.ptr 2000000000 0, .d (.int .i64 2)] [⟨52, (aE.avs r4.2)⟩] [] (fun e7 =>
  (some (.pan (.ifc 49 (aI.av e7))))) fun r6 =>
  cond (decide ((lM aF.enc w50131 + lM aF.enc [(aF.mk r2.1 r4.1 (r6.1 == 1))]) * 32 ≤ 140737488355328)) (
  afB (C31 Γ γ49 γ47 γ12 γ29) Λ2 J x9 (w6 (x10 + 1)) (aA.enc b0) b1_0 b1_1 b1_2 b1_3 b1_4 b1_5 b1_6 b1_7 b1_8 b1_9 b1_10 (List.map aB.enc b1_11) b1_12 b1_13 b1_14 b1_15 b1_16 b1_17 b1_18 b1_19 b1_20 b1_21 b1_22 b1_23 b1_24 b1_25 b1_26 b1_27 (List.map aB.enc b1_28) b1_29 b1_30 (aE.enc r6.2) (((List.map aF.enc w50131) ++ (List.map aF.enc [(aF.mk r2.1 r4.1 (r6.1 == 1))]))) (List.map aV w50132) (List.map eI w50133)) none) (
 cond (b1_0 == 10) (
  γ47 [.ptr 2000000000 0, .d (.int .i64 88)] [⟨52, (aE.avs q0)⟩] [] (fun e9 =>
  (some (.pan (.ifc 49 (aI.av e9))))) fun r8 =>
  cond (decide ((lM aV w50132 + lM aV [r8.1]) * 16 ≤ 140737488355328)) (
  afB (C31 Γ γ49 γ47 γ12 γ29) Λ2 J x9 (w6 (x10 + 1)) (aA.enc b0) b1_0 b1_1 b1_2 b1_3 b1_4 b1_5 b1_6 b1_7 b1_8 b1_9 b1_10 (List.map aB.enc b1_11) b1_12 b1_13 b1_14 b1_15 b1_16 b1_17 b1_18 b1_19 b1_20 b1_21 b1_22 b1_23 b1_24 b1_25 b1_26 b1_27 (List.map aB.enc b1_28) b1_29 b1_30 (aE.enc r8.2) (List.map aF.enc w50131) (((List.map aV w50132) ++ (List.map aV [r8.1]))) (List.map eI w50133)) none) (
 γ12 [.ptr 2000000000 0] [⟨52, (aE.avs q0)⟩] [] (fun e11 =>
  (some (.pan (.ifc 49 (aI.av e11))))) fun r10 =>
 cond (decide ((lM eI w50133 + lM eI [r10.1]) * 8 ≤ 140737488355328)) (
  afB (C31 Γ γ49 γ47 γ12 γ29) Λ2 J x9 (w6 (x10 + 1)) (aA.enc b0) b1_0 b1_1 b1_2 b1_3 b1_4 b1_5 b1_6 b1_7 b1_8 b1_9 b1_10 (List.map aB.enc b1_11) b1_12 b1_13 b1_14 b1_15 b1_16 b1_17 b1_18 b1_19 b1_20 b1_21 b1_22 b1_23 b1_24 b1_25 b1_26 b1_27 (List.map aB.enc b1_28) b1_29 b1_30 (aE.enc r10.2) (List.map aF.enc w50131) (List.map aV w50132) (((List.map eI w50133) ++ (List.map eI [r10.1])))) none))) (
 (some (.ret [.agg [.d (.int .i64 b1_0), .d (.int .i64 b1_1), .d (.bool b1_2), .d (.str b1_3), .d (.str b1_4), .d (.int .i64 b1_5), .d (.bool b1_6), .d (.int .i64 b1_7), .d (.int .i64 b1_8), .d (.str b1_9), .d (.int .i64 b1_10), .d (.sl aB.ks (List.map aB.enc b1_11)), .d (.str b1_12), .d (.str b1_13), .d (.bool b1_14), .d (.int .i64 b1_15), .d (.int .i64 b1_16), .d (.int .i64 b1_17), .d (.bool b1_18), .d (.int .i64 b1_19), .d (.str b1_20), .d (.str b1_21), .d (.int .i64 b1_22), .d (.bool b1_23), .d (.int .i64 b1_24), .d (.int .i64 b1_25), .d (.str b1_26), .d (.int .i64 b1_27), .d (.sl aB.ks (List.map aB.enc b1_28)), .d (.bool b1_29), .d (.int .i64 b1_30), .row 0, .row 1, .row 2]] [⟨52, (aE.avs q0)⟩] [⟨aF.ks, 47, 32, (List.map aF.enc w50131)⟩, ⟨[.str], 9, 16, (List.map aV w50132)⟩, ⟨[.int .i64], 3, 8, (List.map eI w50133)⟩]))) := by kernel_rfl
end
abbrev X31 : aS := C31 gG (cP 49 dI) (cP 47 cN) (cP 12 bQ) (cP 29 cC)
theorem aoQ : X31 = aR gG := by unfold X31 C31; rw [dD fun _ h => h, dD fun _ h => h, dD fun _ h => h, dD fun _ h => h]
abbrev aqk := afB X31 (dM SE gG (SE.hl 31) (SE.hr 31)) (J0 SE X31)
theorem vJ : ∀ (fu : Nat) (x9 x10 : Int) (b0 : aA) (b1_0 b1_1 : Int) (b1_2 : Bool) (b1_3 b1_4 : Str) (b1_5 : Int) (b1_6 : Bool) (b1_7 b1_8 : Int) (b1_9 : Str) (b1_10 : Int) (b1_11 : List aB) (b1_12 b1_13 : Str) (b1_14 : Bool) (b1_15 b1_16 b1_17 : Int) (b1_18 : Bool) (b1_19 : Int) (b1_20 b1_21 : Str) (b1_22 : Int) (b1_23 : Bool) (b1_24 b1_25 : Int) (b1_26 : Str) (b1_27 : Int) (b1_28 : List aB) (b1_29 : Bool) (b1_30 : Int) (q0 : aE) (w50131 : List aF) (w50132 : List Str) (w50133 : List Int), Le (Option.map dS (bW fu x9 x10 b0 b1_0 b1_1 b1_2 b1_3 b1_4 b1_5 b1_6 b1_7 b1_8 b1_9 b1_10 b1_11 b1_12 b1_13 b1_14 b1_15 b1_16 b1_17 b1_18 b1_19 b1_20 b1_21 b1_22 b1_23 b1_24 b1_25 b1_26 b1_27 b1_28 b1_29 b1_30 q0 w50131 w50132 w50133)) (aqk x9 x10 (aA.enc b0) b1_0 b1_1 b1_2 b1_3 b1_4 b1_5 b1_6 b1_7 b1_8 b1_9 b1_10 (List.map aB.enc b1_11) b1_12 b1_13 b1_14 b1_15 b1_16 b1_17 b1_18 b1_19 b1_20 b1_21 b1_22 b1_23 b1_24 b1_25 b1_26 b1_27 (List.map aB.enc b1_28) b1_29 b1_30 (aE.enc q0) (List.map aF.enc w50131) (List.map aV w50132) (List.map eI w50133)) := by
 intro fu
 induction fu with
 | zero => intros; exact le_none
 | succ fu ih =>
  intro x9 x10 b0 b1_0 b1_1 b1_2 b1_3 b1_4 b1_5 b1_6 b1_7 b1_8 b1_9 b1_10 b1_11 b1_12 b1_13 b1_14 b1_15 b1_16 b1_17 b1_18 b1_19 b1_20 b1_21 b1_22 b1_23 b1_24 b1_25 b1_26 b1_27 b1_28 b1_29 b1_30 q0 w50131 w50132 w50133
  refine Le.trans ?_ (le_of_eq ((bU aoQ).trans (aru ..)).symm)
  unfold bW
  refine lC ?_ ?_
  ·refine lC ?_ ?_
   ·refine bJ (good := good) eX dG (dH _ _) (fun e3 _ => ?_) (fun r2 _ => ?_)
    ·exact aG rfl
    ·refine bJ (good := good) eX bC (bG _) (fun e5 _ => ?_) (fun r4 _ => ?_)
     ·exact aG rfl
     ·refine bJ (good := good) eX gH (gQ _ _) (fun e7 _ => ?_) (fun r6 _ => ?_)
      ·exact aG rfl
      ·refine lG (by simp only [EN]) ?_
       (try simp only [EN]); exact ih x9 (w6 (x10 + 1)) b0 b1_0 b1_1 b1_2 b1_3 b1_4 b1_5 b1_6 b1_7 b1_8 b1_9 b1_10 b1_11 b1_12 b1_13 b1_14 b1_15 b1_16 b1_17 b1_18 b1_19 b1_20 b1_21 b1_22 b1_23 b1_24 b1_25 b1_26 b1_27 b1_28 b1_29 b1_30 r6.2 (w50131 ++ [(aF.mk r2.1 r4.1 (r6.1 == 1))]) w50132 w50133
   ·refine lC ?_ ?_
    ·refine bJ (good := good) eX dG (dH _ _) (fun e9 _ => ?_) (fun r8 _ => ?_)
     ·exact aG rfl
     ·refine lG (by simp only [EN]) ?_
      (try simp only [EN]); exact ih x9 (w6 (x10 + 1)) b0 b1_0 b1_1 b1_2 b1_3 b1_4 b1_5 b1_6 b1_7 b1_8 b1_9 b1_10 b1_11 b1_12 b1_13 b1_14 b1_15 b1_16 b1_17 b1_18 b1_19 b1_20 b1_21 b1_22 b1_23 b1_24 b1_25 b1_26 b1_27 b1_28 b1_29 b1_30 r8.2 w50131 (w50132 ++ [r8.1]) w50133
    ·refine bJ (good := good) eX bC (bG _) (fun e11 _ => ?_) (fun r10 _ => ?_)
     ·exact aG rfl
     ·refine lG (by simp only [EN]) ?_
      (try simp only [EN]); exact ih x9 (w6 (x10 + 1)) b0 b1_0 b1_1 b1_2 b1_3 b1_4 b1_5 b1_6 b1_7 b1_8 b1_9 b1_10 b1_11 b1_12 b1_13 b1_14 b1_15 b1_16 b1_17 b1_18 b1_19 b1_20 b1_21 b1_22 b1_23 b1_24 b1_25 b1_26 b1_27 b1_28 b1_29 b1_30 r10.2 w50131 w50132 (w50133 ++ [r10.1])
  ·exact aG rfl
theorem jB (p0 : aE) (p1 : aA) : Le (Option.map dS (cL p0 p1)) (bE SE 31 [.ptr 2000000000 0, .agg [.d (.int .i64 p1.Kind), .d (.int .i64 p1.ID), .d (.bool p1.Dup), .d (.str p1.Message.Topic), .d (.str p1.Message.Payload), .d (.int .i64 p1.Message.Level), .d (.bool p1.Message.Retain), .d (.int .i64 p1.Message.Priority), .d (.int .i64 p1.Message.Expires), .d (.str p1.Message.From), .d (.int .i64 p1.Message.Seq), .d (.sl aB.ks (List.map aB.enc p1.Message.Props)), .d (.str p1.Client), .d (.str p1.User), .d (.bool p1.Clean), .d (.int .i64 p1.Keep), .d (.int .i64 p1.Expiry), .d (.int .i64 p1.Window), .d (.bool p1.Will.Set), .d (.int .i64 p1.Will.Delay), .d (.str p1.Will.Message.Topic), .d (.str p1.Will.Message.Payload), .d (.int .i64 p1.Will.Message.Level), .d (.bool p1.Will.Message.Retain), .d (.int .i64 p1.Will.Message.Priority), .d (.int .i64 p1.Will.Message.Expires), .d (.str p1.Will.Message.From), .d (.int .i64 p1.Will.Message.Seq), .d (.sl aB.ks (List.map aB.enc p1.Will.Message.Props)), .d (.bool p1.Present), .d (.int .i64 p1.Code), .row 2000000000, .row 2000000001, .row 2000000002]] [⟨52, (aE.avs p0)⟩] [⟨aF.ks, 47, 32, (List.map aF.enc p1.Subs)⟩, ⟨[.str], 9, 16, (List.map aV p1.Filters)⟩, ⟨[.int .i64], 3, 8, (List.map eI p1.Codes)⟩]) := by
 refine bB aoQ rfl ?_
 refine Le.trans ?_ (le_of_eq (T31 ..).symm)
 unfold cL
 refine bJ (good := good) eX pG (pR _ _) (fun e1 _ => ?_) (fun r0 _ => ?_)
 ·exact aG rfl
 ·(try simp only [EN]); exact vJ fuel r0.1 0 ((aA.mk 0 0 false (aC.mk [] [] 0 false 0 0 [] 0 []) [] [] false 0 0 0 (aP.mk false 0 (aC.mk [] [] 0 false 0 0 [] 0 [])) false 0 [] [] [])) p1.Kind p1.ID p1.Dup p1.Message.Topic p1.Message.Payload p1.Message.Level p1.Message.Retain p1.Message.Priority p1.Message.Expires p1.Message.From p1.Message.Seq p1.Message.Props p1.Client p1.User p1.Clean p1.Keep p1.Expiry p1.Window p1.Will.Set p1.Will.Delay p1.Will.Message.Topic p1.Will.Message.Payload p1.Will.Message.Level p1.Will.Message.Retain p1.Will.Message.Priority p1.Will.Message.Expires p1.Will.Message.From p1.Will.Message.Seq p1.Will.Message.Props p1.Present p1.Code r0.2 p1.Subs p1.Filters p1.Codes
section
variable (Γ : Fun) (γ28 : Gp aI (aA × aE)) (γ29 γ12 : Gp aI (Int × aE)) (γ30 : Gp aI (aC × aE)) (γ31 : Gp aI (aA × aE)) (Λ2 J : Lam)
def C14 : aS := jL (jL (jL (jL (jL (aR Γ) 28 eJ γ28) 29 cC γ29) 12 bQ γ12) 30 cM γ30) 31 dS γ31
theorem T14 (p0 : aE) (p1 : Int) : bV SE (C14 Γ γ28 γ29 γ12 γ30 γ31) Λ2 J 14 [.ptr 2000000000 0, .d (.int .i64 p1)] [⟨52, (aE.avs p0)⟩] [] =
 cond (p1 == 1) (
 γ28 [.ptr 2000000000 0] [⟨52, (aE.avs p0)⟩] [] (fun e1 =>
  (some (.pan (.ifc 49 (aI.av e1))))) fun r0 =>
 (some (.ret [.agg [.d (.int .i64 r0.1.Kind), .d (.int .i64 r0.1.ID), .d (.bool r0.1.Dup), .d (.str r0.1.Message.Topic), .d (.str r0.1.Message.Payload), .d (.int .i64 r0.1.Message.Level), .d (.bool r0.1.Message.Retain), .d (.int .i64 r0.1.Message.Priority), .d (.int .i64 r0.1.Message.Expires), .d (.str r0.1.Message.From), .d (.int .i64 r0.1.Message.Seq), .d (.sl aB.ks (List.map aB.enc r0.1.Message.Props)), .d (.str r0.1.Client), .d (.str r0.1.User), .d (.bool r0.1.Clean), .d (.int .i64 r0.1.Keep), .d (.int .i64 r0.1.Expiry), .d (.int .i64 r0.1.Window), .d (.bool r0.1.Will.Set), .d (.int .i64 r0.1.Will.Delay), .d (.str r0.1.Will.Message.Topic), .d (.str r0.1.Will.Message.Payload), .d (.int .i64 r0.1.Will.Message.Level), .d (.bool r0.1.Will.Message.Retain), .d (.int .i64 r0.1.Will.Message.Priority), .d (.int .i64 r0.1.Will.Message.Expires), .d (.str r0.1.Will.Message.From), .d (.int .i64 r0.1.Will.Message.Seq), .d (.sl aB.ks (List.map aB.enc r0.1.Will.Message.Props)), .d (.bool r0.1.Present), .d (.int .i64 r0.1.Code), .row 0, .row 1, .row 2]] [⟨52, (aE.avs r0.2)⟩] [⟨aF.ks, 47, 32, (List.map aF.enc r0.1.Subs)⟩, ⟨[.str], 9, 16, (List.map aV r0.1.Filters)⟩, ⟨[.int .i64], 3, 8, (List.map eI r0.1.Codes)⟩]))) (
 cond (p1 == 2) (
 γ29 [.ptr 2000000000 0, .d (.int .i64 2)] [⟨52, (aE.avs p0)⟩] [] (fun e3 =>
  (some (.pan (.ifc 49 (aI.av e3))))) fun r2 =>
 γ12 [.ptr 2000000000 0] [⟨52, (aE.avs r2.2)⟩] [] (fun e5 =>
  (some (.pan (.ifc 49 (aI.av e5))))) fun r4 =>
 (some (.ret [.agg [.d (.int .i64 p1), .d (.int .i64 0), .d (.bool false), .d (.str []), .d (.str []), .d (.int .i64 0), .d (.bool false), .d (.int .i64 0), .d (.int .i64 0), .d (.str []), .d (.int .i64 0), .d (.sl aB.ks (List.map aB.enc [])), .d (.str []), .d (.str []), .d (.bool false), .d (.int .i64 0), .d (.int .i64 0), .d (.int .i64 0), .d (.bool false), .d (.int .i64 0), .d (.str []), .d (.str []), .d (.int .i64 0), .d (.bool false), .d (.int .i64 0), .d (.int .i64 0), .d (.str []), .d (.int .i64 0), .d (.sl aB.ks (List.map aB.enc [])), .d (.bool (r2.1 == 1)), .d (.int .i64 r4.1), .row 0, .row 1, .row 2]] [⟨52, (aE.avs r4.2)⟩] [⟨aF.ks, 47, 32, (List.map aF.enc [])⟩, ⟨[.str], 9, 16, (List.map aV [])⟩, ⟨[.int .i64], 3, 8, (List.map eI [])⟩]))) (
 cond (p1 == 3) (
 γ12 [.ptr 2000000000 0] [⟨52, (aE.avs p0)⟩] [] (fun e7 =>
  (some (.pan (.ifc 49 (aI.av e7))))) fun r6 =>
 γ29 [.ptr 2000000000 0, .d (.int .i64 2)] [⟨52, (aE.avs r6.2)⟩] [] (fun e9 =>
  (some (.pan (.ifc 49 (aI.av e9))))) fun r8 =>
 γ30 [.ptr 2000000000 0] [⟨52, (aE.avs r8.2)⟩] [] (fun e11 =>
  (some (.pan (.ifc 49 (aI.av e11))))) fun r10 =>
 (some (.ret [.agg [.d (.int .i64 p1), .d (.int .i64 r6.1), .d (.bool (r8.1 == 1)), .d (.str r10.1.Topic), .d (.str r10.1.Payload), .d (.int .i64 r10.1.Level), .d (.bool r10.1.Retain), .d (.int .i64 r10.1.Priority), .d (.int .i64 r10.1.Expires), .d (.str r10.1.From), .d (.int .i64 r10.1.Seq), .d (.sl aB.ks (List.map aB.enc r10.1.Props)), .d (.str []), .d (.str []), .d (.bool false), .d (.int .i64 0), .d (.int .i64 0), .d (.int .i64 0), .d (.bool false), .d (.int .i64 0), .d (.str []), .d (.str []), .d (.int .i64 0), .d (.bool false), .d (.int .i64 0), .d (.int .i64 0), .d (.str []), .d (.int .i64 0), .d (.sl aB.ks (List.map aB.enc [])), .d (.bool false), .d (.int .i64 0), .row 0, .row 1, .row 2]] [⟨52, (aE.avs r10.2)⟩] [⟨aF.ks, 47, 32, (List.map aF.enc [])⟩, ⟨[.str], 9, 16, (List.map aV [])⟩, ⟨[.int .i64], 3, 8, (List.map eI [])⟩]))) (
 cond (p1 == 4) (
 γ12 [.ptr 2000000000 0] [⟨52, (aE.avs p0)⟩] [] (fun e13 =>
  (some (.pan (.ifc 49 (aI.av e13))))) fun r12 =>
 (some (.ret [.agg [.d (.int .i64 p1), .d (.int .i64 r12.1), .d (.bool false), .d (.str []), .d (.str []), .d (.int .i64 0), .d (.bool false), .d (.int .i64 0), .d (.int .i64 0), .d (.str []), .d (.int .i64 0), .d (.sl aB.ks (List.map aB.enc [])), .d (.str []), .d (.str []), .d (.bool false), .d (.int .i64 0), .d (.int .i64 0), .d (.int .i64 0), .d (.bool false), .d (.int .i64 0), .d (.str []), .d (.str []), .d (.int .i64 0), .d (.bool false), .d (.int .i64 0), .d (.int .i64 0), .d (.str []), .d (.int .i64 0), .d (.sl aB.ks (List.map aB.enc [])), .d (.bool false), .d (.int .i64 0), .row 0, .row 1, .row 2]] [⟨52, (aE.avs r12.2)⟩] [⟨aF.ks, 47, 32, (List.map aF.enc [])⟩, ⟨[.str], 9, 16, (List.map aV [])⟩, ⟨[.int .i64], 3, 8, (List.map eI [])⟩]))) (
 cond (p1 == 5) (
 γ12 [.ptr 2000000000 0] [⟨52, (aE.avs p0)⟩] [] (fun e15 =>
  (some (.pan (.ifc 49 (aI.av e15))))) fun r14 =>
 (some (.ret [.agg [.d (.int .i64 p1), .d (.int .i64 r14.1), .d (.bool false), .d (.str []), .d (.str []), .d (.int .i64 0), .d (.bool false), .d (.int .i64 0), .d (.int .i64 0), .d (.str []), .d (.int .i64 0), .d (.sl aB.ks (List.map aB.enc [])), .d (.str []), .d (.str []), .d (.bool false), .d (.int .i64 0), .d (.int .i64 0), .d (.int .i64 0), .d (.bool false), .d (.int .i64 0), .d (.str []), .d (.str []), .d (.int .i64 0), .d (.bool false), .d (.int .i64 0), .d (.int .i64 0), .d (.str []), .d (.int .i64 0), .d (.sl aB.ks (List.map aB.enc [])), .d (.bool false), .d (.int .i64 0), .row 0, .row 1, .row 2]] [⟨52, (aE.avs r14.2)⟩] [⟨aF.ks, 47, 32, (List.map aF.enc [])⟩, ⟨[.str], 9, 16, (List.map aV [])⟩, ⟨[.int .i64], 3, 8, (List.map eI [])⟩]))) (
 cond (p1 == 6) (
 γ12 [.ptr 2000000000 0] [⟨52, (aE.avs p0)⟩] [] (fun e17 =>
  (some (.pan (.ifc 49 (aI.av e17))))) fun r16 =>
 (some (.ret [.agg [.d (.int .i64 p1), .d (.int .i64 r16.1), .d (.bool false), .d (.str []), .d (.str []), .d (.int .i64 0), .d (.bool false), .d (.int .i64 0), .d (.int .i64 0), .d (.str []), .d (.int .i64 0), .d (.sl aB.ks (List.map aB.enc [])), .d (.str []), .d (.str []), .d (.bool false), .d (.int .i64 0), .d (.int .i64 0), .d (.int .i64 0), .d (.bool false), .d (.int .i64 0), .d (.str []), .d (.str []), .d (.int .i64 0), .d (.bool false), .d (.int .i64 0), .d (.int .i64 0), .d (.str []), .d (.int .i64 0), .d (.sl aB.ks (List.map aB.enc [])), .d (.bool false), .d (.int .i64 0), .row 0, .row 1, .row 2]] [⟨52, (aE.avs r16.2)⟩] [⟨aF.ks, 47, 32, (List.map aF.enc [])⟩, ⟨[.str], 9, 16, (List.map aV [])⟩, ⟨[.int .i64], 3, 8, (List.map eI [])⟩]))) (
 cond (p1 == 7) (
 γ12 [.ptr 2000000000 0] [⟨52, (aE.avs p0)⟩] [] (fun e19 =>
  (some (.pan (.ifc 49 (aI.av e19))))) fun r18 =>
 (some (.ret [.agg [.d (.int .i64 p1), .d (.int .i64 r18.1), .d (.bool false), .d (.str []), .d (.str []), .d (.int .i64 0), .d (.bool false), .d (.int .i64 0), .d (.int .i64 0), .d (.str []), .d (.int .i64 0), .d (.sl aB.ks (List.map aB.enc [])), .d (.str []), .d (.str []), .d (.bool false), .d (.int .i64 0), .d (.int .i64 0), .d (.int .i64 0), .d (.bool false), .d (.int .i64 0), .d (.str []), .d (.str []), .d (.int .i64 0), .d (.bool false), .d (.int .i64 0), .d (.int .i64 0), .d (.str []), .d (.int .i64 0), .d (.sl aB.ks (List.map aB.enc [])), .d (.bool false), .d (.int .i64 0), .row 0, .row 1, .row 2]] [⟨52, (aE.avs r18.2)⟩] [⟨aF.ks, 47, 32, (List.map aF.enc [])⟩, ⟨[.str], 9, 16, (List.map aV [])⟩, ⟨[.int .i64], 3, 8, (List.map eI [])⟩]))) (
 cond (p1 == 8) (
 γ12 [.ptr 2000000000 0] [⟨52, (aE.avs p0)⟩] [] (fun e21 =>
  (some (.pan (.ifc 49 (aI.av e21))))) fun r20 =>
 γ31 [.ptr 2000000000 0, .agg [.d (.int .i64 p1), .d (.int .i64 r20.1), .d (.bool false), .d (.str []), .d (.str []), .d (.int .i64 0), .d (.bool false), .d (.int .i64 0), .d (.int .i64 0), .d (.str []), .d (.int .i64 0), .d (.sl aB.ks (List.map aB.enc [])), .d (.str []), .d (.str []), .d (.bool false), .d (.int .i64 0), .d (.int .i64 0), .d (.int .i64 0), .d (.bool false), .d (.int .i64 0), .d (.str []), .d (.str []), .d (.int .i64 0), .d (.bool false), .d (.int .i64 0), .d (.int .i64 0), .d (.str []), .d (.int .i64 0), .d (.sl aB.ks (List.map aB.enc [])), .d (.bool false), .d (.int .i64 0), .row 2000000000, .row 2000000001, .row 2000000002]] [⟨52, (aE.avs r20.2)⟩] [⟨aF.ks, 47, 32, (List.map aF.enc [])⟩, ⟨[.str], 9, 16, (List.map aV [])⟩, ⟨[.int .i64], 3, 8, (List.map eI [])⟩] (fun e23 =>
  (some (.pan (.ifc 49 (aI.av e23))))) fun r22 =>
 (some (.ret [.agg [.d (.int .i64 r22.1.Kind), .d (.int .i64 r22.1.ID), .d (.bool r22.1.Dup), .d (.str r22.1.Message.Topic), .d (.str r22.1.Message.Payload), .d (.int .i64 r22.1.Message.Level), .d (.bool r22.1.Message.Retain), .d (.int .i64 r22.1.Message.Priority), .d (.int .i64 r22.1.Message.Expires), .d (.str r22.1.Message.From), .d (.int .i64 r22.1.Message.Seq), .d (.sl aB.ks (List.map aB.enc r22.1.Message.Props)), .d (.str r22.1.Client), .d (.str r22.1.User), .d (.bool r22.1.Clean), .d (.int .i64 r22.1.Keep), .d (.int .i64 r22.1.Expiry), .d (.int .i64 r22.1.Window), .d (.bool r22.1.Will.Set), .d (.int .i64 r22.1.Will.Delay), .d (.str r22.1.Will.Message.Topic), .d (.str r22.1.Will.Message.Payload), .d (.int .i64 r22.1.Will.Message.Level), .d (.bool r22.1.Will.Message.Retain), .d (.int .i64 r22.1.Will.Message.Priority), .d (.int .i64 r22.1.Will.Message.Expires), .d (.str r22.1.Will.Message.From), .d (.int .i64 r22.1.Will.Message.Seq), .d (.sl aB.ks (List.map aB.enc r22.1.Will.Message.Props)), .d (.bool r22.1.Present), .d (.int .i64 r22.1.Code), .row 0, .row 1, .row 2]] [⟨52, (aE.avs r22.2)⟩] [⟨aF.ks, 47, 32, (List.map aF.enc r22.1.Subs)⟩, ⟨[.str], 9, 16, (List.map aV r22.1.Filters)⟩, ⟨[.int .i64], 3, 8, (List.map eI r22.1.Codes)⟩]))) (
 cond (p1 == 9) (
 γ12 [.ptr 2000000000 0] [⟨52, (aE.avs p0)⟩] [] (fun e25 =>
  (some (.pan (.ifc 49 (aI.av e25))))) fun r24 =>
 γ31 [.ptr 2000000000 0, .agg [.d (.int .i64 p1), .d (.int .i64 r24.1), .d (.bool false), .d (.str []), .d (.str []), .d (.int .i64 0), .d (.bool false), .d (.int .i64 0), .d (.int .i64 0), .d (.str []), .d (.int .i64 0), .d (.sl aB.ks (List.map aB.enc [])), .d (.str []), .d (.str []), .d (.bool false), .d (.int .i64 0), .d (.int .i64 0), .d (.int .i64 0), .d (.bool false), .d (.int .i64 0), .d (.str []), .d (.str []), .d (.int .i64 0), .d (.bool false), .d (.int .i64 0), .d (.int .i64 0), .d (.str []), .d (.int .i64 0), .d (.sl aB.ks (List.map aB.enc [])), .d (.bool false), .d (.int .i64 0), .row 2000000000, .row 2000000001, .row 2000000002]] [⟨52, (aE.avs r24.2)⟩] [⟨aF.ks, 47, 32, (List.map aF.enc [])⟩, ⟨[.str], 9, 16, (List.map aV [])⟩, ⟨[.int .i64], 3, 8, (List.map eI [])⟩] (fun e27 =>
  (some (.pan (.ifc 49 (aI.av e27))))) fun r26 =>
 (some (.ret [.agg [.d (.int .i64 r26.1.Kind), .d (.int .i64 r26.1.ID), .d (.bool r26.1.Dup), .d (.str r26.1.Message.Topic), .d (.str r26.1.Message.Payload), .d (.int .i64 r26.1.Message.Level), .d (.bool r26.1.Message.Retain), .d (.int .i64 r26.1.Message.Priority), .d (.int .i64 r26.1.Message.Expires), .d (.str r26.1.Message.From), .d (.int .i64 r26.1.Message.Seq), .d (.sl aB.ks (List.map aB.enc r26.1.Message.Props)), .d (.str r26.1.Client), .d (.str r26.1.User), .d (.bool r26.1.Clean), .d (.int .i64 r26.1.Keep), .d (.int .i64 r26.1.Expiry), .d (.int .i64 r26.1.Window), .d (.bool r26.1.Will.Set), .d (.int .i64 r26.1.Will.Delay), .d (.str r26.1.Will.Message.Topic), .d (.str r26.1.Will.Message.Payload), .d (.int .i64 r26.1.Will.Message.Level), .d (.bool r26.1.Will.Message.Retain), .d (.int .i64 r26.1.Will.Message.Priority), .d (.int .i64 r26.1.Will.Message.Expires), .d (.str r26.1.Will.Message.From), .d (.int .i64 r26.1.Will.Message.Seq), .d (.sl aB.ks (List.map aB.enc r26.1.Will.Message.Props)), .d (.bool r26.1.Present), .d (.int .i64 r26.1.Code), .row 0, .row 1, .row 2]] [⟨52, (aE.avs r26.2)⟩] [⟨aF.ks, 47, 32, (List.map aF.enc r26.1.Subs)⟩, ⟨[.str], 9, 16, (List.map aV r26.1.Filters)⟩, ⟨[.int .i64], 3, 8, (List.map eI r26.1.Codes)⟩]))) (
 cond (p1 == 10) (
 γ12 [.ptr 2000000000 0] [⟨52, (aE.avs p0)⟩] [] (fun e29 =>
  (some (.pan (.ifc 49 (aI.av e29))))) fun r28 =>
 γ31 [.ptr 2000000000 0, .agg [.d (.int .i64 p1), .d (.int .i64 r28.1), .d (.bool false), .d (.str []), .d (.str []), .d (.int .i64 0), .d (.bool false), .d (.int .i64 0), .d (.int .i64 0), .d (.str []), .d (.int .i64 0), .d (.sl aB.ks (List.map aB.enc [])), .d (.str []), .d (.str []), .d (.bool false), .d (.int .i64 0), .d (.int .i64 0), .d (.int .i64 0), .d (.bool false), .d (.int .i64 0), .d (.str []), .d (.str []), .d (.int .i64 0), .d (.bool false), .d (.int .i64 0), .d (.int .i64 0), .d (.str []), .d (.int .i64 0), .d (.sl aB.ks (List.map aB.enc [])), .d (.bool false), .d (.int .i64 0), .row 2000000000, .row 2000000001, .row 2000000002]] [⟨52, (aE.avs r28.2)⟩] [⟨aF.ks, 47, 32, (List.map aF.enc [])⟩, ⟨[.str], 9, 16, (List.map aV [])⟩, ⟨[.int .i64], 3, 8, (List.map eI [])⟩] (fun e31 =>
  (some (.pan (.ifc 49 (aI.av e31))))) fun r30 =>
 (some (.ret [.agg [.d (.int .i64 r30.1.Kind), .d (.int .i64 r30.1.ID), .d (.bool r30.1.Dup), .d (.str r30.1.Message.Topic), .d (.str r30.1.Message.Payload), .d (.int .i64 r30.1.Message.Level), .d (.bool r30.1.Message.Retain), .d (.int .i64 r30.1.Message.Priority), .d (.int .i64 r30.1.Message.Expires), .d (.str r30.1.Message.From), .d (.int .i64 r30.1.Message.Seq), .d (.sl aB.ks (List.map aB.enc r30.1.Message.Props)), .d (.str r30.1.Client), .d (.str r30.1.User), .d (.bool r30.1.Clean), .d (.int .i64 r30.1.Keep), .d (.int .i64 r30.1.Expiry), .d (.int .i64 r30.1.Window), .d (.bool r30.1.Will.Set), .d (.int .i64 r30.1.Will.Delay), .d (.str r30.1.Will.Message.Topic), .d (.str r30.1.Will.Message.Payload), .d (.int .i64 r30.1.Will.Message.Level), .d (.bool r30.1.Will.Message.Retain), .d (.int .i64 r30.1.Will.Message.Priority), .d (.int .i64 r30.1.Will.Message.Expires), .d (.str r30.1.Will.Message.From), .d (.int .i64 r30.1.Will.Message.Seq), .d (.sl aB.ks (List.map aB.enc r30.1.Will.Message.Props)), .d (.bool r30.1.Present), .d (.int .i64 r30.1.Code), .row 0, .row 1, .row 2]] [⟨52, (aE.avs r30.2)⟩] [⟨aF.ks, 47, 32, (List.map aF.enc r30.1.Subs)⟩, ⟨[.str], 9, 16, (List.map aV r30.1.Filters)⟩, ⟨[.int .i64], 3, 8, (List.map eI r30.1.Codes)⟩]))) (
 cond (p1 == 11) (
 γ12 [.ptr 2000000000 0] [⟨52, (aE.avs p0)⟩] [] (fun e33 =>
  (some (.pan (.ifc 49 (aI.av e33))))) fun r32 =>
 γ31 [.ptr 2000000000 0, .agg [.d (.int .i64 p1), .d (.int .i64 r32.1), .d (.bool false), .d (.str []), .d (.str []), .d (.int .i64 0), .d (.bool false), .d (.int .i64 0), .d (.int .i64 0), .d (.str []), .d (.int .i64 0), .d (.sl aB.ks (List.map aB.enc [])), .d (.str []), .d (.str []), .d (.bool false), .d (.int .i64 0), .d (.int .i64 0), .d (.int .i64 0), .d (.bool false), .d (.int .i64 0), .d (.str []), .d (.str []), .d (.int .i64 0), .d (.bool false), .d (.int .i64 0), .d (.int .i64 0), .d (.str []), .d (.int .i64 0), .d (.sl aB.ks (List.map aB.enc [])), .d (.bool false), .d (.int .i64 0), .row 2000000000, .row 2000000001, .row 2000000002]] [⟨52, (aE.avs r32.2)⟩] [⟨aF.ks, 47, 32, (List.map aF.enc [])⟩, ⟨[.str], 9, 16, (List.map aV [])⟩, ⟨[.int .i64], 3, 8, (List.map eI [])⟩] (fun e35 =>
  (some (.pan (.ifc 49 (aI.av e35))))) fun r34 =>
 (some (.ret [.agg [.d (.int .i64 r34.1.Kind), .d (.int .i64 r34.1.ID), .d (.bool r34.1.Dup), .d (.str r34.1.Message.Topic), .d (.str r34.1.Message.Payload), .d (.int .i64 r34.1.Message.Level), .d (.bool r34.1.Message.Retain), .d (.int .i64 r34.1.Message.Priority), .d (.int .i64 r34.1.Message.Expires), .d (.str r34.1.Message.From), .d (.int .i64 r34.1.Message.Seq), .d (.sl aB.ks (List.map aB.enc r34.1.Message.Props)), .d (.str r34.1.Client), .d (.str r34.1.User), .d (.bool r34.1.Clean), .d (.int .i64 r34.1.Keep), .d (.int .i64 r34.1.Expiry), .d (.int .i64 r34.1.Window), .d (.bool r34.1.Will.Set), .d (.int .i64 r34.1.Will.Delay), .d (.str r34.1.Will.Message.Topic), .d (.str r34.1.Will.Message.Payload), .d (.int .i64 r34.1.Will.Message.Level), .d (.bool r34.1.Will.Message.Retain), .d (.int .i64 r34.1.Will.Message.Priority), .d (.int .i64 r34.1.Will.Message.Expires), .d (.str r34.1.Will.Message.From), .d (.int .i64 r34.1.Will.Message.Seq), .d (.sl aB.ks (List.map aB.enc r34.1.Will.Message.Props)), .d (.bool r34.1.Present), .d (.int .i64 r34.1.Code), .row 0, .row 1, .row 2]] [⟨52, (aE.avs r34.2)⟩] [⟨aF.ks, 47, 32, (List.map aF.enc r34.1.Subs)⟩, ⟨[.str], 9, 16, (List.map aV r34.1.Filters)⟩, ⟨[.int .i64], 3, 8, (List.map eI r34.1.Codes)⟩]))) (
 cond (p1 == 14) (
 γ12 [.ptr 2000000000 0] [⟨52, (aE.avs p0)⟩] [] (fun e37 =>
  (some (.pan (.ifc 49 (aI.av e37))))) fun r36 =>
 (some (.ret [.agg [.d (.int .i64 p1), .d (.int .i64 0), .d (.bool false), .d (.str []), .d (.str []), .d (.int .i64 0), .d (.bool false), .d (.int .i64 0), .d (.int .i64 0), .d (.str []), .d (.int .i64 0), .d (.sl aB.ks (List.map aB.enc [])), .d (.str []), .d (.str []), .d (.bool false), .d (.int .i64 0), .d (.int .i64 0), .d (.int .i64 0), .d (.bool false), .d (.int .i64 0), .d (.str []), .d (.str []), .d (.int .i64 0), .d (.bool false), .d (.int .i64 0), .d (.int .i64 0), .d (.str []), .d (.int .i64 0), .d (.sl aB.ks (List.map aB.enc [])), .d (.bool false), .d (.int .i64 r36.1), .row 0, .row 1, .row 2]] [⟨52, (aE.avs r36.2)⟩] [⟨aF.ks, 47, 32, (List.map aF.enc [])⟩, ⟨[.str], 9, 16, (List.map aV [])⟩, ⟨[.int .i64], 3, 8, (List.map eI [])⟩]))) (
 (some (.ret [.agg [.d (.int .i64 p1), .d (.int .i64 0), .d (.bool false), .d (.str []), .d (.str []), .d (.int .i64 0), .d (.bool false), .d (.int .i64 0), .d (.int .i64 0), .d (.str []), .d (.int .i64 0), .d (.sl aB.ks (List.map aB.enc [])), .d (.str []), .d (.str []), .d (.bool false), .d (.int .i64 0), .d (.int .i64 0), .d (.int .i64 0), .d (.bool false), .d (.int .i64 0), .d (.str []), .d (.str []), .d (.int .i64 0), .d (.bool false), .d (.int .i64 0), .d (.int .i64 0), .d (.str []), .d (.int .i64 0), .d (.sl aB.ks (List.map aB.enc [])), .d (.bool false), .d (.int .i64 0), .row 0, .row 1, .row 2]] [⟨52, (aE.avs p0)⟩] [⟨aF.ks, 47, 32, (List.map aF.enc [])⟩, ⟨[.str], 9, 16, (List.map aV [])⟩, ⟨[.int .i64], 3, 8, (List.map eI [])⟩])))))))))))))) := by kernel_rfl
end
abbrev X14 : aS := C14 gG (cP 28 eJ) (cP 29 cC) (cP 12 bQ) (cP 30 cM) (cP 31 dS)
theorem asj : X14 = aR gG := by unfold X14 C14; rw [dD fun _ h => h, dD fun _ h => h, dD fun _ h => h, dD fun _ h => h, dD fun _ h => h]
theorem pC (p0 : aE) (p1 : Int) : Le (Option.map eS (dV p0 p1)) (bE SE 14 [.ptr 2000000000 0, .d (.int .i64 p1)] [⟨52, (aE.avs p0)⟩] []) := by
 refine bB asj rfl ?_
 refine Le.trans ?_ (le_of_eq (T14 ..).symm)
 unfold dV
 refine lC ?_ ?_
 ·refine bJ (good := good) eX vK (vU _) (fun e1 _ => ?_) (fun r0 _ => ?_)
  ·exact aG rfl
  ·exact aG rfl
 ·refine lC ?_ ?_
  ·refine bJ (good := good) eX gH (gQ _ _) (fun e3 _ => ?_) (fun r2 _ => ?_)
   ·exact aG rfl
   ·refine bJ (good := good) eX bC (bG _) (fun e5 _ => ?_) (fun r4 _ => ?_)
    ·exact aG rfl
    ·exact aG rfl
  ·refine lC ?_ ?_
   ·refine bJ (good := good) eX bC (bG _) (fun e7 _ => ?_) (fun r6 _ => ?_)
    ·exact aG rfl
    ·refine bJ (good := good) eX gH (gQ _ _) (fun e9 _ => ?_) (fun r8 _ => ?_)
     ·exact aG rfl
     ·refine bJ (good := good) eX nS (oP _) (fun e11 _ => ?_) (fun r10 _ => ?_)
      ·exact aG rfl
      ·exact aG rfl
   ·refine lC ?_ ?_
    ·refine bJ (good := good) eX bC (bG _) (fun e13 _ => ?_) (fun r12 _ => ?_)
     ·exact aG rfl
     ·exact aG rfl
    ·refine lC ?_ ?_
     ·refine bJ (good := good) eX bC (bG _) (fun e15 _ => ?_) (fun r14 _ => ?_)
      ·exact aG rfl
      ·exact aG rfl
     ·refine lC ?_ ?_
      ·refine bJ (good := good) eX bC (bG _) (fun e17 _ => ?_) (fun r16 _ => ?_)
       ·exact aG rfl
       ·exact aG rfl
      ·refine lC ?_ ?_
       ·refine bJ (good := good) eX bC (bG _) (fun e19 _ => ?_) (fun r18 _ => ?_)
        ·exact aG rfl
        ·exact aG rfl
       ·refine lC ?_ ?_
        ·refine bJ (good := good) eX bC (bG _) (fun e21 _ => ?_) (fun r20 _ => ?_)
         ·exact aG rfl
         ·refine bJ (good := good) eX iN (by (try simp only [EN]); exact jB r20.2 ((aA.mk p1 r20.1 false (aC.mk [] [] 0 false 0 0 [] 0 []) [] [] false 0 0 0 (aP.mk false 0 (aC.mk [] [] 0 false 0 0 [] 0 [])) false 0 [] [] []))) (fun e23 _ => ?_) (fun r22 _ => ?_)
          ·exact aG rfl
          ·exact aG rfl
        ·refine lC ?_ ?_
         ·refine bJ (good := good) eX bC (bG _) (fun e25 _ => ?_) (fun r24 _ => ?_)
          ·exact aG rfl
          ·refine bJ (good := good) eX iN (by (try simp only [EN]); exact jB r24.2 ((aA.mk p1 r24.1 false (aC.mk [] [] 0 false 0 0 [] 0 []) [] [] false 0 0 0 (aP.mk false 0 (aC.mk [] [] 0 false 0 0 [] 0 [])) false 0 [] [] []))) (fun e27 _ => ?_) (fun r26 _ => ?_)
           ·exact aG rfl
           ·exact aG rfl
         ·refine lC ?_ ?_
          ·refine bJ (good := good) eX bC (bG _) (fun e29 _ => ?_) (fun r28 _ => ?_)
           ·exact aG rfl
           ·refine bJ (good := good) eX iN (by (try simp only [EN]); exact jB r28.2 ((aA.mk p1 r28.1 false (aC.mk [] [] 0 false 0 0 [] 0 []) [] [] false 0 0 0 (aP.mk false 0 (aC.mk [] [] 0 false 0 0 [] 0 [])) false 0 [] [] []))) (fun e31 _ => ?_) (fun r30 _ => ?_)
            ·exact aG rfl
            ·exact aG rfl
          ·refine lC ?_ ?_
           ·refine bJ (good := good) eX bC (bG _) (fun e33 _ => ?_) (fun r32 _ => ?_)
            ·exact aG rfl
            ·refine bJ (good := good) eX iN (by (try simp only [EN]); exact jB r32.2 ((aA.mk p1 r32.1 false (aC.mk [] [] 0 false 0 0 [] 0 []) [] [] false 0 0 0 (aP.mk false 0 (aC.mk [] [] 0 false 0 0 [] 0 [])) false 0 [] [] []))) (fun e35 _ => ?_) (fun r34 _ => ?_)
             ·exact aG rfl
             ·exact aG rfl
           ·refine lC ?_ ?_
            ·refine bJ (good := good) eX bC (bG _) (fun e37 _ => ?_) (fun r36 _ => ?_)
             ·exact aG rfl
             ·exact aG rfl
            ·exact aG rfl
section
variable (Γ : Fun) (γ12 : Gp aI (Int × aE)) (γ13 : Gp aI (Unit)) (γ14 : Gp aI (aA × aE)) (γ15 : Gm (Int)) (Λ2 J : Lam)
def C5 : aS := bM (jL (jL (jL (aR Γ) 12 bQ γ12) 13 eA γ13) 14 eS γ14) 15 aJ γ15
theorem T5 (p0 : List Int) : acE SE (C5 Γ γ12 γ13 γ14 γ15) 5 gd5 [.d (.sl [.int .u8] (List.map (aN .u8) p0))] [] [] =
 cond (decide ((lM (aN .u8) p0 : Int) > 4096)) (
 (some (.ret [.agg [.d (.int .i64 0), .d (.int .i64 0), .d (.bool false), .d (.str []), .d (.str []), .d (.int .i64 0), .d (.bool false), .d (.int .i64 0), .d (.int .i64 0), .d (.str []), .d (.int .i64 0), .d (.sl aB.ks (List.map aB.enc [])), .d (.str []), .d (.str []), .d (.bool false), .d (.int .i64 0), .d (.int .i64 0), .d (.int .i64 0), .d (.bool false), .d (.int .i64 0), .d (.str []), .d (.str []), .d (.int .i64 0), .d (.bool false), .d (.int .i64 0), .d (.int .i64 0), .d (.str []), .d (.int .i64 0), .d (.sl aB.ks (List.map aB.enc [])), .d (.bool false), .d (.int .i64 0), .row 0, .row 1, .row 2], .d (.int .i64 5)] [] [⟨aF.ks, 47, 32, (List.map aF.enc [])⟩, ⟨[.str], 9, 16, (List.map aV [])⟩, ⟨[.int .i64], 3, 8, (List.map eI [])⟩]))) (
 γ12 [.ptr 2000000000 0] [⟨52, (aE.avs (aE.mk p0 0))⟩] [] (fun e1 =>
 (some (.ret [.agg [.d (.int .i64 0), .d (.int .i64 0), .d (.bool false), .d (.str []), .d (.str []), .d (.int .i64 0), .d (.bool false), .d (.int .i64 0), .d (.int .i64 0), .d (.str []), .d (.int .i64 0), .d (.sl aB.ks (List.map aB.enc [])), .d (.str []), .d (.str []), .d (.bool false), .d (.int .i64 0), .d (.int .i64 0), .d (.int .i64 0), .d (.bool false), .d (.int .i64 0), .d (.str []), .d (.str []), .d (.int .i64 0), .d (.bool false), .d (.int .i64 0), .d (.int .i64 0), .d (.str []), .d (.int .i64 0), .d (.sl aB.ks (List.map aB.enc [])), .d (.bool false), .d (.int .i64 0), .row 0, .row 1, .row 2], .d (.int .i64 e1.code)] [] [⟨aF.ks, 47, 32, (List.map aF.enc [])⟩, ⟨[.str], 9, 16, (List.map aV [])⟩, ⟨[.int .i64], 3, 8, (List.map eI [])⟩]))) fun r0 =>
 cond (decide (r0.1 < 1)) (
 γ13 [.d (.bool true), .d (.int .i64 10)] [] [] (fun e3 =>
  (some (.ret [.agg [.d (.int .i64 0), .d (.int .i64 0), .d (.bool false), .d (.str []), .d (.str []), .d (.int .i64 0), .d (.bool false), .d (.int .i64 0), .d (.int .i64 0), .d (.str []), .d (.int .i64 0), .d (.sl aB.ks (List.map aB.enc [])), .d (.str []), .d (.str []), .d (.bool false), .d (.int .i64 0), .d (.int .i64 0), .d (.int .i64 0), .d (.bool false), .d (.int .i64 0), .d (.str []), .d (.str []), .d (.int .i64 0), .d (.bool false), .d (.int .i64 0), .d (.int .i64 0), .d (.str []), .d (.int .i64 0), .d (.sl aB.ks (List.map aB.enc [])), .d (.bool false), .d (.int .i64 0), .row 0, .row 1, .row 2], .d (.int .i64 e3.code)] [] [⟨aF.ks, 47, 32, (List.map aF.enc [])⟩, ⟨[.str], 9, 16, (List.map aV [])⟩, ⟨[.int .i64], 3, 8, (List.map eI [])⟩]))) fun r2 =>
 γ14 [.ptr 2000000000 0, .d (.int .i64 r0.1)] [⟨52, (aE.avs r0.2)⟩] [] (fun e5 =>
  (some (.ret [.agg [.d (.int .i64 0), .d (.int .i64 0), .d (.bool false), .d (.str []), .d (.str []), .d (.int .i64 0), .d (.bool false), .d (.int .i64 0), .d (.int .i64 0), .d (.str []), .d (.int .i64 0), .d (.sl aB.ks (List.map aB.enc [])), .d (.str []), .d (.str []), .d (.bool false), .d (.int .i64 0), .d (.int .i64 0), .d (.int .i64 0), .d (.bool false), .d (.int .i64 0), .d (.str []), .d (.str []), .d (.int .i64 0), .d (.bool false), .d (.int .i64 0), .d (.int .i64 0), .d (.str []), .d (.int .i64 0), .d (.sl aB.ks (List.map aB.enc [])), .d (.bool false), .d (.int .i64 0), .row 0, .row 1, .row 2], .d (.int .i64 e5.code)] [] [⟨aF.ks, 47, 32, (List.map aF.enc [])⟩, ⟨[.str], 9, 16, (List.map aV [])⟩, ⟨[.int .i64], 3, 8, (List.map eI [])⟩]))) fun r4 =>
 γ13 [.d (.bool (decide (r4.2.at_ < (lM (aN .u8) p0 : Int)))), .d (.int .i64 2)] [] [] (fun e7 =>
  (some (.ret [.agg [.d (.int .i64 0), .d (.int .i64 0), .d (.bool false), .d (.str []), .d (.str []), .d (.int .i64 0), .d (.bool false), .d (.int .i64 0), .d (.int .i64 0), .d (.str []), .d (.int .i64 0), .d (.sl aB.ks (List.map aB.enc [])), .d (.str []), .d (.str []), .d (.bool false), .d (.int .i64 0), .d (.int .i64 0), .d (.int .i64 0), .d (.bool false), .d (.int .i64 0), .d (.str []), .d (.str []), .d (.int .i64 0), .d (.bool false), .d (.int .i64 0), .d (.int .i64 0), .d (.str []), .d (.int .i64 0), .d (.sl aB.ks (List.map aB.enc [])), .d (.bool false), .d (.int .i64 0), .row 0, .row 1, .row 2], .d (.int .i64 e7.code)] [] [⟨aF.ks, 47, 32, (List.map aF.enc [])⟩, ⟨[.str], 9, 16, (List.map aV [])⟩, ⟨[.int .i64], 3, 8, (List.map eI [])⟩]))) fun r6 =>
 γ15 [aA.av r4.1] [] [] fun r8 =>
 γ13 [.d (.bool (r8 != 0)), .d (.int .i64 r8)] [] [] (fun e10 =>
  (some (.ret [.agg [.d (.int .i64 0), .d (.int .i64 0), .d (.bool false), .d (.str []), .d (.str []), .d (.int .i64 0), .d (.bool false), .d (.int .i64 0), .d (.int .i64 0), .d (.str []), .d (.int .i64 0), .d (.sl aB.ks (List.map aB.enc [])), .d (.str []), .d (.str []), .d (.bool false), .d (.int .i64 0), .d (.int .i64 0), .d (.int .i64 0), .d (.bool false), .d (.int .i64 0), .d (.str []), .d (.str []), .d (.int .i64 0), .d (.bool false), .d (.int .i64 0), .d (.int .i64 0), .d (.str []), .d (.int .i64 0), .d (.sl aB.ks (List.map aB.enc [])), .d (.bool false), .d (.int .i64 0), .row 0, .row 1, .row 2], .d (.int .i64 e10.code)] [] [⟨aF.ks, 47, 32, (List.map aF.enc [])⟩, ⟨[.str], 9, 16, (List.map aV [])⟩, ⟨[.int .i64], 3, 8, (List.map eI [])⟩]))) fun r9 =>
 (some (.ret [.agg [.d (.int .i64 r4.1.Kind), .d (.int .i64 r4.1.ID), .d (.bool r4.1.Dup), .d (.str r4.1.Message.Topic), .d (.str r4.1.Message.Payload), .d (.int .i64 r4.1.Message.Level), .d (.bool r4.1.Message.Retain), .d (.int .i64 r4.1.Message.Priority), .d (.int .i64 r4.1.Message.Expires), .d (.str r4.1.Message.From), .d (.int .i64 r4.1.Message.Seq), .d (.sl aB.ks (List.map aB.enc r4.1.Message.Props)), .d (.str r4.1.Client), .d (.str r4.1.User), .d (.bool r4.1.Clean), .d (.int .i64 r4.1.Keep), .d (.int .i64 r4.1.Expiry), .d (.int .i64 r4.1.Window), .d (.bool r4.1.Will.Set), .d (.int .i64 r4.1.Will.Delay), .d (.str r4.1.Will.Message.Topic), .d (.str r4.1.Will.Message.Payload), .d (.int .i64 r4.1.Will.Message.Level), .d (.bool r4.1.Will.Message.Retain), .d (.int .i64 r4.1.Will.Message.Priority), .d (.int .i64 r4.1.Will.Message.Expires), .d (.str r4.1.Will.Message.From), .d (.int .i64 r4.1.Will.Message.Seq), .d (.sl aB.ks (List.map aB.enc r4.1.Will.Message.Props)), .d (.bool r4.1.Present), .d (.int .i64 r4.1.Code), .row 0, .row 1, .row 2], .d (.int .i64 0)] [] [⟨aF.ks, 47, 32, (List.map aF.enc r4.1.Subs)⟩, ⟨[.str], 9, 16, (List.map aV r4.1.Filters)⟩, ⟨[.int .i64], 3, 8, (List.map eI r4.1.Codes)⟩]))) (
 γ13 [.d (.bool (decide (r0.1 > 14))), .d (.int .i64 10)] [] [] (fun e12 =>
 (some (.ret [.agg [.d (.int .i64 0), .d (.int .i64 0), .d (.bool false), .d (.str []), .d (.str []), .d (.int .i64 0), .d (.bool false), .d (.int .i64 0), .d (.int .i64 0), .d (.str []), .d (.int .i64 0), .d (.sl aB.ks (List.map aB.enc [])), .d (.str []), .d (.str []), .d (.bool false), .d (.int .i64 0), .d (.int .i64 0), .d (.int .i64 0), .d (.bool false), .d (.int .i64 0), .d (.str []), .d (.str []), .d (.int .i64 0), .d (.bool false), .d (.int .i64 0), .d (.int .i64 0), .d (.str []), .d (.int .i64 0), .d (.sl aB.ks (List.map aB.enc [])), .d (.bool false), .d (.int .i64 0), .row 0, .row 1, .row 2], .d (.int .i64 e12.code)] [] [⟨aF.ks, 47, 32, (List.map aF.enc [])⟩, ⟨[.str], 9, 16, (List.map aV [])⟩, ⟨[.int .i64], 3, 8, (List.map eI [])⟩]))) fun r11 =>
 γ14 [.ptr 2000000000 0, .d (.int .i64 r0.1)] [⟨52, (aE.avs r0.2)⟩] [] (fun e14 =>
 (some (.ret [.agg [.d (.int .i64 0), .d (.int .i64 0), .d (.bool false), .d (.str []), .d (.str []), .d (.int .i64 0), .d (.bool false), .d (.int .i64 0), .d (.int .i64 0), .d (.str []), .d (.int .i64 0), .d (.sl aB.ks (List.map aB.enc [])), .d (.str []), .d (.str []), .d (.bool false), .d (.int .i64 0), .d (.int .i64 0), .d (.int .i64 0), .d (.bool false), .d (.int .i64 0), .d (.str []), .d (.str []), .d (.int .i64 0), .d (.bool false), .d (.int .i64 0), .d (.int .i64 0), .d (.str []), .d (.int .i64 0), .d (.sl aB.ks (List.map aB.enc [])), .d (.bool false), .d (.int .i64 0), .row 0, .row 1, .row 2], .d (.int .i64 e14.code)] [] [⟨aF.ks, 47, 32, (List.map aF.enc [])⟩, ⟨[.str], 9, 16, (List.map aV [])⟩, ⟨[.int .i64], 3, 8, (List.map eI [])⟩]))) fun r13 =>
 γ13 [.d (.bool (decide (r13.2.at_ < (lM (aN .u8) p0 : Int)))), .d (.int .i64 2)] [] [] (fun e16 =>
 (some (.ret [.agg [.d (.int .i64 0), .d (.int .i64 0), .d (.bool false), .d (.str []), .d (.str []), .d (.int .i64 0), .d (.bool false), .d (.int .i64 0), .d (.int .i64 0), .d (.str []), .d (.int .i64 0), .d (.sl aB.ks (List.map aB.enc [])), .d (.str []), .d (.str []), .d (.bool false), .d (.int .i64 0), .d (.int .i64 0), .d (.int .i64 0), .d (.bool false), .d (.int .i64 0), .d (.str []), .d (.str []), .d (.int .i64 0), .d (.bool false), .d (.int .i64 0), .d (.int .i64 0), .d (.str []), .d (.int .i64 0), .d (.sl aB.ks (List.map aB.enc [])), .d (.bool false), .d (.int .i64 0), .row 0, .row 1, .row 2], .d (.int .i64 e16.code)] [] [⟨aF.ks, 47, 32, (List.map aF.enc [])⟩, ⟨[.str], 9, 16, (List.map aV [])⟩, ⟨[.int .i64], 3, 8, (List.map eI [])⟩]))) fun r15 =>
 γ15 [aA.av r13.1] [] [] fun r17 =>
 γ13 [.d (.bool (r17 != 0)), .d (.int .i64 r17)] [] [] (fun e19 =>
 (some (.ret [.agg [.d (.int .i64 0), .d (.int .i64 0), .d (.bool false), .d (.str []), .d (.str []), .d (.int .i64 0), .d (.bool false), .d (.int .i64 0), .d (.int .i64 0), .d (.str []), .d (.int .i64 0), .d (.sl aB.ks (List.map aB.enc [])), .d (.str []), .d (.str []), .d (.bool false), .d (.int .i64 0), .d (.int .i64 0), .d (.int .i64 0), .d (.bool false), .d (.int .i64 0), .d (.str []), .d (.str []), .d (.int .i64 0), .d (.bool false), .d (.int .i64 0), .d (.int .i64 0), .d (.str []), .d (.int .i64 0), .d (.sl aB.ks (List.map aB.enc [])), .d (.bool false), .d (.int .i64 0), .row 0, .row 1, .row 2], .d (.int .i64 e19.code)] [] [⟨aF.ks, 47, 32, (List.map aF.enc [])⟩, ⟨[.str], 9, 16, (List.map aV [])⟩, ⟨[.int .i64], 3, 8, (List.map eI [])⟩]))) fun r18 =>
 (some (.ret [.agg [.d (.int .i64 r13.1.Kind), .d (.int .i64 r13.1.ID), .d (.bool r13.1.Dup), .d (.str r13.1.Message.Topic), .d (.str r13.1.Message.Payload), .d (.int .i64 r13.1.Message.Level), .d (.bool r13.1.Message.Retain), .d (.int .i64 r13.1.Message.Priority), .d (.int .i64 r13.1.Message.Expires), .d (.str r13.1.Message.From), .d (.int .i64 r13.1.Message.Seq), .d (.sl aB.ks (List.map aB.enc r13.1.Message.Props)), .d (.str r13.1.Client), .d (.str r13.1.User), .d (.bool r13.1.Clean), .d (.int .i64 r13.1.Keep), .d (.int .i64 r13.1.Expiry), .d (.int .i64 r13.1.Window), .d (.bool r13.1.Will.Set), .d (.int .i64 r13.1.Will.Delay), .d (.str r13.1.Will.Message.Topic), .d (.str r13.1.Will.Message.Payload), .d (.int .i64 r13.1.Will.Message.Level), .d (.bool r13.1.Will.Message.Retain), .d (.int .i64 r13.1.Will.Message.Priority), .d (.int .i64 r13.1.Will.Message.Expires), .d (.str r13.1.Will.Message.From), .d (.int .i64 r13.1.Will.Message.Seq), .d (.sl aB.ks (List.map aB.enc r13.1.Will.Message.Props)), .d (.bool r13.1.Present), .d (.int .i64 r13.1.Code), .row 0, .row 1, .row 2], .d (.int .i64 0)] [] [⟨aF.ks, 47, 32, (List.map aF.enc r13.1.Subs)⟩, ⟨[.str], 9, 16, (List.map aV r13.1.Filters)⟩, ⟨[.int .i64], 3, 8, (List.map eI r13.1.Codes)⟩])))) := by kernel_rfl
end
abbrev X5 : aS := C5 gG (cP 12 bQ) (cP 13 eA) (cP 14 eS) (cT 15 aJ)
theorem Cr5 : X5 = aR gG := by unfold X5 C5; rw [dD fun _ h => h, dD fun _ h => h, dD fun _ h => h, bP fun _ h => h]
theorem uA (p0 : List Int) : Le (Option.map fK (iQ p0)) (bE SE 5 [.d (.sl [.int .u8] (List.map (aN .u8) p0))] [] []) := by
 refine alH Cr5 rfl ?_
 refine Le.trans ?_ (le_of_eq (T5 ..).symm)
 unfold iQ
 refine lD (by simp only [EN]) ?_ ?_
 ·exact aG rfl
 ·refine bJ (good := good) eX bC (bG _) (fun e1 _ => ?_) (fun r0 _ => ?_)
  ·exact aG rfl
  ·refine lC ?_ ?_
   ·refine bJ (good := good) eX fD (fS _ _) (fun e3 _ => ?_) (fun r2 _ => ?_)
    ·exact aG rfl
    ·refine bJ (good := good) eX oO (pC _ _) (fun e5 _ => ?_) (fun r4 _ => ?_)
     ·exact aG rfl
     ·refine bJ (good := good) eX fD (by (try simp only [EN]); exact fS (decide (r4.2.at_ < (List.length p0 : Int))) 2) (fun e7 _ => ?_) (fun r6 _ => ?_)
      ·exact aG rfl
      ·refine lQ eX bA (sT _) fun r8 _ => ?_
       refine bJ (good := good) eX fD (fS _ _) (fun e10 _ => ?_) (fun r9 _ => ?_)
       ·exact aG rfl
       ·exact aG rfl
   ·refine bJ (good := good) eX fD (fS _ _) (fun e12 _ => ?_) (fun r11 _ => ?_)
    ·exact aG rfl
    ·refine bJ (good := good) eX oO (pC _ _) (fun e14 _ => ?_) (fun r13 _ => ?_)
     ·exact aG rfl
     ·refine bJ (good := good) eX fD (by (try simp only [EN]); exact fS (decide (r13.2.at_ < (List.length p0 : Int))) 2) (fun e16 _ => ?_) (fun r15 _ => ?_)
      ·exact aG rfl
      ·refine lQ eX bA (sT _) fun r17 _ => ?_
       refine bJ (good := good) eX fD (fS _ _) (fun e19 _ => ?_) (fun r18 _ => ?_)
       ·exact aG rfl
       ·exact aG rfl
def amu (C : aS) (Λ2 J : Lam) (a0 : List (List D)) (a1 a2 : Int) (a3 : List (List D)) : Res := lab SE C Λ2 J 9 0 [1, 1, 0, 1, 0] (bN [(4, .row 3004), (9, .d (.sl aA.ks a0)), (10, .d (.int .i64 a1)), (11, .d (.int .i64 a2))] [] [] [] [(3004, ⟨[.int .u8], 5, 1, a3⟩)])
section
variable (Γ : Fun) (γ6 : Gm ((List Int) × Int)) (γ16 : Gm ((List Int))) (Λ2 J : Lam)
def C9 : aS := bM (bM (aR Γ) 6 cH γ6) 16 aQ γ16
theorem T9 (p0 : List aA) : bV SE (C9 Γ γ6 γ16) Λ2 J 9 [.d (.sl aA.ks (List.map aA.enc p0))] [] [] =
 amu (C9 Γ γ6 γ16) Λ2 J (List.map aA.enc p0) (lM aA.enc p0 : Int) 0 (List.map (aN .u8) []) := by kernel_rfl
theorem asU (x9 : List aA) (x10 x11 : Int) (w3004 : List Int) : dY SE (C9 Γ γ6 γ16) Λ2 J 9 0 [1, 1, 0, 1, 0] (bN [(4, .row 3004), (9, .d (.sl aA.ks (List.map aA.enc x9))), (10, .d (.int .i64 x10)), (11, .d (.int .i64 x11))] [] [] [] [(3004, ⟨[.int .u8], 5, 1, (List.map (aN .u8) w3004)⟩)]) =
 cond (decide (x11 < x10)) (
 cond (iB x11 (lM aA.enc x9 : Int)) (
  γ6 [.agg [.d (.int .i64 (aY (cE aA.enc x9 x11 0))), .d (.int .i64 (aY (cE aA.enc x9 x11 1))), .d (.bool (bZ (cE aA.enc x9 x11 2))), .d (.str (bT (cE aA.enc x9 x11 3))), .d (.str (bT (cE aA.enc x9 x11 4))), .d (.int .i64 (aY (cE aA.enc x9 x11 5))), .d (.bool (bZ (cE aA.enc x9 x11 6))), .d (.int .i64 (aY (cE aA.enc x9 x11 7))), .d (.int .i64 (aY (cE aA.enc x9 x11 8))), .d (.str (bT (cE aA.enc x9 x11 9))), .d (.int .i64 (aY (cE aA.enc x9 x11 10))), .d (.sl aB.ks (dSl (cE aA.enc x9 x11 11))), .d (.str (bT (cE aA.enc x9 x11 12))), .d (.str (bT (cE aA.enc x9 x11 13))), .d (.bool (bZ (cE aA.enc x9 x11 14))), .d (.int .i64 (aY (cE aA.enc x9 x11 15))), .d (.int .i64 (aY (cE aA.enc x9 x11 16))), .d (.int .i64 (aY (cE aA.enc x9 x11 17))), .d (.bool (bZ (cE aA.enc x9 x11 18))), .d (.int .i64 (aY (cE aA.enc x9 x11 19))), .d (.str (bT (cE aA.enc x9 x11 20))), .d (.str (bT (cE aA.enc x9 x11 21))), .d (.int .i64 (aY (cE aA.enc x9 x11 22))), .d (.bool (bZ (cE aA.enc x9 x11 23))), .d (.int .i64 (aY (cE aA.enc x9 x11 24))), .d (.int .i64 (aY (cE aA.enc x9 x11 25))), .d (.str (bT (cE aA.enc x9 x11 26))), .d (.int .i64 (aY (cE aA.enc x9 x11 27))), .d (.sl aB.ks (dSl (cE aA.enc x9 x11 28))), .d (.bool (bZ (cE aA.enc x9 x11 29))), .d (.int .i64 (aY (cE aA.enc x9 x11 30))), .d (.sl aF.ks (dSl (cE aA.enc x9 x11 31))), .d (.sl [.str] (dSl (cE aA.enc x9 x11 32))), .d (.sl [.int .i64] (dSl (cE aA.enc x9 x11 33)))]] [] [] fun r0 =>
  cond (r0.2 != 0) (
  (some (.ret [.row 0, .d (.int .i64 r0.2)] [] [⟨[.int .u8], 5, 1, []⟩]))) (
  γ16 [.d (.sl [.int .u8] (List.map (aN .u8) w3004)), .d (.int .i64 (lM (aN .u8) r0.1 : Int))] [] [] fun r1 =>
  cond (decide ((lM (aN .u8) r1 + lM (aN .u8) r0.1) * 1 ≤ 140737488355328)) (
  amu (C9 Γ γ6 γ16) Λ2 J (List.map aA.enc x9) x10 (w6 (x11 + 1)) (((List.map (aN .u8) r1) ++ (List.map (aN .u8) r0.1)))) none)) none) (
 (some (.ret [.row 0, .d (.int .i64 0)] [] [⟨[.int .u8], 5, 1, (List.map (aN .u8) w3004)⟩]))) := by kernel_rfl
end
abbrev X9 : aS := C9 gG (cT 6 cH) (cT 16 aQ)
theorem Cr9 : X9 = aR gG := by unfold X9 C9; repeat rw [bP fun _ h => h]
abbrev asC := amu X9 (dM SE gG (SE.hl 9) (SE.hr 9)) (J0 SE X9)
theorem abF : ∀ (fu : Nat) (x9 : List aA) (x10 x11 : Int) (w3004 : List Int), Le (Option.map cH (eN fu x9 x10 x11 w3004)) (asC (List.map aA.enc x9) x10 x11 (List.map (aN .u8) w3004)) := by
 intro fu
 induction fu with
 | zero => intros; exact le_none
 | succ fu ih =>
  intro x9 x10 x11 w3004
  refine Le.trans ?_ (le_of_eq ((bU Cr9).trans (asU ..)).symm)
  unfold eN
  refine lC ?_ ?_
  ·refine lG (by simp only [EN]) ?_
   refine lQ eX mQ (by (try simp only [EN]); exact uE (List.getD x9 (Int.toNat x11) default)) fun r0 _ => ?_
   refine lC ?_ ?_
   ·exact aG rfl
   ·refine lQ eX aW (by (try simp only [EN]); exact bR w3004 (List.length r0.1 : Int)) fun r1 _ => ?_
    refine lG (by simp only [EN]) ?_
    (try simp only [EN]); exact ih x9 x10 (w6 (x11 + 1)) (r1 ++ r0.1)
  ·exact aG rfl
theorem wC (p0 : List aA) : Le (Option.map cH (iL p0)) (bE SE 9 [.d (.sl aA.ks (List.map aA.enc p0))] [] []) := by
 refine bB Cr9 rfl ?_
 refine Le.trans ?_ (le_of_eq (T9 ..).symm)
 unfold iL
 (try simp only [EN]); exact abF fuel p0 (List.length p0 : Int) 0 []
def amS (C : aS) (Λ2 J : Lam) (a0 : List (List D)) (a1 : Int) (a2 : List (List D)) : Res := lab SE C Λ2 J 8 0 [1, 1, 1, 0, 0] (bN [(0, .d (.sl [.int .u8] a0)), (4, .row 3004), (5, .d (.int .i64 a1))] [] [] [] [(3004, ⟨aA.ks, 33, 416, a2⟩)])
section
variable (Γ : Fun) (γ22 : Gm (Int × Int × Int)) (γ5 : Gm (aA × Int)) (Λ2 J : Lam)
def C8 : aS := bM (bM (aR Γ) 22 eY γ22) 5 fK γ5
theorem T8 (p0 : List Int) : bV SE (C8 Γ γ22 γ5) Λ2 J 8 [.d (.sl [.int .u8] (List.map (aN .u8) p0))] [] [] =
 amS (C8 Γ γ22 γ5) Λ2 J (List.map (aN .u8) p0) 0 (List.map aA.enc []) := by kernel_rfl
theorem asS (x0 : List Int) (x5 : Int) (w3004 : List aA) : dY SE (C8 Γ γ22 γ5) Λ2 J 8 0 [1, 1, 1, 0, 0] (bN [(0, .d (.sl [.int .u8] (List.map (aN .u8) x0))), (4, .row 3004), (5, .d (.int .i64 x5))] [] [] [] [(3004, ⟨aA.ks, 33, 416, (List.map aA.enc w3004)⟩)]) =
 cond (decide (x5 < (lM (aN .u8) x0 : Int))) (
 γ22 [.d (.sl [.int .u8] (List.map (aN .u8) x0)), .d (.int .i64 x5)] [] [] fun r0 =>
 cond (r0.2.2 != 0) (
  (some (.ret [.row 0, .d (.int .i64 r0.2.2)] [] [⟨aA.ks, 33, 416, []⟩]))) (
 cond (decide (r0.1 < 0)) (
  (some (.ret [.row 0, .d (.int .i64 2)] [] [⟨aA.ks, 33, 416, []⟩]))) (
 cond (decide (r0.1 > 4096)) (
  (some (.ret [.row 0, .d (.int .i64 5)] [] [⟨aA.ks, 33, 416, []⟩]))) (
 cond (decide (r0.1 > (w6 ((lM (aN .u8) x0 : Int) - r0.2.1)))) (
  (some (.ret [.row 0, .d (.int .i64 3)] [] [⟨aA.ks, 33, 416, []⟩]))) (
 cond (decide (0 ≤ (w6 (r0.2.1 + r0.1))) && decide ((w6 (r0.2.1 + r0.1)) ≤ ((lM (aN .u8) x0) : Int))) (
  cond (decide (0 ≤ (w6 (r0.2.1 + r0.1))) && decide ((w6 (r0.2.1 + r0.1)) ≤ (w6 (r0.2.1 + r0.1)))) (
  cond (decide (0 ≤ r0.2.1) && decide (r0.2.1 ≤ (w6 (r0.2.1 + r0.1)))) (
   γ5 [.d (.sl [.int .u8] (eQ (List.map (aN .u8) x0) (some r0.2.1) (some (w6 (r0.2.1 + r0.1)))))] [] [] fun r1 =>
   cond (r1.2 != 0) (
   (some (.ret [.row 0, .d (.int .i64 r1.2)] [] [⟨aA.ks, 33, 416, []⟩]))) (
   cond (decide ((lM aA.enc w3004 + lM aA.enc [r1.1]) * 416 ≤ 140737488355328)) (
   amS (C8 Γ γ22 γ5) Λ2 J (List.map (aN .u8) x0) (w6 (r0.2.1 + r0.1)) (((List.map aA.enc w3004) ++ (List.map aA.enc [r1.1])))) none)) none) none) none))))) (
 (some (.ret [.row 0, .d (.int .i64 0)] [] [⟨aA.ks, 33, 416, (List.map aA.enc w3004)⟩]))) := by kernel_rfl
end
abbrev X8 : aS := C8 gG (cT 22 eY) (cT 5 fK)
theorem Cr8 : X8 = aR gG := by unfold X8 C8; repeat rw [bP fun _ h => h]
abbrev ar4 := amS X8 (dM SE gG (SE.hl 8) (SE.hr 8)) (J0 SE X8)
theorem abV : ∀ (fu : Nat) (x0 : List Int) (x5 : Int) (w3004 : List aA), Le (Option.map eW (fY fu x0 x5 w3004)) (ar4 (List.map (aN .u8) x0) x5 (List.map aA.enc w3004)) := by
 intro fu
 induction fu with
 | zero => intros; exact le_none
 | succ fu ih =>
  intro x0 x5 w3004
  refine Le.trans ?_ (le_of_eq ((bU Cr8).trans (asS ..)).symm)
  unfold fY
  refine lD (by simp only [EN]) ?_ ?_
  ·refine lQ eX yJ (aaF _ _) fun r0 _ => ?_
   refine lC ?_ ?_
   ·exact aG rfl
   ·refine lC ?_ ?_
    ·exact aG rfl
    ·refine lC ?_ ?_
     ·exact aG rfl
     ·refine lD (by simp only [EN]) ?_ ?_
      ·exact aG rfl
      ·refine lG (by simp only [EN]) ?_
       refine lF ?_
       refine lF ?_
       refine lQ eX tO (by (try simp only [EN]); exact uA ((eQ x0 (some r0.2.1) (some (w6 (r0.2.1 + r0.1)))))) fun r1 _ => ?_
       refine lC ?_ ?_
       ·exact aG rfl
       ·refine lG (by simp only [EN]) ?_
        (try simp only [EN]); exact ih x0 (w6 (r0.2.1 + r0.1)) (w3004 ++ [r1.1])
  ·exact aG rfl
theorem wE (p0 : List Int) : Le (Option.map eW (nO p0)) (bE SE 8 [.d (.sl [.int .u8] (List.map (aN .u8) p0))] [] []) := by
 refine bB Cr8 rfl ?_
 refine Le.trans ?_ (le_of_eq (T8 ..).symm)
 unfold nO
 (try simp only [EN]); exact abV fuel p0 0 []
def akD (C : aS) (Λ2 J : Lam) (a0 a1 : List (List D)) (a2 : Int) : Res := lab SE C Λ2 J 46 0 [1, 1, 0, 1, 0] (bN [(0, .d (.sl aB.ks a0)), (1, .d (.sl aB.ks a1)), (5, .d (.int .i64 a2))] [] [] [] [])
section
variable (Γ : Fun)  (Λ2 J : Lam)
def C46 : aS := aR Γ
theorem T46 (p0 p1 : List aB) : bV SE (C46 Γ) Λ2 J 46 [.d (.sl aB.ks (List.map aB.enc p0)), .d (.sl aB.ks (List.map aB.enc p1))] [] [] =
 cond ((lM aB.enc p0 : Int) != (lM aB.enc p1 : Int)) (
 (rB false)) (
 akD (C46 Γ) Λ2 J (List.map aB.enc p0) (List.map aB.enc p1) 0) := by kernel_rfl
theorem ark (x0 x1 : List aB) (x5 : Int) : dY SE (C46 Γ) Λ2 J 46 0 [1, 1, 0, 1, 0] (bN [(0, .d (.sl aB.ks (List.map aB.enc x0))), (1, .d (.sl aB.ks (List.map aB.enc x1))), (5, .d (.int .i64 x5))] [] [] [] []) =
 cond (decide (x5 < (lM aB.enc x0 : Int))) (
 cond (iB x5 (lM aB.enc x0 : Int)) (
  cond (iB x5 (lM aB.enc x1 : Int)) (
  cond (!(((bT (cE aB.enc x0 x5 0)) == (bT (cE aB.enc x1 x5 0))) && (((bT (cE aB.enc x0 x5 1)) == (bT (cE aB.enc x1 x5 1))) && true))) (
   (rB false)) (
  akD (C46 Γ) Λ2 J (List.map aB.enc x0) (List.map aB.enc x1) (w6 (x5 + 1)))) none) none) (
 (rB true)) := by kernel_rfl
end
abbrev X46 : aS := C46 gG
theorem apx : X46 = aR gG := rfl
abbrev aqU := akD X46 (dM SE gG (SE.hl 46) (SE.hr 46)) (J0 SE X46)
theorem vP : ∀ (fu : Nat) (x0 x1 : List aB) (x5 : Int), Le (Option.map aH (eD fu x0 x1 x5)) (aqU (List.map aB.enc x0) (List.map aB.enc x1) x5) := by
 intro fu
 induction fu with
 | zero => intros; exact le_none
 | succ fu ih =>
  intro x0 x1 x5
  refine Le.trans ?_ (le_of_eq ((bU apx).trans (ark ..)).symm)
  unfold eD
  refine lD (by simp only [EN]) ?_ ?_
  ·refine lG (by simp only [EN]) ?_
   refine lG (by simp only [EN]) ?_
   refine lD (by simp only [EN]) ?_ ?_
   ·exact aG rfl
   ·exact ih x0 x1 (w6 (x5 + 1))
  ·exact aG rfl
theorem yE (p0 p1 : List aB) : Le (Option.map aH (iK p0 p1)) (bE SE 46 [.d (.sl aB.ks (List.map aB.enc p0)), .d (.sl aB.ks (List.map aB.enc p1))] [] []) := by
 refine bB apx rfl ?_
 refine Le.trans ?_ (le_of_eq (T46 ..).symm)
 unfold iK
 refine lD (by simp only [EN]) ?_ ?_
 ·exact aG rfl
 ·exact vP fuel p0 p1 0
section
variable (Γ : Fun) (γ46 : Gm (Bool)) (Λ2 J : Lam)
def C23 : aS := bM (aR Γ) 46 aH γ46
theorem T23 (p0 p1 : aC) : bV SE (C23 Γ γ46) Λ2 J 23 [aC.av p0, aC.av p1] [] [] =
 cond (p0.Topic == p1.Topic) (
 cond (p0.Payload == p1.Payload) (
  cond (p0.Level == p1.Level) (
  cond (p0.Retain == p1.Retain) (
   cond (p0.Priority == p1.Priority) (
   cond (p0.Expires == p1.Expires) (
    cond (p0.From == p1.From) (
    cond (p0.Seq == p1.Seq) (
     γ46 [.d (.sl aB.ks (List.map aB.enc p0.Props)), .d (.sl aB.ks (List.map aB.enc p1.Props))] [] [] fun r0 =>
     (rB r0)) (
    (rB false))) (
    (rB false))) (
   (rB false))) (
   (rB false))) (
  (rB false))) (
  (rB false))) (
 (rB false))) (
 (rB false)) := by kernel_rfl
end
abbrev X23 : aS := C23 gG (cT 46 aH)
theorem asZ : X23 = aR gG := by unfold X23 C23; rw [bP fun _ h => h]
theorem tS (p0 p1 : aC) : Le (Option.map aH (jW p0 p1)) (bE SE 23 [aC.av p0, aC.av p1] [] []) := by
 refine bB asZ rfl ?_
 refine Le.trans ?_ (le_of_eq (T23 ..).symm)
 unfold jW
 refine lC ?_ ?_
 ·refine lC ?_ ?_
  ·refine lC ?_ ?_
   ·refine lC ?_ ?_
    ·refine lC ?_ ?_
     ·refine lC ?_ ?_
      ·refine lC ?_ ?_
       ·refine lC ?_ ?_
        ·refine lQ eX aU (yE _ _) fun r0 _ => ?_
         exact aG rfl
        ·exact aG rfl
       ·exact aG rfl
      ·exact aG rfl
     ·exact aG rfl
    ·exact aG rfl
   ·exact aG rfl
  ·exact aG rfl
 ·exact aG rfl
section
variable (Γ : Fun) (γ23 : Gm (Bool)) (Λ2 J : Lam)
def C24 : aS := bM (aR Γ) 23 aH γ23
theorem T24 (p0 p1 : aP) : bV SE (C24 Γ γ23) Λ2 J 24 [aP.av p0, aP.av p1] [] [] =
 cond (p0.Set == p1.Set) (
 cond (p0.Delay == p1.Delay) (
  γ23 [aC.av p0.Message, aC.av p1.Message] [] [] fun r0 =>
  (rB r0)) (
 (rB false))) (
 (rB false)) := by kernel_rfl
end
abbrev X24 : aS := C24 gG (cT 23 aH)
theorem asR : X24 = aR gG := by unfold X24 C24; rw [bP fun _ h => h]
theorem zA (p0 p1 : aP) : Le (Option.map aH (lE p0 p1)) (bE SE 24 [aP.av p0, aP.av p1] [] []) := by
 refine bB asR rfl ?_
 refine Le.trans ?_ (le_of_eq (T24 ..).symm)
 unfold lE
 refine lC ?_ ?_
 ·refine lC ?_ ?_
  ·refine lQ eX aU (tS _ _) fun r0 _ => ?_
   exact aG rfl
  ·exact aG rfl
 ·exact aG rfl
def ak3 (C : aS) (Λ2 J : Lam) (a0 a1 : List (List D)) (a2 : Int) : Res := lab SE C Λ2 J 25 0 [1, 1, 0, 1, 0] (bN [(0, .d (.sl aF.ks a0)), (1, .d (.sl aF.ks a1)), (5, .d (.int .i64 a2))] [] [] [] [])
section
variable (Γ : Fun)  (Λ2 J : Lam)
def C25 : aS := aR Γ
theorem T25 (p0 p1 : List aF) : bV SE (C25 Γ) Λ2 J 25 [.d (.sl aF.ks (List.map aF.enc p0)), .d (.sl aF.ks (List.map aF.enc p1))] [] [] =
 cond ((lM aF.enc p0 : Int) != (lM aF.enc p1 : Int)) (
 (rB false)) (
 ak3 (C25 Γ) Λ2 J (List.map aF.enc p0) (List.map aF.enc p1) 0) := by kernel_rfl
theorem ap5 (x0 x1 : List aF) (x5 : Int) : dY SE (C25 Γ) Λ2 J 25 0 [1, 1, 0, 1, 0] (bN [(0, .d (.sl aF.ks (List.map aF.enc x0))), (1, .d (.sl aF.ks (List.map aF.enc x1))), (5, .d (.int .i64 x5))] [] [] [] []) =
 cond (decide (x5 < (lM aF.enc x0 : Int))) (
 cond (iB x5 (lM aF.enc x0 : Int)) (
  cond (iB x5 (lM aF.enc x1 : Int)) (
  cond (!(((bT (cE aF.enc x0 x5 0)) == (bT (cE aF.enc x1 x5 0))) && (((aY (cE aF.enc x0 x5 1)) == (aY (cE aF.enc x1 x5 1))) && (((bZ (cE aF.enc x0 x5 2)) == (bZ (cE aF.enc x1 x5 2))) && true)))) (
   (rB false)) (
  ak3 (C25 Γ) Λ2 J (List.map aF.enc x0) (List.map aF.enc x1) (w6 (x5 + 1)))) none) none) (
 (rB true)) := by kernel_rfl
end
abbrev X25 : aS := C25 gG
theorem apO : X25 = aR gG := rfl
abbrev aqB := ak3 X25 (dM SE gG (SE.hl 25) (SE.hr 25)) (J0 SE X25)
theorem wA : ∀ (fu : Nat) (x0 x1 : List aF) (x5 : Int), Le (Option.map aH (eR fu x0 x1 x5)) (aqB (List.map aF.enc x0) (List.map aF.enc x1) x5) := by
 intro fu
 induction fu with
 | zero => intros; exact le_none
 | succ fu ih =>
  intro x0 x1 x5
  refine Le.trans ?_ (le_of_eq ((bU apO).trans (ap5 ..)).symm)
  unfold eR
  refine lD (by simp only [EN]) ?_ ?_
  ·refine lG (by simp only [EN]) ?_
   refine lG (by simp only [EN]) ?_
   refine lD (by simp only [EN]) ?_ ?_
   ·exact aG rfl
   ·exact ih x0 x1 (w6 (x5 + 1))
  ·exact aG rfl
theorem zC (p0 p1 : List aF) : Le (Option.map aH (iZ p0 p1)) (bE SE 25 [.d (.sl aF.ks (List.map aF.enc p0)), .d (.sl aF.ks (List.map aF.enc p1))] [] []) := by
 refine bB apO rfl ?_
 refine Le.trans ?_ (le_of_eq (T25 ..).symm)
 unfold iZ
 refine lD (by simp only [EN]) ?_ ?_
 ·exact aG rfl
 ·exact wA fuel p0 p1 0
def akA (C : aS) (Λ2 J : Lam) (a0 a1 : List (List D)) (a2 : Int) : Res := lab SE C Λ2 J 26 0 [1, 1, 0, 1, 0] (bN [(0, .d (.sl [.str] a0)), (1, .d (.sl [.str] a1)), (5, .d (.int .i64 a2))] [] [] [] [])
section
variable (Γ : Fun)  (Λ2 J : Lam)
def C26 : aS := aR Γ
theorem T26 (p0 p1 : List Str) : bV SE (C26 Γ) Λ2 J 26 [.d (.sl [.str] (List.map aV p0)), .d (.sl [.str] (List.map aV p1))] [] [] =
 cond ((lM aV p0 : Int) != (lM aV p1 : Int)) (
 (rB false)) (
 akA (C26 Γ) Λ2 J (List.map aV p0) (List.map aV p1) 0) := by kernel_rfl
theorem aqq (x0 x1 : List Str) (x5 : Int) : dY SE (C26 Γ) Λ2 J 26 0 [1, 1, 0, 1, 0] (bN [(0, .d (.sl [.str] (List.map aV x0))), (1, .d (.sl [.str] (List.map aV x1))), (5, .d (.int .i64 x5))] [] [] [] []) =
 cond (decide (x5 < (lM aV x0 : Int))) (
 cond (iB x5 (lM aV x0 : Int)) (
  cond (iB x5 (lM aV x1 : Int)) (
  cond (!((bT (cE aV x0 x5 0)) == (bT (cE aV x1 x5 0)))) (
   (rB false)) (
  akA (C26 Γ) Λ2 J (List.map aV x0) (List.map aV x1) (w6 (x5 + 1)))) none) none) (
 (rB true)) := by kernel_rfl
end
abbrev X26 : aS := C26 gG
theorem apI : X26 = aR gG := rfl
abbrev aqY := akA X26 (dM SE gG (SE.hl 26) (SE.hr 26)) (J0 SE X26)
theorem aaw : ∀ (fu : Nat) (x0 x1 : List Str) (x5 : Int), Le (Option.map aH (gB fu x0 x1 x5)) (aqY (List.map aV x0) (List.map aV x1) x5) := by
 intro fu
 induction fu with
 | zero => intros; exact le_none
 | succ fu ih =>
  intro x0 x1 x5
  refine Le.trans ?_ (le_of_eq ((bU apI).trans (aqq ..)).symm)
  unfold gB
  refine lD (by simp only [EN]) ?_ ?_
  ·refine lG (by simp only [EN]) ?_
   refine lG (by simp only [EN]) ?_
   refine lD (by simp only [EN]) ?_ ?_
   ·exact aG rfl
   ·exact ih x0 x1 (w6 (x5 + 1))
  ·exact aG rfl
theorem acd (p0 p1 : List Str) : Le (Option.map aH (lR p0 p1)) (bE SE 26 [.d (.sl [.str] (List.map aV p0)), .d (.sl [.str] (List.map aV p1))] [] []) := by
 refine bB apI rfl ?_
 refine Le.trans ?_ (le_of_eq (T26 ..).symm)
 unfold lR
 refine lD (by simp only [EN]) ?_ ?_
 ·exact aG rfl
 ·exact aaw fuel p0 p1 0
def akl (C : aS) (Λ2 J : Lam) (a0 a1 : List (List D)) (a2 : Int) : Res := lab SE C Λ2 J 27 0 [1, 1, 0, 1, 0] (bN [(0, .d (.sl [.int .i64] a0)), (1, .d (.sl [.int .i64] a1)), (5, .d (.int .i64 a2))] [] [] [] [])
section
variable (Γ : Fun)  (Λ2 J : Lam)
def C27 : aS := aR Γ
theorem T27 (p0 p1 : List Int) : bV SE (C27 Γ) Λ2 J 27 [.d (.sl [.int .i64] (List.map eI p0)), .d (.sl [.int .i64] (List.map eI p1))] [] [] =
 cond ((lM eI p0 : Int) != (lM eI p1 : Int)) (
 (rB false)) (
 akl (C27 Γ) Λ2 J (List.map eI p0) (List.map eI p1) 0) := by kernel_rfl
theorem aqm (x0 x1 : List Int) (x5 : Int) : dY SE (C27 Γ) Λ2 J 27 0 [1, 1, 0, 1, 0] (bN [(0, .d (.sl [.int .i64] (List.map eI x0))), (1, .d (.sl [.int .i64] (List.map eI x1))), (5, .d (.int .i64 x5))] [] [] [] []) =
 cond (decide (x5 < (lM eI x0 : Int))) (
 cond (iB x5 (lM eI x0 : Int)) (
  cond (iB x5 (lM eI x1 : Int)) (
  cond ((aY (cE eI x0 x5 0)) != (aY (cE eI x1 x5 0))) (
   (rB false)) (
  akl (C27 Γ) Λ2 J (List.map eI x0) (List.map eI x1) (w6 (x5 + 1)))) none) none) (
 (rB true)) := by kernel_rfl
end
abbrev X27 : aS := C27 gG
theorem aoP : X27 = aR gG := rfl
abbrev aqb := akl X27 (dM SE gG (SE.hl 27) (SE.hr 27)) (J0 SE X27)
theorem tR : ∀ (fu : Nat) (x0 x1 : List Int) (x5 : Int), Le (Option.map aH (dO fu x0 x1 x5)) (aqb (List.map eI x0) (List.map eI x1) x5) := by
 intro fu
 induction fu with
 | zero => intros; exact le_none
 | succ fu ih =>
  intro x0 x1 x5
  refine Le.trans ?_ (le_of_eq ((bU aoP).trans (aqm ..)).symm)
  unfold dO
  refine lD (by simp only [EN]) ?_ ?_
  ·refine lG (by simp only [EN]) ?_
   refine lG (by simp only [EN]) ?_
   refine lD (by simp only [EN]) ?_ ?_
   ·exact aG rfl
   ·exact ih x0 x1 (w6 (x5 + 1))
  ·exact aG rfl
theorem vT (p0 p1 : List Int) : Le (Option.map aH (gW p0 p1)) (bE SE 27 [.d (.sl [.int .i64] (List.map eI p0)), .d (.sl [.int .i64] (List.map eI p1))] [] []) := by
 refine bB aoP rfl ?_
 refine Le.trans ?_ (le_of_eq (T27 ..).symm)
 unfold gW
 refine lD (by simp only [EN]) ?_ ?_
 ·exact aG rfl
 ·exact tR fuel p0 p1 0
def anS (C : aS) (Λ2 J : Lam) (a0 a1 : List D) : Res := lab SE C Λ2 J 10 0 [1, 1, 1, 0] (bN [(2, .ptr 1000000000 0), (3, .ptr 1000000001 0)] [⟨33, (List.map AV.d a0)⟩, ⟨33, (List.map AV.d a1)⟩] [] [] [])
def anX (C : aS) (Λ2 J : Lam) (a0 a1 : List D) : Res := lab SE C Λ2 J 10 0 [1, 1, 0, 0] (bN [(2, .ptr 1000000000 0), (3, .ptr 1000000001 0)] [⟨33, (List.map AV.d a0)⟩, ⟨33, (List.map AV.d a1)⟩] [] [] [])
section
variable (Γ : Fun) (γ23 γ24 γ25 γ26 γ27 : Gm (Bool)) (Λ2 J : Lam)
def C10 : aS := bM (bM (bM (bM (bM (aR Γ) 23 aH γ23) 24 aH γ24) 25 aH γ25) 26 aH γ26) 27 aH γ27
theorem T10 (p0 p1 : aA) : bV SE (C10 Γ γ23 γ24 γ25 γ26 γ27) Λ2 J 10 [aA.av p0, aA.av p1] [] [] =
 cond (p0.Kind != p1.Kind) (
 (rB false)) (
 cond (p0.ID != p1.ID) (
 (rB false)) (
 cond (p0.Dup != p1.Dup) (
 (rB false)) (
 γ23 [aC.av p0.Message, aC.av p1.Message] [] [] fun r0 =>
 cond (!r0) (
 (rB false)) (
 cond (!(p0.Client == p1.Client)) (
 (rB false)) (
 cond (!(p0.User == p1.User)) (
 (rB false)) (
 anX (C10 Γ γ23 γ24 γ25 γ26 γ27) Λ2 J (aA.enc p0) (aA.enc p1))))))) := by kernel_rfl
theorem arE (b0 b1 : aA) : dY SE (C10 Γ γ23 γ24 γ25 γ26 γ27) Λ2 J 10 0 [1, 1, 1, 0] (bN [(2, .ptr 1000000000 0), (3, .ptr 1000000001 0)] [⟨33, (List.map AV.d (aA.enc b0))⟩, ⟨33, (List.map AV.d (aA.enc b1))⟩] [] [] []) =
 cond (b0.Present == b1.Present) (
 cond (b0.Code == b1.Code) (
  γ25 [.d (.sl aF.ks (List.map aF.enc b0.Subs)), .d (.sl aF.ks (List.map aF.enc b1.Subs))] [] [] fun r2 =>
  cond r2 (
  γ26 [.d (.sl [.str] (List.map aV b0.Filters)), .d (.sl [.str] (List.map aV b1.Filters))] [] [] fun r3 =>
  cond r3 (
   γ27 [.d (.sl [.int .i64] (List.map eI b0.Codes)), .d (.sl [.int .i64] (List.map eI b1.Codes))] [] [] fun r4 =>
   (rB r4)) (
  (rB false))) (
  (rB false))) (
 (rB false))) (
 (rB false)) := by kernel_rfl
theorem ap8 (b0 b1 : aA) : dY SE (C10 Γ γ23 γ24 γ25 γ26 γ27) Λ2 J 10 0 [1, 1, 0, 0] (bN [(2, .ptr 1000000000 0), (3, .ptr 1000000001 0)] [⟨33, (List.map AV.d (aA.enc b0))⟩, ⟨33, (List.map AV.d (aA.enc b1))⟩] [] [] []) =
 cond (b0.Clean != b1.Clean) (
 (rB false)) (
 cond (b0.Keep != b1.Keep) (
 (rB false)) (
 cond (b0.Expiry != b1.Expiry) (
 (rB false)) (
 cond (b0.Window != b1.Window) (
 (rB false)) (
 γ24 [aP.av b0.Will, aP.av b1.Will] [] [] fun r1 =>
 cond (!r1) (
 (rB false)) (
 anS (C10 Γ γ23 γ24 γ25 γ26 γ27) Λ2 J (aA.enc b0) (aA.enc b1)))))) := by kernel_rfl
end
abbrev X10 : aS := C10 gG (cT 23 aH) (cT 24 aH) (cT 25 aH) (cT 26 aH) (cT 27 aH)
theorem anB : X10 = aR gG := by unfold X10 C10; repeat rw [bP fun _ h => h]
abbrev ap0 := anS X10 (dM SE gG (SE.hl 10) (SE.hr 10)) (J0 SE X10)
abbrev arw := anX X10 (dM SE gG (SE.hl 10) (SE.hr 10)) (J0 SE X10)
theorem aas (b0 b1 : aA) : Le (Option.map aH (mF b0 b1)) (ap0 (aA.enc b0) (aA.enc b1)) := by
 refine Le.trans ?_ (le_of_eq ((bU anB).trans (arE ..)).symm)
 unfold mF
 refine lC ?_ ?_
 ·refine lC ?_ ?_
  ·refine lQ eX aU (zC _ _) fun r2 _ => ?_
   refine lC ?_ ?_
   ·refine lQ eX aU (acd _ _) fun r3 _ => ?_
    refine lC ?_ ?_
    ·refine lQ eX aU (vT _ _) fun r4 _ => ?_
     exact aG rfl
    ·exact aG rfl
   ·exact aG rfl
  ·exact aG rfl
 ·exact aG rfl
theorem aay (b0 b1 : aA) : Le (Option.map aH (mE b0 b1)) (arw (aA.enc b0) (aA.enc b1)) := by
 refine Le.trans ?_ (le_of_eq ((bU anB).trans (ap8 ..)).symm)
 unfold mE
 refine lC ?_ ?_
 ·exact aG rfl
 ·refine lC ?_ ?_
  ·exact aG rfl
  ·refine lC ?_ ?_
   ·exact aG rfl
   ·refine lC ?_ ?_
    ·exact aG rfl
    ·refine lQ eX aU (zA _ _) fun r1 _ => ?_
     refine lC ?_ ?_
     ·exact aG rfl
     ·exact aas b0 b1
theorem acj (p0 p1 : aA) : Le (Option.map aH (mB p0 p1)) (bE SE 10 [aA.av p0, aA.av p1] [] []) := by
 refine bB anB rfl ?_
 refine Le.trans ?_ (le_of_eq (T10 ..).symm)
 unfold mB
 refine lC ?_ ?_
 ·exact aG rfl
 ·refine lC ?_ ?_
  ·exact aG rfl
  ·refine lC ?_ ?_
   ·exact aG rfl
   ·refine lQ eX aU (tS _ _) fun r0 _ => ?_
    refine lC ?_ ?_
    ·exact aG rfl
    ·refine lC ?_ ?_
     ·exact aG rfl
     ·refine lC ?_ ?_
      ·exact aG rfl
      ·exact aay p0 p1
end Te
end PX
