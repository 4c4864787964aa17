import Derived.Test.YtdgmdomlghamdaaGreatDoorTre0
set_option linter.unusedVariables false
set_option linter.unusedSimpArgs false
set_option maxRecDepth 100000
noncomputable section
namespace PX
open Go
open Md
namespace Te
def aml (C : aS) (Λ2 J : Lam) (a0 : List (List D)) (a1 a2 : Int) (a3 : List (List D)) : Res := lab SE C Λ2 J 32 0 [1, 1, 1, 0, 1, 0, 1, 1, 1, 1, 1, 1, 1, 1, 1, 1, 1, 0, 1, 1, 0] (bA [(5, .row 3005), (79, .d (.sl [.int .i64] a0)), (80, dIq a1), (81, dIq a2)] [] [] [] [(3005, ⟨[.int .u8], 5, 1, a3⟩)])
section
variable (Γ : Fun) (γ59 : Gm (Int)) (γ20 γ60 : Gm ((List Int))) (γ61 : Gm (Int)) (γ62 γ63 γ64 : Gm ((List Int))) (Λ2 J : Lam)
def C32 : aS := bG (bG (bG (bG (bG (bG (bG (aT Γ) 59 aJ γ59) 20 aR γ20) 60 aR γ60) 61 aJ γ61) 62 aR γ62) 63 aR γ63) 64 aR γ64
theorem T32 (p0 : aA) : bL SE (C32 Γ γ59 γ20 γ60 γ61 γ62 γ63 γ64) Λ2 J 32 [aA.av p0] [] [] =
 γ59 [aA.av p0] [] [] fun r0 =>
 cond (r0 != 0) (
 (some (dB ([], r0)))) (
 γ20 [.d (.sl [.int .u8] (List.map (aN .u8) [])), dIq p0.Kind] [] [] fun r1 =>
 cond (p0.Kind == 1) (
 γ60 [.d (.sl [.int .u8] (List.map (aN .u8) r1)), aA.av p0] [] [] fun r2 =>
 (some (dB (r2, 0)))) (
 cond (p0.Kind == 2) (
 γ61 [.d (.sl [.bool] (List.map gY [p0.Present]))] [] [] fun r3 =>
 γ20 [.d (.sl [.int .u8] (List.map (aN .u8) r1)), dIq r3] [] [] fun r4 =>
 γ20 [.d (.sl [.int .u8] (List.map (aN .u8) r4)), dIq p0.Code] [] [] fun r5 =>
 (some (dB (r5, 0)))) (
 cond (p0.Kind == 3) (
 γ20 [.d (.sl [.int .u8] (List.map (aN .u8) r1)), dIq p0.ID] [] [] fun r6 =>
 γ61 [.d (.sl [.bool] (List.map gY [p0.Dup]))] [] [] fun r7 =>
 γ20 [.d (.sl [.int .u8] (List.map (aN .u8) r6)), dIq r7] [] [] fun r8 =>
 γ62 [.d (.sl [.int .u8] (List.map (aN .u8) r8)), aF.av p0.Message] [] [] fun r9 =>
 (some (dB (r9, 0)))) (
 cond (p0.Kind == 4) (
 γ20 [.d (.sl [.int .u8] (List.map (aN .u8) r1)), dIq p0.ID] [] [] fun r10 =>
 (some (dB (r10, 0)))) (
 cond (p0.Kind == 5) (
 γ20 [.d (.sl [.int .u8] (List.map (aN .u8) r1)), dIq p0.ID] [] [] fun r11 =>
 (some (dB (r11, 0)))) (
 cond (p0.Kind == 6) (
 γ20 [.d (.sl [.int .u8] (List.map (aN .u8) r1)), dIq p0.ID] [] [] fun r12 =>
 (some (dB (r12, 0)))) (
 cond (p0.Kind == 7) (
 γ20 [.d (.sl [.int .u8] (List.map (aN .u8) r1)), dIq p0.ID] [] [] fun r13 =>
 (some (dB (r13, 0)))) (
 cond (p0.Kind == 8) (
 γ20 [.d (.sl [.int .u8] (List.map (aN .u8) r1)), dIq p0.ID] [] [] fun r14 =>
 γ63 [.d (.sl [.int .u8] (List.map (aN .u8) r14)), .d (.sl aH.ks (List.map aH.enc p0.Subs))] [] [] fun r15 =>
 (some (dB (r15, 0)))) (
 cond (p0.Kind == 9) (
 γ20 [.d (.sl [.int .u8] (List.map (aN .u8) r1)), dIq p0.ID] [] [] fun r16 =>
 γ20 [.d (.sl [.int .u8] (List.map (aN .u8) r16)), dIq (lM eI p0.Codes : Int)] [] [] fun r17 =>
 aml (C32 Γ γ59 γ20 γ60 γ61 γ62 γ63 γ64) Λ2 J (List.map eI p0.Codes) (lM eI p0.Codes : Int) 0 (List.map (aN .u8) r17)) (
 cond (p0.Kind == 11) (
 γ20 [.d (.sl [.int .u8] (List.map (aN .u8) r1)), dIq p0.ID] [] [] fun r18 =>
 γ20 [.d (.sl [.int .u8] (List.map (aN .u8) r18)), dIq (lM eI p0.Codes : Int)] [] [] fun r19 =>
 aml (C32 Γ γ59 γ20 γ60 γ61 γ62 γ63 γ64) Λ2 J (List.map eI p0.Codes) (lM eI p0.Codes : Int) 0 (List.map (aN .u8) r19)) (
 cond (p0.Kind == 10) (
 γ20 [.d (.sl [.int .u8] (List.map (aN .u8) r1)), dIq p0.ID] [] [] fun r20 =>
 γ64 [.d (.sl [.int .u8] (List.map (aN .u8) r20)), .d (.sl [.str] (List.map bB p0.Filters))] [] [] fun r21 =>
 (some (dB (r21, 0)))) (
 cond (p0.Kind == 14) (
 γ20 [.d (.sl [.int .u8] (List.map (aN .u8) r1)), dIq p0.Code] [] [] fun r22 =>
 (some (dB (r22, 0)))) (
 (some (dB (r1, 0)))))))))))))))) := by kernel_rfl
theorem aCr (x79 : List Int) (x80 x81 : Int) (w3005 : List Int) : cJ SE (C32 Γ γ59 γ20 γ60 γ61 γ62 γ63 γ64) Λ2 J 32 0 [1, 1, 1, 0, 1, 0, 1, 1, 1, 1, 1, 1, 1, 1, 1, 1, 1, 0, 1, 1, 0] (bA [(5, .row 3005), (79, .d (.sl [.int .i64] (List.map eI x79))), (80, dIq x80), (81, dIq x81)] [] [] [] [(3005, ⟨[.int .u8], 5, 1, (List.map (aN .u8) w3005)⟩)]) =
 cond (decide (x81 < x80)) (
 cond (iB x81 (lM eI x79 : Int)) (
  γ20 [.d (.sl [.int .u8] (List.map (aN .u8) w3005)), dIq (bC (cE eI x79 x81 0))] [] [] fun r23 =>
  aml (C32 Γ γ59 γ20 γ60 γ61 γ62 γ63 γ64) Λ2 J (List.map eI x79) x80 (w6 (x81 + 1)) (List.map (aN .u8) r23)) none) (
 (some (dB (w3005, 0)))) := by kernel_rfl
end
abbrev X32 : aS := C32 gG (cT 59 aJ) (cT 20 aR) (cT 60 aR) (cT 61 aJ) (cT 62 aR) (cT 63 aR) (cT 64 aR)
theorem aBO : X32 = aT gG := by unfold X32 C32; repeat rw [bJ fun _ h => h]
abbrev azP := aml X32 (cC SE gG (SE.hl 32) (SE.hr 32)) (J0 SE X32)
theorem ac0 : ∀ (fu : Nat) (x79 : List Int) (x80 x81 : Int) (w3005 : List Int), Le (Option.map dB (kI fu x79 x80 x81 w3005)) (azP (List.map eI x79) x80 x81 (List.map (aN .u8) w3005)) := by
 intro fu
 induction fu with
 | zero => intros; exact le_none
 | succ fu ih =>
  intro x79 x80 x81 w3005
  refine Le.trans ?_ (le_of_eq ((bD aBO).trans (aCr ..)).symm)
  unfold kI
  refine lC ?_ ?_
  ·refine lGe ?_
   refine lQ eX aX (by (try simp only [EN]); exact cI w3005 (List.getD x79 (Int.toNat x81) default)) fun r23 _ => ?_
   exact ih x79 x80 (w6 (x81 + 1)) r23
  ·exact aG rfl
theorem an8 (p0 : aA) : Le (Option.map dB (aaj p0)) (bH SE 32 [aA.av p0] [] []) := by
 refine aZ aBO rfl ?_
 refine Le.trans ?_ (le_of_eq (T32 ..).symm)
 unfold aaj
 refine lQ eX bE (abm _) fun r0 _ => ?_
 refine lC ?_ ?_
 ·exact aG rfl
 ·refine lQ eX aX (by (try simp only [EN]); exact cI [] p0.Kind) fun r1 _ => ?_
  refine lC ?_ ?_
  ·refine lQ eX aX (amI _ _) fun r2 _ => ?_
   exact aG rfl
  ·refine lC ?_ ?_
   ·refine lQ eX bE (xC _) fun r3 _ => ?_
    refine lQ eX aX (cI _ _) fun r4 _ => ?_
    refine lQ eX aX (cI _ _) fun r5 _ => ?_
    exact aG rfl
   ·refine lC ?_ ?_
    ·refine lQ eX aX (cI _ _) fun r6 _ => ?_
     refine lQ eX bE (xC _) fun r7 _ => ?_
     refine lQ eX aX (cI _ _) fun r8 _ => ?_
     refine lQ eX aX (ahn _ _) fun r9 _ => ?_
     exact aG rfl
    ·refine lC ?_ ?_
     ·refine lQ eX aX (cI _ _) fun r10 _ => ?_
      exact aG rfl
     ·refine lC ?_ ?_
      ·refine lQ eX aX (cI _ _) fun r11 _ => ?_
       exact aG rfl
      ·refine lC ?_ ?_
       ·refine lQ eX aX (cI _ _) fun r12 _ => ?_
        exact aG rfl
       ·refine lC ?_ ?_
        ·refine lQ eX aX (cI _ _) fun r13 _ => ?_
         exact aG rfl
        ·refine lC ?_ ?_
         ·refine lQ eX aX (cI _ _) fun r14 _ => ?_
          refine lQ eX aX (ahl _ _) fun r15 _ => ?_
          exact aG rfl
         ·refine lC ?_ ?_
          ·refine lQ eX aX (cI _ _) fun r16 _ => ?_
           refine lQ eX aX (by (try simp only [EN]); exact cI r16 (List.length p0.Codes : Int)) fun r17 _ => ?_
           (try simp only [EN]); exact ac0 fuel p0.Codes (List.length p0.Codes : Int) 0 r17
          ·refine lC ?_ ?_
           ·refine lQ eX aX (cI _ _) fun r18 _ => ?_
            refine lQ eX aX (by (try simp only [EN]); exact cI r18 (List.length p0.Codes : Int)) fun r19 _ => ?_
            (try simp only [EN]); exact ac0 fuel p0.Codes (List.length p0.Codes : Int) 0 r19
           ·refine lC ?_ ?_
            ·refine lQ eX aX (cI _ _) fun r20 _ => ?_
             refine lQ eX aX (alP _ _) fun r21 _ => ?_
             exact aG rfl
            ·refine lC ?_ ?_
             ·refine lQ eX aX (cI _ _) fun r22 _ => ?_
              exact aG rfl
             ·exact aG rfl
def asR (C : aS) (Λ2 J : Lam) (a0 : List (List D)) (a1 a2 : Int) (a3 : List (List D)) : Res := lab SE C Λ2 J 19 0 [1, 1, 0, 1, 0] (bA [(4, .row 3004), (9, .d (.sl aA.ks a0)), (10, dIq a1), (11, dIq a2)] [] [] [] [(3004, ⟨[.int .u8], 5, 1, a3⟩)])
section
variable (Γ : Fun) (γ32 : Gm ((List Int) × Int)) (γ20 : Gm ((List Int))) (Λ2 J : Lam)
def C19 : aS := bG (bG (aT Γ) 32 dB γ32) 20 aR γ20
theorem T19 (p0 : List aA) : bL SE (C19 Γ γ32 γ20) Λ2 J 19 [.d (.sl aA.ks (List.map aA.enc p0))] [] [] =
 asR (C19 Γ γ32 γ20) Λ2 J (List.map aA.enc p0) (lM aA.enc p0 : Int) 0 (List.map (aN .u8) []) := by kernel_rfl
theorem aDb (x9 : List aA) (x10 x11 : Int) (w3004 : List Int) : cJ SE (C19 Γ γ32 γ20) Λ2 J 19 0 [1, 1, 0, 1, 0] (bA [(4, .row 3004), (9, .d (.sl aA.ks (List.map aA.enc x9))), (10, dIq x10), (11, dIq x11)] [] [] [] [(3004, ⟨[.int .u8], 5, 1, (List.map (aN .u8) w3004)⟩)]) =
 cond (decide (x11 < x10)) (
 cond (iB x11 (lM aA.enc x9 : Int)) (
  γ32 [.agg [dIq (bC (cE aA.enc x9 x11 0)), dIq (bC (cE aA.enc x9 x11 1)), dBq (cF (cE aA.enc x9 x11 2)), dSq (bQ (cE aA.enc x9 x11 3)), dSq (bQ (cE aA.enc x9 x11 4)), dIq (bC (cE aA.enc x9 x11 5)), dBq (cF (cE aA.enc x9 x11 6)), dIq (bC (cE aA.enc x9 x11 7)), dIq (bC (cE aA.enc x9 x11 8)), dSq (bQ (cE aA.enc x9 x11 9)), dIq (bC (cE aA.enc x9 x11 10)), .d (.sl aB.ks (dSl (cE aA.enc x9 x11 11))), dSq (bQ (cE aA.enc x9 x11 12)), dSq (bQ (cE aA.enc x9 x11 13)), dBq (cF (cE aA.enc x9 x11 14)), dIq (bC (cE aA.enc x9 x11 15)), dIq (bC (cE aA.enc x9 x11 16)), dIq (bC (cE aA.enc x9 x11 17)), dBq (cF (cE aA.enc x9 x11 18)), dIq (bC (cE aA.enc x9 x11 19)), dSq (bQ (cE aA.enc x9 x11 20)), dSq (bQ (cE aA.enc x9 x11 21)), dIq (bC (cE aA.enc x9 x11 22)), dBq (cF (cE aA.enc x9 x11 23)), dIq (bC (cE aA.enc x9 x11 24)), dIq (bC (cE aA.enc x9 x11 25)), dSq (bQ (cE aA.enc x9 x11 26)), dIq (bC (cE aA.enc x9 x11 27)), .d (.sl aB.ks (dSl (cE aA.enc x9 x11 28))), dBq (cF (cE aA.enc x9 x11 29)), dIq (bC (cE aA.enc x9 x11 30)), .d (.sl aH.ks (dSl (cE aA.enc x9 x11 31))), .d (.sl [.str] (dSl (cE aA.enc x9 x11 32))), .d (.sl [.int .i64] (dSl (cE aA.enc x9 x11 33)))]] [] [] fun r0 =>
  cond (r0.2 != 0) (
  (some (dB ([], r0.2)))) (
  γ20 [.d (.sl [.int .u8] (List.map (aN .u8) w3004)), dIq (lM (aN .u8) r0.1 : Int)] [] [] fun r1 =>
  cond (decide ((lM (aN .u8) r1 + lM (aN .u8) r0.1) * 1 ≤ 140737488355328)) (
  asR (C19 Γ γ32 γ20) Λ2 J (List.map aA.enc x9) x10 (w6 (x11 + 1)) (((List.map (aN .u8) r1) ++ (List.map (aN .u8) r0.1)))) none)) none) (
 (some (dB (w3004, 0)))) := by kernel_rfl
end
abbrev X19 : aS := C19 gG (cT 32 dB) (cT 20 aR)
theorem aAt : X19 = aT gG := by unfold X19 C19; repeat rw [bJ fun _ h => h]
abbrev aEh := asR X19 (cC SE gG (SE.hl 19) (SE.hr 19)) (J0 SE X19)
theorem ahK : ∀ (fu : Nat) (x9 : List aA) (x10 x11 : Int) (w3004 : List Int), Le (Option.map dB (lU fu x9 x10 x11 w3004)) (aEh (List.map aA.enc x9) x10 x11 (List.map (aN .u8) w3004)) := by
 intro fu
 induction fu with
 | zero => intros; exact le_none
 | succ fu ih =>
  intro x9 x10 x11 w3004
  refine Le.trans ?_ (le_of_eq ((bD aAt).trans (aDb ..)).symm)
  unfold lU
  refine lC ?_ ?_
  ·refine lGe ?_
   refine lQ eX xW (by (try simp only [EN]); exact an8 (List.getD x9 (Int.toNat x11) default)) fun r0 _ => ?_
   refine lC ?_ ?_
   ·exact aG rfl
   ·refine lQ eX aX (by (try simp only [EN]); exact cI w3004 (List.length r0.1 : Int)) fun r1 _ => ?_
    refine lGe ?_
    (try simp only [EN]); exact ih x9 x10 (w6 (x11 + 1)) (r1 ++ r0.1)
  ·exact aG rfl
theorem akM (p0 : List aA) : Le (Option.map dB (vN p0)) (bH SE 19 [.d (.sl aA.ks (List.map aA.enc p0))] [] []) := by
 refine aZ aAt rfl ?_
 refine Le.trans ?_ (le_of_eq (T19 ..).symm)
 unfold vN
 (try simp only [EN]); exact ahK fuel p0 (List.length p0 : Int) 0 []
def asU (C : aS) (Λ2 J : Lam) (a0 : Int) (a1 : List (List D)) (a2 a3 : Int) : Res := lab SE C Λ2 J 35 0 [1, 1, 0, 1, 0] (bA [(3, .d (.int .u32 a0)), (6, .d (.sl [.int .u8] a1)), (7, dIq a2), (8, dIq a3)] [] [] [] [])
section
variable (Γ : Fun)  (Λ2 J : Lam)
def C35 : aS := aT Γ
theorem T35 (p0 : List Int) : bL SE (C35 Γ) Λ2 J 35 [.d (.sl [.int .u8] (List.map (aN .u8) p0))] [] [] =
 asU (C35 Γ) Λ2 J 2166136261 (List.map (aN .u8) p0) (lM (aN .u8) p0 : Int) 0 := by kernel_rfl
theorem aD6 (x3 : Int) (x6 : List Int) (x7 x8 : Int) : cJ SE (C35 Γ) Λ2 J 35 0 [1, 1, 0, 1, 0] (bA [(3, .d (.int .u32 x3)), (6, .d (.sl [.int .u8] (List.map (aN .u8) x6))), (7, dIq x7), (8, dIq x8)] [] [] [] []) =
 cond (decide (x8 < x7)) (
 cond (iB x8 (lM (aN .u8) x6 : Int)) (
  asU (C35 Γ) Λ2 J ((IntKind.wrap .u32 ((bY .xor .u32 x3 (IntKind.wrap .u32 (bC (cE (aN .u8) x6 x8 0)))) * 16777619))) (List.map (aN .u8) x6) x7 (w6 (x8 + 1))) none) (
 (rI (w6 x3))) := by kernel_rfl
end
abbrev X35 : aS := C35 gG
theorem aCa : X35 = aT gG := rfl
abbrev aEw := asU X35 (cC SE gG (SE.hl 35) (SE.hr 35)) (J0 SE X35)
theorem amj : ∀ (fu : Nat) (x3 : Int) (x6 : List Int) (x7 x8 : Int), Le (Option.map aJ (sZ fu x3 x6 x7 x8)) (aEw x3 (List.map (aN .u8) x6) x7 x8) := by
 intro fu
 induction fu with
 | zero => intros; exact le_none
 | succ fu ih =>
  intro x3 x6 x7 x8
  refine Le.trans ?_ (le_of_eq ((bD aCa).trans (aD6 ..)).symm)
  unfold sZ
  refine lC ?_ ?_
  ·refine lGe ?_
   (try simp only [EN]); exact ih (IntKind.wrap .u32 ((bY .xor .u32 x3 (IntKind.wrap .u32 (List.getD x6 (Int.toNat x8) default))) * 16777619)) x6 x7 (w6 (x8 + 1))
  ·exact aG rfl
theorem aju (p0 : List Int) : Le (Option.map aJ (aaT p0)) (bH SE 35 [.d (.sl [.int .u8] (List.map (aN .u8) p0))] [] []) := by
 refine aZ aCa rfl ?_
 refine Le.trans ?_ (le_of_eq (T35 ..).symm)
 unfold aaT
 (try simp only [EN]); exact amj fuel 2166136261 p0 (List.length p0 : Int) 0
section
variable (Γ : Fun) (γ35 : Gm (Int)) (γ20 : Gm ((List Int))) (Λ2 J : Lam)
def C21 : aS := bG (bG (aT Γ) 35 aJ γ35) 20 aR γ20
theorem T21 (p0 : List Int) : bL SE (C21 Γ γ35 γ20) Λ2 J 21 [.d (.sl [.int .u8] (List.map (aN .u8) p0))] [] [] =
 cond (decide ((lM (aN .u8) p0 : Int) > 65536)) (
 (some (aR []))) (
 γ35 [.d (.sl [.int .u8] (List.map (aN .u8) p0))] [] [] fun r0 =>
 γ20 [.d (.sl [.int .u8] (List.map (aN .u8) [])), dIq (lM (aN .u8) p0 : Int)] [] [] fun r1 =>
 cond (decide ((lM (aN .u8) r1 + lM (aN .u8) [(IntKind.wrap .u8 (shr .i64 r0 24)), (IntKind.wrap .u8 (shr .i64 r0 16)), (IntKind.wrap .u8 (shr .i64 r0 8)), (IntKind.wrap .u8 r0)]) * 1 ≤ 140737488355328)) (
 cond (decide ((List.length ((List.map (aN .u8) r1) ++ (List.map (aN .u8) [(IntKind.wrap .u8 (shr .i64 r0 24)), (IntKind.wrap .u8 (shr .i64 r0 16)), (IntKind.wrap .u8 (shr .i64 r0 8)), (IntKind.wrap .u8 r0)])) + lM (aN .u8) p0) * 1 ≤ 140737488355328)) (
  (some (.ret [.row 0] [] [⟨[.int .u8], 5, 1, (((List.map (aN .u8) r1) ++ (List.map (aN .u8) [(IntKind.wrap .u8 (shr .i64 r0 24)), (IntKind.wrap .u8 (shr .i64 r0 16)), (IntKind.wrap .u8 (shr .i64 r0 8)), (IntKind.wrap .u8 r0)])) ++ (List.map (aN .u8) p0))⟩]))) none) none) := by kernel_rfl
end
abbrev X21 : aS := C21 gG (cT 35 aJ) (cT 20 aR)
theorem aFL : X21 = aT gG := by unfold X21 C21; repeat rw [bJ fun _ h => h]
theorem ao8 (p0 : List Int) : Le (Option.map aR (abG p0)) (bH SE 21 [.d (.sl [.int .u8] (List.map (aN .u8) p0))] [] []) := by
 refine aZ aFL rfl ?_
 refine Le.trans ?_ (le_of_eq (T21 ..).symm)
 unfold abG
 refine lDe ?_ ?_
 ·exact aG rfl
 ·refine lQ eX bE (aju _) fun r0 _ => ?_
  refine lQ eX aX (by (try simp only [EN]); exact cI [] (List.length p0 : Int)) fun r1 _ => ?_
  refine lGe ?_
  refine lGe ?_
  exact aG (by first | rfl | simp only [EN, aR] <;> rfl)
def aCC (C : aS) (Λ2 J : Lam) (a0 : List (List D)) (a1 a2 : List D) : Res := lab SE C Λ2 J 9 0 [1, 1, 1, 0] (bA [(1, .d (.sl aA.ks a0)), (2, .ptr 1000000000 0), (5, .ptr 1000000001 0)] [⟨23, (List.map AV.d a1)⟩, ⟨23, (List.map AV.d a2)⟩] [] [] [])
section
variable (Γ : Fun) (γ19 : Gm ((List Int) × Int)) (γ20 γ21 : Gm ((List Int))) (Λ2 J : Lam)
def C9 : aS := bG (bG (bG (aT Γ) 19 dB γ19) 20 aR γ20) 21 aR γ21
theorem T9 (p0 : aI) (p1 : List aA) : bL SE (C9 Γ γ19 γ20 γ21) Λ2 J 9 [aI.av p0, .d (.sl aA.ks (List.map aA.enc p1))] [] [] =
 cond p0.Broken (
 (some (dY ([], p0, 21)))) (
 cond (decide (p0.Conn < 0)) (
 (some (dY ([], p0, 1)))) (
 cond (decide (p0.Conn > 1099511627776)) (
 (some (dY ([], p0, 1)))) (
 cond (decide (p0.Sent < 0)) (
 (some (dY ([], p0, 1)))) (
 cond (decide (p0.Sent ≥ 1099511627776)) (
 (some (dY ([], p0, 1)))) (
 aCC (C9 Γ γ19 γ20 γ21) Λ2 J (List.map aA.enc p1) (aI.enc p0) (aI.enc (aI.mk 0 0 0 false))))))) := by kernel_rfl
theorem aHD (x1 : List aA) (b0 b1 : aI) : cJ SE (C9 Γ γ19 γ20 γ21) Λ2 J 9 0 [1, 1, 1, 0] (bA [(1, .d (.sl aA.ks (List.map aA.enc x1))), (2, .ptr 1000000000 0), (5, .ptr 1000000001 0)] [⟨23, (List.map AV.d (aI.enc b0))⟩, ⟨23, (List.map AV.d (aI.enc b1))⟩] [] [] []) =
 γ19 [.d (.sl aA.ks (List.map aA.enc x1))] [] [] fun r0 =>
 cond (r0.2 != 0) (
 (some (dY ([], b0, r0.2)))) (
 γ20 [.d (.sl [.int .u8] (List.map (aN .u8) [])), dIq b0.Conn] [] [] fun r1 =>
 γ20 [.d (.sl [.int .u8] (List.map (aN .u8) r1)), dIq (w6 (b0.Sent + 1))] [] [] fun r2 =>
 cond (decide ((lM (aN .u8) r2 + lM (aN .u8) r0.1) * 1 ≤ 140737488355328)) (
 cond (decide ((List.length ((List.map (aN .u8) r2) ++ (List.map (aN .u8) r0.1)) : Int) > 65536)) (
  (some (dY ([], b0, 5)))) (
 γ21 [.d (.sl [.int .u8] ((List.map (aN .u8) r2) ++ (List.map (aN .u8) r0.1)))] [] [] fun r3 =>
 (some (dY (r3, (aI.mk b0.Conn (w6 (b0.Sent + 1)) b0.Got b0.Broken), 0))))) none) := by kernel_rfl
end
abbrev X9 : aS := C9 gG (cT 19 dB) (cT 20 aR) (cT 21 aR)
theorem Cr9 : X9 = aT gG := by unfold X9 C9; repeat rw [bJ fun _ h => h]
abbrev aHm := aCC X9 (cC SE gG (SE.hl 9) (SE.hr 9)) (J0 SE X9)
theorem akV (x1 : List aA) (b0 b1 : aI) : Le (Option.map dY (zI x1 b0 b1)) (aHm (List.map aA.enc x1) (aI.enc b0) (aI.enc b1)) := by
 refine Le.trans ?_ (le_of_eq ((bD Cr9).trans (aHD ..)).symm)
 unfold zI
 refine lQ eX xW (akM _) fun r0 _ => ?_
 refine lC ?_ ?_
 ·exact aG rfl
 ·refine lQ eX aX (by (try simp only [EN]); exact cI [] b0.Conn) fun r1 _ => ?_
  refine lQ eX aX (cI _ _) fun r2 _ => ?_
  refine lGe ?_
  refine lDe ?_ ?_
  ·exact aG rfl
  ·refine lQ eX aX (by (try simp only [EN]); exact ao8 (r2 ++ r0.1)) fun r3 _ => ?_
   exact aG rfl
theorem zF (p0 : aI) (p1 : List aA) : Le (Option.map dY (sC p0 p1)) (bH SE 9 [aI.av p0, .d (.sl aA.ks (List.map aA.enc p1))] [] []) := by
 refine aZ Cr9 rfl ?_
 refine Le.trans ?_ (le_of_eq (T9 ..).symm)
 unfold sC
 refine lC ?_ ?_
 ·exact aG rfl
 ·refine lC ?_ ?_
  ·exact aG rfl
  ·refine lC ?_ ?_
   ·exact aG rfl
   ·refine lC ?_ ?_
    ·exact aG rfl
    ·refine lC ?_ ?_
     ·exact aG rfl
     ·exact akV p1 p0 (aI.mk 0 0 0 false)
section
variable (Γ : Fun)  (Λ2 J : Lam)
def C70 : aS := aT Γ
theorem T70 (p0 : Int) : bL SE (C70 Γ) Λ2 J 70 [.d (.int .u64 p0)] [] [] =
 cond ((bY .and .u64 p0 1) == 1) (
 (rI (w6 ((w6 (0 - (w6 (shr .u64 p0 1)))) - 1)))) (
 (rI (w6 (shr .u64 p0 1)))) := by kernel_rfl
end
abbrev X70 : aS := C70 gG
theorem aHY : X70 = aT gG := rfl
theorem anL (p0 : Int) : Le (Option.map aJ (mH p0)) (bH SE 70 [.d (.int .u64 p0)] [] []) := by
 refine aZ aHY rfl ?_
 refine Le.trans ?_ (le_of_eq (T70 ..).symm)
 unfold mH
 refine lC ?_ ?_
 ·exact aG rfl
 ·exact aG rfl
def ajy (C : aS) (Λ2 J : Lam) (a0 : List (List D)) (a1 a2 a3 a4 a5 : Int) (a6 a7 a8 : Bool) : Res := lab SE C Λ2 J 41 0 [1, 1, 1, 1, 0, 0, 0, 0, 1, 1, 1, 0] (bA [(0, .d (.sl [.int .u8] a0)), (1, dIq a1), (7, .d (.int .u64 a2)), (8, dIq a3), (9, .d (.int .u8 a4)), (39, dIq a5), (40, dBq a6), (41, dBq a7), (44, dBq a8)] [] [] [] [])
def atx (C : aS) (Λ2 J : Lam) (a0 : List (List D)) (a1 a2 a3 : Int) : Res := lab SE C Λ2 J 41 0 [1, 1, 1, 1, 0] (bA [(0, .d (.sl [.int .u8] a0)), (1, dIq a1), (7, .d (.int .u64 a2)), (8, dIq a3)] [] [] [] [])
def ax5 (C : aS) (Λ2 J : Lam) (a0 : List (List D)) (a1 : Int) : Res := lab SE C Λ2 J 41 0 [1, 1, 0] (bA [(0, .d (.sl [.int .u8] a0)), (1, dIq a1)] [] [] [] [])
section
variable (Γ : Fun) (γ70 : Gm (Int)) (Λ2 J : Lam)
def C41 : aS := bG (aT Γ) 70 aJ γ70
theorem T41 (p0 : List Int) (p1 : Int) : bL SE (C41 Γ γ70) Λ2 J 41 [.d (.sl [.int .u8] (List.map (aN .u8) p0)), dIq p1] [] [] =
 cond (decide (p1 < 0)) (
 (some (cA (0, 0, 1)))) (
 cond (decide (p1 > (lM (aN .u8) p0 : Int))) (
 (some (cA (0, 0, 1)))) (
 ax5 (C41 Γ γ70) Λ2 J (List.map (aN .u8) p0) p1)) := by kernel_rfl
theorem aBe (x0 : List Int) (x1 x7 x8 x9 x39 : Int) (x40 x41 x44 : Bool) : cJ SE (C41 Γ γ70) Λ2 J 41 0 [1, 1, 1, 1, 0, 0, 0, 0, 1, 1, 1, 0] (bA [(0, .d (.sl [.int .u8] (List.map (aN .u8) x0))), (1, dIq x1), (7, .d (.int .u64 x7)), (8, dIq x8), (9, .d (.int .u8 x9)), (39, dIq x39), (40, dBq x40), (41, dBq x41), (44, dBq x44)] [] [] [] []) =
 cond (decide (0 ≤ (w6 (7 * x8)))) (
 cond (decide (x9 < 128)) (
  γ70 [.d (.int .u64 (bY .or .u64 x7 (shl .u64 (IntKind.wrap .u64 (bY .and .u8 x9 127)) (w6 (7 * x8)))))] [] [] fun r0 =>
  (some (cA (r0, (w6 ((w6 (x1 + x8)) + 1)), 0)))) (
 atx (C41 Γ γ70) Λ2 J (List.map (aN .u8) x0) x1 ((bY .or .u64 x7 (shl .u64 (IntKind.wrap .u64 (bY .and .u8 x9 127)) (w6 (7 * x8))))) (w6 (x8 + 1)))) none := by kernel_rfl
theorem aFc (x0 : List Int) (x1 x7 x8 : Int) : cJ SE (C41 Γ γ70) Λ2 J 41 0 [1, 1, 1, 1, 0] (bA [(0, .d (.sl [.int .u8] (List.map (aN .u8) x0))), (1, dIq x1), (7, .d (.int .u64 x7)), (8, dIq x8)] [] [] [] []) =
 cond ((w6 (x1 + x8)) == (lM (aN .u8) x0 : Int)) (
 (some (cA (0, 0, 3)))) (
 cond (iB (w6 (x1 + x8)) (lM (aN .u8) x0 : Int)) (
 cond (x8 == 9) (
  cond (decide ((bC (cE (aN .u8) x0 (w6 (x1 + x8)) 0)) > 1)) (
  (some (cA (0, 0, 2)))) (
  cond (decide (x8 > 0)) (
  cond ((bC (cE (aN .u8) x0 (w6 (x1 + x8)) 0)) == 0) (
   (some (cA (0, 0, 2)))) (
  ajy (C41 Γ γ70) Λ2 J (List.map (aN .u8) x0) x1 x7 x8 ((bC (cE (aN .u8) x0 (w6 (x1 + x8)) 0))) x8 (decide (x8 > 0)) true (((bC (cE (aN .u8) x0 (w6 (x1 + x8)) 0)) == 0)))) (
  ajy (C41 Γ γ70) Λ2 J (List.map (aN .u8) x0) x1 x7 x8 ((bC (cE (aN .u8) x0 (w6 (x1 + x8)) 0))) x8 (decide (x8 > 0)) false false))) (
 cond (decide (x8 > 0)) (
  cond ((bC (cE (aN .u8) x0 (w6 (x1 + x8)) 0)) == 0) (
  (some (cA (0, 0, 2)))) (
  ajy (C41 Γ γ70) Λ2 J (List.map (aN .u8) x0) x1 x7 x8 ((bC (cE (aN .u8) x0 (w6 (x1 + x8)) 0))) x8 (decide (x8 > 0)) true (((bC (cE (aN .u8) x0 (w6 (x1 + x8)) 0)) == 0)))) (
 ajy (C41 Γ γ70) Λ2 J (List.map (aN .u8) x0) x1 x7 x8 ((bC (cE (aN .u8) x0 (w6 (x1 + x8)) 0))) x8 (decide (x8 > 0)) false false))) none) := by kernel_rfl
theorem aCY (x0 : List Int) (x1 : Int) : cJ SE (C41 Γ γ70) Λ2 J 41 0 [1, 1, 0] (bA [(0, .d (.sl [.int .u8] (List.map (aN .u8) x0))), (1, dIq x1)] [] [] [] []) =
 atx (C41 Γ γ70) Λ2 J (List.map (aN .u8) x0) x1 0 0 := by kernel_rfl
end
abbrev X41 : aS := C41 gG (cT 70 aJ)
theorem asF : X41 = aT gG := by unfold X41 C41; rw [bJ fun _ h => h]
abbrev aA9 := ajy X41 (cC SE gG (SE.hl 41) (SE.hr 41)) (J0 SE X41)
abbrev axQ := atx X41 (cC SE gG (SE.hl 41) (SE.hr 41)) (J0 SE X41)
abbrev aEH := ax5 X41 (cC SE gG (SE.hl 41) (SE.hr 41)) (J0 SE X41)
theorem xZ (k6 : (List Int) → Int → Int → Int → Option (Int × Int × Int)) (hk6 : ∀ (x0 : List Int) (x1 x7 x8 : Int), Le (Option.map cA (k6 x0 x1 x7 x8)) (axQ (List.map (aN .u8) x0) x1 x7 x8)) (x0 : List Int) (x1 x7 x8 x9 x39 : Int) (x40 x41 x44 : Bool) : Le (Option.map cA (mK k6 x0 x1 x7 x8 x9 x39 x40 x41 x44)) (aA9 (List.map (aN .u8) x0) x1 x7 x8 x9 x39 x40 x41 x44) := by
 refine Le.trans ?_ (le_of_eq ((bD asF).trans (aBe ..)).symm)
 unfold mK
 refine lF ?_
 refine lC ?_ ?_
 ·refine lQ eX bE (anL _) fun r0 _ => ?_
  exact aG rfl
 ·(try simp only [EN]); exact hk6 x0 x1 ((bY .or .u64 x7 (shl .u64 (IntKind.wrap .u64 (bY .and .u8 x9 127)) (w6 (7 * x8))))) (w6 (x8 + 1))
theorem anQ : ∀ (fu : Nat) (x0 : List Int) (x1 x7 x8 : Int), Le (Option.map cA (eJ fu x0 x1 x7 x8)) (axQ (List.map (aN .u8) x0) x1 x7 x8) := by
 intro fu
 induction fu with
 | zero => intros; exact le_none
 | succ fu ih =>
  intro x0 x1 x7 x8
  refine Le.trans ?_ (le_of_eq ((bD asF).trans (aFc ..)).symm)
  unfold eJ
  refine lDe ?_ ?_
  ·exact aG rfl
  ·refine lGe ?_
   refine lC ?_ ?_
   ·refine lDe ?_ ?_
    ·exact aG rfl
    ·refine lC ?_ ?_
     ·refine lDe ?_ ?_
      ·exact aG rfl
      ·(try simp only [EN]); exact xZ _ (ih) x0 x1 x7 x8 (List.getD x0 (Int.toNat (w6 (x1 + x8))) default) x8 (decide (x8 > 0)) true ((List.getD x0 (Int.toNat (w6 (x1 + x8))) default) == 0)
     ·(try simp only [EN]); exact xZ _ (ih) x0 x1 x7 x8 (List.getD x0 (Int.toNat (w6 (x1 + x8))) default) x8 (decide (x8 > 0)) false false
   ·refine lC ?_ ?_
    ·refine lDe ?_ ?_
     ·exact aG rfl
     ·(try simp only [EN]); exact xZ _ (ih) x0 x1 x7 x8 (List.getD x0 (Int.toNat (w6 (x1 + x8))) default) x8 (decide (x8 > 0)) true ((List.getD x0 (Int.toNat (w6 (x1 + x8))) default) == 0)
    ·(try simp only [EN]); exact xZ _ (ih) x0 x1 x7 x8 (List.getD x0 (Int.toNat (w6 (x1 + x8))) default) x8 (decide (x8 > 0)) false false
theorem anX (x0 : List Int) (x1 : Int) : Le (Option.map cA (aan x0 x1)) (aEH (List.map (aN .u8) x0) x1) := by
 refine Le.trans ?_ (le_of_eq ((bD asF).trans (aCY ..)).symm)
 unfold aan
 exact anQ fuel x0 x1 0 0
theorem xI (p0 : List Int) (p1 : Int) : Le (Option.map cA (qQ p0 p1)) (bH SE 41 [.d (.sl [.int .u8] (List.map (aN .u8) p0)), dIq p1] [] []) := by
 refine aZ asF rfl ?_
 refine Le.trans ?_ (le_of_eq (T41 ..).symm)
 unfold qQ
 refine lC ?_ ?_
 ·exact aG rfl
 ·refine lDe ?_ ?_
  ·exact aG rfl
  ·exact anX p0 p1
section
variable (Γ : Fun) (γ41 : Gm (Int × Int × Int)) (γ35 : Gm (Int)) (Λ2 J : Lam)
def C40 : aS := bG (bG (aT Γ) 41 cA γ41) 35 aJ γ35
theorem T40 (p0 : List Int) (p1 : Int) : bL SE (C40 Γ γ41 γ35) Λ2 J 40 [.d (.sl [.int .u8] (List.map (aN .u8) p0)), dIq p1] [] [] =
 γ41 [.d (.sl [.int .u8] (List.map (aN .u8) p0)), dIq p1] [] [] fun r0 =>
 cond (r0.2.2 != 0) (
 (some (iM ([], 0, r0.2.2)))) (
 cond (decide (r0.1 < 0)) (
 (some (iM ([], 0, 2)))) (
 cond (decide (r0.1 > 65536)) (
 (some (iM ([], 0, 5)))) (
 cond (decide ((w6 ((lM (aN .u8) p0 : Int) - r0.2.1)) < (w6 (4 + r0.1)))) (
 (some (iM ([], 0, 3)))) (
 cond (decide (0 ≤ (w6 (r0.2.1 + 4))) && decide ((w6 (r0.2.1 + 4)) ≤ ((lM (aN .u8) p0) : Int))) (
 cond (decide (0 ≤ (w6 (r0.2.1 + 4))) && decide ((w6 (r0.2.1 + 4)) ≤ (w6 (r0.2.1 + 4)))) (
  cond (decide (0 ≤ r0.2.1) && decide (r0.2.1 ≤ (w6 (r0.2.1 + 4)))) (
  cond (decide (0 ≤ r0.1) && decide (r0.1 ≤ r0.1) && decide (r0.1 * 1 ≤ 281474976710656)) (
   cond (decide (0 ≤ (w6 ((w6 (r0.2.1 + 4)) + r0.1))) && decide ((w6 ((w6 (r0.2.1 + 4)) + r0.1)) ≤ ((lM (aN .u8) p0) : Int))) (
   cond (decide (0 ≤ (w6 (r0.2.1 + 4))) && decide ((w6 (r0.2.1 + 4)) ≤ (w6 ((w6 (r0.2.1 + 4)) + r0.1)))) (
    cond (decide (0 ≤ 0) && decide (0 < (List.length (cH (List.map (aN .u8) p0) (some r0.2.1) (some (w6 (r0.2.1 + 4)))) : Int))) (
    cond (decide (0 ≤ 1) && decide (1 < (List.length (cH (List.map (aN .u8) p0) (some r0.2.1) (some (w6 (r0.2.1 + 4)))) : Int))) (
     cond (decide (0 ≤ 2) && decide (2 < (List.length (cH (List.map (aN .u8) p0) (some r0.2.1) (some (w6 (r0.2.1 + 4)))) : Int))) (
     cond (decide (0 ≤ 3) && decide (3 < (List.length (cH (List.map (aN .u8) p0) (some r0.2.1) (some (w6 (r0.2.1 + 4)))) : Int))) (
      γ35 [.d (.sl [.int .u8] (List.take (List.length (List.replicate (Int.toNat r0.1) [D.int .u8 0])) (cH (List.map (aN .u8) p0) (some (w6 (r0.2.1 + 4))) (some (w6 ((w6 (r0.2.1 + 4)) + r0.1)))) ++ List.drop (min (List.length (cH (List.map (aN .u8) p0) (some (w6 (r0.2.1 + 4))) (some (w6 ((w6 (r0.2.1 + 4)) + r0.1))))) (List.length (List.replicate (Int.toNat r0.1) [D.int .u8 0]))) (List.replicate (Int.toNat r0.1) [D.int .u8 0])))] [] [] fun r1 =>
      cond ((bY .or .i64 (bY .or .i64 (bY .or .i64 (shl .i64 (w6 (bC (cellAt (elemAt (cH (List.map (aN .u8) p0) (some r0.2.1) (some (w6 (r0.2.1 + 4)))) (Int.toNat 0)) 0))) 24) (shl .i64 (w6 (bC (cellAt (elemAt (cH (List.map (aN .u8) p0) (some r0.2.1) (some (w6 (r0.2.1 + 4)))) (Int.toNat 1)) 0))) 16)) (shl .i64 (w6 (bC (cellAt (elemAt (cH (List.map (aN .u8) p0) (some r0.2.1) (some (w6 (r0.2.1 + 4)))) (Int.toNat 2)) 0))) 8)) (w6 (bC (cellAt (elemAt (cH (List.map (aN .u8) p0) (some r0.2.1) (some (w6 (r0.2.1 + 4)))) (Int.toNat 3)) 0)))) != r1) (
      (some (iM ([], 0, 4)))) (
      (some (.ret [.row 0, dIq (w6 ((w6 (r0.2.1 + 4)) + r0.1)), dIq 0] [] [⟨[.int .u8], 5, 1, (List.take (List.length (List.replicate (Int.toNat r0.1) [D.int .u8 0])) (cH (List.map (aN .u8) p0) (some (w6 (r0.2.1 + 4))) (some (w6 ((w6 (r0.2.1 + 4)) + r0.1)))) ++ List.drop (min (List.length (cH (List.map (aN .u8) p0) (some (w6 (r0.2.1 + 4))) (some (w6 ((w6 (r0.2.1 + 4)) + r0.1))))) (List.length (List.replicate (Int.toNat r0.1) [D.int .u8 0]))) (List.replicate (Int.toNat r0.1) [D.int .u8 0]))⟩])))) none) none) none) none) none) none) none) none) none) none)))) := by kernel_rfl
end
abbrev X40 : aS := C40 gG (cT 41 cA) (cT 35 aJ)
theorem aGa : X40 = aT gG := by unfold X40 C40; repeat rw [bJ fun _ h => h]
theorem ao2 (p0 : List Int) (p1 : Int) : Le (Option.map iM (abV p0 p1)) (bH SE 40 [.d (.sl [.int .u8] (List.map (aN .u8) p0)), dIq p1] [] []) := by
 refine aZ aGa rfl ?_
 refine Le.trans ?_ (le_of_eq (T40 ..).symm)
 unfold abV
 refine lQ eX iO (xI _ _) fun r0 _ => ?_
 refine lC ?_ ?_
 ·exact aG rfl
 ·refine lC ?_ ?_
  ·exact aG rfl
  ·refine lC ?_ ?_
   ·exact aG rfl
   ·refine lDe ?_ ?_
    ·exact aG rfl
    ·refine lGe ?_
     refine lF ?_
     refine lF ?_
     refine lF ?_
     refine lGe ?_
     refine lF ?_
     refine lGe ?_
     refine lGe ?_
     refine lGe ?_
     refine lGe ?_
     refine lQ eX bE (by (try simp only [EN]); exact aju ((List.take (List.length (List.replicate (Int.toNat r0.1) (default : Int))) (cH p0 (some (w6 (r0.2.1 + 4))) (some (w6 ((w6 (r0.2.1 + 4)) + r0.1)))) ++ List.drop (min (List.length (cH p0 (some (w6 (r0.2.1 + 4))) (some (w6 ((w6 (r0.2.1 + 4)) + r0.1))))) (List.length (List.replicate (Int.toNat r0.1) (default : Int)))) (List.replicate (Int.toNat r0.1) (default : Int))))) fun r1 _ => ?_
     refine lDe ?_ ?_
     ·exact aG rfl
     ·exact aG (by first | rfl | simp only [EN, iM] <;> rfl)
section
variable (Γ : Fun) (γ40 : Gm ((List Int) × Int × Int)) (γ41 : Gm (Int × Int × Int)) (Λ2 J : Lam)
def C25 : aS := bG (bG (aT Γ) 40 iM γ40) 41 cA γ41
theorem T25 (p0 : List Int) : bL SE (C25 Γ γ40 γ41) Λ2 J 25 [.d (.sl [.int .u8] (List.map (aN .u8) p0))] [] [] =
 γ40 [.d (.sl [.int .u8] (List.map (aN .u8) p0)), dIq 0] [] [] fun r0 =>
 cond (r0.2.2 != 0) (
 (some (fJ (0, 0, [], r0.2.2)))) (
 cond (decide (r0.2.1 < (lM (aN .u8) p0 : Int))) (
 (some (fJ (0, 0, [], 2)))) (
 γ41 [.d (.sl [.int .u8] (List.map (aN .u8) r0.1)), dIq 0] [] [] fun r1 =>
 cond (r1.2.2 != 0) (
 (some (fJ (0, 0, [], r1.2.2)))) (
 γ41 [.d (.sl [.int .u8] (List.map (aN .u8) r0.1)), dIq r1.2.1] [] [] fun r2 =>
 cond (r2.2.2 != 0) (
 (some (fJ (0, 0, [], r2.2.2)))) (
 cond (decide (0 ≤ r2.2.1) && decide (r2.2.1 ≤ ((lM (aN .u8) r0.1) : Int))) (
 (some (.ret [dIq r1.1, dIq r2.1, .d (.sl [.int .u8] (List.take ((lM (aN .u8) r0.1) - (Int.toNat r2.2.1)) (List.drop (Int.toNat r2.2.1) (List.map (aN .u8) r0.1)))), dIq 0] [] []))) none)))) := by kernel_rfl
end
abbrev X25 : aS := C25 gG (cT 40 iM) (cT 41 cA)
theorem aHC : X25 = aT gG := by unfold X25 C25; repeat rw [bJ fun _ h => h]
theorem agX (p0 : List Int) : Le (Option.map fJ (aaw p0)) (bH SE 25 [.d (.sl [.int .u8] (List.map (aN .u8) p0))] [] []) := by
 refine aZ aHC rfl ?_
 refine Le.trans ?_ (le_of_eq (T25 ..).symm)
 unfold aaw
 refine lQ eX ag1 (ao2 _ _) fun r0 _ => ?_
 refine lC ?_ ?_
 ·exact aG rfl
 ·refine lDe ?_ ?_
  ·exact aG rfl
  ·refine lQ eX iO (xI _ _) fun r1 _ => ?_
   refine lC ?_ ?_
   ·exact aG rfl
   ·refine lQ eX iO (xI _ _) fun r2 _ => ?_
    refine lC ?_ ?_
    ·exact aG rfl
    ·refine lGe ?_
     exact aG (by first | rfl | simp only [EN, fJ] <;> rfl)
section
variable (Γ : Fun) (γ25 : Gm (Int × Int × (List Int) × Int)) (Λ2 J : Lam)
def C17 : aS := bG (aT Γ) 25 fJ γ25
theorem T17 (p0 : List Int) : bL SE (C17 Γ γ25) Λ2 J 17 [.d (.sl [.int .u8] (List.map (aN .u8) p0))] [] [] =
 γ25 [.d (.sl [.int .u8] (List.map (aN .u8) p0))] [] [] fun r0 =>
 (some (cA (r0.1, r0.2.1, r0.2.2.2))) := by kernel_rfl
end
abbrev X17 : aS := C17 gG (cT 25 fJ)
theorem aHF : X17 = aT gG := by unfold X17 C17; rw [bJ fun _ h => h]
theorem anE (p0 : List Int) : Le (Option.map cA (agv p0)) (bH SE 17 [.d (.sl [.int .u8] (List.map (aN .u8) p0))] [] []) := by
 refine aZ aHF rfl ?_
 refine Le.trans ?_ (le_of_eq (T17 ..).symm)
 unfold agv
 refine lQ eX abr (agX _) fun r0 _ => ?_
 exact aG rfl
section
variable (Γ : Fun)  (Λ2 J : Lam)
def C73 : aS := aT Γ
theorem T73 (p0 : Bool) (p1 : Int) : bL SE (C73 Γ) Λ2 J 73 [dBq p0, dIq p1] [] [] =
 cond p0 (
 (some (.pan (.ifc 98 (aP.av (aP.mk p1)))))) (
 (some (.ret [] [] []))) := by kernel_rfl
end
abbrev X73 : aS := C73 gG
theorem aH0 : X73 = aT gG := rfl
theorem j5 (p0 : Bool) (p1 : Int) : Le (Option.map gS (eR p0 p1)) (bH SE 73 [dBq p0, dIq p1] [] []) := by
 refine aZ aH0 rfl ?_
 refine Le.trans ?_ (le_of_eq (T73 ..).symm)
 unfold eR
 refine lC ?_ ?_
 ·exact aG rfl
 ·exact aG rfl
section
variable (Γ : Fun) (γ41 : Gm (Int × Int × Int)) (γ73 : Gp aP (Unit)) (Λ2 J : Lam)
def C72 : aS := oP (bG (aT Γ) 41 cA γ41) 73 gS γ73
theorem T72 (p0 : aK) : bL SE (C72 Γ γ41 γ73) Λ2 J 72 [.ptr 2000000000 0] [⟨101, (aK.avs p0)⟩] [] =
 γ41 [.d (.sl [.int .u8] (List.map (aN .u8) p0.b)), dIq p0.at_] [] [] fun r0 =>
 γ73 [dBq (r0.2.2 != 0), dIq r0.2.2] [] [] (fun e2 =>
 (some (.pan (.ifc 98 (aP.av e2))))) fun r1 =>
 (some (sT (r0.1, (aK.mk p0.b r0.2.1)))) := by kernel_rfl
end
abbrev X72 : aS := C72 gG (cT 41 cA) (cP 73 gS)
theorem aHz : X72 = aT gG := by unfold X72 C72; rw [bJ fun _ h => h, eV fun _ h => h]
theorem bX (p0 : aK) : Le (Option.map cQ (bV p0)) (bH SE 72 [.ptr 2000000000 0] [⟨101, (aK.avs p0)⟩] []) := by
 refine aZ aHz rfl ?_
 refine Le.trans ?_ (le_of_eq (T72 ..).symm)
 unfold bV
 refine lQ eX iO (xI _ _) fun r0 _ => ?_
 refine cB (good := good) eX jD (j5 _ _) (fun e2 _ => ?_) (fun r1 _ => ?_)
 ·exact aG rfl
 ·exact aG rfl
section
variable (Γ : Fun) (γ41 : Gm (Int × Int × Int)) (Λ2 J : Lam)
def axA : aS := bG (aT Γ) 41 cA γ41
theorem aF4 (p0 : List Int) (p1 p2 : Int) : bL SE (axA Γ γ41) Λ2 J 138 [.d (.sl [.int .u8] (List.map (aN .u8) p0)), dIq p1, dIq p2] [] [] =
 γ41 [.d (.sl [.int .u8] (List.map (aN .u8) p0)), dIq p1] [] [] fun r0 =>
 cond (r0.2.2 != 0) (
 (some (gR ([], 0, r0.2.2)))) (
 cond (decide (r0.1 < 0)) (
 (some (gR ([], 0, 2)))) (
 cond (decide (r0.1 > p2)) (
 (some (gR ([], 0, 5)))) (
 cond (decide (r0.1 > (w6 ((lM (aN .u8) p0 : Int) - r0.2.1)))) (
 (some (gR ([], 0, 3)))) (
 cond (decide (0 ≤ (w6 (r0.2.1 + r0.1))) && decide ((w6 (r0.2.1 + r0.1)) ≤ ((lM (aN .u8) p0) : Int))) (
 cond (decide (0 ≤ (w6 (r0.2.1 + r0.1))) && decide ((w6 (r0.2.1 + r0.1)) ≤ (w6 (r0.2.1 + r0.1)))) (
  cond (decide (0 ≤ r0.2.1) && decide (r0.2.1 ≤ (w6 (r0.2.1 + r0.1)))) (
  (some (.ret [dSq (vB (cH (List.map (aN .u8) p0) (some r0.2.1) (some (w6 (r0.2.1 + r0.1))))), dIq (w6 (r0.2.1 + r0.1)), dIq 0] [] []))) none) none) none)))) := by kernel_rfl
end
abbrev aAm : aS := axA gG (cT 41 cA)
theorem aFg : aAm = aT gG := by unfold aAm axA; rw [bJ fun _ h => h]
theorem apB (p0 : List Int) (p1 p2 : Int) : Le (Option.map gR (yQ p0 p1 p2)) (bH SE 138 [.d (.sl [.int .u8] (List.map (aN .u8) p0)), dIq p1, dIq p2] [] []) := by
 refine aZ aFg rfl ?_
 refine Le.trans ?_ (le_of_eq (aF4 ..).symm)
 unfold yQ
 refine lQ eX iO (xI _ _) fun r0 _ => ?_
 refine lC ?_ ?_
 ·exact aG rfl
 ·refine lC ?_ ?_
  ·exact aG rfl
  ·refine lC ?_ ?_
   ·exact aG rfl
   ·refine lDe ?_ ?_
    ·exact aG rfl
    ·refine lGe ?_
     refine lF ?_
     refine lF ?_
     exact aG (by first | rfl | simp only [EN, gR] <;> rfl)
section
variable (Γ : Fun) (γ138 : Gm (Str × Int × Int)) (γ73 : Gp aP (Unit)) (Λ2 J : Lam)
def awc : aS := oP (bG (aT Γ) 138 gR γ138) 73 gS γ73
theorem aF8 (p0 : aK) (p1 : Int) : bL SE (awc Γ γ138 γ73) Λ2 J 122 [.ptr 2000000000 0, dIq p1] [⟨101, (aK.avs p0)⟩] [] =
 γ138 [.d (.sl [.int .u8] (List.map (aN .u8) p0.b)), dIq p0.at_, dIq p1] [] [] fun r0 =>
 γ73 [dBq (r0.2.2 != 0), dIq r0.2.2] [] [] (fun e2 =>
 (some (.pan (.ifc 98 (aP.av e2))))) fun r1 =>
 (some (.ret [dSq r0.1] [⟨101, (aK.avs (aK.mk p0.b r0.2.1))⟩] [])) := by kernel_rfl
end
abbrev aAO : aS := awc gG (cT 138 gR) (cP 73 gS)
theorem aCZ : aAO = aT gG := by unfold aAO awc; rw [bJ fun _ h => h, eV fun _ h => h]
theorem fH (p0 : aK) (p1 : Int) : Le (Option.map eK (dL p0 p1)) (bH SE 122 [.ptr 2000000000 0, dIq p1] [⟨101, (aK.avs p0)⟩] []) := by
 refine aZ aCZ rfl ?_
 refine Le.trans ?_ (le_of_eq (aF8 ..).symm)
 unfold dL
 refine lQ eX adr (apB _ _ _) fun r0 _ => ?_
 refine cB (good := good) eX jD (j5 _ _) (fun e2 _ => ?_) (fun r1 _ => ?_)
 ·exact aG rfl
 ·exact aG rfl
section
variable (Γ : Fun) (γ72 : Gp aP (Int × aK)) (γ73 : Gp aP (Unit)) (Λ2 J : Lam)
def C99 : aS := oP (oP (aT Γ) 72 cQ γ72) 73 gS γ73
theorem T99 (p0 : aK) (p1 : Int) : bL SE (C99 Γ γ72 γ73) Λ2 J 99 [.ptr 2000000000 0, dIq p1] [⟨101, (aK.avs p0)⟩] [] =
 γ72 [.ptr 2000000000 0] [⟨101, (aK.avs p0)⟩] [] (fun e1 =>
 (some (.pan (.ifc 98 (aP.av e1))))) fun r0 =>
 cond (decide (r0.1 < 0)) (
 γ73 [dBq true, dIq 2] [] [] (fun e3 =>
  (some (.pan (.ifc 98 (aP.av e3))))) fun r2 =>
 (some (qR (r0.1, r0.2)))) (
 γ73 [dBq (decide (r0.1 ≥ p1)), dIq 2] [] [] (fun e5 =>
 (some (.pan (.ifc 98 (aP.av e5))))) fun r4 =>
 (some (qR (r0.1, r0.2)))) := by kernel_rfl
end
abbrev X99 : aS := C99 gG (cP 72 cQ) (cP 73 gS)
theorem aFY : X99 = aT gG := by unfold X99 C99; rw [eV fun _ h => h, eV fun _ h => h]
theorem kZ (p0 : aK) (p1 : Int) : Le (Option.map dI (eP p0 p1)) (bH SE 99 [.ptr 2000000000 0, dIq p1] [⟨101, (aK.avs p0)⟩] []) := by
 refine aZ aFY rfl ?_
 refine Le.trans ?_ (le_of_eq (T99 ..).symm)
 unfold eP
 refine cB (good := good) eX bU (bX _) (fun e1 _ => ?_) (fun r0 _ => ?_)
 ·exact aG rfl
 ·refine lC ?_ ?_
  ·refine cB (good := good) eX jD (j5 _ _) (fun e3 _ => ?_) (fun r2 _ => ?_)
   ·exact aG rfl
   ·exact aG rfl
  ·refine cB (good := good) eX jD (j5 _ _) (fun e5 _ => ?_) (fun r4 _ => ?_)
   ·exact aG rfl
   ·exact aG rfl
section
variable (Γ : Fun)  (Λ2 J : Lam)
def aCm : aS := aT Γ
theorem aGk (p0 p1 : Int) : bL SE (aCm Γ) Λ2 J 123 [dIq p0, dIq p1] [] [] =
 cond (decide (p1 ≥ 0)) (
 cond (decide (p1 < 32)) (
  cond (decide (0 ≤ p1)) (
  (rB ((bY .and .i64 (shr .i64 p0 p1) 1) == 1))) none) (
 (rB false))) (
 (rB false)) := by kernel_rfl
end
abbrev aGs : aS := aCm gG
theorem aC8 : aGs = aT gG := rfl
theorem ai8 (p0 p1 : Int) : Le (Option.map packet_is_out (aa4 p0 p1)) (bH SE 123 [dIq p0, dIq p1] [] []) := by
 refine aZ aC8 rfl ?_
 refine Le.trans ?_ (le_of_eq (aGk ..).symm)
 unfold aa4
 refine lC ?_ ?_
 ·refine lC ?_ ?_
  ·refine lF ?_
   exact aG rfl
  ·exact aG rfl
 ·exact aG rfl
section
variable (Γ : Fun) (γ72 : Gp aP (Int × aK)) (γ73 : Gp aP (Unit)) (Λ2 J : Lam)
def awN : aS := oP (oP (aT Γ) 72 cQ γ72) 73 gS γ73
theorem aGi (p0 : aK) (p1 : Int) : bL SE (awN Γ γ72 γ73) Λ2 J 124 [.ptr 2000000000 0, dIq p1] [⟨101, (aK.avs p0)⟩] [] =
 γ72 [.ptr 2000000000 0] [⟨101, (aK.avs p0)⟩] [] (fun e1 =>
 (some (.pan (.ifc 98 (aP.av e1))))) fun r0 =>
 γ73 [dBq (decide (r0.1 < 0)), dIq 2] [] [] (fun e3 =>
 (some (.pan (.ifc 98 (aP.av e3))))) fun r2 =>
 γ73 [dBq (decide (r0.1 > p1)), dIq 5] [] [] (fun e5 =>
 (some (.pan (.ifc 98 (aP.av e5))))) fun r4 =>
 (some (qU (r0.1, r0.2))) := by kernel_rfl
end
abbrev aBF : aS := awN gG (cP 72 cQ) (cP 73 gS)
theorem aDC : aBF = aT gG := by unfold aBF awN; rw [eV fun _ h => h, eV fun _ h => h]
theorem yH (p0 : aK) (p1 : Int) : Le (Option.map fI (jF p0 p1)) (bH SE 124 [.ptr 2000000000 0, dIq p1] [⟨101, (aK.avs p0)⟩] []) := by
 refine aZ aDC rfl ?_
 refine Le.trans ?_ (le_of_eq (aGi ..).symm)
 unfold jF
 refine cB (good := good) eX bU (bX _) (fun e1 _ => ?_) (fun r0 _ => ?_)
 ·exact aG rfl
 ·refine cB (good := good) eX jD (j5 _ _) (fun e3 _ => ?_) (fun r2 _ => ?_)
  ·exact aG rfl
  ·refine cB (good := good) eX jD (j5 _ _) (fun e5 _ => ?_) (fun r4 _ => ?_)
   ·exact aG rfl
   ·exact aG rfl
def anJ (C : aS) (Λ2 J : Lam) (a0 a1 : Int) (a2 : List D) (a3 a4 : Str) (a5 : Int) (a6 : Bool) (a7 a8 : Int) (a9 : Str) (a10 : Int) (a11 : List D) (a12 : List (List D)) : Res := lab SE C Λ2 J 100 1 [1, 1, 1, 1, 1, 1, 1, 1, 1, 1, 0, 1, 0] (bA [(0, .ptr 2000000000 0), (2, .ptr 1000000000 0), (3, .ptr 1000000001 0), (32, dIq a0), (33, dIq a1)] [⟨47, (List.map AV.d a2)⟩, ⟨47, [dSq a3, dSq a4, dIq a5, dBq a6, dIq a7, dIq a8, dSq a9, dIq a10, .row 50108]⟩] [⟨101, (List.map AV.d a11)⟩] [] [(50108, ⟨aB.ks, 119, 32, a12⟩)])
section
variable (Γ : Fun) (γ122 : Gp aP (Str × aK)) (γ72 γ99 γ124 : Gp aP (Int × aK)) (Λ2 J : Lam)
def an4 : aS := oP (oP (oP (oP (aT Γ) 122 eK γ122) 72 cQ γ72) 99 dI γ99) 124 fI γ124
theorem aFB (p0 : aK) : bL SE (an4 Γ γ122 γ72 γ99 γ124) Λ2 J 100 [.ptr 2000000000 0] [⟨101, (aK.avs p0)⟩] [] =
 γ122 [.ptr 2000000000 0, dIq 64] [⟨101, (aK.avs p0)⟩] [] (fun e1 =>
 (some (.pan (.ifc 98 (aP.av e1))))) fun r0 =>
 γ122 [.ptr 2000000000 0, dIq 256] [⟨101, (aK.avs r0.2)⟩] [] (fun e3 =>
 (some (.pan (.ifc 98 (aP.av e3))))) fun r2 =>
 γ72 [.ptr 2000000000 0] [⟨101, (aK.avs r2.2)⟩] [] (fun e5 =>
 (some (.pan (.ifc 98 (aP.av e5))))) fun r4 =>
 γ99 [.ptr 2000000000 0, dIq 2] [⟨101, (aK.avs r4.2)⟩] [] (fun e7 =>
 (some (.pan (.ifc 98 (aP.av e7))))) fun r6 =>
 γ72 [.ptr 2000000000 0] [⟨101, (aK.avs r6.2)⟩] [] (fun e9 =>
 (some (.pan (.ifc 98 (aP.av e9))))) fun r8 =>
 γ72 [.ptr 2000000000 0] [⟨101, (aK.avs r8.2)⟩] [] (fun e11 =>
 (some (.pan (.ifc 98 (aP.av e11))))) fun r10 =>
 γ122 [.ptr 2000000000 0, dIq 16] [⟨101, (aK.avs r10.2)⟩] [] (fun e13 =>
 (some (.pan (.ifc 98 (aP.av e13))))) fun r12 =>
 γ72 [.ptr 2000000000 0] [⟨101, (aK.avs r12.2)⟩] [] (fun e15 =>
 (some (.pan (.ifc 98 (aP.av e15))))) fun r14 =>
 γ124 [.ptr 2000000000 0, dIq 8] [⟨101, (aK.avs r14.2)⟩] [] (fun e17 =>
 (some (.pan (.ifc 98 (aP.av e17))))) fun r16 =>
 anJ (an4 Γ γ122 γ72 γ99 γ124) Λ2 J r16.1 0 [D.str [], D.str [], D.int .i64 0, D.bool false, D.int .i64 0, D.int .i64 0, D.str [], D.int .i64 0, D.sl aB.ks (List.map aB.enc [])] r0.1 r2.1 r4.1 (r6.1 == 1) r8.1 r10.1 r12.1 r14.1 (aK.enc r16.2) (List.map aB.enc []) := by kernel_rfl
theorem azp (x32 x33 : Int) (b0 : aF) (b1_0 b1_1 : Str) (b1_2 : Int) (b1_3 : Bool) (b1_4 b1_5 : Int) (b1_6 : Str) (b1_7 : Int) (q0 : aK) (w50108 : List aB) : cJ SE (an4 Γ γ122 γ72 γ99 γ124) Λ2 J 100 1 [1, 1, 1, 1, 1, 1, 1, 1, 1, 1, 0, 1, 0] (bA [(0, .ptr 2000000000 0), (2, .ptr 1000000000 0), (3, .ptr 1000000001 0), (32, dIq x32), (33, dIq x33)] [⟨47, (List.map AV.d (aF.enc b0))⟩, ⟨47, [dSq b1_0, dSq b1_1, dIq b1_2, dBq b1_3, dIq b1_4, dIq b1_5, dSq b1_6, dIq b1_7, .row 50108]⟩] [⟨101, (List.map AV.d (aK.enc q0))⟩] [] [(50108, ⟨aB.ks, 119, 32, (List.map aB.enc w50108)⟩)]) =
 cond (decide (x33 < x32)) (
 γ122 [.ptr 2000000000 0, dIq 16] [⟨101, (aK.avs q0)⟩] [] (fun e19 =>
  (some (.pan (.ifc 98 (aP.av e19))))) fun r18 =>
 γ122 [.ptr 2000000000 0, dIq 160] [⟨101, (aK.avs r18.2)⟩] [] (fun e21 =>
  (some (.pan (.ifc 98 (aP.av e21))))) fun r20 =>
 cond (decide ((lM aB.enc w50108 + lM aB.enc [(aB.mk r18.1 r20.1)]) * 32 ≤ 140737488355328)) (
  anJ (an4 Γ γ122 γ72 γ99 γ124) Λ2 J x32 (w6 (x33 + 1)) (aF.enc b0) b1_0 b1_1 b1_2 b1_3 b1_4 b1_5 b1_6 b1_7 (aK.enc r20.2) (((List.map aB.enc w50108) ++ (List.map aB.enc [(aB.mk r18.1 r20.1)])))) none) (
 (some (pA ((aF.mk b1_0 b1_1 b1_2 b1_3 b1_4 b1_5 b1_6 b1_7 w50108), q0)))) := by kernel_rfl
end
abbrev asW : aS := an4 gG (cP 122 eK) (cP 72 cQ) (cP 99 dI) (cP 124 fI)
theorem ax4 : asW = aT gG := by unfold asW an4; rw [eV fun _ h => h, eV fun _ h => h, eV fun _ h => h, eV fun _ h => h]
abbrev azm := anJ asW (cC SE gG (SE.hl 100) (SE.hr 100)) (J0 SE asW)
theorem abO : ∀ (fu : Nat) (x32 x33 : Int) (b0 : aF) (b1_0 b1_1 : Str) (b1_2 : Int) (b1_3 : Bool) (b1_4 b1_5 : Int) (b1_6 : Str) (b1_7 : Int) (q0 : aK) (w50108 : List aB), Le (Option.map eE (hX fu x32 x33 b0 b1_0 b1_1 b1_2 b1_3 b1_4 b1_5 b1_6 b1_7 q0 w50108)) (azm x32 x33 (aF.enc b0) b1_0 b1_1 b1_2 b1_3 b1_4 b1_5 b1_6 b1_7 (aK.enc q0) (List.map aB.enc w50108)) := by
 intro fu
 induction fu with
 | zero => intros; exact le_none
 | succ fu ih =>
  intro x32 x33 b0 b1_0 b1_1 b1_2 b1_3 b1_4 b1_5 b1_6 b1_7 q0 w50108
  refine Le.trans ?_ (le_of_eq ((bD ax4).trans (azp ..)).symm)
  unfold hX
  refine lC ?_ ?_
  ·refine cB (good := good) eX fA (fH _ _) (fun e19 _ => ?_) (fun r18 _ => ?_)
   ·exact aG rfl
   ·refine cB (good := good) eX fA (fH _ _) (fun e21 _ => ?_) (fun r20 _ => ?_)
    ·exact aG rfl
    ·refine lGe ?_
     (try simp only [EN]); exact ih x32 (w6 (x33 + 1)) b0 b1_0 b1_1 b1_2 b1_3 b1_4 b1_5 b1_6 b1_7 r20.2 (w50108 ++ [(aB.mk r18.1 r20.1)])
  ·exact aG rfl
theorem xB (p0 : aK) : Le (Option.map eE (jR p0)) (bH SE 100 [.ptr 2000000000 0] [⟨101, (aK.avs p0)⟩] []) := by
 refine aZ ax4 rfl ?_
 refine Le.trans ?_ (le_of_eq (aFB ..).symm)
 unfold jR
 refine cB (good := good) eX fA (fH _ _) (fun e1 _ => ?_) (fun r0 _ => ?_)
 ·exact aG rfl
 ·refine cB (good := good) eX fA (fH _ _) (fun e3 _ => ?_) (fun r2 _ => ?_)
  ·exact aG rfl
  ·refine cB (good := good) eX bU (bX _) (fun e5 _ => ?_) (fun r4 _ => ?_)
   ·exact aG rfl
   ·refine cB (good := good) eX kK (kZ _ _) (fun e7 _ => ?_) (fun r6 _ => ?_)
    ·exact aG rfl
    ·refine cB (good := good) eX bU (bX _) (fun e9 _ => ?_) (fun r8 _ => ?_)
     ·exact aG rfl
     ·refine cB (good := good) eX bU (bX _) (fun e11 _ => ?_) (fun r10 _ => ?_)
      ·exact aG rfl
      ·refine cB (good := good) eX fA (fH _ _) (fun e13 _ => ?_) (fun r12 _ => ?_)
       ·exact aG rfl
       ·refine cB (good := good) eX bU (bX _) (fun e15 _ => ?_) (fun r14 _ => ?_)
        ·exact aG rfl
        ·refine cB (good := good) eX yD (yH _ _) (fun e17 _ => ?_) (fun r16 _ => ?_)
         ·exact aG rfl
         ·(try simp only [EN]); exact abO fuel r16.1 0 (zMq) r0.1 r2.1 r4.1 (r6.1 == 1) r8.1 r10.1 r12.1 r14.1 r16.2 []
section
variable (Γ : Fun) (γ122 : Gp aP (Str × aK)) (γ99 : Gp aP (Int × aK)) (γ123 : Gm (Bool)) (γ72 : Gp aP (Int × aK)) (γ100 : Gp aP (aF × aK)) (Λ2 J : Lam)
def C98 : aS := oP (oP (bG (oP (oP (aT Γ) 122 eK γ122) 99 dI γ99) 123 packet_is_out γ123) 72 cQ γ72) 100 eE γ100
theorem T98 (p0 : aK) : bL SE (C98 Γ γ122 γ99 γ123 γ72 γ100) Λ2 J 98 [.ptr 2000000000 0] [⟨101, (aK.avs p0)⟩] [] =
 γ122 [.ptr 2000000000 0, dIq 16] [⟨101, (aK.avs p0)⟩] [] (fun e1 =>
 (some (.pan (.ifc 98 (aP.av e1))))) fun r0 =>
 γ122 [.ptr 2000000000 0, dIq 16] [⟨101, (aK.avs r0.2)⟩] [] (fun e3 =>
 (some (.pan (.ifc 98 (aP.av e3))))) fun r2 =>
 γ99 [.ptr 2000000000 0, dIq 4] [⟨101, (aK.avs r2.2)⟩] [] (fun e5 =>
 (some (.pan (.ifc 98 (aP.av e5))))) fun r4 =>
 γ123 [dIq r4.1, dIq 0] [] [] fun r6 =>
 γ123 [dIq r4.1, dIq 1] [] [] fun r7 =>
 γ72 [.ptr 2000000000 0] [⟨101, (aK.avs r4.2)⟩] [] (fun e9 =>
 (some (.pan (.ifc 98 (aP.av e9))))) fun r8 =>
 γ72 [.ptr 2000000000 0] [⟨101, (aK.avs r8.2)⟩] [] (fun e11 =>
 (some (.pan (.ifc 98 (aP.av e11))))) fun r10 =>
 γ72 [.ptr 2000000000 0] [⟨101, (aK.avs r10.2)⟩] [] (fun e13 =>
 (some (.pan (.ifc 98 (aP.av e13))))) fun r12 =>
 cond r7 (
 γ72 [.ptr 2000000000 0] [⟨101, (aK.avs r12.2)⟩] [] (fun e15 =>
  (some (.pan (.ifc 98 (aP.av e15))))) fun r14 =>
 γ100 [.ptr 2000000000 0] [⟨101, (aK.avs r14.2)⟩] [] (fun e17 =>
  (some (.pan (.ifc 98 (aP.av e17))))) fun r16 =>
 (some (pG (((aA.mk 1 0 false zMq r0.1 r2.1 r6 r8.1 r10.1 r12.1 (aY.mk r7 r14.1 r16.1) false 0 [] [] []), r16.2))))) (
 (some (pG (((aA.mk 1 0 false zMq r0.1 r2.1 r6 r8.1 r10.1 r12.1 (aY.mk r7 0 zMq) false 0 [] [] []), r12.2))))) := by kernel_rfl
end
abbrev X98 : aS := C98 gG (cP 122 eK) (cP 99 dI) (cT 123 packet_is_out) (cP 72 cQ) (cP 100 eE)
theorem aHb : X98 = aT gG := by unfold X98 C98; rw [eV fun _ h => h, eV fun _ h => h, bJ fun _ h => h, eV fun _ h => h, eV fun _ h => h]
theorem adw (p0 : aK) : Le (Option.map iA (lS p0)) (bH SE 98 [.ptr 2000000000 0] [⟨101, (aK.avs p0)⟩] []) := by
 refine aZ aHb rfl ?_
 refine Le.trans ?_ (le_of_eq (T98 ..).symm)
 unfold lS
 refine cB (good := good) eX fA (fH _ _) (fun e1 _ => ?_) (fun r0 _ => ?_)
 ·exact aG rfl
 ·refine cB (good := good) eX fA (fH _ _) (fun e3 _ => ?_) (fun r2 _ => ?_)
  ·exact aG rfl
  ·refine cB (good := good) eX kK (kZ _ _) (fun e5 _ => ?_) (fun r4 _ => ?_)
   ·exact aG rfl
   ·refine lQ eX packet_is_inj (ai8 _ _) fun r6 _ => ?_
    refine lQ eX packet_is_inj (ai8 _ _) fun r7 _ => ?_
    refine cB (good := good) eX bU (bX _) (fun e9 _ => ?_) (fun r8 _ => ?_)
    ·exact aG rfl
    ·refine cB (good := good) eX bU (bX _) (fun e11 _ => ?_) (fun r10 _ => ?_)
     ·exact aG rfl
     ·refine cB (good := good) eX bU (bX _) (fun e13 _ => ?_) (fun r12 _ => ?_)
      ·exact aG rfl
      ·refine lC ?_ ?_
       ·refine cB (good := good) eX bU (bX _) (fun e15 _ => ?_) (fun r14 _ => ?_)
        ·exact aG rfl
        ·refine cB (good := good) eX vU (xB _) (fun e17 _ => ?_) (fun r16 _ => ?_)
         ·exact aG rfl
         ·exact aG rfl
       ·exact aG rfl
def ajd (C : aS) (Λ2 J : Lam) (a0 a1 : Int) (a2 : List D) (a3 a4 : Int) (a5 : Bool) (a6 a7 : Str) (a8 : Int) (a9 : Bool) (a10 a11 : Int) (a12 : Str) (a13 : Int) (a14 : List (List D)) (a15 a16 : Str) (a17 : Bool) (a18 a19 a20 : Int) (a21 : Bool) (a22 : Int) (a23 a24 : Str) (a25 : Int) (a26 : Bool) (a27 a28 : Int) (a29 : Str) (a30 : Int) (a31 : List (List D)) (a32 : Bool) (a33 : Int) (a34 : List D) (a35 a36 a37 : List (List D)) : Res := lab SE C Λ2 J 101 1 [1, 1, 0, 1, 0] (bA [(0, .ptr 2000000000 0), (4, .ptr 1000000000 0), (5, .ptr 1000000001 0), (9, dIq a0), (10, dIq a1)] [⟨53, (List.map AV.d a2)⟩, ⟨53, [dIq a3, dIq a4, dBq a5, dSq a6, dSq a7, dIq a8, dBq a9, dIq a10, dIq a11, dSq a12, dIq a13, .d (.sl aB.ks a14), dSq a15, dSq a16, dBq a17, dIq a18, dIq a19, dIq a20, dBq a21, dIq a22, dSq a23, dSq a24, dIq a25, dBq a26, dIq a27, dIq a28, dSq a29, dIq a30, .d (.sl aB.ks a31), dBq a32, dIq a33, .row 50131, .row 50132, .row 50133]⟩] [⟨101, (List.map AV.d a34)⟩] [] [(50131, ⟨aH.ks, 112, 32, a35⟩), (50132, ⟨[.str], 9, 16, a36⟩), (50133, ⟨[.int .i64], 3, 8, a37⟩)])
section
variable (Γ : Fun) (γ124 : Gp aP (Int × aK)) (γ122 : Gp aP (Str × aK)) (γ72 γ99 : Gp aP (Int × aK)) (Λ2 J : Lam)
def aje : aS := oP (oP (oP (oP (aT Γ) 124 fI γ124) 122 eK γ122) 72 cQ γ72) 99 dI γ99
theorem aGY (p0 : aK) (p1 : aA) : bL SE (aje Γ γ124 γ122 γ72 γ99) Λ2 J 101 [.ptr 2000000000 0, .agg [dIq p1.Kind, dIq p1.ID, dBq p1.Dup, dSq p1.Message.Topic, dSq p1.Message.Payload, dIq p1.Message.Level, dBq p1.Message.Retain, dIq p1.Message.Priority, dIq p1.Message.Expires, dSq p1.Message.From, dIq p1.Message.Seq, .d (.sl aB.ks (List.map aB.enc p1.Message.Props)), dSq p1.Client, dSq p1.User, dBq p1.Clean, dIq p1.Keep, dIq p1.Expiry, dIq p1.Window, dBq p1.Will.Set, dIq p1.Will.Delay, dSq p1.Will.Message.Topic, dSq p1.Will.Message.Payload, dIq p1.Will.Message.Level, dBq p1.Will.Message.Retain, dIq p1.Will.Message.Priority, dIq p1.Will.Message.Expires, dSq p1.Will.Message.From, dIq p1.Will.Message.Seq, .d (.sl aB.ks (List.map aB.enc p1.Will.Message.Props)), dBq p1.Present, dIq p1.Code, .row 2000000000, .row 2000000001, .row 2000000002]] [⟨101, (aK.avs p0)⟩] [⟨aH.ks, 112, 32, (List.map aH.enc p1.Subs)⟩, ⟨[.str], 9, 16, (List.map bB p1.Filters)⟩, ⟨[.int .i64], 3, 8, (List.map eI p1.Codes)⟩] =
 γ124 [.ptr 2000000000 0, dIq 32] [⟨101, (aK.avs p0)⟩] [] (fun e1 =>
 (some (.pan (.ifc 98 (aP.av e1))))) fun r0 =>
 ajd (aje Γ γ124 γ122 γ72 γ99) Λ2 J r0.1 0 [D.int .i64 0, D.int .i64 0, D.bool false, D.str [], D.str [], D.int .i64 0, D.bool false, D.int .i64 0, D.int .i64 0, D.str [], D.int .i64 0, D.sl aB.ks (List.map aB.enc []), D.str [], D.str [], D.bool false, D.int .i64 0, D.int .i64 0, D.int .i64 0, D.bool false, D.int .i64 0, D.str [], D.str [], D.int .i64 0, D.bool false, D.int .i64 0, D.int .i64 0, D.str [], D.int .i64 0, D.sl aB.ks (List.map aB.enc []), D.bool false, D.int .i64 0, D.sl aH.ks (List.map aH.enc []), D.sl [.str] (List.map bB []), D.sl [.int .i64] (List.map eI [])] p1.Kind p1.ID p1.Dup p1.Message.Topic p1.Message.Payload p1.Message.Level p1.Message.Retain p1.Message.Priority p1.Message.Expires p1.Message.From p1.Message.Seq (List.map aB.enc p1.Message.Props) p1.Client p1.User p1.Clean p1.Keep p1.Expiry p1.Window p1.Will.Set p1.Will.Delay p1.Will.Message.Topic p1.Will.Message.Payload p1.Will.Message.Level p1.Will.Message.Retain p1.Will.Message.Priority p1.Will.Message.Expires p1.Will.Message.From p1.Will.Message.Seq (List.map aB.enc p1.Will.Message.Props) p1.Present p1.Code (aK.enc r0.2) (List.map aH.enc p1.Subs) (List.map bB p1.Filters) (List.map eI p1.Codes) := by kernel_rfl
theorem aAL (x9 x10 : Int) (b0 : aA) (b1_0 b1_1 : Int) (b1_2 : Bool) (b1_3 b1_4 : Str) (b1_5 : Int) (b1_6 : Bool) (b1_7 b1_8 : Int) (b1_9 : Str) (b1_10 : Int) (b1_11 : List aB) (b1_12 b1_13 : Str) (b1_14 : Bool) (b1_15 b1_16 b1_17 : Int) (b1_18 : Bool) (b1_19 : Int) (b1_20 b1_21 : Str) (b1_22 : Int) (b1_23 : Bool) (b1_24 b1_25 : Int) (b1_26 : Str) (b1_27 : Int) (b1_28 : List aB) (b1_29 : Bool) (b1_30 : Int) (q0 : aK) (w50131 : List aH) (w50132 : List Str) (w50133 : List Int) : cJ SE (aje Γ γ124 γ122 γ72 γ99) Λ2 J 101 1 [1, 1, 0, 1, 0] (bA [(0, .ptr 2000000000 0), (4, .ptr 1000000000 0), (5, .ptr 1000000001 0), (9, dIq x9), (10, dIq x10)] [⟨53, (List.map AV.d (aA.enc b0))⟩, ⟨53, [dIq b1_0, dIq b1_1, dBq b1_2, dSq b1_3, dSq b1_4, dIq b1_5, dBq b1_6, dIq b1_7, dIq b1_8, dSq b1_9, dIq b1_10, .d (.sl aB.ks (List.map aB.enc b1_11)), dSq b1_12, dSq b1_13, dBq b1_14, dIq b1_15, dIq b1_16, dIq b1_17, dBq b1_18, dIq b1_19, dSq b1_20, dSq b1_21, dIq b1_22, dBq b1_23, dIq b1_24, dIq b1_25, dSq b1_26, dIq b1_27, .d (.sl aB.ks (List.map aB.enc b1_28)), dBq b1_29, dIq b1_30, .row 50131, .row 50132, .row 50133]⟩] [⟨101, (List.map AV.d (aK.enc q0))⟩] [] [(50131, ⟨aH.ks, 112, 32, (List.map aH.enc w50131)⟩), (50132, ⟨[.str], 9, 16, (List.map bB w50132)⟩), (50133, ⟨[.int .i64], 3, 8, (List.map eI w50133)⟩)]) =
 cond (decide (x10 < x9)) (
 cond (b1_0 == 8) (
  γ122 [.ptr 2000000000 0, dIq 88] [⟨101, (aK.avs q0)⟩] [] (fun e3 =>
  (some (.pan (.ifc 98 (aP.av e3))))) fun r2 =>
  γ72 [.ptr 2000000000 0] [⟨101, (aK.avs r2.2)⟩] [] (fun e5 =>
  (some (.pan (.ifc 98 (aP.av e5))))) fun r4 =>
  γ99 [.ptr 2000000000 0, dIq 2] [⟨101, (aK.avs r4.2)⟩] [] (fun e7 =>
  (some (.pan (.ifc 98 (aP.av e7))))) fun r6 =>
  cond (decide ((lM aH.enc w50131 + lM aH.enc [(aH.mk r2.1 r4.1 (r6.1 == 1))]) * 32 ≤ 140737488355328)) (
  ajd (aje Γ γ124 γ122 γ72 γ99) Λ2 J x9 (w6 (x10 + 1)) (aA.enc b0) b1_0 b1_1 b1_2 b1_3 b1_4 b1_5 b1_6 b1_7 b1_8 b1_9 b1_10 (List.map aB.enc b1_11) b1_12 b1_13 b1_14 b1_15 b1_16 b1_17 b1_18 b1_19 b1_20 b1_21 b1_22 b1_23 b1_24 b1_25 b1_26 b1_27 (List.map aB.enc b1_28) b1_29 b1_30 (aK.enc r6.2) (((List.map aH.enc w50131) ++ (List.map aH.enc [(aH.mk r2.1 r4.1 (r6.1 == 1))]))) (List.map bB w50132) (List.map eI w50133)) none) (
 cond (b1_0 == 10) (
  γ122 [.ptr 2000000000 0, dIq 88] [⟨101, (aK.avs q0)⟩] [] (fun e9 =>
  (some (.pan (.ifc 98 (aP.av e9))))) fun r8 =>
  cond (decide ((lM bB w50132 + lM bB [r8.1]) * 16 ≤ 140737488355328)) (
  ajd (aje Γ γ124 γ122 γ72 γ99) Λ2 J x9 (w6 (x10 + 1)) (aA.enc b0) b1_0 b1_1 b1_2 b1_3 b1_4 b1_5 b1_6 b1_7 b1_8 b1_9 b1_10 (List.map aB.enc b1_11) b1_12 b1_13 b1_14 b1_15 b1_16 b1_17 b1_18 b1_19 b1_20 b1_21 b1_22 b1_23 b1_24 b1_25 b1_26 b1_27 (List.map aB.enc b1_28) b1_29 b1_30 (aK.enc r8.2) (List.map aH.enc w50131) (((List.map bB w50132) ++ (List.map bB [r8.1]))) (List.map eI w50133)) none) (
 γ72 [.ptr 2000000000 0] [⟨101, (aK.avs q0)⟩] [] (fun e11 =>
  (some (.pan (.ifc 98 (aP.av e11))))) fun r10 =>
 cond (decide ((lM eI w50133 + lM eI [r10.1]) * 8 ≤ 140737488355328)) (
  ajd (aje Γ γ124 γ122 γ72 γ99) Λ2 J x9 (w6 (x10 + 1)) (aA.enc b0) b1_0 b1_1 b1_2 b1_3 b1_4 b1_5 b1_6 b1_7 b1_8 b1_9 b1_10 (List.map aB.enc b1_11) b1_12 b1_13 b1_14 b1_15 b1_16 b1_17 b1_18 b1_19 b1_20 b1_21 b1_22 b1_23 b1_24 b1_25 b1_26 b1_27 (List.map aB.enc b1_28) b1_29 b1_30 (aK.enc r10.2) (List.map aH.enc w50131) (List.map bB w50132) (((List.map eI w50133) ++ (List.map eI [r10.1])))) none))) (
 (some (qS (((aA.mk b1_0 b1_1 b1_2 (aF.mk b1_3 b1_4 b1_5 b1_6 b1_7 b1_8 b1_9 b1_10 b1_11) b1_12 b1_13 b1_14 b1_15 b1_16 b1_17 (aY.mk b1_18 b1_19 (aF.mk b1_20 b1_21 b1_22 b1_23 b1_24 b1_25 b1_26 b1_27 b1_28)) b1_29 b1_30 w50131 w50132 w50133), q0))))) := by kernel_rfl
end
abbrev atG : aS := aje gG (cP 124 fI) (cP 122 eK) (cP 72 cQ) (cP 99 dI)
theorem ax3 : atG = aT gG := by unfold atG aje; rw [eV fun _ h => h, eV fun _ h => h, eV fun _ h => h, eV fun _ h => h]
abbrev aBq := ajd atG (cC SE gG (SE.hl 101) (SE.hr 101)) (J0 SE atG)
theorem acW : ∀ (fu : Nat) (x9 x10 : Int) (b0 : aA) (b1_0 b1_1 : Int) (b1_2 : Bool) (b1_3 b1_4 : Str) (b1_5 : Int) (b1_6 : Bool) (b1_7 b1_8 : Int) (b1_9 : Str) (b1_10 : Int) (b1_11 : List aB) (b1_12 b1_13 : Str) (b1_14 : Bool) (b1_15 b1_16 b1_17 : Int) (b1_18 : Bool) (b1_19 : Int) (b1_20 b1_21 : Str) (b1_22 : Int) (b1_23 : Bool) (b1_24 b1_25 : Int) (b1_26 : Str) (b1_27 : Int) (b1_28 : List aB) (b1_29 : Bool) (b1_30 : Int) (q0 : aK) (w50131 : List aH) (w50132 : List Str) (w50133 : List Int), Le (Option.map gL (cX fu x9 x10 b0 b1_0 b1_1 b1_2 b1_3 b1_4 b1_5 b1_6 b1_7 b1_8 b1_9 b1_10 b1_11 b1_12 b1_13 b1_14 b1_15 b1_16 b1_17 b1_18 b1_19 b1_20 b1_21 b1_22 b1_23 b1_24 b1_25 b1_26 b1_27 b1_28 b1_29 b1_30 q0 w50131 w50132 w50133)) (aBq x9 x10 (aA.enc b0) b1_0 b1_1 b1_2 b1_3 b1_4 b1_5 b1_6 b1_7 b1_8 b1_9 b1_10 (List.map aB.enc b1_11) b1_12 b1_13 b1_14 b1_15 b1_16 b1_17 b1_18 b1_19 b1_20 b1_21 b1_22 b1_23 b1_24 b1_25 b1_26 b1_27 (List.map aB.enc b1_28) b1_29 b1_30 (aK.enc q0) (List.map aH.enc w50131) (List.map bB w50132) (List.map eI w50133)) := by
 intro fu
 induction fu with
 | zero => intros; exact le_none
 | succ fu ih =>
  intro x9 x10 b0 b1_0 b1_1 b1_2 b1_3 b1_4 b1_5 b1_6 b1_7 b1_8 b1_9 b1_10 b1_11 b1_12 b1_13 b1_14 b1_15 b1_16 b1_17 b1_18 b1_19 b1_20 b1_21 b1_22 b1_23 b1_24 b1_25 b1_26 b1_27 b1_28 b1_29 b1_30 q0 w50131 w50132 w50133
  refine Le.trans ?_ (le_of_eq ((bD ax3).trans (aAL ..)).symm)
  unfold cX
  refine lC ?_ ?_
  ·refine lC ?_ ?_
   ·refine cB (good := good) eX fA (fH _ _) (fun e3 _ => ?_) (fun r2 _ => ?_)
    ·exact aG rfl
    ·refine cB (good := good) eX bU (bX _) (fun e5 _ => ?_) (fun r4 _ => ?_)
     ·exact aG rfl
     ·refine cB (good := good) eX kK (kZ _ _) (fun e7 _ => ?_) (fun r6 _ => ?_)
      ·exact aG rfl
      ·refine lGe ?_
       (try simp only [EN]); exact ih x9 (w6 (x10 + 1)) b0 b1_0 b1_1 b1_2 b1_3 b1_4 b1_5 b1_6 b1_7 b1_8 b1_9 b1_10 b1_11 b1_12 b1_13 b1_14 b1_15 b1_16 b1_17 b1_18 b1_19 b1_20 b1_21 b1_22 b1_23 b1_24 b1_25 b1_26 b1_27 b1_28 b1_29 b1_30 r6.2 (w50131 ++ [(aH.mk r2.1 r4.1 (r6.1 == 1))]) w50132 w50133
   ·refine lC ?_ ?_
    ·refine cB (good := good) eX fA (fH _ _) (fun e9 _ => ?_) (fun r8 _ => ?_)
     ·exact aG rfl
     ·refine lGe ?_
      (try simp only [EN]); exact ih x9 (w6 (x10 + 1)) b0 b1_0 b1_1 b1_2 b1_3 b1_4 b1_5 b1_6 b1_7 b1_8 b1_9 b1_10 b1_11 b1_12 b1_13 b1_14 b1_15 b1_16 b1_17 b1_18 b1_19 b1_20 b1_21 b1_22 b1_23 b1_24 b1_25 b1_26 b1_27 b1_28 b1_29 b1_30 r8.2 w50131 (w50132 ++ [r8.1]) w50133
    ·refine cB (good := good) eX bU (bX _) (fun e11 _ => ?_) (fun r10 _ => ?_)
     ·exact aG rfl
     ·refine lGe ?_
      (try simp only [EN]); exact ih x9 (w6 (x10 + 1)) b0 b1_0 b1_1 b1_2 b1_3 b1_4 b1_5 b1_6 b1_7 b1_8 b1_9 b1_10 b1_11 b1_12 b1_13 b1_14 b1_15 b1_16 b1_17 b1_18 b1_19 b1_20 b1_21 b1_22 b1_23 b1_24 b1_25 b1_26 b1_27 b1_28 b1_29 b1_30 r10.2 w50131 w50132 (w50133 ++ [r10.1])
  ·exact aG rfl
theorem nW (p0 : aK) (p1 : aA) : Le (Option.map gL (eC p0 p1)) (bH SE 101 [.ptr 2000000000 0, .agg [dIq p1.Kind, dIq p1.ID, dBq p1.Dup, dSq p1.Message.Topic, dSq p1.Message.Payload, dIq p1.Message.Level, dBq p1.Message.Retain, dIq p1.Message.Priority, dIq p1.Message.Expires, dSq p1.Message.From, dIq p1.Message.Seq, .d (.sl aB.ks (List.map aB.enc p1.Message.Props)), dSq p1.Client, dSq p1.User, dBq p1.Clean, dIq p1.Keep, dIq p1.Expiry, dIq p1.Window, dBq p1.Will.Set, dIq p1.Will.Delay, dSq p1.Will.Message.Topic, dSq p1.Will.Message.Payload, dIq p1.Will.Message.Level, dBq p1.Will.Message.Retain, dIq p1.Will.Message.Priority, dIq p1.Will.Message.Expires, dSq p1.Will.Message.From, dIq p1.Will.Message.Seq, .d (.sl aB.ks (List.map aB.enc p1.Will.Message.Props)), dBq p1.Present, dIq p1.Code, .row 2000000000, .row 2000000001, .row 2000000002]] [⟨101, (aK.avs p0)⟩] [⟨aH.ks, 112, 32, (List.map aH.enc p1.Subs)⟩, ⟨[.str], 9, 16, (List.map bB p1.Filters)⟩, ⟨[.int .i64], 3, 8, (List.map eI p1.Codes)⟩]) := by
 refine aZ ax3 rfl ?_
 refine Le.trans ?_ (le_of_eq (aGY ..).symm)
 unfold eC
 refine cB (good := good) eX yD (yH _ _) (fun e1 _ => ?_) (fun r0 _ => ?_)
 ·exact aG rfl
 ·(try simp only [EN]); exact acW fuel r0.1 0 (zPq) p1.Kind p1.ID p1.Dup p1.Message.Topic p1.Message.Payload p1.Message.Level p1.Message.Retain p1.Message.Priority p1.Message.Expires p1.Message.From p1.Message.Seq p1.Message.Props p1.Client p1.User p1.Clean p1.Keep p1.Expiry p1.Window p1.Will.Set p1.Will.Delay p1.Will.Message.Topic p1.Will.Message.Payload p1.Will.Message.Level p1.Will.Message.Retain p1.Will.Message.Priority p1.Will.Message.Expires p1.Will.Message.From p1.Will.Message.Seq p1.Will.Message.Props p1.Present p1.Code r0.2 p1.Subs p1.Filters p1.Codes
section
variable (Γ : Fun) (γ98 : Gp aP (aA × aK)) (γ99 γ72 : Gp aP (Int × aK)) (γ100 : Gp aP (aF × aK)) (γ101 : Gp aP (aA × aK)) (Λ2 J : Lam)
def C74 : aS := oP (oP (oP (oP (oP (aT Γ) 98 iA γ98) 99 dI γ99) 72 cQ γ72) 100 eE γ100) 101 gL γ101
theorem T74 (p0 : aK) (p1 : Int) : bL SE (C74 Γ γ98 γ99 γ72 γ100 γ101) Λ2 J 74 [.ptr 2000000000 0, dIq p1] [⟨101, (aK.avs p0)⟩] [] =
 cond (p1 == 1) (
 γ98 [.ptr 2000000000 0] [⟨101, (aK.avs p0)⟩] [] (fun e1 =>
  (some (.pan (.ifc 98 (aP.av e1))))) fun r0 =>
 (some (pZ (r0.1, r0.2)))) (
 cond (p1 == 2) (
 γ99 [.ptr 2000000000 0, dIq 2] [⟨101, (aK.avs p0)⟩] [] (fun e3 =>
  (some (.pan (.ifc 98 (aP.av e3))))) fun r2 =>
 γ72 [.ptr 2000000000 0] [⟨101, (aK.avs r2.2)⟩] [] (fun e5 =>
  (some (.pan (.ifc 98 (aP.av e5))))) fun r4 =>
 (some (pZ (((aA.mk p1 0 false zMq [] [] false 0 0 0 zWq (r2.1 == 1) r4.1 [] [] []), r4.2))))) (
 cond (p1 == 3) (
 γ72 [.ptr 2000000000 0] [⟨101, (aK.avs p0)⟩] [] (fun e7 =>
  (some (.pan (.ifc 98 (aP.av e7))))) fun r6 =>
 γ99 [.ptr 2000000000 0, dIq 2] [⟨101, (aK.avs r6.2)⟩] [] (fun e9 =>
  (some (.pan (.ifc 98 (aP.av e9))))) fun r8 =>
 γ100 [.ptr 2000000000 0] [⟨101, (aK.avs r8.2)⟩] [] (fun e11 =>
  (some (.pan (.ifc 98 (aP.av e11))))) fun r10 =>
 (some (pZ (((aA.mk p1 r6.1 (r8.1 == 1) r10.1 [] [] false 0 0 0 zWq false 0 [] [] []), r10.2))))) (
 cond (p1 == 4) (
 γ72 [.ptr 2000000000 0] [⟨101, (aK.avs p0)⟩] [] (fun e13 =>
  (some (.pan (.ifc 98 (aP.av e13))))) fun r12 =>
 (some (pZ (((aA.mk p1 r12.1 false zMq [] [] false 0 0 0 zWq false 0 [] [] []), r12.2))))) (
 cond (p1 == 5) (
 γ72 [.ptr 2000000000 0] [⟨101, (aK.avs p0)⟩] [] (fun e15 =>
  (some (.pan (.ifc 98 (aP.av e15))))) fun r14 =>
 (some (pZ (((aA.mk p1 r14.1 false zMq [] [] false 0 0 0 zWq false 0 [] [] []), r14.2))))) (
 cond (p1 == 6) (
 γ72 [.ptr 2000000000 0] [⟨101, (aK.avs p0)⟩] [] (fun e17 =>
  (some (.pan (.ifc 98 (aP.av e17))))) fun r16 =>
 (some (pZ (((aA.mk p1 r16.1 false zMq [] [] false 0 0 0 zWq false 0 [] [] []), r16.2))))) (
 cond (p1 == 7) (
 γ72 [.ptr 2000000000 0] [⟨101, (aK.avs p0)⟩] [] (fun e19 =>
  (some (.pan (.ifc 98 (aP.av e19))))) fun r18 =>
 (some (pZ (((aA.mk p1 r18.1 false zMq [] [] false 0 0 0 zWq false 0 [] [] []), r18.2))))) (
 cond (p1 == 8) (
 γ72 [.ptr 2000000000 0] [⟨101, (aK.avs p0)⟩] [] (fun e21 =>
  (some (.pan (.ifc 98 (aP.av e21))))) fun r20 =>
 γ101 [.ptr 2000000000 0, .agg [dIq p1, dIq r20.1, dBq false, dSq [], dSq [], dIq 0, dBq false, dIq 0, dIq 0, dSq [], dIq 0, .d (.sl aB.ks (List.map aB.enc [])), dSq [], dSq [], dBq false, dIq 0, dIq 0, dIq 0, dBq false, dIq 0, dSq [], dSq [], dIq 0, dBq false, dIq 0, dIq 0, dSq [], dIq 0, .d (.sl aB.ks (List.map aB.enc [])), dBq false, dIq 0, .row 2000000000, .row 2000000001, .row 2000000002]] [⟨101, (aK.avs r20.2)⟩] [⟨aH.ks, 112, 32, (List.map aH.enc [])⟩, ⟨[.str], 9, 16, (List.map bB [])⟩, ⟨[.int .i64], 3, 8, (List.map eI [])⟩] (fun e23 =>
  (some (.pan (.ifc 98 (aP.av e23))))) fun r22 =>
 (some (pZ (r22.1, r22.2)))) (
 cond (p1 == 9) (
 γ72 [.ptr 2000000000 0] [⟨101, (aK.avs p0)⟩] [] (fun e25 =>
  (some (.pan (.ifc 98 (aP.av e25))))) fun r24 =>
 γ101 [.ptr 2000000000 0, .agg [dIq p1, dIq r24.1, dBq false, dSq [], dSq [], dIq 0, dBq false, dIq 0, dIq 0, dSq [], dIq 0, .d (.sl aB.ks (List.map aB.enc [])), dSq [], dSq [], dBq false, dIq 0, dIq 0, dIq 0, dBq false, dIq 0, dSq [], dSq [], dIq 0, dBq false, dIq 0, dIq 0, dSq [], dIq 0, .d (.sl aB.ks (List.map aB.enc [])), dBq false, dIq 0, .row 2000000000, .row 2000000001, .row 2000000002]] [⟨101, (aK.avs r24.2)⟩] [⟨aH.ks, 112, 32, (List.map aH.enc [])⟩, ⟨[.str], 9, 16, (List.map bB [])⟩, ⟨[.int .i64], 3, 8, (List.map eI [])⟩] (fun e27 =>
  (some (.pan (.ifc 98 (aP.av e27))))) fun r26 =>
 (some (pZ (r26.1, r26.2)))) (
 cond (p1 == 10) (
 γ72 [.ptr 2000000000 0] [⟨101, (aK.avs p0)⟩] [] (fun e29 =>
  (some (.pan (.ifc 98 (aP.av e29))))) fun r28 =>
 γ101 [.ptr 2000000000 0, .agg [dIq p1, dIq r28.1, dBq false, dSq [], dSq [], dIq 0, dBq false, dIq 0, dIq 0, dSq [], dIq 0, .d (.sl aB.ks (List.map aB.enc [])), dSq [], dSq [], dBq false, dIq 0, dIq 0, dIq 0, dBq false, dIq 0, dSq [], dSq [], dIq 0, dBq false, dIq 0, dIq 0, dSq [], dIq 0, .d (.sl aB.ks (List.map aB.enc [])), dBq false, dIq 0, .row 2000000000, .row 2000000001, .row 2000000002]] [⟨101, (aK.avs r28.2)⟩] [⟨aH.ks, 112, 32, (List.map aH.enc [])⟩, ⟨[.str], 9, 16, (List.map bB [])⟩, ⟨[.int .i64], 3, 8, (List.map eI [])⟩] (fun e31 =>
  (some (.pan (.ifc 98 (aP.av e31))))) fun r30 =>
 (some (pZ (r30.1, r30.2)))) (
 cond (p1 == 11) (
 γ72 [.ptr 2000000000 0] [⟨101, (aK.avs p0)⟩] [] (fun e33 =>
  (some (.pan (.ifc 98 (aP.av e33))))) fun r32 =>
 γ101 [.ptr 2000000000 0, .agg [dIq p1, dIq r32.1, dBq false, dSq [], dSq [], dIq 0, dBq false, dIq 0, dIq 0, dSq [], dIq 0, .d (.sl aB.ks (List.map aB.enc [])), dSq [], dSq [], dBq false, dIq 0, dIq 0, dIq 0, dBq false, dIq 0, dSq [], dSq [], dIq 0, dBq false, dIq 0, dIq 0, dSq [], dIq 0, .d (.sl aB.ks (List.map aB.enc [])), dBq false, dIq 0, .row 2000000000, .row 2000000001, .row 2000000002]] [⟨101, (aK.avs r32.2)⟩] [⟨aH.ks, 112, 32, (List.map aH.enc [])⟩, ⟨[.str], 9, 16, (List.map bB [])⟩, ⟨[.int .i64], 3, 8, (List.map eI [])⟩] (fun e35 =>
  (some (.pan (.ifc 98 (aP.av e35))))) fun r34 =>
 (some (pZ (r34.1, r34.2)))) (
 cond (p1 == 14) (
 γ72 [.ptr 2000000000 0] [⟨101, (aK.avs p0)⟩] [] (fun e37 =>
  (some (.pan (.ifc 98 (aP.av e37))))) fun r36 =>
 (some (pZ (((aA.mk p1 0 false zMq [] [] false 0 0 0 zWq false r36.1 [] [] []), r36.2))))) (
 (some (pZ (((aA.mk p1 0 false zMq [] [] false 0 0 0 zWq false 0 [] [] []), p0)))))))))))))))) := by kernel_rfl
end
abbrev X74 : aS := C74 gG (cP 98 iA) (cP 99 dI) (cP 72 cQ) (cP 100 eE) (cP 101 gL)
theorem aGR : X74 = aT gG := by unfold X74 C74; rw [eV fun _ h => h, eV fun _ h => h, eV fun _ h => h, eV fun _ h => h, eV fun _ h => h]
theorem yA (p0 : aK) (p1 : Int) : Le (Option.map iL (gM p0 p1)) (bH SE 74 [.ptr 2000000000 0, dIq p1] [⟨101, (aK.avs p0)⟩] []) := by
 refine aZ aGR rfl ?_
 refine Le.trans ?_ (le_of_eq (T74 ..).symm)
 unfold gM
 refine lC ?_ ?_
 ·refine cB (good := good) eX adb (adw _) (fun e1 _ => ?_) (fun r0 _ => ?_)
  ·exact aG rfl
  ·exact aG rfl
 ·refine lC ?_ ?_
  ·refine cB (good := good) eX kK (kZ _ _) (fun e3 _ => ?_) (fun r2 _ => ?_)
   ·exact aG rfl
   ·refine cB (good := good) eX bU (bX _) (fun e5 _ => ?_) (fun r4 _ => ?_)
    ·exact aG rfl
    ·exact aG rfl
  ·refine lC ?_ ?_
   ·refine cB (good := good) eX bU (bX _) (fun e7 _ => ?_) (fun r6 _ => ?_)
    ·exact aG rfl
    ·refine cB (good := good) eX kK (kZ _ _) (fun e9 _ => ?_) (fun r8 _ => ?_)
     ·exact aG rfl
     ·refine cB (good := good) eX vU (xB _) (fun e11 _ => ?_) (fun r10 _ => ?_)
      ·exact aG rfl
      ·exact aG rfl
   ·refine lC ?_ ?_
    ·refine cB (good := good) eX bU (bX _) (fun e13 _ => ?_) (fun r12 _ => ?_)
     ·exact aG rfl
     ·exact aG rfl
    ·refine lC ?_ ?_
     ·refine cB (good := good) eX bU (bX _) (fun e15 _ => ?_) (fun r14 _ => ?_)
      ·exact aG rfl
      ·exact aG rfl
     ·refine lC ?_ ?_
      ·refine cB (good := good) eX bU (bX _) (fun e17 _ => ?_) (fun r16 _ => ?_)
       ·exact aG rfl
       ·exact aG rfl
      ·refine lC ?_ ?_
       ·refine cB (good := good) eX bU (bX _) (fun e19 _ => ?_) (fun r18 _ => ?_)
        ·exact aG rfl
        ·exact aG rfl
       ·refine lC ?_ ?_
        ·refine cB (good := good) eX bU (bX _) (fun e21 _ => ?_) (fun r20 _ => ?_)
         ·exact aG rfl
         ·refine cB (good := good) eX nF (by (try simp only [EN]); exact nW r20.2 ((aA.mk p1 r20.1 false zMq [] [] false 0 0 0 zWq false 0 [] [] []))) (fun e23 _ => ?_) (fun r22 _ => ?_)
          ·exact aG rfl
          ·exact aG rfl
        ·refine lC ?_ ?_
         ·refine cB (good := good) eX bU (bX _) (fun e25 _ => ?_) (fun r24 _ => ?_)
          ·exact aG rfl
          ·refine cB (good := good) eX nF (by (try simp only [EN]); exact nW r24.2 ((aA.mk p1 r24.1 false zMq [] [] false 0 0 0 zWq false 0 [] [] []))) (fun e27 _ => ?_) (fun r26 _ => ?_)
           ·exact aG rfl
           ·exact aG rfl
         ·refine lC ?_ ?_
          ·refine cB (good := good) eX bU (bX _) (fun e29 _ => ?_) (fun r28 _ => ?_)
           ·exact aG rfl
           ·refine cB (good := good) eX nF (by (try simp only [EN]); exact nW r28.2 ((aA.mk p1 r28.1 false zMq [] [] false 0 0 0 zWq false 0 [] [] []))) (fun e31 _ => ?_) (fun r30 _ => ?_)
            ·exact aG rfl
            ·exact aG rfl
          ·refine lC ?_ ?_
           ·refine cB (good := good) eX bU (bX _) (fun e33 _ => ?_) (fun r32 _ => ?_)
            ·exact aG rfl
            ·refine cB (good := good) eX nF (by (try simp only [EN]); exact nW r32.2 ((aA.mk p1 r32.1 false zMq [] [] false 0 0 0 zWq false 0 [] [] []))) (fun e35 _ => ?_) (fun r34 _ => ?_)
             ·exact aG rfl
             ·exact aG rfl
           ·refine lC ?_ ?_
            ·refine cB (good := good) eX bU (bX _) (fun e37 _ => ?_) (fun r36 _ => ?_)
             ·exact aG rfl
             ·exact aG rfl
            ·exact aG rfl
section
variable (Γ : Fun) (γ72 : Gp aP (Int × aK)) (γ73 : Gp aP (Unit)) (γ74 : Gp aP (aA × aK)) (γ59 : Gm (Int)) (Λ2 J : Lam)
def C42 : aS := bG (oP (oP (oP (aT Γ) 72 cQ γ72) 73 gS γ73) 74 iL γ74) 59 aJ γ59
theorem T42 (p0 : List Int) : ajC SE (C42 Γ γ72 γ73 γ74 γ59) 42 aqd [.d (.sl [.int .u8] (List.map (aN .u8) p0))] [] [] =
 cond (decide ((lM (aN .u8) p0 : Int) > 4096)) (
 (some (qL ((zPq, 5))))) (
 γ72 [.ptr 2000000000 0] [⟨101, (aK.avs (aK.mk p0 0))⟩] [] (fun e1 =>
 (some (qL ((zPq, e1.code))))) fun r0 =>
 cond (decide (r0.1 < 1)) (
 γ73 [dBq true, dIq 10] [] [] (fun e3 =>
  (some (qL ((zPq, e3.code))))) fun r2 =>
 γ74 [.ptr 2000000000 0, dIq r0.1] [⟨101, (aK.avs r0.2)⟩] [] (fun e5 =>
  (some (qL ((zPq, e5.code))))) fun r4 =>
 γ73 [dBq (decide (r4.2.at_ < (lM (aN .u8) p0 : Int))), dIq 2] [] [] (fun e7 =>
  (some (qL ((zPq, e7.code))))) fun r6 =>
 γ59 [aA.av r4.1] [] [] fun r8 =>
 γ73 [dBq (r8 != 0), dIq r8] [] [] (fun e10 =>
  (some (qL ((zPq, e10.code))))) fun r9 =>
 (some (qL (r4.1, 0)))) (
 γ73 [dBq (decide (r0.1 > 14)), dIq 10] [] [] (fun e12 =>
 (some (qL ((zPq, e12.code))))) fun r11 =>
 γ74 [.ptr 2000000000 0, dIq r0.1] [⟨101, (aK.avs r0.2)⟩] [] (fun e14 =>
 (some (qL ((zPq, e14.code))))) fun r13 =>
 γ73 [dBq (decide (r13.2.at_ < (lM (aN .u8) p0 : Int))), dIq 2] [] [] (fun e16 =>
 (some (qL ((zPq, e16.code))))) fun r15 =>
 γ59 [aA.av r13.1] [] [] fun r17 =>
 γ73 [dBq (r17 != 0), dIq r17] [] [] (fun e19 =>
 (some (qL ((zPq, e19.code))))) fun r18 =>
 (some (qL (r13.1, 0))))) := by kernel_rfl
end
abbrev X42 : aS := C42 gG (cP 72 cQ) (cP 73 gS) (cP 74 iL) (cT 59 aJ)
theorem aGX : X42 = aT gG := by unfold X42 C42; rw [eV fun _ h => h, eV fun _ h => h, eV fun _ h => h, bJ fun _ h => h]
theorem anY (p0 : List Int) : Le (Option.map qL (sF p0)) (bH SE 42 [.d (.sl [.int .u8] (List.map (aN .u8) p0))] [] []) := by
 refine avu aGX rfl ?_
 refine Le.trans ?_ (le_of_eq (T42 ..).symm)
 unfold sF
 refine lDe ?_ ?_
 ·exact aG rfl
 ·refine cB (good := good) eX bU (bX _) (fun e1 _ => ?_) (fun r0 _ => ?_)
  ·exact aG rfl
  ·refine lC ?_ ?_
   ·refine cB (good := good) eX jD (j5 _ _) (fun e3 _ => ?_) (fun r2 _ => ?_)
    ·exact aG rfl
    ·refine cB (good := good) eX wW (yA _ _) (fun e5 _ => ?_) (fun r4 _ => ?_)
     ·exact aG rfl
     ·refine cB (good := good) eX jD (by (try simp only [EN]); exact j5 (decide (r4.2.at_ < (List.length p0 : Int))) 2) (fun e7 _ => ?_) (fun r6 _ => ?_)
      ·exact aG rfl
      ·refine lQ eX bE (abm _) fun r8 _ => ?_
       refine cB (good := good) eX jD (j5 _ _) (fun e10 _ => ?_) (fun r9 _ => ?_)
       ·exact aG rfl
       ·exact aG rfl
   ·refine cB (good := good) eX jD (j5 _ _) (fun e12 _ => ?_) (fun r11 _ => ?_)
    ·exact aG rfl
    ·refine cB (good := good) eX wW (yA _ _) (fun e14 _ => ?_) (fun r13 _ => ?_)
     ·exact aG rfl
     ·refine cB (good := good) eX jD (by (try simp only [EN]); exact j5 (decide (r13.2.at_ < (List.length p0 : Int))) 2) (fun e16 _ => ?_) (fun r15 _ => ?_)
      ·exact aG rfl
      ·refine lQ eX bE (abm _) fun r17 _ => ?_
       refine cB (good := good) eX jD (j5 _ _) (fun e19 _ => ?_) (fun r18 _ => ?_)
       ·exact aG rfl
       ·exact aG rfl
def atY (C : aS) (Λ2 J : Lam) (a0 : List (List D)) (a1 : Int) (a2 : List (List D)) : Res := lab SE C Λ2 J 26 0 [1, 1, 1, 0, 0] (bA [(0, .d (.sl [.int .u8] a0)), (4, .row 3004), (5, dIq a1)] [] [] [] [(3004, ⟨aA.ks, 53, 416, a2⟩)])
section
variable (Γ : Fun) (γ41 : Gm (Int × Int × Int)) (γ42 : Gm (aA × Int)) (Λ2 J : Lam)
def C26 : aS := bG (bG (aT Γ) 41 cA γ41) 42 qL γ42
theorem T26 (p0 : List Int) : bL SE (C26 Γ γ41 γ42) Λ2 J 26 [.d (.sl [.int .u8] (List.map (aN .u8) p0))] [] [] =
 atY (C26 Γ γ41 γ42) Λ2 J (List.map (aN .u8) p0) 0 (List.map aA.enc []) := by kernel_rfl
theorem aDO (x0 : List Int) (x5 : Int) (w3004 : List aA) : cJ SE (C26 Γ γ41 γ42) Λ2 J 26 0 [1, 1, 1, 0, 0] (bA [(0, .d (.sl [.int .u8] (List.map (aN .u8) x0))), (4, .row 3004), (5, dIq x5)] [] [] [] [(3004, ⟨aA.ks, 53, 416, (List.map aA.enc w3004)⟩)]) =
 cond (decide (x5 < (lM (aN .u8) x0 : Int))) (
 γ41 [.d (.sl [.int .u8] (List.map (aN .u8) x0)), dIq x5] [] [] fun r0 =>
 cond (r0.2.2 != 0) (
  (some (fD ([], r0.2.2)))) (
 cond (decide (r0.1 < 0)) (
  (some (fD ([], 2)))) (
 cond (decide (r0.1 > 4096)) (
  (some (fD ([], 5)))) (
 cond (decide (r0.1 > (w6 ((lM (aN .u8) x0 : Int) - r0.2.1)))) (
  (some (fD ([], 3)))) (
 cond (decide (0 ≤ (w6 (r0.2.1 + r0.1))) && decide ((w6 (r0.2.1 + r0.1)) ≤ ((lM (aN .u8) x0) : Int))) (
  cond (decide (0 ≤ (w6 (r0.2.1 + r0.1))) && decide ((w6 (r0.2.1 + r0.1)) ≤ (w6 (r0.2.1 + r0.1)))) (
  cond (decide (0 ≤ r0.2.1) && decide (r0.2.1 ≤ (w6 (r0.2.1 + r0.1)))) (
   γ42 [.d (.sl [.int .u8] (cH (List.map (aN .u8) x0) (some r0.2.1) (some (w6 (r0.2.1 + r0.1)))))] [] [] fun r1 =>
   cond (r1.2 != 0) (
   (some (fD ([], r1.2)))) (
   cond (decide ((lM aA.enc w3004 + lM aA.enc [r1.1]) * 416 ≤ 140737488355328)) (
   atY (C26 Γ γ41 γ42) Λ2 J (List.map (aN .u8) x0) (w6 (r0.2.1 + r0.1)) (((List.map aA.enc w3004) ++ (List.map aA.enc [r1.1])))) none)) none) none) none))))) (
 (some (fD (w3004, 0)))) := by kernel_rfl
end
abbrev X26 : aS := C26 gG (cT 41 cA) (cT 42 qL)
theorem az4 : X26 = aT gG := by unfold X26 C26; repeat rw [bJ fun _ h => h]
abbrev aEi := atY X26 (cC SE gG (SE.hl 26) (SE.hr 26)) (J0 SE X26)
theorem ahQ : ∀ (fu : Nat) (x0 : List Int) (x5 : Int) (w3004 : List aA), Le (Option.map fD (kD fu x0 x5 w3004)) (aEi (List.map (aN .u8) x0) x5 (List.map aA.enc w3004)) := by
 intro fu
 induction fu with
 | zero => intros; exact le_none
 | succ fu ih =>
  intro x0 x5 w3004
  refine Le.trans ?_ (le_of_eq ((bD az4).trans (aDO ..)).symm)
  unfold kD
  refine lDe ?_ ?_
  ·refine lQ eX iO (xI _ _) fun r0 _ => ?_
   refine lC ?_ ?_
   ·exact aG rfl
   ·refine lC ?_ ?_
    ·exact aG rfl
    ·refine lC ?_ ?_
     ·exact aG rfl
     ·refine lDe ?_ ?_
      ·exact aG rfl
      ·refine lGe ?_
       refine lF ?_
       refine lF ?_
       refine lQ eX amY (by (try simp only [EN]); exact anY ((cH x0 (some r0.2.1) (some (w6 (r0.2.1 + r0.1)))))) fun r1 _ => ?_
       refine lC ?_ ?_
       ·exact aG rfl
       ·refine lGe ?_
        (try simp only [EN]); exact ih x0 (w6 (r0.2.1 + r0.1)) (w3004 ++ [r1.1])
  ·exact aG rfl
theorem akL (p0 : List Int) : Le (Option.map fD (zS p0)) (bH SE 26 [.d (.sl [.int .u8] (List.map (aN .u8) p0))] [] []) := by
 refine aZ az4 rfl ?_
 refine Le.trans ?_ (le_of_eq (T26 ..).symm)
 unfold zS
 (try simp only [EN]); exact ahQ fuel p0 0 []
section
variable (Γ : Fun)  (Λ2 J : Lam)
def C18 : aS := aT Γ
theorem T18 (p0 : aI) : bL SE (C18 Γ) Λ2 J 18 [aI.av p0] [] [] =
 (some (.ret [aI.av (aI.mk p0.Conn p0.Sent p0.Got true)] [] [])) := by kernel_rfl
end
abbrev X18 : aS := C18 gG
theorem aHy : X18 = aT gG := rfl
theorem af3 (p0 : aI) : Le (Option.map eG (yO p0)) (bH SE 18 [aI.av p0] [] []) := by
 refine aZ aHy rfl ?_
 refine Le.trans ?_ (le_of_eq (T18 ..).symm)
 unfold yO
 exact aG rfl
section
variable (Γ : Fun) (γ25 : Gm (Int × Int × (List Int) × Int)) (γ26 : Gm ((List aA) × Int)) (γ18 : Gm (aI)) (Λ2 J : Lam)
def C12 : aS := bG (bG (bG (aT Γ) 25 fJ γ25) 26 fD γ26) 18 eG γ18
theorem T12 (p0 : aI) (p1 : List Int) : bL SE (C12 Γ γ25 γ26 γ18) Λ2 J 12 [aI.av p0, .d (.sl [.int .u8] (List.map (aN .u8) p1))] [] [] =
 γ25 [.d (.sl [.int .u8] (List.map (aN .u8) p1))] [] [] fun r0 =>
 cond (r0.2.2.2 != 0) (
 (some (dQ ([], p0, r0.2.2.2)))) (
 γ26 [.d (.sl [.int .u8] (List.map (aN .u8) r0.2.2.1))] [] [] fun r1 =>
 cond (r1.2 != 0) (
 (some (dQ ([], p0, r1.2)))) (
 cond (r0.1 != p0.Conn) (
 (some (dQ ([], p0, 8)))) (
 cond p0.Broken (
 (some (dQ ([], p0, 21)))) (
 cond (decide (r0.2.1 ≤ p0.Got)) (
 (some (dQ ([], p0, 26)))) (
 cond (decide ((w6 (r0.2.1 - 1)) > p0.Got)) (
 γ18 [aI.av p0] [] [] fun r2 =>
 (some (dQ ([], r2, 22)))) (
 (some (dQ (r1.1, (aI.mk p0.Conn p0.Sent (w6 (p0.Got + 1)) p0.Broken), 0))))))))) := by kernel_rfl
end
abbrev X12 : aS := C12 gG (cT 25 fJ) (cT 26 fD) (cT 18 eG)
theorem aHA : X12 = aT gG := by unfold X12 C12; repeat rw [bJ fun _ h => h]
theorem qZ (p0 : aI) (p1 : List Int) : Le (Option.map dQ (lJ p0 p1)) (bH SE 12 [aI.av p0, .d (.sl [.int .u8] (List.map (aN .u8) p1))] [] []) := by
 refine aZ aHA rfl ?_
 refine Le.trans ?_ (le_of_eq (T12 ..).symm)
 unfold lJ
 refine lQ eX abr (agX _) fun r0 _ => ?_
 refine lC ?_ ?_
 ·exact aG rfl
 ·refine lQ eX acZ (akL _) fun r1 _ => ?_
  refine lC ?_ ?_
  ·exact aG rfl
  ·refine lC ?_ ?_
   ·exact aG rfl
   ·refine lC ?_ ?_
    ·exact aG rfl
    ·refine lC ?_ ?_
     ·exact aG rfl
     ·refine lC ?_ ?_
      ·refine lQ eX o8 (af3 _) fun r2 _ => ?_
       exact aG rfl
      ·exact aG rfl
section
variable (Γ : Fun) (γ15 : Gm (aI)) (γ9 : Gm ((List Int) × aI × Int)) (γ17 : Gm (Int × Int × Int)) (γ12 : Gm ((List aA) × aI × Int)) (γ18 : Gm (aI)) (Λ2 J : Lam)
def C8 : aS := bG (bG (bG (bG (bG (aT Γ) 15 eG γ15) 9 dY γ9) 17 cA γ17) 12 dQ γ12) 18 eG γ18
theorem T8 : bL SE (C8 Γ γ15 γ9 γ17 γ12 γ18) Λ2 J 8 [] [] [] =
 γ15 [dIq 1] [] [] fun r0 =>
 γ9 [aI.av r0, .d (.sl aA.ks (List.map aA.enc []))] [] [] fun r1 =>
 γ17 [.d (.sl [.int .u8] (List.map (aN .u8) r1.1))] [] [] fun r2 =>
 γ15 [dIq 1] [] [] fun r3 =>
 γ12 [aI.av r3, .d (.sl [.int .u8] (List.map (aN .u8) r1.1))] [] [] fun r4 =>
 γ12 [aI.av r4.2.1, .d (.sl [.int .u8] (List.map (aN .u8) r1.1))] [] [] fun r5 =>
 cond (r1.2.2 == 0) (
 cond ((r1.2.1.Conn == 1) && ((r1.2.1.Sent == 1) && ((r1.2.1.Got == 0) && ((r1.2.1.Broken == false) && true)))) (
  cond (r2.1 == 1) (
  cond (r2.2.1 == 1) (
   cond (r2.2.2 == 0) (
   cond ((lM (aN .u8) r1.1 : Int) == 7) (
    cond (decide (0 ≤ 0) && decide (0 < (lM (aN .u8) r1.1 : Int))) (
    cond ((bC (cE (aN .u8) r1.1 0 0)) == 4) (
     cond (r4.2.2 == 0) (
     cond ((r4.2.1.Conn == 1) && ((r4.2.1.Sent == 0) && ((r4.2.1.Got == 1) && ((r4.2.1.Broken == false) && true)))) (
      cond (r5.2.2 == 26) (
      cond ((r5.2.1.Conn == r4.2.1.Conn) && ((r5.2.1.Sent == r4.2.1.Sent) && ((r5.2.1.Got == r4.2.1.Got) && ((r5.2.1.Broken == r4.2.1.Broken) && true)))) (
       γ18 [aI.av r4.2.1] [] [] fun r6 =>
       (rB r6.Broken)) (
      (rB false))) (
      (rB false))) (
     (rB false))) (
     (rB false))) (
    (rB false))) none) (
   (rB false))) (
   (rB false))) (
  (rB false))) (
  (rB false))) (
 (rB false))) (
 (rB false)) := by kernel_rfl
end
abbrev X8 : aS := C8 gG (cT 15 eG) (cT 9 dY) (cT 17 cA) (cT 12 dQ) (cT 18 eG)
theorem Cr8 : X8 = aT gG := by unfold X8 C8; repeat rw [bJ fun _ h => h]
theorem cS : Le (Option.map packet_is_out (cU)) (bH SE 8 [] [] []) := by
 refine aZ Cr8 rfl ?_
 refine Le.trans ?_ (le_of_eq (T8 _ _ _ _ _ _ _ _ ).symm)
 unfold cU
 refine lQ eX o8 (aaD _) fun r0 _ => ?_
 refine lQ eX tP (by (try simp only [EN]); exact zF r0 []) fun r1 _ => ?_
 refine lQ eX iO (anE _) fun r2 _ => ?_
 refine lQ eX o8 (aaD _) fun r3 _ => ?_
 refine lQ eX m7 (qZ _ _) fun r4 _ => ?_
 refine lQ eX m7 (qZ _ _) fun r5 _ => ?_
 refine lC ?_ ?_
 ·refine lC ?_ ?_
  ·refine lC ?_ ?_
   ·refine lC ?_ ?_
    ·refine lC ?_ ?_
     ·refine lDe ?_ ?_
      ·refine lGe ?_
       refine lDe ?_ ?_
       ·refine lC ?_ ?_
        ·refine lC ?_ ?_
         ·refine lC ?_ ?_
          ·refine lC ?_ ?_
           ·refine lQ eX o8 (af3 _) fun r6 _ => ?_
            exact aG rfl
           ·exact aG rfl
          ·exact aG rfl
         ·exact aG rfl
        ·exact aG rfl
       ·exact aG rfl
      ·exact aG rfl
     ·exact aG rfl
    ·exact aG rfl
   ·exact aG rfl
  ·exact aG rfl
 ·exact aG rfl
def avY (C : aS) (Λ2 J : Lam) (a0 : List (List D)) (a1 : Int) : Res := lab SE C Λ2 J 7 0 [1, 1, 0, 1, 0] (bA [(0, .d (.sl aA.ks a0)), (3, dIq a1)] [] [] [] [])
section
variable (Γ : Fun)  (Λ2 J : Lam)
def C7 : aS := aT Γ
theorem T7 (p0 : List aA) : bL SE (C7 Γ) Λ2 J 7 [.d (.sl aA.ks (List.map aA.enc p0))] [] [] =
 cond (decide ((lM aA.enc p0 : Int) > 6)) (
 (rB false)) (
 avY (C7 Γ) Λ2 J (List.map aA.enc p0) 0) := by kernel_rfl
theorem aF9 (x0 : List aA) (x3 : Int) : cJ SE (C7 Γ) Λ2 J 7 0 [1, 1, 0, 1, 0] (bA [(0, .d (.sl aA.ks (List.map aA.enc x0))), (3, dIq x3)] [] [] [] []) =
 cond (decide (x3 < (lM aA.enc x0 : Int))) (
 cond (iB x3 (lM aA.enc x0 : Int)) (
  cond (decide ((List.length (bQ (cE aA.enc x0 x3 12)) : Int) > 400)) (
  (rB false)) (
  cond (decide ((List.length (bQ (cE aA.enc x0 x3 13)) : Int) > 400)) (
  (rB false)) (
  cond (decide ((List.length (dSl (cE aA.enc x0 x3 31)) : Int) > 40)) (
  (rB false)) (
  cond (decide ((List.length (dSl (cE aA.enc x0 x3 32)) : Int) > 40)) (
  (rB false)) (
  cond (decide ((List.length (dSl (cE aA.enc x0 x3 33)) : Int) > 40)) (
  (rB false)) (
  cond (decide ((List.length (bQ (cE aA.enc x0 x3 4)) : Int) > 400)) (
  (rB false)) (
  cond (decide ((List.length (bQ (cE aA.enc x0 x3 3)) : Int) > 400)) (
  (rB false)) (
  cond (decide ((List.length (dSl (cE aA.enc x0 x3 11)) : Int) > 20)) (
  (rB false)) (
  cond (decide ((List.length (dSl (cE aA.enc x0 x3 28)) : Int) > 20)) (
  (rB false)) (
  avY (C7 Γ) Λ2 J (List.map aA.enc x0) (w6 (x3 + 1)))))))))))) none) (
 (rB true)) := by kernel_rfl
end
abbrev X7 : aS := C7 gG
theorem Cr7 : X7 = aT gG := rfl
abbrev aHJ := avY X7 (cC SE gG (SE.hl 7) (SE.hr 7)) (J0 SE X7)
theorem afm : ∀ (fu : Nat) (x0 : List aA) (x3 : Int), Le (Option.map packet_is_out (gJ fu x0 x3)) (aHJ (List.map aA.enc x0) x3) := by
 intro fu
 induction fu with
 | zero => intros; exact le_none
 | succ fu ih =>
  intro x0 x3
  refine Le.trans ?_ (le_of_eq ((bD Cr7).trans (aF9 ..)).symm)
  unfold gJ
  refine lDe ?_ ?_
  ·refine lGe ?_
   refine lDe ?_ ?_
   ·exact aG rfl
   ·refine lDe ?_ ?_
    ·exact aG rfl
    ·refine lDe ?_ ?_
     ·exact aG rfl
     ·refine lDe ?_ ?_
      ·exact aG rfl
      ·refine lDe ?_ ?_
       ·exact aG rfl
       ·refine lDe ?_ ?_
        ·exact aG rfl
        ·refine lDe ?_ ?_
         ·exact aG rfl
         ·refine lDe ?_ ?_
          ·exact aG rfl
          ·refine lDe ?_ ?_
           ·exact aG rfl
           ·exact ih x0 (w6 (x3 + 1))
  ·exact aG rfl
theorem abo (p0 : List aA) : Le (Option.map packet_is_out (oH p0)) (bH SE 7 [.d (.sl aA.ks (List.map aA.enc p0))] [] []) := by
 refine aZ Cr7 rfl ?_
 refine Le.trans ?_ (le_of_eq (T7 ..).symm)
 unfold oH
 refine lDe ?_ ?_
 ·exact aG rfl
 ·exact afm fuel p0 0
end Te
end PX
