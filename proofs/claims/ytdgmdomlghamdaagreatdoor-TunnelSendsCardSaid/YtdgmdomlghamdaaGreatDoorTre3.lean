import Derived.Test.YtdgmdomlghamdaaGreatDoorTre2
set_option linter.unusedVariables false
set_option linter.unusedSimpArgs false
set_option maxRecDepth 100000
noncomputable section
namespace PX
open Go
open Md
namespace Te
def auj (C : aS) (Λ2 J : Lam) (a0 : Int) (a1 : List D) (a2 : List (List D)) : Res := lab SE C Λ2 J 69 0 [1, 1, 0, 1, 0, 1, 0, 1, 0] (bA [(0, .row 3000), (3, .ptr 1000000000 0), (5, dIq a0)] [⟨53, (List.map AV.d a1)⟩] [] [] [(3000, ⟨[.int .u8], 5, 1, a2⟩)])
def aq9 (C : aS) (Λ2 J : Lam) (a0 : Int) (a1 : List D) (a2 : List (List D)) : Res := lab SE C Λ2 J 69 0 [1, 1, 1, 1, 0, 1, 0] (bA [(0, .row 3000), (3, .ptr 1000000000 0), (6, dIq a0)] [⟨53, (List.map AV.d a1)⟩] [] [] [(3000, ⟨[.int .u8], 5, 1, a2⟩)])
section
variable (Γ : Fun) (γ97 γ23 γ37 : Gm ((List Int))) (γ67 : Gm (Int)) (Λ2 J : Lam)
def C69 : aS := bG (bG (bG (bG (aT Γ) 97 aR γ97) 23 aR γ23) 37 aR γ37) 67 aJ γ67
theorem T69 (p0 : List Int) (p1 : aA) : bL SE (C69 Γ γ97 γ23 γ37 γ67) Λ2 J 69 [.d (.sl [.int .u8] (List.map (aN .u8) p0)), aA.av p1] [] [] =
 cond (p1.Kind == 10) (
 γ97 [.d (.sl [.int .u8] (List.map (aN .u8) p0)), .d (.sl [.str] (List.map bB p1.Filters))] [] [] fun r0 =>
 (some (aR r0))) (
 cond (p1.Kind == 8) (
 γ23 [.d (.sl [.int .u8] (List.map (aN .u8) p0)), dIq (lM aH.enc p1.Subs : Int)] [] [] fun r1 =>
 auj (C69 Γ γ97 γ23 γ37 γ67) Λ2 J 0 (aA.enc p1) (List.map (aN .u8) r1)) (
 γ23 [.d (.sl [.int .u8] (List.map (aN .u8) p0)), dIq (lM eI p1.Codes : Int)] [] [] fun r2 =>
 aq9 (C69 Γ γ97 γ23 γ37 γ67) Λ2 J 0 (aA.enc p1) (List.map (aN .u8) r2))) := by kernel_rfl
theorem aC0 (x5 : Int) (b0 : aA) (w3000 : List Int) : cJ SE (C69 Γ γ97 γ23 γ37 γ67) Λ2 J 69 0 [1, 1, 0, 1, 0, 1, 0, 1, 0] (bA [(0, .row 3000), (3, .ptr 1000000000 0), (5, dIq x5)] [⟨53, (List.map AV.d (aA.enc b0))⟩] [] [] [(3000, ⟨[.int .u8], 5, 1, (List.map (aN .u8) w3000)⟩)]) =
 cond (decide (x5 < (lM aH.enc b0.Subs : Int))) (
 cond (iB x5 (lM aH.enc b0.Subs : Int)) (
  γ37 [.d (.sl [.int .u8] (List.map (aN .u8) w3000)), dSq (bQ (cE aH.enc b0.Subs x5 0))] [] [] fun r3 =>
  cond (iB x5 (lM aH.enc b0.Subs : Int)) (
  γ23 [.d (.sl [.int .u8] (List.map (aN .u8) r3)), dIq (bC (cE aH.enc b0.Subs x5 1))] [] [] fun r4 =>
  cond (iB x5 (lM aH.enc b0.Subs : Int)) (
   γ67 [dBq (cF (cE aH.enc b0.Subs x5 2)), dBq false] [] [] fun r5 =>
   γ23 [.d (.sl [.int .u8] (List.map (aN .u8) r4)), dIq r5] [] [] fun r6 =>
   auj (C69 Γ γ97 γ23 γ37 γ67) Λ2 J (w6 (x5 + 1)) (aA.enc b0) (List.map (aN .u8) r6)) none) none) none) (
 (some (aR w3000))) := by kernel_rfl
theorem aBc (x6 : Int) (b0 : aA) (w3000 : List Int) : cJ SE (C69 Γ γ97 γ23 γ37 γ67) Λ2 J 69 0 [1, 1, 1, 1, 0, 1, 0] (bA [(0, .row 3000), (3, .ptr 1000000000 0), (6, dIq x6)] [⟨53, (List.map AV.d (aA.enc b0))⟩] [] [] [(3000, ⟨[.int .u8], 5, 1, (List.map (aN .u8) w3000)⟩)]) =
 cond (decide (x6 < (lM eI b0.Codes : Int))) (
 cond (iB x6 (lM eI b0.Codes : Int)) (
  γ23 [.d (.sl [.int .u8] (List.map (aN .u8) w3000)), dIq (bC (cE eI b0.Codes x6 0))] [] [] fun r7 =>
  aq9 (C69 Γ γ97 γ23 γ37 γ67) Λ2 J (w6 (x6 + 1)) (aA.enc b0) (List.map (aN .u8) r7)) none) (
 (some (aR w3000))) := by kernel_rfl
end
abbrev X69 : aS := C69 gG (cT 97 aR) (cT 23 aR) (cT 37 aR) (cT 67 aJ)
theorem av5 : X69 = aT gG := by unfold X69 C69; repeat rw [bJ fun _ h => h]
abbrev aE5 := auj X69 (cC SE gG (SE.hl 69) (SE.hr 69)) (J0 SE X69)
abbrev aCq := aq9 X69 (cC SE gG (SE.hl 69) (SE.hr 69)) (J0 SE X69)
theorem afu : ∀ (fu : Nat) (x5 : Int) (b0 : aA) (w3000 : List Int), Le (Option.map aR (iS fu x5 b0 w3000)) (aE5 x5 (aA.enc b0) (List.map (aN .u8) w3000)) := by
 intro fu
 induction fu with
 | zero => intros; exact le_none
 | succ fu ih =>
  intro x5 b0 w3000
  refine Le.trans ?_ (le_of_eq ((bD av5).trans (aC0 ..)).symm)
  unfold iS
  refine lDe ?_ ?_
  ·refine lGe ?_
   refine lQ eX aX (by (try simp only [EN]); exact eZ w3000 ((List.getD b0.Subs (Int.toNat x5) default).Filter)) fun r3 _ => ?_
   refine lGe ?_
   refine lQ eX aX (by (try simp only [EN]); exact bT r3 ((List.getD b0.Subs (Int.toNat x5) default).Level)) fun r4 _ => ?_
   refine lGe ?_
   refine lQ eX bE (by (try simp only [EN]); exact rH ((List.getD b0.Subs (Int.toNat x5) default).NoLocal) false) fun r5 _ => ?_
   refine lQ eX aX (bT _ _) fun r6 _ => ?_
   exact ih (w6 (x5 + 1)) b0 r6
  ·exact aG rfl
theorem aeU : ∀ (fu : Nat) (x6 : Int) (b0 : aA) (w3000 : List Int), Le (Option.map aR (iE fu x6 b0 w3000)) (aCq x6 (aA.enc b0) (List.map (aN .u8) w3000)) := by
 intro fu
 induction fu with
 | zero => intros; exact le_none
 | succ fu ih =>
  intro x6 b0 w3000
  refine Le.trans ?_ (le_of_eq ((bD av5).trans (aBc ..)).symm)
  unfold iE
  refine lDe ?_ ?_
  ·refine lGe ?_
   refine lQ eX aX (by (try simp only [EN]); exact bT w3000 (List.getD b0.Codes (Int.toNat x6) default)) fun r7 _ => ?_
   exact ih (w6 (x6 + 1)) b0 r7
  ·exact aG rfl
theorem aii (p0 : List Int) (p1 : aA) : Le (Option.map aR (uU p0 p1)) (bH SE 69 [.d (.sl [.int .u8] (List.map (aN .u8) p0)), aA.av p1] [] []) := by
 refine aZ av5 rfl ?_
 refine Le.trans ?_ (le_of_eq (T69 ..).symm)
 unfold uU
 refine lC ?_ ?_
 ·refine lQ eX aX (afl _ _) fun r0 _ => ?_
  exact aG rfl
 ·refine lC ?_ ?_
  ·refine lQ eX aX (by (try simp only [EN]); exact bT p0 (List.length p1.Subs : Int)) fun r1 _ => ?_
   exact afu fuel 0 p1 r1
  ·refine lQ eX aX (by (try simp only [EN]); exact bT p0 (List.length p1.Codes : Int)) fun r2 _ => ?_
   exact aeU fuel 0 p1 r2
def aup (C : aS) (Λ2 J : Lam) (a0 : List D) (a1 : List (List D)) : Res := lab SE C Λ2 J 36 0 [1, 1, 1, 1, 1, 1, 1, 1, 0] (bA [(1, .ptr 1000000000 0), (5, .row 3005)] [⟨53, (List.map AV.d a0)⟩] [] [] [(3005, ⟨[.int .u8], 5, 1, a1⟩)])
section
variable (Γ : Fun) (γ31 : Gm (Int)) (γ23 γ66 : Gm ((List Int))) (γ67 : Gm (Int)) (γ68 γ69 : Gm ((List Int))) (Λ2 J : Lam)
def C36 : aS := bG (bG (bG (bG (bG (bG (aT Γ) 31 aJ γ31) 23 aR γ23) 66 aR γ66) 67 aJ γ67) 68 aR γ68) 69 aR γ69
theorem T36 (p0 : aA) : bL SE (C36 Γ γ31 γ23 γ66 γ67 γ68 γ69) Λ2 J 36 [aA.av p0] [] [] =
 γ31 [aA.av p0] [] [] fun r0 =>
 cond (r0 != 0) (
 (some (dB ([], r0)))) (
 γ23 [.d (.sl [.int .u8] (List.map (aN .u8) [])), dIq p0.Kind] [] [] fun r1 =>
 cond (p0.Kind == 1) (
 γ66 [.d (.sl [.int .u8] (List.map (aN .u8) r1)), aA.av p0] [] [] fun r2 =>
 (some (dB (r2, 0)))) (
 cond (p0.Kind == 2) (
 γ67 [dBq p0.Present, dBq false] [] [] fun r3 =>
 γ23 [.d (.sl [.int .u8] (List.map (aN .u8) r1)), dIq r3] [] [] fun r4 =>
 γ23 [.d (.sl [.int .u8] (List.map (aN .u8) r4)), dIq p0.Code] [] [] fun r5 =>
 (some (dB (r5, 0)))) (
 cond (p0.Kind == 14) (
 γ23 [.d (.sl [.int .u8] (List.map (aN .u8) r1)), dIq p0.Code] [] [] fun r6 =>
 (some (dB (r6, 0)))) (
 cond (p0.Kind == 12) (
 (some (dB (r1, 0)))) (
 cond (p0.Kind == 13) (
 (some (dB (r1, 0)))) (
 aup (C36 Γ γ31 γ23 γ66 γ67 γ68 γ69) Λ2 J (aA.enc p0) (List.map (aN .u8) r1))))))) := by kernel_rfl
theorem aCH (b0 : aA) (w3005 : List Int) : cJ SE (C36 Γ γ31 γ23 γ66 γ67 γ68 γ69) Λ2 J 36 0 [1, 1, 1, 1, 1, 1, 1, 1, 0] (bA [(1, .ptr 1000000000 0), (5, .row 3005)] [⟨53, (List.map AV.d (aA.enc b0))⟩] [] [] [(3005, ⟨[.int .u8], 5, 1, (List.map (aN .u8) w3005)⟩)]) =
 γ23 [.d (.sl [.int .u8] (List.map (aN .u8) w3005)), dIq b0.ID] [] [] fun r7 =>
 cond (b0.Kind == 3) (
 γ67 [dBq b0.Dup, dBq false] [] [] fun r8 =>
 γ23 [.d (.sl [.int .u8] (List.map (aN .u8) r7)), dIq r8] [] [] fun r9 =>
 γ68 [.d (.sl [.int .u8] (List.map (aN .u8) r9)), aF.av b0.Message] [] [] fun r10 =>
 (some (dB (r10, 0)))) (
 cond (decide (b0.Kind ≤ 7)) (
 (some (dB (r7, 0)))) (
 γ69 [.d (.sl [.int .u8] (List.map (aN .u8) r7)), aA.av b0] [] [] fun r11 =>
 (some (dB (r11, 0))))) := by kernel_rfl
end
abbrev X36 : aS := C36 gG (cT 31 aJ) (cT 23 aR) (cT 66 aR) (cT 67 aJ) (cT 68 aR) (cT 69 aR)
theorem aAz : X36 = aT gG := by unfold X36 C36; repeat rw [bJ fun _ h => h]
abbrev aA1 := aup X36 (cC SE gG (SE.hl 36) (SE.hr 36)) (J0 SE X36)
theorem adF (b0 : aA) (w3005 : List Int) : Le (Option.map dB (pK b0 w3005)) (aA1 (aA.enc b0) (List.map (aN .u8) w3005)) := by
 refine Le.trans ?_ (le_of_eq ((bD aAz).trans (aCH ..)).symm)
 unfold pK
 refine lQ eX aX (bT _ _) fun r7 _ => ?_
 refine lC ?_ ?_
 ·refine lQ eX bE (rH _ _) fun r8 _ => ?_
  refine lQ eX aX (bT _ _) fun r9 _ => ?_
  refine lQ eX aX (ac9 _ _) fun r10 _ => ?_
  exact aG rfl
 ·refine lC ?_ ?_
  ·exact aG rfl
  ·refine lQ eX aX (aii _ _) fun r11 _ => ?_
   exact aG rfl
theorem ahb (p0 : aA) : Le (Option.map dB (pP p0)) (bH SE 36 [aA.av p0] [] []) := by
 refine aZ aAz rfl ?_
 refine Le.trans ?_ (le_of_eq (T36 ..).symm)
 unfold pP
 refine lQ eX bE (wN _) fun r0 _ => ?_
 refine lC ?_ ?_
 ·exact aG rfl
 ·refine lQ eX aX (by (try simp only [EN]); exact bT [] p0.Kind) fun r1 _ => ?_
  refine lC ?_ ?_
  ·refine lQ eX aX (agx _ _) fun r2 _ => ?_
   exact aG rfl
  ·refine lC ?_ ?_
   ·refine lQ eX bE (rH _ _) fun r3 _ => ?_
    refine lQ eX aX (bT _ _) fun r4 _ => ?_
    refine lQ eX aX (bT _ _) fun r5 _ => ?_
    exact aG rfl
   ·refine lC ?_ ?_
    ·refine lQ eX aX (bT _ _) fun r6 _ => ?_
     exact aG rfl
    ·refine lC ?_ ?_
     ·exact aG rfl
     ·refine lC ?_ ?_
      ·exact aG rfl
      ·exact adF p0 r1
def as7 (C : aS) (Λ2 J : Lam) (a0 : List (List D)) (a1 : Int) (a2 : List (List D)) : Res := lab SE C Λ2 J 22 0 [1, 1, 0, 1, 0] (bA [(0, .d (.sl aA.ks a0)), (4, .row 3004), (5, dIq a1)] [] [] [] [(3004, ⟨[.int .u8], 5, 1, a2⟩)])
section
variable (Γ : Fun) (γ36 : Gm ((List Int) × Int)) (γ37 : Gm ((List Int))) (Λ2 J : Lam)
def C22 : aS := bG (bG (aT Γ) 36 dB γ36) 37 aR γ37
theorem T22 (p0 : List aA) : bL SE (C22 Γ γ36 γ37) Λ2 J 22 [.d (.sl aA.ks (List.map aA.enc p0))] [] [] =
 as7 (C22 Γ γ36 γ37) Λ2 J (List.map aA.enc p0) 0 (List.map (aN .u8) []) := by kernel_rfl
theorem aDG (x0 : List aA) (x5 : Int) (w3004 : List Int) : cJ SE (C22 Γ γ36 γ37) Λ2 J 22 0 [1, 1, 0, 1, 0] (bA [(0, .d (.sl aA.ks (List.map aA.enc x0))), (4, .row 3004), (5, dIq x5)] [] [] [] [(3004, ⟨[.int .u8], 5, 1, (List.map (aN .u8) w3004)⟩)]) =
 cond (decide (x5 < (lM aA.enc x0 : Int))) (
 cond (iB x5 (lM aA.enc x0 : Int)) (
  γ36 [.agg [dIq (bC (cE aA.enc x0 x5 0)), dIq (bC (cE aA.enc x0 x5 1)), dBq (cF (cE aA.enc x0 x5 2)), dSq (bQ (cE aA.enc x0 x5 3)), dSq (bQ (cE aA.enc x0 x5 4)), dIq (bC (cE aA.enc x0 x5 5)), dBq (cF (cE aA.enc x0 x5 6)), dIq (bC (cE aA.enc x0 x5 7)), dIq (bC (cE aA.enc x0 x5 8)), dSq (bQ (cE aA.enc x0 x5 9)), dIq (bC (cE aA.enc x0 x5 10)), .d (.sl aB.ks (dSl (cE aA.enc x0 x5 11))), dSq (bQ (cE aA.enc x0 x5 12)), dSq (bQ (cE aA.enc x0 x5 13)), dBq (cF (cE aA.enc x0 x5 14)), dIq (bC (cE aA.enc x0 x5 15)), dIq (bC (cE aA.enc x0 x5 16)), dIq (bC (cE aA.enc x0 x5 17)), dBq (cF (cE aA.enc x0 x5 18)), dIq (bC (cE aA.enc x0 x5 19)), dSq (bQ (cE aA.enc x0 x5 20)), dSq (bQ (cE aA.enc x0 x5 21)), dIq (bC (cE aA.enc x0 x5 22)), dBq (cF (cE aA.enc x0 x5 23)), dIq (bC (cE aA.enc x0 x5 24)), dIq (bC (cE aA.enc x0 x5 25)), dSq (bQ (cE aA.enc x0 x5 26)), dIq (bC (cE aA.enc x0 x5 27)), .d (.sl aB.ks (dSl (cE aA.enc x0 x5 28))), dBq (cF (cE aA.enc x0 x5 29)), dIq (bC (cE aA.enc x0 x5 30)), .d (.sl aH.ks (dSl (cE aA.enc x0 x5 31))), .d (.sl [.str] (dSl (cE aA.enc x0 x5 32))), .d (.sl [.int .i64] (dSl (cE aA.enc x0 x5 33)))]] [] [] fun r0 =>
  cond (r0.2 != 0) (
  (some (dB ([], r0.2)))) (
  γ37 [.d (.sl [.int .u8] (List.map (aN .u8) w3004)), dSq (vB (List.map (aN .u8) r0.1))] [] [] fun r1 =>
  as7 (C22 Γ γ36 γ37) Λ2 J (List.map aA.enc x0) (w6 (x5 + 1)) (List.map (aN .u8) r1))) none) (
 (some (dB (w3004, 0)))) := by kernel_rfl
end
abbrev X22 : aS := C22 gG (cT 36 dB) (cT 37 aR)
theorem aCz : X22 = aT gG := by unfold X22 C22; repeat rw [bJ fun _ h => h]
abbrev aDw := as7 X22 (cC SE gG (SE.hl 22) (SE.hr 22)) (J0 SE X22)
theorem acU : ∀ (fu : Nat) (x0 : List aA) (x5 : Int) (w3004 : List Int), Le (Option.map dB (gT fu x0 x5 w3004)) (aDw (List.map aA.enc x0) x5 (List.map (aN .u8) w3004)) := by
 intro fu
 induction fu with
 | zero => intros; exact le_none
 | succ fu ih =>
  intro x0 x5 w3004
  refine Le.trans ?_ (le_of_eq ((bD aCz).trans (aDG ..)).symm)
  unfold gT
  refine lDe ?_ ?_
  ·refine lGe ?_
   refine lQ eX xW (by (try simp only [EN]); exact ahb (List.getD x0 (Int.toNat x5) default)) fun r0 _ => ?_
   refine lC ?_ ?_
   ·exact aG rfl
   ·refine lQ eX aX (by (try simp only [EN]); exact eZ w3004 (bytesOf r0.1)) fun r1 _ => ?_
    exact ih x0 (w6 (x5 + 1)) r1
  ·exact aG rfl
theorem aeB (p0 : List aA) : Le (Option.map dB (mY p0)) (bH SE 22 [.d (.sl aA.ks (List.map aA.enc p0))] [] []) := by
 refine aZ aCz rfl ?_
 refine Le.trans ?_ (le_of_eq (T22 ..).symm)
 unfold mY
 (try simp only [EN]); exact acU fuel p0 0 []
def ati (C : aS) (Λ2 J : Lam) (a0 : List (List D)) (a1 a2 : Int) : Res := lab SE C Λ2 J 39 0 [1, 1, 0, 1, 0] (bA [(0, .d (.sl [.int .u8] a0)), (3, .d (.int .u64 a1)), (4, dIq a2)] [] [] [] [])
section
variable (Γ : Fun)  (Λ2 J : Lam)
def C39 : aS := aT Γ
theorem T39 (p0 : List Int) : bL SE (C39 Γ) Λ2 J 39 [.d (.sl [.int .u8] (List.map (aN .u8) p0))] [] [] =
 ati (C39 Γ) Λ2 J (List.map (aN .u8) p0) 2166136261 0 := by kernel_rfl
theorem aE8 (x0 : List Int) (x3 x4 : Int) : cJ SE (C39 Γ) Λ2 J 39 0 [1, 1, 0, 1, 0] (bA [(0, .d (.sl [.int .u8] (List.map (aN .u8) x0))), (3, .d (.int .u64 x3)), (4, dIq x4)] [] [] [] []) =
 cond (decide (x4 < (lM (aN .u8) x0 : Int))) (
 cond (iB x4 (lM (aN .u8) x0 : Int)) (
  ati (C39 Γ) Λ2 J (List.map (aN .u8) x0) ((Int.tmod (IntKind.wrap .u64 ((bY .xor .u64 x3 (IntKind.wrap .u64 (bC (cE (aN .u8) x0 x4 0)))) * 16777619)) 4294967296)) (w6 (x4 + 1))) none) (
 (rI (w6 x3))) := by kernel_rfl
end
abbrev X39 : aS := C39 gG
theorem aBd : X39 = aT gG := rfl
abbrev aEP := ati X39 (cC SE gG (SE.hl 39) (SE.hr 39)) (J0 SE X39)
theorem ahq : ∀ (fu : Nat) (x0 : List Int) (x3 x4 : Int), Le (Option.map aJ (k9 fu x0 x3 x4)) (aEP (List.map (aN .u8) x0) x3 x4) := by
 intro fu
 induction fu with
 | zero => intros; exact le_none
 | succ fu ih =>
  intro x0 x3 x4
  refine Le.trans ?_ (le_of_eq ((bD aBd).trans (aE8 ..)).symm)
  unfold k9
  refine lDe ?_ ?_
  ·refine lGe ?_
   (try simp only [EN]); exact ih x0 (Int.tmod (IntKind.wrap .u64 ((bY .xor .u64 x3 (IntKind.wrap .u64 (List.getD x0 (Int.toNat x4) default))) * 16777619)) 4294967296) (w6 (x4 + 1))
  ·exact aG rfl
theorem aiW (p0 : List Int) : Le (Option.map aJ (tN p0)) (bH SE 39 [.d (.sl [.int .u8] (List.map (aN .u8) p0))] [] []) := by
 refine aZ aBd rfl ?_
 refine Le.trans ?_ (le_of_eq (T39 ..).symm)
 unfold tN
 exact ahq fuel p0 2166136261 0
section
variable (Γ : Fun) (γ39 : Gm (Int)) (γ23 : Gm ((List Int))) (Λ2 J : Lam)
def C24 : aS := bG (bG (aT Γ) 39 aJ γ39) 23 aR γ23
theorem T24 (p0 : List Int) : bL SE (C24 Γ γ39 γ23) Λ2 J 24 [.d (.sl [.int .u8] (List.map (aN .u8) p0))] [] [] =
 cond (decide ((lM (aN .u8) p0 : Int) > 65536)) (
 (some (.ret [.row 0] [] [⟨[.int .u8], 5, 1, []⟩]))) (
 γ39 [.d (.sl [.int .u8] (List.map (aN .u8) p0))] [] [] fun r0 =>
 γ23 [.d (.sl [.int .u8] (List.map (aN .u8) [])), dIq (lM (aN .u8) p0 : Int)] [] [] fun r1 =>
 cond (decide ((lM (aN .u8) r1 + lM (aN .u8) [(IntKind.wrap .u8 (shr .i64 r0 24)), (IntKind.wrap .u8 (bY .and .i64 (shr .i64 r0 16) 255)), (IntKind.wrap .u8 (bY .and .i64 (shr .i64 r0 8) 255)), (IntKind.wrap .u8 (bY .and .i64 r0 255))]) * 1 ≤ 140737488355328)) (
 cond (decide ((List.length ((List.map (aN .u8) r1) ++ (List.map (aN .u8) [(IntKind.wrap .u8 (shr .i64 r0 24)), (IntKind.wrap .u8 (bY .and .i64 (shr .i64 r0 16) 255)), (IntKind.wrap .u8 (bY .and .i64 (shr .i64 r0 8) 255)), (IntKind.wrap .u8 (bY .and .i64 r0 255))])) + lM (aN .u8) p0) * 1 ≤ 140737488355328)) (
  (some (.ret [.row 0] [] [⟨[.int .u8], 5, 1, (((List.map (aN .u8) r1) ++ (List.map (aN .u8) [(IntKind.wrap .u8 (shr .i64 r0 24)), (IntKind.wrap .u8 (bY .and .i64 (shr .i64 r0 16) 255)), (IntKind.wrap .u8 (bY .and .i64 (shr .i64 r0 8) 255)), (IntKind.wrap .u8 (bY .and .i64 r0 255))])) ++ (List.map (aN .u8) p0))⟩]))) none) none) := by kernel_rfl
end
abbrev X24 : aS := C24 gG (cT 39 aJ) (cT 23 aR)
theorem aFK : X24 = aT gG := by unfold X24 C24; repeat rw [bJ fun _ h => h]
theorem ab5 (p0 : List Int) : Le (Option.map aR (pE p0)) (bH SE 24 [.d (.sl [.int .u8] (List.map (aN .u8) p0))] [] []) := by
 refine aZ aFK rfl ?_
 refine Le.trans ?_ (le_of_eq (T24 ..).symm)
 unfold pE
 refine lDe ?_ ?_
 ·exact aG rfl
 ·refine lQ eX bE (aiW _) fun r0 _ => ?_
  refine lQ eX aX (by (try simp only [EN]); exact bT [] (List.length p0 : Int)) fun r1 _ => ?_
  refine lGe ?_
  refine lGe ?_
  exact aG (by first | rfl | simp only [EN, aR] <;> rfl)
def ays (C : aS) (Λ2 J : Lam) (a0 : List (List D)) (a1 a2 : List D) : Res := lab SE C Λ2 J 10 0 [1, 1, 1, 0] (bA [(1, .d (.sl aA.ks a0)), (2, .ptr 1000000000 0), (5, .ptr 1000000001 0)] [⟨23, (List.map AV.d a1)⟩, ⟨23, (List.map AV.d a2)⟩] [] [] [])
section
variable (Γ : Fun) (γ22 : Gm ((List Int) × Int)) (γ23 γ24 : Gm ((List Int))) (Λ2 J : Lam)
def C10 : aS := bG (bG (bG (aT Γ) 22 dB γ22) 23 aR γ23) 24 aR γ24
theorem T10 (p0 : aI) (p1 : List aA) : bL SE (C10 Γ γ22 γ23 γ24) Λ2 J 10 [aI.av p0, .d (.sl aA.ks (List.map aA.enc p1))] [] [] =
 cond p0.Broken (
 (some (dY ([], p0, 21)))) (
 cond (decide (p0.Conn < 0)) (
 (some (dY ([], p0, 1)))) (
 cond (decide (p0.Conn > 1099511627776)) (
 (some (dY ([], p0, 1)))) (
 cond (decide (p0.Sent < 0)) (
 (some (dY ([], p0, 1)))) (
 cond (decide (p0.Sent ≥ 1099511627776)) (
 (some (dY ([], p0, 1)))) (
 ays (C10 Γ γ22 γ23 γ24) Λ2 J (List.map aA.enc p1) (aI.enc p0) (aI.enc (aI.mk 0 0 0 false))))))) := by kernel_rfl
theorem aDN (x1 : List aA) (b0 b1 : aI) : cJ SE (C10 Γ γ22 γ23 γ24) Λ2 J 10 0 [1, 1, 1, 0] (bA [(1, .d (.sl aA.ks (List.map aA.enc x1))), (2, .ptr 1000000000 0), (5, .ptr 1000000001 0)] [⟨23, (List.map AV.d (aI.enc b0))⟩, ⟨23, (List.map AV.d (aI.enc b1))⟩] [] [] []) =
 γ22 [.d (.sl aA.ks (List.map aA.enc x1))] [] [] fun r0 =>
 cond (r0.2 != 0) (
 (some (dY ([], b0, r0.2)))) (
 γ23 [.d (.sl [.int .u8] (List.map (aN .u8) [])), dIq b0.Conn] [] [] fun r1 =>
 γ23 [.d (.sl [.int .u8] (List.map (aN .u8) r1)), dIq (w6 (b0.Sent + 1))] [] [] fun r2 =>
 cond (decide ((lM (aN .u8) r2 + lM (aN .u8) r0.1) * 1 ≤ 140737488355328)) (
 cond (decide ((List.length ((List.map (aN .u8) r2) ++ (List.map (aN .u8) r0.1)) : Int) > 65536)) (
  (some (dY ([], b0, 5)))) (
 γ24 [.d (.sl [.int .u8] ((List.map (aN .u8) r2) ++ (List.map (aN .u8) r0.1)))] [] [] fun r3 =>
 (some (dY (r3, (aI.mk b0.Conn (w6 (b0.Sent + 1)) b0.Got b0.Broken), 0))))) none) := by kernel_rfl
end
abbrev X10 : aS := C10 gG (cT 22 dB) (cT 23 aR) (cT 24 aR)
theorem aBm : X10 = aT gG := by unfold X10 C10; repeat rw [bJ fun _ h => h]
abbrev aC1 := ays X10 (cC SE gG (SE.hl 10) (SE.hr 10)) (J0 SE X10)
theorem agp (x1 : List aA) (b0 b1 : aI) : Le (Option.map dY (s9 x1 b0 b1)) (aC1 (List.map aA.enc x1) (aI.enc b0) (aI.enc b1)) := by
 refine Le.trans ?_ (le_of_eq ((bD aBm).trans (aDN ..)).symm)
 unfold s9
 refine lQ eX xW (aeB _) fun r0 _ => ?_
 refine lC ?_ ?_
 ·exact aG rfl
 ·refine lQ eX aX (by (try simp only [EN]); exact bT [] b0.Conn) fun r1 _ => ?_
  refine lQ eX aX (bT _ _) fun r2 _ => ?_
  refine lGe ?_
  refine lDe ?_ ?_
  ·exact aG rfl
  ·refine lQ eX aX (by (try simp only [EN]); exact ab5 (r2 ++ r0.1)) fun r3 _ => ?_
   exact aG rfl
theorem aiP (p0 : aI) (p1 : List aA) : Le (Option.map dY (sP p0 p1)) (bH SE 10 [aI.av p0, .d (.sl aA.ks (List.map aA.enc p1))] [] []) := by
 refine aZ aBm rfl ?_
 refine Le.trans ?_ (le_of_eq (T10 ..).symm)
 unfold sP
 refine lC ?_ ?_
 ·exact aG rfl
 ·refine lC ?_ ?_
  ·exact aG rfl
  ·refine lC ?_ ?_
   ·exact aG rfl
   ·refine lC ?_ ?_
    ·exact aG rfl
    ·refine lC ?_ ?_
     ·exact aG rfl
     ·exact agp p1 p0 (aI.mk 0 0 0 false)
section
variable (Γ : Fun)  (Λ2 J : Lam)
def C11 : aS := aT Γ
theorem T11 (p0 p1 : List Int) : bL SE (C11 Γ) Λ2 J 11 [.d (.sl [.int .u8] (List.map (aN .u8) p0)), .d (.sl [.int .u8] (List.map (aN .u8) p1))] [] [] =
 (rB ((vB (List.map (aN .u8) p0)) == (vB (List.map (aN .u8) p1)))) := by kernel_rfl
end
abbrev X11 : aS := C11 gG
theorem aFQ : X11 = aT gG := rfl
theorem aiF (p0 p1 : List Int) : Le (Option.map aE (wJ p0 p1)) (bH SE 11 [.d (.sl [.int .u8] (List.map (aN .u8) p0)), .d (.sl [.int .u8] (List.map (aN .u8) p1))] [] []) := by
 refine aZ aFQ rfl ?_
 refine Le.trans ?_ (le_of_eq (T11 ..).symm)
 unfold wJ
 exact aG (by first | rfl | simp only [EN, aE] <;> rfl)
section
variable (Γ : Fun) (γ7 γ8 : Gm (Bool)) (γ9 γ10 : Gm ((List Int) × aI × Int)) (γ11 : Gm (Bool)) (Λ2 J : Lam)
def C3 : aS := bG (bG (bG (bG (bG (aT Γ) 7 aE γ7) 8 aE γ8) 9 dY γ9) 10 dY γ10) 11 aE γ11
theorem T3 (p0 : aI) (p1 : List aA) : bL SE (C3 Γ γ7 γ8 γ9 γ10 γ11) Λ2 J 3 [aI.av p0, .d (.sl aA.ks (List.map aA.enc p1))] [] [] =
 γ7 [.d (.sl aA.ks (List.map aA.enc p1))] [] [] fun r0 =>
 cond (!r0) (
 γ8 [] [] [] fun r1 =>
 (rB r1)) (
 γ9 [aI.av p0, .d (.sl aA.ks (List.map aA.enc p1))] [] [] fun r2 =>
 γ10 [aI.av p0, .d (.sl aA.ks (List.map aA.enc p1))] [] [] fun r3 =>
 γ11 [.d (.sl [.int .u8] (List.map (aN .u8) r2.1)), .d (.sl [.int .u8] (List.map (aN .u8) r3.1))] [] [] fun r4 =>
 cond r4 (
 cond ((r2.2.1.Conn == r3.2.1.Conn) && ((r2.2.1.Sent == r3.2.1.Sent) && ((r2.2.1.Got == r3.2.1.Got) && ((r2.2.1.Broken == r3.2.1.Broken) && true)))) (
  cond (r2.2.2 == r3.2.2) (
  γ8 [] [] [] fun r5 =>
  (rB r5)) (
  (rB false))) (
 (rB false))) (
 (rB false))) := by kernel_rfl
end
abbrev X3 : aS := C3 gG (cT 7 aE) (cT 8 aE) (cT 9 dY) (cT 10 dY) (cT 11 aE)
theorem Cr3 : X3 = aT gG := by unfold X3 C3; repeat rw [bJ fun _ h => h]
theorem adi (p0 : aI) (p1 : List aA) : Le (Option.map aE (oQ p0 p1)) (bH SE 3 [aI.av p0, .d (.sl aA.ks (List.map aA.enc p1))] [] []) := by
 refine aZ Cr3 rfl ?_
 refine Le.trans ?_ (le_of_eq (T3 ..).symm)
 unfold oQ
 refine lQ eX aO (abo _) fun r0 _ => ?_
 refine lC ?_ ?_
 ·refine lQ eX aO (cS) fun r1 _ => ?_
  exact aG rfl
 ·refine lQ eX tP (zF _ _) fun r2 _ => ?_
  refine lQ eX tP (aiP _ _) fun r3 _ => ?_
  refine lQ eX aO (aiF _ _) fun r4 _ => ?_
  refine lC ?_ ?_
  ·refine lC ?_ ?_
   ·refine lC ?_ ?_
    ·refine lQ eX aO (cS) fun r5 _ => ?_
     exact aG rfl
    ·exact aG rfl
   ·exact aG rfl
  ·exact aG rfl
end Te
end PX
