import Derived.Test.YthgmhhgmnegocaaGreatDoorTre2
set_option linter.unusedVariables false
set_option linter.unusedSimpArgs false
set_option maxRecDepth 100000
noncomputable section
namespace PX
open Go
open Md
namespace Te
def asc (C : aR) (Λ2 J : Lam) (a0 : List (List D)) (a1 : Int) (a2 : List (List D)) : Res := lab SE C Λ2 J 18 0 [1, 1, 0, 1, 0] (bA [(0, .d (.sl aA.ks a0)), (4, .row 3004), (5, .d (.int .i64 a1))] [] [] [] [(3004, ⟨[.int .u8], 5, 1, a2⟩)])
section
variable (Γ : Fun) (γ12 : Gm ((List Int) × Int)) (γ48 : Gm ((List Int))) (Λ2 J : Lam)
def C18 : aR := bE (bE (aS Γ) 12 bV γ12) 48 aP γ48
theorem T18 (p0 : List aA) : bK SE (C18 Γ γ12 γ48) Λ2 J 18 [.d (.sl aA.ks (List.map aA.enc p0))] [] [] =
 asc (C18 Γ γ12 γ48) Λ2 J (List.map aA.enc p0) 0 (List.map (aO .u8) []) := by kernel_rfl
theorem aBP (x0 : List aA) (x5 : Int) (w3004 : List Int) : cJ SE (C18 Γ γ12 γ48) Λ2 J 18 0 [1, 1, 0, 1, 0] (bA [(0, .d (.sl aA.ks (List.map aA.enc x0))), (4, .row 3004), (5, .d (.int .i64 x5))] [] [] [] [(3004, ⟨[.int .u8], 5, 1, (List.map (aO .u8) w3004)⟩)]) =
 cond (decide (x5 < (lM aA.enc x0 : Int))) (
 cond (iB x5 (lM aA.enc x0 : Int)) (
  γ12 [.agg [.d (.int .i64 (aX (cE aA.enc x0 x5 0))), .d (.int .i64 (aX (cE aA.enc x0 x5 1))), .d (.bool (bT (cE aA.enc x0 x5 2))), .d (.str (bJ (cE aA.enc x0 x5 3))), .d (.str (bJ (cE aA.enc x0 x5 4))), .d (.int .i64 (aX (cE aA.enc x0 x5 5))), .d (.bool (bT (cE aA.enc x0 x5 6))), .d (.int .i64 (aX (cE aA.enc x0 x5 7))), .d (.int .i64 (aX (cE aA.enc x0 x5 8))), .d (.str (bJ (cE aA.enc x0 x5 9))), .d (.int .i64 (aX (cE aA.enc x0 x5 10))), .d (.sl aC.ks (dSl (cE aA.enc x0 x5 11))), .d (.str (bJ (cE aA.enc x0 x5 12))), .d (.str (bJ (cE aA.enc x0 x5 13))), .d (.bool (bT (cE aA.enc x0 x5 14))), .d (.int .i64 (aX (cE aA.enc x0 x5 15))), .d (.int .i64 (aX (cE aA.enc x0 x5 16))), .d (.int .i64 (aX (cE aA.enc x0 x5 17))), .d (.bool (bT (cE aA.enc x0 x5 18))), .d (.int .i64 (aX (cE aA.enc x0 x5 19))), .d (.str (bJ (cE aA.enc x0 x5 20))), .d (.str (bJ (cE aA.enc x0 x5 21))), .d (.int .i64 (aX (cE aA.enc x0 x5 22))), .d (.bool (bT (cE aA.enc x0 x5 23))), .d (.int .i64 (aX (cE aA.enc x0 x5 24))), .d (.int .i64 (aX (cE aA.enc x0 x5 25))), .d (.str (bJ (cE aA.enc x0 x5 26))), .d (.int .i64 (aX (cE aA.enc x0 x5 27))), .d (.sl aC.ks (dSl (cE aA.enc x0 x5 28))), .d (.bool (bT (cE aA.enc x0 x5 29))), .d (.int .i64 (aX (cE aA.enc x0 x5 30))), .d (.sl aH.ks (dSl (cE aA.enc x0 x5 31))), .d (.sl [.str] (dSl (cE aA.enc x0 x5 32))), .d (.sl [.int .i64] (dSl (cE aA.enc x0 x5 33)))]] [] [] fun r0 =>
  cond (r0.2 != 0) (
  (some (.ret [.row 0, .d (.int .i64 r0.2)] [] [⟨[.int .u8], 5, 1, []⟩]))) (
  γ48 [.d (.sl [.int .u8] (List.map (aO .u8) w3004)), .d (.str (uG (List.map (aO .u8) r0.1)))] [] [] fun r1 =>
  asc (C18 Γ γ12 γ48) Λ2 J (List.map aA.enc x0) (w6 (x5 + 1)) (List.map (aO .u8) r1))) none) (
 (some (.ret [.row 0, .d (.int .i64 0)] [] [⟨[.int .u8], 5, 1, (List.map (aO .u8) w3004)⟩]))) := by kernel_rfl
end
abbrev X18 : aR := C18 gG (cT 12 bV) (cT 48 aP)
theorem azk : X18 = aS gG := by unfold X18 C18; repeat rw [bH fun _ h => h]
abbrev aAb := asc X18 (cB SE gG (SE.hl 18) (SE.hr 18)) (J0 SE X18)
theorem ab0 : ∀ (fu : Nat) (x0 : List aA) (x5 : Int) (w3004 : List Int), Le (Option.map bV (gJ fu x0 x5 w3004)) (aAb (List.map aA.enc x0) x5 (List.map (aO .u8) w3004)) := by
 intro fu
 induction fu with
 | zero => intros; exact le_none
 | succ fu ih =>
  intro x0 x5 w3004
  refine Le.trans ?_ (le_of_eq ((bD azk).trans (aBP ..)).symm)
  unfold gJ
  refine lD (by simp only [EN]) ?_ ?_
  ·refine lG (by simp only [EN]) ?_
   refine lQ eX iC (by (try simp only [EN]); exact aau (List.getD x0 (Int.toNat x5) default)) fun r0 _ => ?_
   refine lC ?_ ?_
   ·exact aG rfl
   ·refine lQ eX aW (by (try simp only [EN]); exact eR w3004 (bytesOf r0.1)) fun r1 _ => ?_
    exact ih x0 (w6 (x5 + 1)) r1
  ·exact aG rfl
theorem aei (p0 : List aA) : Le (Option.map bV (mI p0)) (bF SE 18 [.d (.sl aA.ks (List.map aA.enc p0))] [] []) := by
 refine aZ azk rfl ?_
 refine Le.trans ?_ (le_of_eq (T18 ..).symm)
 unfold mI
 (try simp only [EN]); exact ab0 fuel p0 0 []
section
variable (Γ : Fun)  (Λ2 J : Lam)
def C13 : aR := aS Γ
theorem T13 (p0 p1 : List Int) : bK SE (C13 Γ) Λ2 J 13 [.d (.sl [.int .u8] (List.map (aO .u8) p0)), .d (.sl [.int .u8] (List.map (aO .u8) p1))] [] [] =
 (rB ((uG (List.map (aO .u8) p0)) == (uG (List.map (aO .u8) p1)))) := by kernel_rfl
end
abbrev X13 : aR := C13 gG
theorem aDQ : X13 = aS gG := rfl
theorem aa7 (p0 p1 : List Int) : Le (Option.map packet_is_out (oB p0 p1)) (bF SE 13 [.d (.sl [.int .u8] (List.map (aO .u8) p0)), .d (.sl [.int .u8] (List.map (aO .u8) p1))] [] []) := by
 refine aZ aDQ rfl ?_
 refine Le.trans ?_ (le_of_eq (T13 ..).symm)
 unfold oB
 exact aG (by first | rfl | simp only [EN, packet_is_out] <;> rfl)
def au2 (C : aR) (Λ2 J : Lam) (a0 : List (List D)) (a1 : Int) : Res := lab SE C Λ2 J 5 0 [1, 1, 0, 1, 0] (bA [(0, .d (.sl aA.ks a0)), (3, .d (.int .i64 a1))] [] [] [] [])
section
variable (Γ : Fun) (γ10 γ9 : Gm (Bool)) (γ17 γ18 : Gm ((List Int) × Int)) (γ13 : Gm (Bool)) (Λ2 J : Lam)
def C5 : aR := bE (bE (bE (bE (bE (aS Γ) 10 packet_is_out γ10) 9 packet_is_out γ9) 17 bV γ17) 18 bV γ18) 13 packet_is_out γ13
theorem T5 (p0 : List aA) : bK SE (C5 Γ γ10 γ9 γ17 γ18 γ13) Λ2 J 5 [.d (.sl aA.ks (List.map aA.enc p0))] [] [] =
 cond (decide ((lM aA.enc p0 : Int) > 8)) (
 γ10 [] [] [] fun r0 =>
 (rB r0)) (
 au2 (C5 Γ γ10 γ9 γ17 γ18 γ13) Λ2 J (List.map aA.enc p0) 0) := by kernel_rfl
theorem aEm (x0 : List aA) (x3 : Int) : cJ SE (C5 Γ γ10 γ9 γ17 γ18 γ13) Λ2 J 5 0 [1, 1, 0, 1, 0] (bA [(0, .d (.sl aA.ks (List.map aA.enc x0))), (3, .d (.int .i64 x3))] [] [] [] []) =
 cond (decide (x3 < (lM aA.enc x0 : Int))) (
 cond (iB x3 (lM aA.enc x0 : Int)) (
  γ9 [.agg [.d (.int .i64 (aX (cE aA.enc x0 x3 0))), .d (.int .i64 (aX (cE aA.enc x0 x3 1))), .d (.bool (bT (cE aA.enc x0 x3 2))), .d (.str (bJ (cE aA.enc x0 x3 3))), .d (.str (bJ (cE aA.enc x0 x3 4))), .d (.int .i64 (aX (cE aA.enc x0 x3 5))), .d (.bool (bT (cE aA.enc x0 x3 6))), .d (.int .i64 (aX (cE aA.enc x0 x3 7))), .d (.int .i64 (aX (cE aA.enc x0 x3 8))), .d (.str (bJ (cE aA.enc x0 x3 9))), .d (.int .i64 (aX (cE aA.enc x0 x3 10))), .d (.sl aC.ks (dSl (cE aA.enc x0 x3 11))), .d (.str (bJ (cE aA.enc x0 x3 12))), .d (.str (bJ (cE aA.enc x0 x3 13))), .d (.bool (bT (cE aA.enc x0 x3 14))), .d (.int .i64 (aX (cE aA.enc x0 x3 15))), .d (.int .i64 (aX (cE aA.enc x0 x3 16))), .d (.int .i64 (aX (cE aA.enc x0 x3 17))), .d (.bool (bT (cE aA.enc x0 x3 18))), .d (.int .i64 (aX (cE aA.enc x0 x3 19))), .d (.str (bJ (cE aA.enc x0 x3 20))), .d (.str (bJ (cE aA.enc x0 x3 21))), .d (.int .i64 (aX (cE aA.enc x0 x3 22))), .d (.bool (bT (cE aA.enc x0 x3 23))), .d (.int .i64 (aX (cE aA.enc x0 x3 24))), .d (.int .i64 (aX (cE aA.enc x0 x3 25))), .d (.str (bJ (cE aA.enc x0 x3 26))), .d (.int .i64 (aX (cE aA.enc x0 x3 27))), .d (.sl aC.ks (dSl (cE aA.enc x0 x3 28))), .d (.bool (bT (cE aA.enc x0 x3 29))), .d (.int .i64 (aX (cE aA.enc x0 x3 30))), .d (.sl aH.ks (dSl (cE aA.enc x0 x3 31))), .d (.sl [.str] (dSl (cE aA.enc x0 x3 32))), .d (.sl [.int .i64] (dSl (cE aA.enc x0 x3 33)))]] [] [] fun r1 =>
  cond (!r1) (
  γ10 [] [] [] fun r2 =>
  (rB r2)) (
  au2 (C5 Γ γ10 γ9 γ17 γ18 γ13) Λ2 J (List.map aA.enc x0) (w6 (x3 + 1)))) none) (
 γ17 [.d (.sl aA.ks (List.map aA.enc x0))] [] [] fun r3 =>
 γ18 [.d (.sl aA.ks (List.map aA.enc x0))] [] [] fun r4 =>
 γ13 [.d (.sl [.int .u8] (List.map (aO .u8) r3.1)), .d (.sl [.int .u8] (List.map (aO .u8) r4.1))] [] [] fun r5 =>
 cond r5 (
 cond (r3.2 == r4.2) (
  γ10 [] [] [] fun r6 =>
  (rB r6)) (
 (rB false))) (
 (rB false))) := by kernel_rfl
end
abbrev X5 : aR := C5 gG (cT 10 packet_is_out) (cT 9 packet_is_out) (cT 17 bV) (cT 18 bV) (cT 13 packet_is_out)
theorem Cr5 : X5 = aS gG := by unfold X5 C5; repeat rw [bH fun _ h => h]
abbrev aDp := au2 X5 (cB SE gG (SE.hl 5) (SE.hr 5)) (J0 SE X5)
theorem acA : ∀ (fu : Nat) (x0 : List aA) (x3 : Int), Le (Option.map packet_is_out (hJ fu x0 x3)) (aDp (List.map aA.enc x0) x3) := by
 intro fu
 induction fu with
 | zero => intros; exact le_none
 | succ fu ih =>
  intro x0 x3
  refine Le.trans ?_ (le_of_eq ((bD Cr5).trans (aEm ..)).symm)
  unfold hJ
  refine lD (by simp only [EN]) ?_ ?_
  ·refine lG (by simp only [EN]) ?_
   refine lQ eX packet_is_inj (by (try simp only [EN]); exact aaX (List.getD x0 (Int.toNat x3) default)) fun r1 _ => ?_
   refine lC ?_ ?_
   ·refine lQ eX packet_is_inj (dG) fun r2 _ => ?_
    exact aG rfl
   ·exact ih x0 (w6 (x3 + 1))
  ·refine lQ eX iC (yU _) fun r3 _ => ?_
   refine lQ eX iC (aei _) fun r4 _ => ?_
   refine lQ eX packet_is_inj (aa7 _ _) fun r5 _ => ?_
   refine lC ?_ ?_
   ·refine lC ?_ ?_
    ·refine lQ eX packet_is_inj (dG) fun r6 _ => ?_
     exact aG rfl
    ·exact aG rfl
   ·exact aG rfl
theorem aet (p0 : List aA) : Le (Option.map packet_is_out (qF p0)) (bF SE 5 [.d (.sl aA.ks (List.map aA.enc p0))] [] []) := by
 refine aZ Cr5 rfl ?_
 refine Le.trans ?_ (le_of_eq (T5 ..).symm)
 unfold qF
 refine lD (by simp only [EN]) ?_ ?_
 ·refine lQ eX packet_is_inj (dG) fun r0 _ => ?_
  exact aG rfl
 ·exact acA fuel p0 0
end Te
end PX
