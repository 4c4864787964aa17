import Derived.Test.YtmcpanmcgpjfiaaGreatDoorTre1
set_option linter.unusedVariables false
set_option linter.unusedSimpArgs false
set_option maxRecDepth 100000
noncomputable section
namespace PX
open Go
open Md
namespace Te
section
variable (Γ : Fun)  (Λ2 J : Lam)
def awI : aN := aR Γ
theorem aEo (p0 p1 : Int) : bG SE (awI Γ) Λ2 J 110 [.d (.int .i64 p0), .d (.int .i64 p1)] [] [] =
 cond (decide (p0 ≥ 0)) (
 (rB (decide (p0 ≤ p1)))) (
 (rB false)) := by kernel_rfl
end
abbrev aDk : aN := awI gG
theorem aBB : aDk = aR gG := rfl
theorem yA (p0 p1 : Int) : Le (Option.map brokerlaw43_light_out (nL p0 p1)) (bF SE 110 [.d (.int .i64 p0), .d (.int .i64 p1)] [] []) := by
 refine aV aBB rfl ?_
 refine Le.trans ?_ (le_of_eq (aEo ..).symm)
 unfold nL
 refine lC ?_ ?_
 ·exact aJ rfl
 ·exact aJ rfl
def ak2 (C : aN) (Λ2 J : Lam) (a0 : List D) : Res := lab SE C Λ2 J 71 0 [1, 1, 1, 0, 0] (aU [(1, .ptr 1000000000 0)] [⟨46, (List.map AV.d a0)⟩] [] [] [])
def aqu (C : aN) (Λ2 J : Lam) (a0 : List D) : Res := lab SE C Λ2 J 71 0 [1, 1, 0, 0] (aU [(1, .ptr 1000000000 0)] [⟨46, (List.map AV.d a0)⟩] [] [] [])
section
variable (Γ : Fun) (γ33 γ110 : Gm (Bool)) (Λ2 J : Lam)
def C71 : aN := bA (bA (aR Γ) 33 brokerlaw43_light_out γ33) 110 brokerlaw43_light_out γ110
theorem T71 (p0 : aI) : bG SE (C71 Γ γ33 γ110) Λ2 J 71 [aI.av p0] [] [] =
 γ33 [.d (.str p0.Client)] [] [] fun r0 =>
 cond (!r0) (
 (rI 11)) (
 cond (!(p0.User == ([] : Str))) (
 γ33 [.d (.str p0.User)] [] [] fun r1 =>
 cond (!r1) (
  (rI 11)) (
 aqu (C71 Γ γ33 γ110) Λ2 J (aI.enc p0))) (
 aqu (C71 Γ γ33 γ110) Λ2 J (aI.enc p0))) := by kernel_rfl
theorem aBr (b0 : aI) : bS SE (C71 Γ γ33 γ110) Λ2 J 71 0 [1, 1, 1, 0, 0] (aU [(1, .ptr 1000000000 0)] [⟨46, (List.map AV.d (aI.enc b0))⟩] [] [] []) =
 γ110 [.d (.int .i64 b0.Expiry), .d (.int .i64 1099511627776)] [] [] fun r2 =>
 cond (!r2) (
 (rI 1)) (
 γ110 [.d (.int .i64 b0.Until), .d (.int .i64 1099511627776)] [] [] fun r3 =>
 cond (!r3) (
 (rI 1)) (
 γ110 [.d (.int .i64 b0.Dropped), .d (.int .i64 1099511627776)] [] [] fun r4 =>
 cond (!r4) (
 (rI 1)) (
 (rI 0)))) := by kernel_rfl
theorem aA1 (b0 : aI) : bS SE (C71 Γ γ33 γ110) Λ2 J 71 0 [1, 1, 0, 0] (aU [(1, .ptr 1000000000 0)] [⟨46, (List.map AV.d (aI.enc b0))⟩] [] [] []) =
 cond (!b0.Online) (
 cond (b0.Conn != 0) (
  (rI 9)) (
 cond b0.Online (
  cond (b0.Until != 0) (
  (rI 9)) (
  ak2 (C71 Γ γ33 γ110) Λ2 J (aI.enc b0))) (
 ak2 (C71 Γ γ33 γ110) Λ2 J (aI.enc b0)))) (
 cond b0.Online (
 cond (b0.Until != 0) (
  (rI 9)) (
 ak2 (C71 Γ γ33 γ110) Λ2 J (aI.enc b0))) (
 ak2 (C71 Γ γ33 γ110) Λ2 J (aI.enc b0))) := by kernel_rfl
end
abbrev X71 : aN := C71 gG (cT 33 brokerlaw43_light_out) (cT 110 brokerlaw43_light_out)
theorem auj : X71 = aR gG := by unfold X71 C71; repeat rw [bD fun _ h => h]
abbrev aCp := ak2 X71 (bR SE gG (SE.hl 71) (SE.hr 71)) (J0 SE X71)
abbrev aAf := aqu X71 (bR SE gG (SE.hl 71) (SE.hr 71)) (J0 SE X71)
theorem nZ (b0 : aI) : Le (Option.map aB (jM b0)) (aCp (aI.enc b0)) := by
 refine Le.trans ?_ (le_of_eq ((aX auj).trans (aBr ..)).symm)
 unfold jM
 refine lQ eX brokerlaw43_light_inj (yA _ _) fun r2 _ => ?_
 refine lC ?_ ?_
 ·exact aJ rfl
 ·refine lQ eX brokerlaw43_light_inj (yA _ _) fun r3 _ => ?_
  refine lC ?_ ?_
  ·exact aJ rfl
  ·refine lQ eX brokerlaw43_light_inj (yA _ _) fun r4 _ => ?_
   refine lC ?_ ?_
   ·exact aJ rfl
   ·exact aJ rfl
theorem yI (b0 : aI) : Le (Option.map aB (nH b0)) (aAf (aI.enc b0)) := by
 refine Le.trans ?_ (le_of_eq ((aX auj).trans (aA1 ..)).symm)
 unfold nH
 refine lC ?_ ?_
 ·refine lC ?_ ?_
  ·exact aJ rfl
  ·refine lC ?_ ?_
   ·refine lC ?_ ?_
    ·exact aJ rfl
    ·exact nZ b0
   ·exact nZ b0
 ·refine lC ?_ ?_
  ·refine lC ?_ ?_
   ·exact aJ rfl
   ·exact nZ b0
  ·exact nZ b0
theorem agY (p0 : aI) : Le (Option.map aB (qP p0)) (bF SE 71 [aI.av p0] [] []) := by
 refine aV auj rfl ?_
 refine Le.trans ?_ (le_of_eq (T71 ..).symm)
 unfold qP
 refine lQ eX brokerlaw43_light_inj (kV _) fun r0 _ => ?_
 refine lC ?_ ?_
 ·exact aJ rfl
 ·refine lC ?_ ?_
  ·refine lQ eX brokerlaw43_light_inj (kV _) fun r1 _ => ?_
   refine lC ?_ ?_
   ·exact aJ rfl
   ·exact yI p0
  ·exact yI p0
section
variable (Γ : Fun)  (Λ2 J : Lam)
def axH : aN := aR Γ
theorem aDS (p0 p1 : Str) : bG SE (axH Γ) Λ2 J 152 [.d (.str p0), .d (.str p1)] [] [] =
 cond (decide ((List.length p0 : Int) ≥ (List.length p1 : Int))) (
 cond (decide (0 ≤ (List.length p1 : Int)) && decide ((List.length p1 : Int) ≤ ((List.length p0) : Int))) (
  (rB ((c9 p0 none (some (List.length p1 : Int))) == p1))) none) (
 (rB false)) := by kernel_rfl
end
abbrev aFi : aN := axH gG
theorem aCs : aFi = aR gG := rfl
theorem tG (p0 p1 : Str) : Le (Option.map brokerlaw43_light_out (l8 p0 p1)) (bF SE 152 [.d (.str p0), .d (.str p1)] [] []) := by
 refine aV aCs rfl ?_
 refine Le.trans ?_ (le_of_eq (aDS ..).symm)
 unfold l8
 refine lC ?_ ?_
 ·refine lF ?_
  exact aJ rfl
 ·exact aJ rfl
def aoJ (C : aN) (Λ2 J : Lam) (a0 : Str) (a1 a2 : Int) : Res := lab SE C Λ2 J 148 0 [1, 0, 1, 0] (aU [(0, .d (.str a0)), (1, .d (.int .u8 a1)), (5, .d (.int .i64 a2))] [] [] [] [])
section
variable (Γ : Fun)  (Λ2 J : Lam)
def aoa : aN := aR Γ
theorem aFC (p0 : Str) (p1 : Int) : bG SE (aoa Γ) Λ2 J 148 [.d (.str p0), .d (.int .u8 p1)] [] [] =
 aoJ (aoa Γ) Λ2 J p0 p1 0 := by kernel_rfl
theorem azz (x0 : Str) (x1 x5 : Int) : bS SE (aoa Γ) Λ2 J 148 0 [1, 0, 1, 0] (aU [(0, .d (.str x0)), (1, .d (.int .u8 x1)), (5, .d (.int .i64 x5))] [] [] [] []) =
 cond (decide (x5 < (List.length x0 : Int))) (
 cond (iB x5 (List.length x0 : Int)) (
  cond ((UInt8.toNat (List.getD x0 (Int.toNat x5) 0) : Int) == x1) (
  (rB true)) (
  aoJ (aoa Γ) Λ2 J x0 x1 (w6 (x5 + 1)))) none) (
 (rB false)) := by kernel_rfl
end
abbrev atI : aN := aoa gG
theorem ave : atI = aR gG := rfl
abbrev ayY := aoJ atI (bR SE gG (SE.hl 148) (SE.hr 148)) (J0 SE atI)
theorem ae7 : ∀ (fu : Nat) (x0 : Str) (x1 x5 : Int), Le (Option.map brokerlaw43_light_out (j5 fu x0 x1 x5)) (ayY x0 x1 x5) := by
 intro fu
 induction fu with
 | zero => intros; exact le_none
 | succ fu ih =>
  intro x0 x1 x5
  refine Le.trans ?_ (le_of_eq ((aX ave).trans (azz ..)).symm)
  unfold j5
  refine lC ?_ ?_
  ·refine lF ?_
   refine lC ?_ ?_
   ·exact aJ rfl
   ·exact ih x0 x1 (w6 (x5 + 1))
  ·exact aJ rfl
theorem oQ (p0 : Str) (p1 : Int) : Le (Option.map brokerlaw43_light_out (jT p0 p1)) (bF SE 148 [.d (.str p0), .d (.int .u8 p1)] [] []) := by
 refine aV ave rfl ?_
 refine Le.trans ?_ (le_of_eq (aFC ..).symm)
 unfold jT
 exact ae7 fuel p0 p1 0
def akG (C : aN) (Λ2 J : Lam) (a0 : Str) (a1 a2 : Int) (a3 : List (List D)) : Res := lab SE C Λ2 J 163 0 [1, 1, 1, 0, 1, 0] (aU [(0, .d (.str a0)), (3, .row 3003), (4, .d (.int .i64 a1)), (5, .d (.int .i64 a2))] [] [] [] [(3003, ⟨[.str], 9, 16, a3⟩)])
section
variable (Γ : Fun)  (Λ2 J : Lam)
def alw : aN := aR Γ
theorem aDQ (p0 : Str) : bG SE (alw Γ) Λ2 J 163 [.d (.str p0)] [] [] =
 akG (alw Γ) Λ2 J p0 0 0 (List.map cL []) := by kernel_rfl
theorem ax1 (x0 : Str) (x4 x5 : Int) (w3003 : List Str) : bS SE (alw Γ) Λ2 J 163 0 [1, 1, 1, 0, 1, 0] (aU [(0, .d (.str x0)), (3, .row 3003), (4, .d (.int .i64 x4)), (5, .d (.int .i64 x5))] [] [] [] [(3003, ⟨[.str], 9, 16, (List.map cL w3003)⟩)]) =
 cond (decide (x5 < (List.length x0 : Int))) (
 cond (iB x5 (List.length x0 : Int)) (
  cond ((UInt8.toNat (List.getD x0 (Int.toNat x5) 0) : Int) == 47) (
  cond (decide (0 ≤ x5) && decide (x5 ≤ ((List.length x0) : Int))) (
   cond (decide (0 ≤ x4) && decide (x4 ≤ x5)) (
   cond (decide ((lM cL w3003 + lM cL [(c9 x0 (some x4) (some x5))]) * 16 ≤ 140737488355328)) (
    akG (alw Γ) Λ2 J x0 (w6 (x5 + 1)) (w6 (x5 + 1)) (((List.map cL w3003) ++ (List.map cL [(c9 x0 (some x4) (some x5))])))) none) none) none) (
  akG (alw Γ) Λ2 J x0 x4 (w6 (x5 + 1)) (List.map cL w3003))) none) (
 cond (decide (0 ≤ x4) && decide (x4 ≤ ((List.length x0) : Int))) (
 cond (decide ((lM cL w3003 + lM cL [(c9 x0 (some x4) none)]) * 16 ≤ 140737488355328)) (
  (some (.ret [.row 0] [] [⟨[.str], 9, 16, ((List.map cL w3003) ++ (List.map cL [(c9 x0 (some x4) none)]))⟩]))) none) none) := by kernel_rfl
end
abbrev auL : aN := alw gG
theorem avg : auL = aR gG := rfl
abbrev axX := akG auL (bR SE gG (SE.hl 163) (SE.hr 163)) (J0 SE auL)
theorem adf : ∀ (fu : Nat) (x0 : Str) (x4 x5 : Int) (w3003 : List Str), Le (Option.map eD (gI fu x0 x4 x5 w3003)) (axX x0 x4 x5 (List.map cL w3003)) := by
 intro fu
 induction fu with
 | zero => intros; exact le_none
 | succ fu ih =>
  intro x0 x4 x5 w3003
  refine Le.trans ?_ (le_of_eq ((aX avg).trans (ax1 ..)).symm)
  unfold gI
  refine lC ?_ ?_
  ·refine lF ?_
   refine lC ?_ ?_
   ·refine lF ?_
    refine lF ?_
    refine lG (by simp only [EN]) ?_
    (try simp only [EN]); exact ih x0 (w6 (x5 + 1)) (w6 (x5 + 1)) ((w3003 ++ [(c9 x0 (some x4) (some x5))]))
   ·exact ih x0 x4 (w6 (x5 + 1)) w3003
  ·refine lF ?_
   refine lG (by simp only [EN]) ?_
   exact aJ (by first | rfl | simp only [EN, eD] <;> rfl)
theorem zR (p0 : Str) : Le (Option.map eD (oN p0)) (bF SE 163 [.d (.str p0)] [] []) := by
 refine aV avg rfl ?_
 refine Le.trans ?_ (le_of_eq (aDQ ..).symm)
 unfold oN
 (try simp only [EN]); exact adf fuel p0 0 0 []
section
variable (Γ : Fun) (γ148 : Gm (Bool)) (γ163 : Gm ((List Str))) (Λ2 J : Lam)
def atG : aN := bA (bA (aR Γ) 148 brokerlaw43_light_out γ148) 163 eD γ163
theorem aFv (p0 : Str) : bG SE (atG Γ γ148 γ163) Λ2 J 147 [.d (.str p0)] [] [] =
 cond (decide ((List.length p0 : Int) ≥ 1)) (
 cond (decide ((List.length p0 : Int) ≤ 64)) (
  γ148 [.d (.str p0), .d (.int .u8 0)] [] [] fun r0 =>
  cond (!r0) (
  γ163 [.d (.str p0)] [] [] fun r1 =>
  (rB (decide ((lM cL r1 : Int) ≤ 8)))) (
  (rB false))) (
 (rB false))) (
 (rB false)) := by kernel_rfl
end
abbrev awW : aN := atG gG (cT 148 brokerlaw43_light_out) (cT 163 eD)
theorem aC6 : awW = aR gG := by unfold awW atG; repeat rw [bD fun _ h => h]
theorem aaz (p0 : Str) : Le (Option.map brokerlaw43_light_out (mV p0)) (bF SE 147 [.d (.str p0)] [] []) := by
 refine aV aC6 rfl ?_
 refine Le.trans ?_ (le_of_eq (aFv ..).symm)
 unfold mV
 refine lC ?_ ?_
 ·refine lC ?_ ?_
  ·refine lQ eX brokerlaw43_light_inj (oQ _ _) fun r0 _ => ?_
   refine lC ?_ ?_
   ·refine lQ eX yQ (zR _) fun r1 _ => ?_
    exact aJ (by first | rfl | simp only [EN, brokerlaw43_light_out] <;> rfl)
   ·exact aJ rfl
  ·exact aJ rfl
 ·exact aJ rfl
def an2 (C : aN) (Λ2 J : Lam) (a0 : Int) (a1 : List (List D)) : Res := lab SE C Λ2 J 151 0 [1, 1, 1, 0, 1, 0, 0, 1, 0, 0, 1, 0] (aU [(3, .row 3003), (4, .d (.int .i64 a0))] [] [] [] [(3003, ⟨[.str], 9, 16, a1⟩)])
def aj5 (C : aN) (Λ2 J : Lam) (a0 : Int) (a1 : List (List D)) : Res := lab SE C Λ2 J 151 0 [1, 1, 1, 0, 1, 0] (aU [(3, .row 3003), (4, .d (.int .i64 a0))] [] [] [] [(3003, ⟨[.str], 9, 16, a1⟩)])
section
variable (Γ : Fun) (γ147 : Gm (Bool)) (γ163 : Gm ((List Str))) (γ148 : Gm (Bool)) (Λ2 J : Lam)
def aeo : aN := bA (bA (bA (aR Γ) 147 brokerlaw43_light_out γ147) 163 eD γ163) 148 brokerlaw43_light_out γ148
theorem aD7 (p0 : Str) : bG SE (aeo Γ γ147 γ163 γ148) Λ2 J 151 [.d (.str p0)] [] [] =
 γ147 [.d (.str p0)] [] [] fun r0 =>
 cond (!r0) (
 (rB false)) (
 γ163 [.d (.str p0)] [] [] fun r1 =>
 aj5 (aeo Γ γ147 γ163 γ148) Λ2 J 0 (List.map cL r1)) := by kernel_rfl
theorem azY (x4 : Int) (w3003 : List Str) : bS SE (aeo Γ γ147 γ163 γ148) Λ2 J 151 0 [1, 1, 1, 0, 1, 0, 0, 1, 0, 0, 1, 0] (aU [(3, .row 3003), (4, .d (.int .i64 x4))] [] [] [] [(3003, ⟨[.str], 9, 16, (List.map cL w3003)⟩)]) =
 cond (iB x4 (lM cL w3003 : Int)) (
 γ148 [.d (.str (bL (cE cL w3003 x4 0))), .d (.int .u8 35)] [] [] fun r3 =>
 cond r3 (
  cond (iB x4 (lM cL w3003 : Int)) (
  cond (!((bL (cE cL w3003 x4 0)) == ([35] : Str))) (
   (rB false)) (
  cond (x4 != (w6 ((lM cL w3003 : Int) - 1))) (
   (rB false)) (
  aj5 (aeo Γ γ147 γ163 γ148) Λ2 J (w6 (x4 + 1)) (List.map cL w3003)))) none) (
 aj5 (aeo Γ γ147 γ163 γ148) Λ2 J (w6 (x4 + 1)) (List.map cL w3003))) none := by kernel_rfl
theorem ayQ (x4 : Int) (w3003 : List Str) : bS SE (aeo Γ γ147 γ163 γ148) Λ2 J 151 0 [1, 1, 1, 0, 1, 0] (aU [(3, .row 3003), (4, .d (.int .i64 x4))] [] [] [] [(3003, ⟨[.str], 9, 16, (List.map cL w3003)⟩)]) =
 cond (decide (x4 < (lM cL w3003 : Int))) (
 cond (iB x4 (lM cL w3003 : Int)) (
  γ148 [.d (.str (bL (cE cL w3003 x4 0))), .d (.int .u8 43)] [] [] fun r2 =>
  cond r2 (
  cond (iB x4 (lM cL w3003 : Int)) (
   cond (!((bL (cE cL w3003 x4 0)) == ([43] : Str))) (
   (rB false)) (
   an2 (aeo Γ γ147 γ163 γ148) Λ2 J x4 (List.map cL w3003))) none) (
  an2 (aeo Γ γ147 γ163 γ148) Λ2 J x4 (List.map cL w3003))) none) (
 (rB true)) := by kernel_rfl
end
abbrev alK : aN := aeo gG (cT 147 brokerlaw43_light_out) (cT 163 eD) (cT 148 brokerlaw43_light_out)
theorem aqT : alK = aR gG := by unfold alK aeo; repeat rw [bD fun _ h => h]
abbrev ay2 := an2 alK (bR SE gG (SE.hl 151) (SE.hr 151)) (J0 SE alK)
abbrev arZ := aj5 alK (bR SE gG (SE.hl 151) (SE.hr 151)) (J0 SE alK)
theorem xA (k5 : Int → (List Str) → Option (Bool)) (hk5 : ∀ (x4 : Int) (w3003 : List Str), Le (Option.map brokerlaw43_light_out (k5 x4 w3003)) (arZ x4 (List.map cL w3003))) (x4 : Int) (w3003 : List Str) : Le (Option.map brokerlaw43_light_out (j1 k5 x4 w3003)) (ay2 x4 (List.map cL w3003)) := by
 refine Le.trans ?_ (le_of_eq ((aX aqT).trans (azY ..)).symm)
 unfold j1
 refine lG (by simp only [EN]) ?_
 refine lQ eX brokerlaw43_light_inj (by (try simp only [EN]); exact oQ (List.getD w3003 (Int.toNat x4) default) 35) fun r3 _ => ?_
 refine lC ?_ ?_
 ·refine lG (by simp only [EN]) ?_
  refine lD (by simp only [EN]) ?_ ?_
  ·exact aJ rfl
  ·refine lD (by simp only [EN]) ?_ ?_
   ·exact aJ rfl
   ·exact hk5 (w6 (x4 + 1)) w3003
 ·exact hk5 (w6 (x4 + 1)) w3003
theorem acQ : ∀ (fu : Nat) (x4 : Int) (w3003 : List Str), Le (Option.map brokerlaw43_light_out (gF fu x4 w3003)) (arZ x4 (List.map cL w3003)) := by
 intro fu
 induction fu with
 | zero => intros; exact le_none
 | succ fu ih =>
  intro x4 w3003
  refine Le.trans ?_ (le_of_eq ((aX aqT).trans (ayQ ..)).symm)
  unfold gF
  refine lD (by simp only [EN]) ?_ ?_
  ·refine lG (by simp only [EN]) ?_
   refine lQ eX brokerlaw43_light_inj (by (try simp only [EN]); exact oQ (List.getD w3003 (Int.toNat x4) default) 43) fun r2 _ => ?_
   refine lC ?_ ?_
   ·refine lG (by simp only [EN]) ?_
    refine lD (by simp only [EN]) ?_ ?_
    ·exact aJ rfl
    ·exact xA _ (ih) x4 w3003
   ·exact xA _ (ih) x4 w3003
  ·exact aJ rfl
theorem zV (p0 : Str) : Le (Option.map brokerlaw43_light_out (lV p0)) (bF SE 151 [.d (.str p0)] [] []) := by
 refine aV aqT rfl ?_
 refine Le.trans ?_ (le_of_eq (aD7 ..).symm)
 unfold lV
 refine lQ eX brokerlaw43_light_inj (aaz _) fun r0 _ => ?_
 refine lC ?_ ?_
 ·exact aJ rfl
 ·refine lQ eX yQ (zR _) fun r1 _ => ?_
  exact acQ fuel 0 r1
def arI (C : aN) (Λ2 J : Lam) (a0 : Str) (a1 : Int) : Res := lab SE C Λ2 J 150 0 [1, 1, 1, 1, 1, 1, 0] (aU [(5, .d (.str a0)), (6, .d (.int .i64 a1))] [] [] [] [])
def aoN (C : aN) (Λ2 J : Lam) (a0 : Str) (a1 : Int) : Res := lab SE C Λ2 J 150 0 [1, 1, 1, 1, 1, 0, 0] (aU [(5, .d (.str a0)), (6, .d (.int .i64 a1))] [] [] [] [])
def aoj (C : aN) (Λ2 J : Lam) (a0 : Str) (a1 : Int) : Res := lab SE C Λ2 J 150 0 [1, 1, 1, 1, 0, 0] (aU [(5, .d (.str a0)), (6, .d (.int .i64 a1))] [] [] [] [])
section
variable (Γ : Fun) (γ152 γ33 γ151 : Gm (Bool)) (Λ2 J : Lam)
def ac9 : aN := bA (bA (bA (aR Γ) 152 brokerlaw43_light_out γ152) 33 brokerlaw43_light_out γ33) 151 brokerlaw43_light_out γ151
theorem aEG (p0 : Str) : bG SE (ac9 Γ γ152 γ33 γ151) Λ2 J 150 [.d (.str p0)] [] [] =
 γ152 [.d (.str p0), .d (.str ([36, 115, 104, 97, 114, 101, 47] : Str))] [] [] fun r0 =>
 cond (!r0) (
 (some (.ret [.d (.str []), .d (.str []), .d (.bool false)] [] []))) (
 cond (decide (0 ≤ 7) && decide (7 ≤ ((List.length p0) : Int))) (
 aoj (ac9 Γ γ152 γ33 γ151) Λ2 J (c9 p0 (some 7) none) 0) none) := by kernel_rfl
theorem axG (x5 : Str) (x6 : Int) : bS SE (ac9 Γ γ152 γ33 γ151) Λ2 J 150 0 [1, 1, 1, 1, 1, 1, 0] (aU [(5, .d (.str x5)), (6, .d (.int .i64 x6))] [] [] [] []) =
 cond (decide (0 ≤ x6) && decide (x6 ≤ ((List.length x5) : Int))) (
 cond (decide (0 ≤ (w6 (x6 + 1))) && decide ((w6 (x6 + 1)) ≤ ((List.length x5) : Int))) (
  (some (.ret [.d (.str (c9 x5 none (some x6))), .d (.str (c9 x5 (some (w6 (x6 + 1))) none)), .d (.bool true)] [] []))) none) none := by kernel_rfl
theorem azy (x5 : Str) (x6 : Int) : bS SE (ac9 Γ γ152 γ33 γ151) Λ2 J 150 0 [1, 1, 1, 1, 1, 0, 0] (aU [(5, .d (.str x5)), (6, .d (.int .i64 x6))] [] [] [] []) =
 cond (x6 == (List.length x5 : Int)) (
 (some (.ret [.d (.str []), .d (.str []), .d (.bool false)] [] []))) (
 cond (decide (0 ≤ x6) && decide (x6 ≤ ((List.length x5) : Int))) (
 γ33 [.d (.str (c9 x5 none (some x6)))] [] [] fun r1 =>
 cond (!r1) (
  (some (.ret [.d (.str []), .d (.str []), .d (.bool false)] [] []))) (
 cond (decide (0 ≤ (w6 (x6 + 1))) && decide ((w6 (x6 + 1)) ≤ ((List.length x5) : Int))) (
  γ151 [.d (.str (c9 x5 (some (w6 (x6 + 1))) none))] [] [] fun r2 =>
  cond (!r2) (
  (some (.ret [.d (.str []), .d (.str []), .d (.bool false)] [] []))) (
  cond (decide (0 ≤ (w6 (x6 + 1))) && decide ((w6 (x6 + 1)) ≤ ((List.length x5) : Int))) (
  γ152 [.d (.str (c9 x5 (some (w6 (x6 + 1))) none)), .d (.str ([36, 115, 104, 97, 114, 101, 47] : Str))] [] [] fun r3 =>
  cond r3 (
   (some (.ret [.d (.str []), .d (.str []), .d (.bool false)] [] []))) (
  arI (ac9 Γ γ152 γ33 γ151) Λ2 J x5 x6)) none)) none)) none) := by kernel_rfl
theorem ayL (x5 : Str) (x6 : Int) : bS SE (ac9 Γ γ152 γ33 γ151) Λ2 J 150 0 [1, 1, 1, 1, 0, 0] (aU [(5, .d (.str x5)), (6, .d (.int .i64 x6))] [] [] [] []) =
 cond (decide (x6 < (List.length x5 : Int))) (
 cond (iB x6 (List.length x5 : Int)) (
  cond ((UInt8.toNat (List.getD x5 (Int.toNat x6) 0) : Int) != 47) (
  aoj (ac9 Γ γ152 γ33 γ151) Λ2 J x5 (w6 (x6 + 1))) (
  aoN (ac9 Γ γ152 γ33 γ151) Λ2 J x5 x6)) none) (
 aoN (ac9 Γ γ152 γ33 γ151) Λ2 J x5 x6) := by kernel_rfl
end
abbrev ah9 : aN := ac9 gG (cT 152 brokerlaw43_light_out) (cT 33 brokerlaw43_light_out) (cT 151 brokerlaw43_light_out)
theorem am5 : ah9 = aR gG := by unfold ah9 ac9; repeat rw [bD fun _ h => h]
abbrev azi := arI ah9 (bR SE gG (SE.hl 150) (SE.hr 150)) (J0 SE ah9)
abbrev awx := aoN ah9 (bR SE gG (SE.hl 150) (SE.hr 150)) (J0 SE ah9)
abbrev awr := aoj ah9 (bR SE gG (SE.hl 150) (SE.hr 150)) (J0 SE ah9)
theorem adD (x5 : Str) (x6 : Int) : Le (Option.map cB (o6 x5 x6)) (azi x5 x6) := by
 refine Le.trans ?_ (le_of_eq ((aX am5).trans (axG ..)).symm)
 unfold o6
 refine lF ?_
 refine lF ?_
 exact aJ rfl
theorem wU (x5 : Str) (x6 : Int) : Le (Option.map cB (jZ x5 x6)) (awx x5 x6) := by
 refine Le.trans ?_ (le_of_eq ((aX am5).trans (azy ..)).symm)
 unfold jZ
 refine lC ?_ ?_
 ·exact aJ rfl
 ·refine lF ?_
  refine lQ eX brokerlaw43_light_inj (kV _) fun r1 _ => ?_
  refine lC ?_ ?_
  ·exact aJ rfl
  ·refine lF ?_
   refine lQ eX brokerlaw43_light_inj (zV _) fun r2 _ => ?_
   refine lC ?_ ?_
   ·exact aJ rfl
   ·refine lF ?_
    refine lQ eX brokerlaw43_light_inj (tG _ _) fun r3 _ => ?_
    refine lC ?_ ?_
    ·exact aJ rfl
    ·exact adD x5 x6
theorem acM : ∀ (fu : Nat) (x5 : Str) (x6 : Int), Le (Option.map cB (iH fu x5 x6)) (awr x5 x6) := by
 intro fu
 induction fu with
 | zero => intros; exact le_none
 | succ fu ih =>
  intro x5 x6
  refine Le.trans ?_ (le_of_eq ((aX am5).trans (ayL ..)).symm)
  unfold iH
  refine lC ?_ ?_
  ·refine lF ?_
   refine lC ?_ ?_
   ·exact ih x5 (w6 (x6 + 1))
   ·exact wU x5 x6
  ·exact wU x5 x6
theorem zT (p0 : Str) : Le (Option.map cB (lP p0)) (bF SE 150 [.d (.str p0)] [] []) := by
 refine aV am5 rfl ?_
 refine Le.trans ?_ (le_of_eq (aEG ..).symm)
 unfold lP
 refine lQ eX brokerlaw43_light_inj (tG _ _) fun r0 _ => ?_
 refine lC ?_ ?_
 ·exact aJ rfl
 ·refine lF ?_
  exact acM fuel (c9 p0 (some 7) none) 0
section
variable (Γ : Fun) (γ150 : Gm (Str × Str × Bool)) (γ151 γ152 : Gm (Bool)) (Λ2 J : Lam)
def asU : aN := bA (bA (bA (aR Γ) 150 cB γ150) 151 brokerlaw43_light_out γ151) 152 brokerlaw43_light_out γ152
theorem aFk (p0 : Str) : bG SE (asU Γ γ150 γ151 γ152) Λ2 J 133 [.d (.str p0)] [] [] =
 γ150 [.d (.str p0)] [] [] fun r0 =>
 cond r0.2.2 (
 (rB true)) (
 γ151 [.d (.str p0)] [] [] fun r1 =>
 cond r1 (
 γ152 [.d (.str p0), .d (.str ([36, 115, 104, 97, 114, 101, 47] : Str))] [] [] fun r2 =>
 (rB (!r2))) (
 (rB false))) := by kernel_rfl
end
abbrev awG : aN := asU gG (cT 150 cB) (cT 151 brokerlaw43_light_out) (cT 152 brokerlaw43_light_out)
theorem aAE : awG = aR gG := by unfold awG asU; repeat rw [bD fun _ h => h]
theorem afE (p0 : Str) : Le (Option.map brokerlaw43_light_out (oS p0)) (bF SE 133 [.d (.str p0)] [] []) := by
 refine aV aAE rfl ?_
 refine Le.trans ?_ (le_of_eq (aFk ..).symm)
 unfold oS
 refine lQ eX nG (zT _) fun r0 _ => ?_
 refine lC ?_ ?_
 ·exact aJ rfl
 ·refine lQ eX brokerlaw43_light_inj (zV _) fun r1 _ => ?_
  refine lC ?_ ?_
  ·refine lQ eX brokerlaw43_light_inj (tG _ _) fun r2 _ => ?_
   exact aJ rfl
  ·exact aJ rfl
section
variable (Γ : Fun)  (Λ2 J : Lam)
def axS : aN := aR Γ
theorem aEH (p0 : Int) : bG SE (axS Γ) Λ2 J 134 [.d (.int .i64 p0)] [] [] =
 cond (p0 == 0) (
 (rB true)) (
 cond (p0 == 1) (
 (rB true)) (
 (rB (p0 == 2)))) := by kernel_rfl
end
abbrev aFc : aN := axS gG
theorem aCn : aFc = aR gG := rfl
theorem af6 (p0 : Int) : Le (Option.map brokerlaw43_light_out (pU p0)) (bF SE 134 [.d (.int .i64 p0)] [] []) := by
 refine aV aCn rfl ?_
 refine Le.trans ?_ (le_of_eq (aEH ..).symm)
 unfold pU
 refine lC ?_ ?_
 ·exact aJ rfl
 ·refine lC ?_ ?_
  ·exact aJ rfl
  ·exact aJ rfl
section
variable (Γ : Fun) (γ150 : Gm (Str × Str × Bool)) (Λ2 J : Lam)
def auC : aN := bA (aR Γ) 150 cB γ150
theorem aEk (p0 : Str) : bG SE (auC Γ γ150) Λ2 J 135 [.d (.str p0)] [] [] =
 γ150 [.d (.str p0)] [] [] fun r0 =>
 (rB r0.2.2) := by kernel_rfl
end
abbrev ayl : aN := auC gG (cT 150 cB)
theorem aAS : ayl = aR gG := by unfold ayl auC; rw [bD fun _ h => h]
theorem afd (p0 : Str) : Le (Option.map brokerlaw43_light_out (sG p0)) (bF SE 135 [.d (.str p0)] [] []) := by
 refine aV aAS rfl ?_
 refine Le.trans ?_ (le_of_eq (aEk ..).symm)
 unfold sG
 refine lQ eX nG (zT _) fun r0 _ => ?_
 exact aJ rfl
section
variable (Γ : Fun) (γ133 γ134 γ135 : Gm (Bool)) (Λ2 J : Lam)
def aua : aN := bA (bA (bA (aR Γ) 133 brokerlaw43_light_out γ133) 134 brokerlaw43_light_out γ134) 135 brokerlaw43_light_out γ135
theorem aDv (p0 : aK) : bG SE (aua Γ γ133 γ134 γ135) Λ2 J 111 [aK.av p0] [] [] =
 γ133 [.d (.str p0.Filter)] [] [] fun r0 =>
 cond (!r0) (
 (rI 13)) (
 γ134 [.d (.int .i64 p0.Level)] [] [] fun r1 =>
 cond (!r1) (
 (rI 14)) (
 cond p0.NoLocal (
 γ135 [.d (.str p0.Filter)] [] [] fun r2 =>
 cond r2 (
  (rI 28)) (
 (rI 0))) (
 (rI 0)))) := by kernel_rfl
end
abbrev az2 : aN := aua gG (cT 133 brokerlaw43_light_out) (cT 134 brokerlaw43_light_out) (cT 135 brokerlaw43_light_out)
theorem aBQ : az2 = aR gG := by unfold az2 aua; repeat rw [bD fun _ h => h]
theorem ahS (p0 : aK) : Le (Option.map aB (sO p0)) (bF SE 111 [aK.av p0] [] []) := by
 refine aV aBQ rfl ?_
 refine Le.trans ?_ (le_of_eq (aDv ..).symm)
 unfold sO
 refine lQ eX brokerlaw43_light_inj (afE _) fun r0 _ => ?_
 refine lC ?_ ?_
 ·exact aJ rfl
 ·refine lQ eX brokerlaw43_light_inj (af6 _) fun r1 _ => ?_
  refine lC ?_ ?_
  ·exact aJ rfl
  ·refine lC ?_ ?_
   ·refine lQ eX brokerlaw43_light_inj (afd _) fun r2 _ => ?_
    refine lC ?_ ?_
    ·exact aJ rfl
    ·exact aJ rfl
   ·exact aJ rfl
def anc (C : aN) (Λ2 J : Lam) (a0 : List (List D)) (a1 : Int) : Res := lab SE C Λ2 J 72 0 [1, 1, 0, 1, 0] (aU [(0, .d (.sl aK.ks a0)), (3, .d (.int .i64 a1))] [] [] [] [])
section
variable (Γ : Fun) (γ111 : Gm (Int)) (Λ2 J : Lam)
def C72 : aN := bA (aR Γ) 111 aB γ111
theorem T72 (p0 : List aK) : bG SE (C72 Γ γ111) Λ2 J 72 [.d (.sl aK.ks (List.map aK.enc p0))] [] [] =
 cond (decide ((lM aK.enc p0 : Int) > 32)) (
 (rI 5)) (
 anc (C72 Γ γ111) Λ2 J (List.map aK.enc p0) 0) := by kernel_rfl
theorem aBC (x0 : List aK) (x3 : Int) : bS SE (C72 Γ γ111) Λ2 J 72 0 [1, 1, 0, 1, 0] (aU [(0, .d (.sl aK.ks (List.map aK.enc x0))), (3, .d (.int .i64 x3))] [] [] [] []) =
 cond (decide (x3 < (lM aK.enc x0 : Int))) (
 cond (iB x3 (lM aK.enc x0 : Int)) (
  γ111 [.agg [.d (.str (bL (cE aK.enc x0 x3 0))), .d (.int .i64 (aW (cE aK.enc x0 x3 1))), .d (.bool (dL (cE aK.enc x0 x3 2)))]] [] [] fun r0 =>
  cond (r0 != 0) (
  (rI r0)) (
  cond (decide (x3 > 0)) (
  cond (iB x3 (lM aK.enc x0 : Int)) (
   cond (iB (w6 (x3 - 1)) (lM aK.enc x0 : Int)) (
   cond (Op.bytesLess (bL (cE aK.enc x0 x3 0)) (bL (cE aK.enc x0 (w6 (x3 - 1)) 0)) || (bL (cE aK.enc x0 x3 0)) == (bL (cE aK.enc x0 (w6 (x3 - 1)) 0))) (
    (rI 22)) (
   anc (C72 Γ γ111) Λ2 J (List.map aK.enc x0) (w6 (x3 + 1)))) none) none) (
  anc (C72 Γ γ111) Λ2 J (List.map aK.enc x0) (w6 (x3 + 1))))) none) (
 (rI 0)) := by kernel_rfl
end
abbrev X72 : aN := C72 gG (cT 111 aB)
theorem ax3 : X72 = aR gG := by unfold X72 C72; rw [bD fun _ h => h]
abbrev aBH := anc X72 (bR SE gG (SE.hl 72) (SE.hr 72)) (J0 SE X72)
theorem aem : ∀ (fu : Nat) (x0 : List aK) (x3 : Int), Le (Option.map aB (iE fu x0 x3)) (aBH (List.map aK.enc x0) x3) := by
 intro fu
 induction fu with
 | zero => intros; exact le_none
 | succ fu ih =>
  intro x0 x3
  refine Le.trans ?_ (le_of_eq ((aX ax3).trans (aBC ..)).symm)
  unfold iE
  refine lD (by simp only [EN]) ?_ ?_
  ·refine lG (by simp only [EN]) ?_
   refine lQ eX aL (by (try simp only [EN]); exact ahS (List.getD x0 (Int.toNat x3) default)) fun r0 _ => ?_
   refine lC ?_ ?_
   ·exact aJ rfl
   ·refine lC ?_ ?_
    ·refine lG (by simp only [EN]) ?_
     refine lG (by simp only [EN]) ?_
     refine lD (by simp only [EN]) ?_ ?_
     ·exact aJ rfl
     ·exact ih x0 (w6 (x3 + 1))
    ·exact ih x0 (w6 (x3 + 1))
  ·exact aJ rfl
theorem agU (p0 : List aK) : Le (Option.map aB (rD p0)) (bF SE 72 [.d (.sl aK.ks (List.map aK.enc p0))] [] []) := by
 refine aV ax3 rfl ?_
 refine Le.trans ?_ (le_of_eq (T72 ..).symm)
 unfold rD
 refine lD (by simp only [EN]) ?_ ?_
 ·exact aJ rfl
 ·exact aem fuel p0 0
section
variable (Γ : Fun) (γ147 γ148 : Gm (Bool)) (Λ2 J : Lam)
def auq : aN := bA (bA (aR Γ) 147 brokerlaw43_light_out γ147) 148 brokerlaw43_light_out γ148
theorem aEp (p0 : Str) : bG SE (auq Γ γ147 γ148) Λ2 J 130 [.d (.str p0)] [] [] =
 γ147 [.d (.str p0)] [] [] fun r0 =>
 cond r0 (
 γ148 [.d (.str p0), .d (.int .u8 43)] [] [] fun r1 =>
 cond (!r1) (
  γ148 [.d (.str p0), .d (.int .u8 35)] [] [] fun r2 =>
  (rB (!r2))) (
 (rB false))) (
 (rB false)) := by kernel_rfl
end
abbrev aw9 : aN := auq gG (cT 147 brokerlaw43_light_out) (cT 148 brokerlaw43_light_out)
theorem aAh : aw9 = aR gG := by unfold aw9 auq; repeat rw [bD fun _ h => h]
theorem aga (p0 : Str) : Le (Option.map brokerlaw43_light_out (pL p0)) (bF SE 130 [.d (.str p0)] [] []) := by
 refine aV aAh rfl ?_
 refine Le.trans ?_ (le_of_eq (aEp ..).symm)
 unfold pL
 refine lQ eX brokerlaw43_light_inj (aaz _) fun r0 _ => ?_
 refine lC ?_ ?_
 ·refine lQ eX brokerlaw43_light_inj (oQ _ _) fun r1 _ => ?_
  refine lC ?_ ?_
  ·refine lQ eX brokerlaw43_light_inj (oQ _ _) fun r2 _ => ?_
   exact aJ rfl
  ·exact aJ rfl
 ·exact aJ rfl
def aaR (C : aN) (Λ2 J : Lam) (a0 : Str) (a1 : Int) : Res := lab SE C Λ2 J 149 0 [1, 1, 0, 1, 0] (aU [(0, .d (.str a0)), (3, .d (.int .i64 a1))] [] [] [] [])
def arN (C : aN) (Λ2 J : Lam) (a0 : Str) : Res := lab SE C Λ2 J 149 0 [1, 1, 0, 0] (aU [(0, .d (.str a0))] [] [] [] [])
section
variable (Γ : Fun)  (Λ2 J : Lam)
def abj : aN := aR Γ
theorem aDg (p0 : Str) : bG SE (abj Γ) Λ2 J 149 [.d (.str p0)] [] [] =
 cond (decide ((List.length p0 : Int) < 1)) (
 (rB false)) (
 cond (decide ((List.length p0 : Int) > 16)) (
 (rB false)) (
 arN (abj Γ) Λ2 J p0)) := by kernel_rfl
theorem ayf (x0 : Str) (x3 : Int) : bS SE (abj Γ) Λ2 J 149 0 [1, 1, 0, 1, 0] (aU [(0, .d (.str x0)), (3, .d (.int .i64 x3))] [] [] [] []) =
 cond (decide (x3 < (List.length x0 : Int))) (
 cond (iB x3 (List.length x0 : Int)) (
  cond (decide ((UInt8.toNat (List.getD x0 (Int.toNat x3) 0) : Int) ≥ 97)) (
  cond (!(decide ((UInt8.toNat (List.getD x0 (Int.toNat x3) 0) : Int) ≤ 122))) (
   cond (decide ((UInt8.toNat (List.getD x0 (Int.toNat x3) 0) : Int) ≥ 48)) (
   cond (!(decide ((UInt8.toNat (List.getD x0 (Int.toNat x3) 0) : Int) ≤ 57))) (
    cond ((UInt8.toNat (List.getD x0 (Int.toNat x3) 0) : Int) != 45) (
    (rB false)) (
    aaR (abj Γ) Λ2 J x0 (w6 (x3 + 1)))) (
   aaR (abj Γ) Λ2 J x0 (w6 (x3 + 1)))) (
   cond ((UInt8.toNat (List.getD x0 (Int.toNat x3) 0) : Int) != 45) (
   (rB false)) (
   aaR (abj Γ) Λ2 J x0 (w6 (x3 + 1))))) (
  aaR (abj Γ) Λ2 J x0 (w6 (x3 + 1)))) (
  cond (decide ((UInt8.toNat (List.getD x0 (Int.toNat x3) 0) : Int) ≥ 48)) (
  cond (!(decide ((UInt8.toNat (List.getD x0 (Int.toNat x3) 0) : Int) ≤ 57))) (
   cond ((UInt8.toNat (List.getD x0 (Int.toNat x3) 0) : Int) != 45) (
   (rB false)) (
   aaR (abj Γ) Λ2 J x0 (w6 (x3 + 1)))) (
  aaR (abj Γ) Λ2 J x0 (w6 (x3 + 1)))) (
  cond ((UInt8.toNat (List.getD x0 (Int.toNat x3) 0) : Int) != 45) (
  (rB false)) (
  aaR (abj Γ) Λ2 J x0 (w6 (x3 + 1)))))) none) (
 (rB true)) := by kernel_rfl
theorem axB (x0 : Str) : bS SE (abj Γ) Λ2 J 149 0 [1, 1, 0, 0] (aU [(0, .d (.str x0))] [] [] [] []) =
 aaR (abj Γ) Λ2 J x0 0 := by kernel_rfl
end
abbrev aoT : aN := abj gG
theorem ap4 : aoT = aR gG := rfl
abbrev ayt := aaR aoT (bR SE gG (SE.hl 149) (SE.hr 149)) (J0 SE aoT)
abbrev ayO := arN aoT (bR SE gG (SE.hl 149) (SE.hr 149)) (J0 SE aoT)
theorem afw : ∀ (fu : Nat) (x0 : Str) (x3 : Int), Le (Option.map brokerlaw43_light_out (dX fu x0 x3)) (ayt x0 x3) := by
 intro fu
 induction fu with
 | zero => intros; exact le_none
 | succ fu ih =>
  intro x0 x3
  refine Le.trans ?_ (le_of_eq ((aX ap4).trans (ayf ..)).symm)
  unfold dX
  refine lC ?_ ?_
  ·refine lF ?_
   refine lC ?_ ?_
   ·refine lC ?_ ?_
    ·refine lC ?_ ?_
     ·refine lC ?_ ?_
      ·refine lC ?_ ?_
       ·exact aJ rfl
       ·exact ih x0 (w6 (x3 + 1))
      ·exact ih x0 (w6 (x3 + 1))
     ·refine lC ?_ ?_
      ·exact aJ rfl
      ·exact ih x0 (w6 (x3 + 1))
    ·exact ih x0 (w6 (x3 + 1))
   ·refine lC ?_ ?_
    ·refine lC ?_ ?_
     ·refine lC ?_ ?_
      ·exact aJ rfl
      ·exact ih x0 (w6 (x3 + 1))
     ·exact ih x0 (w6 (x3 + 1))
    ·refine lC ?_ ?_
     ·exact aJ rfl
     ·exact ih x0 (w6 (x3 + 1))
  ·exact aJ rfl
theorem aft (x0 : Str) : Le (Option.map brokerlaw43_light_out (sN x0)) (ayO x0) := by
 refine Le.trans ?_ (le_of_eq ((aX ap4).trans (axB ..)).symm)
 unfold sN
 exact afw fuel x0 0
theorem ahR (p0 : Str) : Le (Option.map brokerlaw43_light_out (sL p0)) (bF SE 149 [.d (.str p0)] [] []) := by
 refine aV ap4 rfl ?_
 refine Le.trans ?_ (le_of_eq (aDg ..).symm)
 unfold sL
 refine lC ?_ ?_
 ·exact aJ rfl
 ·refine lC ?_ ?_
  ·exact aJ rfl
  ·exact aft p0
def alc (C : aN) (Λ2 J : Lam) (a0 : List (List D)) (a1 : Int) : Res := lab SE C Λ2 J 131 0 [1, 1, 0, 1, 0] (aU [(0, .d (.sl aG.ks a0)), (3, .d (.int .i64 a1))] [] [] [] [])
section
variable (Γ : Fun) (γ149 : Gm (Bool)) (Λ2 J : Lam)
def ajW : aN := bA (aR Γ) 149 brokerlaw43_light_out γ149
theorem aEs (p0 : List aG) : bG SE (ajW Γ γ149) Λ2 J 131 [.d (.sl aG.ks (List.map aG.enc p0))] [] [] =
 cond (decide ((lM aG.enc p0 : Int) > 8)) (
 (rI 5)) (
 alc (ajW Γ γ149) Λ2 J (List.map aG.enc p0) 0) := by kernel_rfl
theorem az0 (x0 : List aG) (x3 : Int) : bS SE (ajW Γ γ149) Λ2 J 131 0 [1, 1, 0, 1, 0] (aU [(0, .d (.sl aG.ks (List.map aG.enc x0))), (3, .d (.int .i64 x3))] [] [] [] []) =
 cond (decide (x3 < (lM aG.enc x0 : Int))) (
 cond (iB x3 (lM aG.enc x0 : Int)) (
  γ149 [.d (.str (bL (cE aG.enc x0 x3 0)))] [] [] fun r0 =>
  cond (!r0) (
  (rI 16)) (
  cond (iB x3 (lM aG.enc x0 : Int)) (
  cond (decide ((List.length (bL (cE aG.enc x0 x3 1)) : Int) > 160)) (
   (rI 5)) (
  cond (decide (x3 > 0)) (
   cond (iB x3 (lM aG.enc x0 : Int)) (
   cond (iB (w6 (x3 - 1)) (lM aG.enc x0 : Int)) (
    cond (Op.bytesLess (bL (cE aG.enc x0 x3 0)) (bL (cE aG.enc x0 (w6 (x3 - 1)) 0)) || (bL (cE aG.enc x0 x3 0)) == (bL (cE aG.enc x0 (w6 (x3 - 1)) 0))) (
    (rI 16)) (
    alc (ajW Γ γ149) Λ2 J (List.map aG.enc x0) (w6 (x3 + 1)))) none) none) (
  alc (ajW Γ γ149) Λ2 J (List.map aG.enc x0) (w6 (x3 + 1))))) none)) none) (
 (rI 0)) := by kernel_rfl
end
abbrev apY : aN := ajW gG (cT 149 brokerlaw43_light_out)
theorem auP : apY = aR gG := by unfold apY ajW; rw [bD fun _ h => h]
abbrev awV := alc apY (bR SE gG (SE.hl 131) (SE.hr 131)) (J0 SE apY)
theorem adH : ∀ (fu : Nat) (x0 : List aG) (x3 : Int), Le (Option.map aB (gW fu x0 x3)) (awV (List.map aG.enc x0) x3) := by
 intro fu
 induction fu with
 | zero => intros; exact le_none
 | succ fu ih =>
  intro x0 x3
  refine Le.trans ?_ (le_of_eq ((aX auP).trans (az0 ..)).symm)
  unfold gW
  refine lD (by simp only [EN]) ?_ ?_
  ·refine lG (by simp only [EN]) ?_
   refine lQ eX brokerlaw43_light_inj (by (try simp only [EN]); exact ahR ((List.getD x0 (Int.toNat x3) default).Key)) fun r0 _ => ?_
   refine lC ?_ ?_
   ·exact aJ rfl
   ·refine lG (by simp only [EN]) ?_
    refine lD (by simp only [EN]) ?_ ?_
    ·exact aJ rfl
    ·refine lC ?_ ?_
     ·refine lG (by simp only [EN]) ?_
      refine lG (by simp only [EN]) ?_
      refine lD (by simp only [EN]) ?_ ?_
      ·exact aJ rfl
      ·exact ih x0 (w6 (x3 + 1))
     ·exact ih x0 (w6 (x3 + 1))
  ·exact aJ rfl
theorem agc (p0 : List aG) : Le (Option.map aB (pS p0)) (bF SE 131 [.d (.sl aG.ks (List.map aG.enc p0))] [] []) := by
 refine aV auP rfl ?_
 refine Le.trans ?_ (le_of_eq (aEs ..).symm)
 unfold pS
 refine lD (by simp only [EN]) ?_ ?_
 ·exact aJ rfl
 ·exact adH fuel p0 0
def ali (C : aN) (Λ2 J : Lam) (a0 : List D) : Res := lab SE C Λ2 J 106 0 [1, 1, 1, 1, 1, 1, 0, 0] (aU [(1, .ptr 1000000000 0)] [⟨42, (List.map AV.d a0)⟩] [] [] [])
def asC (C : aN) (Λ2 J : Lam) (a0 : List D) : Res := lab SE C Λ2 J 106 0 [1, 1, 1, 1, 1, 0, 0] (aU [(1, .ptr 1000000000 0)] [⟨42, (List.map AV.d a0)⟩] [] [] [])
def arQ (C : aN) (Λ2 J : Lam) (a0 : List D) : Res := lab SE C Λ2 J 106 0 [1, 1, 1, 1, 0, 0] (aU [(1, .ptr 1000000000 0)] [⟨42, (List.map AV.d a0)⟩] [] [] [])
section
variable (Γ : Fun) (γ130 γ33 : Gm (Bool)) (γ131 : Gm (Int)) (Λ2 J : Lam)
def aeS : aN := bA (bA (bA (aR Γ) 130 brokerlaw43_light_out γ130) 33 brokerlaw43_light_out γ33) 131 aB γ131
theorem aDR (p0 : aC) : bG SE (aeS Γ γ130 γ33 γ131) Λ2 J 106 [aC.av p0] [] [] =
 γ130 [.d (.str p0.Topic)] [] [] fun r0 =>
 cond (!r0) (
 (rI 12)) (
 cond (decide ((List.length p0.Payload : Int) > 256)) (
 (rI 5)) (
 cond (decide (p0.Level < 0)) (
 (rI 14)) (
 cond (decide (p0.Level > 2)) (
 (rI 14)) (
 arQ (aeS Γ γ130 γ33 γ131) Λ2 J (aC.enc p0))))) := by kernel_rfl
theorem av8 (b0 : aC) : bS SE (aeS Γ γ130 γ33 γ131) Λ2 J 106 0 [1, 1, 1, 1, 1, 1, 0, 0] (aU [(1, .ptr 1000000000 0)] [⟨42, (List.map AV.d (aC.enc b0))⟩] [] [] []) =
 cond (decide (b0.Seq < 0)) (
 (rI 1)) (
 cond (decide (b0.Seq > 1099511627776)) (
 (rI 1)) (
 γ131 [.d (.sl aG.ks (List.map aG.enc b0.Props))] [] [] fun r2 =>
 (rI r2))) := by kernel_rfl
theorem ay4 (b0 : aC) : bS SE (aeS Γ γ130 γ33 γ131) Λ2 J 106 0 [1, 1, 1, 1, 1, 0, 0] (aU [(1, .ptr 1000000000 0)] [⟨42, (List.map AV.d (aC.enc b0))⟩] [] [] []) =
 cond (!(b0.From == ([] : Str))) (
 γ33 [.d (.str b0.From)] [] [] fun r1 =>
 cond (!r1) (
  (rI 11)) (
 ali (aeS Γ γ130 γ33 γ131) Λ2 J (aC.enc b0))) (
 ali (aeS Γ γ130 γ33 γ131) Λ2 J (aC.enc b0)) := by kernel_rfl
theorem azE (b0 : aC) : bS SE (aeS Γ γ130 γ33 γ131) Λ2 J 106 0 [1, 1, 1, 1, 0, 0] (aU [(1, .ptr 1000000000 0)] [⟨42, (List.map AV.d (aC.enc b0))⟩] [] [] []) =
 cond (decide (b0.Priority < 0)) (
 (rI 1)) (
 cond (decide (b0.Priority > 9)) (
 (rI 1)) (
 cond (decide (b0.Expires < 0)) (
 (rI 1)) (
 cond (decide (b0.Expires > 1099511627776)) (
 (rI 1)) (
 asC (aeS Γ γ130 γ33 γ131) Λ2 J (aC.enc b0))))) := by kernel_rfl
end
abbrev ahG : aN := aeS gG (cT 130 brokerlaw43_light_out) (cT 33 brokerlaw43_light_out) (cT 131 aB)
theorem ani : ahG = aR gG := by unfold ahG aeS; repeat rw [bD fun _ h => h]
abbrev awb := ali ahG (bR SE gG (SE.hl 106) (SE.hr 106)) (J0 SE ahG)
abbrev azv := asC ahG (bR SE gG (SE.hl 106) (SE.hr 106)) (J0 SE ahG)
abbrev ayz := arQ ahG (bR SE gG (SE.hl 106) (SE.hr 106)) (J0 SE ahG)
theorem wJ (b0 : aC) : Le (Option.map aB (lT b0)) (awb (aC.enc b0)) := by
 refine Le.trans ?_ (le_of_eq ((aX ani).trans (av8 ..)).symm)
 unfold lT
 refine lC ?_ ?_
 ·exact aJ rfl
 ·refine lC ?_ ?_
  ·exact aJ rfl
  ·refine lQ eX aL (agc _) fun r2 _ => ?_
   exact aJ rfl
theorem adP (b0 : aC) : Le (Option.map aB (p8 b0)) (azv (aC.enc b0)) := by
 refine Le.trans ?_ (le_of_eq ((aX ani).trans (ay4 ..)).symm)
 unfold p8
 refine lC ?_ ?_
 ·refine lQ eX brokerlaw43_light_inj (kV _) fun r1 _ => ?_
  refine lC ?_ ?_
  ·exact aJ rfl
  ·exact wJ b0
 ·exact wJ b0
theorem adO (b0 : aC) : Le (Option.map aB (qF b0)) (ayz (aC.enc b0)) := by
 refine Le.trans ?_ (le_of_eq ((aX ani).trans (azE ..)).symm)
 unfold qF
 refine lC ?_ ?_
 ·exact aJ rfl
 ·refine lC ?_ ?_
  ·exact aJ rfl
  ·refine lC ?_ ?_
   ·exact aJ rfl
   ·refine lC ?_ ?_
    ·exact aJ rfl
    ·exact adP b0
theorem pY (p0 : aC) : Le (Option.map aB (jH p0)) (bF SE 106 [aC.av p0] [] []) := by
 refine aV ani rfl ?_
 refine Le.trans ?_ (le_of_eq (aDR ..).symm)
 unfold jH
 refine lQ eX brokerlaw43_light_inj (aga _) fun r0 _ => ?_
 refine lC ?_ ?_
 ·exact aJ rfl
 ·refine lC ?_ ?_
  ·exact aJ rfl
  ·refine lC ?_ ?_
   ·exact aJ rfl
   ·refine lC ?_ ?_
    ·exact aJ rfl
    ·exact adO p0
def aqG (C : aN) (Λ2 J : Lam) (a0 : List (List D)) (a1 : Int) : Res := lab SE C Λ2 J 73 0 [1, 1, 0, 1, 0] (aU [(0, .d (.sl aC.ks a0)), (3, .d (.int .i64 a1))] [] [] [] [])
section
variable (Γ : Fun) (γ106 : Gm (Int)) (Λ2 J : Lam)
def C73 : aN := bA (aR Γ) 106 aB γ106
theorem T73 (p0 : List aC) : bG SE (C73 Γ γ106) Λ2 J 73 [.d (.sl aC.ks (List.map aC.enc p0))] [] [] =
 cond (decide ((lM aC.enc p0 : Int) > 256)) (
 (rI 5)) (
 aqG (C73 Γ γ106) Λ2 J (List.map aC.enc p0) 0) := by kernel_rfl
theorem aA3 (x0 : List aC) (x3 : Int) : bS SE (C73 Γ γ106) Λ2 J 73 0 [1, 1, 0, 1, 0] (aU [(0, .d (.sl aC.ks (List.map aC.enc x0))), (3, .d (.int .i64 x3))] [] [] [] []) =
 cond (decide (x3 < (lM aC.enc x0 : Int))) (
 cond (iB x3 (lM aC.enc x0 : Int)) (
  γ106 [.agg [.d (.str (bL (cE aC.enc x0 x3 0))), .d (.str (bL (cE aC.enc x0 x3 1))), .d (.int .i64 (aW (cE aC.enc x0 x3 2))), .d (.bool (dL (cE aC.enc x0 x3 3))), .d (.int .i64 (aW (cE aC.enc x0 x3 4))), .d (.int .i64 (aW (cE aC.enc x0 x3 5))), .d (.str (bL (cE aC.enc x0 x3 6))), .d (.int .i64 (aW (cE aC.enc x0 x3 7))), .d (.sl aG.ks (dSl (cE aC.enc x0 x3 8)))]] [] [] fun r0 =>
  cond (r0 != 0) (
  (rI r0)) (
  aqG (C73 Γ γ106) Λ2 J (List.map aC.enc x0) (w6 (x3 + 1)))) none) (
 (rI 0)) := by kernel_rfl
end
abbrev X73 : aN := C73 gG (cT 106 aB)
theorem axY : X73 = aR gG := by unfold X73 C73; rw [bD fun _ h => h]
abbrev aCZ := aqG X73 (bR SE gG (SE.hl 73) (SE.hr 73)) (J0 SE X73)
theorem adQ : ∀ (fu : Nat) (x0 : List aC) (x3 : Int), Le (Option.map aB (iX fu x0 x3)) (aCZ (List.map aC.enc x0) x3) := by
 intro fu
 induction fu with
 | zero => intros; exact le_none
 | succ fu ih =>
  intro x0 x3
  refine Le.trans ?_ (le_of_eq ((aX axY).trans (aA3 ..)).symm)
  unfold iX
  refine lD (by simp only [EN]) ?_ ?_
  ·refine lG (by simp only [EN]) ?_
   refine lQ eX aL (by (try simp only [EN]); exact pY (List.getD x0 (Int.toNat x3) default)) fun r0 _ => ?_
   refine lC ?_ ?_
   ·exact aJ rfl
   ·exact ih x0 (w6 (x3 + 1))
  ·exact aJ rfl
theorem af3 (p0 : List aC) : Le (Option.map aB (pN p0)) (bF SE 73 [.d (.sl aC.ks (List.map aC.enc p0))] [] []) := by
 refine aV axY rfl ?_
 refine Le.trans ?_ (le_of_eq (T73 ..).symm)
 unfold pN
 refine lD (by simp only [EN]) ?_ ?_
 ·exact aJ rfl
 ·exact adQ fuel p0 0
def akY (C : aN) (Λ2 J : Lam) (a0 : Int) (a1 : List D) : Res := lab SE C Λ2 J 112 0 [1, 1, 0, 1, 0] (aU [(1, .ptr 1000000000 0), (3, .d (.int .i64 a0))] [⟨35, (List.map AV.d a1)⟩] [] [] [])
section
variable (Γ : Fun)  (Λ2 J : Lam)
def alu : aN := aR Γ
theorem aEL (p0 : bE) : bG SE (alu Γ) Λ2 J 112 [bE.av p0] [] [] =
 cond (decide ((lM eI p0.Used : Int) > 32)) (
 (rI 5)) (
 akY (alu Γ) Λ2 J 0 (bE.enc p0)) := by kernel_rfl
theorem ayq (x3 : Int) (b0 : bE) : bS SE (alu Γ) Λ2 J 112 0 [1, 1, 0, 1, 0] (aU [(1, .ptr 1000000000 0), (3, .d (.int .i64 x3))] [⟨35, (List.map AV.d (bE.enc b0))⟩] [] [] []) =
 cond (decide (x3 < (lM eI b0.Used : Int))) (
 cond (iB x3 (lM eI b0.Used : Int)) (
  cond (decide ((aW (cE eI b0.Used x3 0)) < 1)) (
  (rI 15)) (
  cond (iB x3 (lM eI b0.Used : Int)) (
  cond (decide ((aW (cE eI b0.Used x3 0)) > 65535)) (
   (rI 15)) (
  cond (decide (x3 > 0)) (
   cond (iB x3 (lM eI b0.Used : Int)) (
   cond (iB (w6 (x3 - 1)) (lM eI b0.Used : Int)) (
    cond (decide ((aW (cE eI b0.Used x3 0)) ≤ (aW (cE eI b0.Used (w6 (x3 - 1)) 0)))) (
    (rI 15)) (
    akY (alu Γ) Λ2 J (w6 (x3 + 1)) (bE.enc b0))) none) none) (
  akY (alu Γ) Λ2 J (w6 (x3 + 1)) (bE.enc b0)))) none)) none) (
 cond (decide (b0.Last < 0)) (
 (rI 1)) (
 cond (decide (b0.Last > 65535)) (
 (rI 1)) (
 (rI 0)))) := by kernel_rfl
end
abbrev asY : aN := alu gG
theorem avu : asY = aR gG := rfl
abbrev ayd := akY asY (bR SE gG (SE.hl 112) (SE.hr 112)) (J0 SE asY)
theorem adR : ∀ (fu : Nat) (x3 : Int) (b0 : bE), Le (Option.map aB (eE fu x3 b0)) (ayd x3 (bE.enc b0)) := by
 intro fu
 induction fu with
 | zero => intros; exact le_none
 | succ fu ih =>
  intro x3 b0
  refine Le.trans ?_ (le_of_eq ((aX avu).trans (ayq ..)).symm)
  unfold eE
  refine lD (by simp only [EN]) ?_ ?_
  ·refine lG (by simp only [EN]) ?_
   refine lD (by simp only [EN]) ?_ ?_
   ·exact aJ rfl
   ·refine lG (by simp only [EN]) ?_
    refine lD (by simp only [EN]) ?_ ?_
    ·exact aJ rfl
    ·refine lC ?_ ?_
     ·refine lG (by simp only [EN]) ?_
      refine lG (by simp only [EN]) ?_
      refine lD (by simp only [EN]) ?_ ?_
      ·exact aJ rfl
      ·exact ih (w6 (x3 + 1)) b0
     ·exact ih (w6 (x3 + 1)) b0
  ·refine lC ?_ ?_
   ·exact aJ rfl
   ·refine lC ?_ ?_
    ·exact aJ rfl
    ·exact aJ rfl
theorem aaK (p0 : bE) : Le (Option.map aB (jI p0)) (bF SE 112 [bE.av p0] [] []) := by
 refine aV avu rfl ?_
 refine Le.trans ?_ (le_of_eq (aEL ..).symm)
 unfold jI
 refine lD (by simp only [EN]) ?_ ?_
 ·exact aJ rfl
 ·exact adR fuel 0 p0
def anA (C : aN) (Λ2 J : Lam) (a0 a1 : Int) (a2 : List D) : Res := lab SE C Λ2 J 136 0 [1, 0, 1, 0] (aU [(1, .d (.int .i64 a0)), (2, .ptr 1000000000 0), (5, .d (.int .i64 a1))] [⟨35, (List.map AV.d a2)⟩] [] [] [])
section
variable (Γ : Fun)  (Λ2 J : Lam)
def anZ : aN := aR Γ
theorem aDI (p0 : bE) (p1 : Int) : bG SE (anZ Γ) Λ2 J 136 [bE.av p0, .d (.int .i64 p1)] [] [] =
 anA (anZ Γ) Λ2 J p1 0 (bE.enc p0) := by kernel_rfl
theorem axD (x1 x5 : Int) (b0 : bE) : bS SE (anZ Γ) Λ2 J 136 0 [1, 0, 1, 0] (aU [(1, .d (.int .i64 x1)), (2, .ptr 1000000000 0), (5, .d (.int .i64 x5))] [⟨35, (List.map AV.d (bE.enc b0))⟩] [] [] []) =
 cond (decide (x5 < (lM eI b0.Used : Int))) (
 cond (iB x5 (lM eI b0.Used : Int)) (
  cond ((aW (cE eI b0.Used x5 0)) == x1) (
  (rB true)) (
  anA (anZ Γ) Λ2 J x1 (w6 (x5 + 1)) (bE.enc b0))) none) (
 (rB false)) := by kernel_rfl
end
abbrev asJ : aN := anZ gG
theorem avp : asJ = aR gG := rfl
abbrev axL := anA asJ (bR SE gG (SE.hl 136) (SE.hr 136)) (J0 SE asJ)
theorem ae3 : ∀ (fu : Nat) (x1 x5 : Int) (b0 : bE), Le (Option.map brokerlaw43_light_out (j7 fu x1 x5 b0)) (axL x1 x5 (bE.enc b0)) := by
 intro fu
 induction fu with
 | zero => intros; exact le_none
 | succ fu ih =>
  intro x1 x5 b0
  refine Le.trans ?_ (le_of_eq ((aX avp).trans (axD ..)).symm)
  unfold j7
  refine lD (by simp only [EN]) ?_ ?_
  ·refine lG (by simp only [EN]) ?_
   refine lD (by simp only [EN]) ?_ ?_
   ·exact aJ rfl
   ·exact ih x1 (w6 (x5 + 1)) b0
  ·exact aJ rfl
theorem ahq (p0 : bE) (p1 : Int) : Le (Option.map brokerlaw43_light_out (sK p0 p1)) (bF SE 136 [bE.av p0, .d (.int .i64 p1)] [] []) := by
 refine aV avp rfl ?_
 refine Le.trans ?_ (le_of_eq (aDI ..).symm)
 unfold sK
 exact ae3 fuel p1 0 p0
def aok (C : aN) (Λ2 J : Lam) (a0 : List (List D)) (a1 a2 : Int) : Res := lab SE C Λ2 J 137 0 [1, 0, 1, 0] (aU [(0, .d (.sl aE.ks a0)), (1, .d (.int .i64 a1)), (5, .d (.int .i64 a2))] [] [] [] [])
section
variable (Γ : Fun)  (Λ2 J : Lam)
def aoF : aN := aR Γ
theorem aDr (p0 : List aE) (p1 : Int) : bG SE (aoF Γ) Λ2 J 137 [.d (.sl aE.ks (List.map aE.enc p0)), .d (.int .i64 p1)] [] [] =
 aok (aoF Γ) Λ2 J (List.map aE.enc p0) p1 0 := by kernel_rfl
theorem azx (x0 : List aE) (x1 x5 : Int) : bS SE (aoF Γ) Λ2 J 137 0 [1, 0, 1, 0] (aU [(0, .d (.sl aE.ks (List.map aE.enc x0))), (1, .d (.int .i64 x1)), (5, .d (.int .i64 x5))] [] [] [] []) =
 cond (decide (x5 < (lM aE.enc x0 : Int))) (
 cond (iB x5 (lM aE.enc x0 : Int)) (
  cond ((aW (cE aE.enc x0 x5 0)) == x1) (
  (rI x5)) (
  aok (aoF Γ) Λ2 J (List.map aE.enc x0) x1 (w6 (x5 + 1)))) none) (
 (rI (-1))) := by kernel_rfl
end
abbrev asS : aN := aoF gG
theorem avk : asS = aR gG := rfl
abbrev ax7 := aok asS (bR SE gG (SE.hl 137) (SE.hr 137)) (J0 SE asS)
theorem afP : ∀ (fu : Nat) (x0 : List aE) (x1 x5 : Int), Le (Option.map aB (kK fu x0 x1 x5)) (ax7 (List.map aE.enc x0) x1 x5) := by
 intro fu
 induction fu with
 | zero => intros; exact le_none
 | succ fu ih =>
  intro x0 x1 x5
  refine Le.trans ?_ (le_of_eq ((aX avk).trans (azx ..)).symm)
  unfold kK
  refine lD (by simp only [EN]) ?_ ?_
  ·refine lG (by simp only [EN]) ?_
   refine lD (by simp only [EN]) ?_ ?_
   ·exact aJ rfl
   ·exact ih x0 x1 (w6 (x5 + 1))
  ·exact aJ rfl
theorem aiL (p0 : List aE) (p1 : Int) : Le (Option.map aB (tP p0 p1)) (bF SE 137 [.d (.sl aE.ks (List.map aE.enc p0)), .d (.int .i64 p1)] [] []) := by
 refine aV avk rfl ?_
 refine Le.trans ?_ (le_of_eq (aDr ..).symm)
 unfold tP
 exact afP fuel p0 p1 0
def asr (C : aN) (Λ2 J : Lam) (a0 : List D) : Res := lab SE C Λ2 J 113 0 [1, 1, 1, 0] (aU [(5, .ptr 1000000000 0)] [⟨78, (List.map AV.d a0)⟩] [] [] [])
section
variable (Γ : Fun) (γ136 : Gm (Bool)) (γ137 γ106 : Gm (Int)) (Λ2 J : Lam)
def aoQ : aN := bA (bA (bA (aR Γ) 136 brokerlaw43_light_out γ136) 137 aB γ137) 106 aB γ106
theorem aFx (p0 : aM) (p1 : Int) : bG SE (aoQ Γ γ136 γ137 γ106) Λ2 J 113 [aM.av p0, .d (.int .i64 p1)] [] [] =
 cond (iB p1 (lM aE.enc p0.Items : Int)) (
 γ136 [bE.av p0.Pool, .d (.int .i64 (aW (cE aE.enc p0.Items p1 0)))] [] [] fun r0 =>
 cond (!r0) (
  (rI 15)) (
 γ137 [.d (.sl aE.ks (List.map aE.enc p0.Items)), .d (.int .i64 (aW (cE aE.enc p0.Items p1 0)))] [] [] fun r1 =>
 cond (decide (r1 < p1)) (
  (rI 15)) (
 asr (aoQ Γ γ136 γ137 γ106) Λ2 J [D.int .i64 (aW (cE aE.enc p0.Items p1 0)), D.int .i64 (aW (cE aE.enc p0.Items p1 1)), D.str (bL (cE aE.enc p0.Items p1 2)), D.str (bL (cE aE.enc p0.Items p1 3)), D.int .i64 (aW (cE aE.enc p0.Items p1 4)), D.bool (dL (cE aE.enc p0.Items p1 5)), D.int .i64 (aW (cE aE.enc p0.Items p1 6)), D.int .i64 (aW (cE aE.enc p0.Items p1 7)), D.str (bL (cE aE.enc p0.Items p1 8)), D.int .i64 (aW (cE aE.enc p0.Items p1 9)), D.sl aG.ks (dSl (cE aE.enc p0.Items p1 10))]))) none := by kernel_rfl
theorem azM (b0 : aE) : bS SE (aoQ Γ γ136 γ137 γ106) Λ2 J 113 0 [1, 1, 1, 0] (aU [(5, .ptr 1000000000 0)] [⟨78, (List.map AV.d (aE.enc b0))⟩] [] [] []) =
 γ106 [aC.av b0.Message] [] [] fun r2 =>
 cond (r2 != 0) (
 (rI r2)) (
 cond (b0.Message.Level == 0) (
 (rI 14)) (
 cond (b0.State != 1) (
 cond (b0.State != 2) (
  (rI 9)) (
 cond (b0.Message.Level == 1) (
  (rI 9)) (
 (rI 0)))) (
 (rI 0)))) := by kernel_rfl
end
abbrev aq3 : aN := aoQ gG (cT 136 brokerlaw43_light_out) (cT 137 aB) (cT 106 aB)
theorem avz : aq3 = aR gG := by unfold aq3 aoQ; repeat rw [bD fun _ h => h]
abbrev azA := asr aq3 (bR SE gG (SE.hl 113) (SE.hr 113)) (J0 SE aq3)
theorem aer (b0 : aE) : Le (Option.map aB (rQ b0)) (azA (aE.enc b0)) := by
 refine Le.trans ?_ (le_of_eq ((aX avz).trans (azM ..)).symm)
 unfold rQ
 refine lQ eX aL (pY _) fun r2 _ => ?_
 refine lC ?_ ?_
 ·exact aJ rfl
 ·refine lC ?_ ?_
  ·exact aJ rfl
  ·refine lC ?_ ?_
   ·refine lC ?_ ?_
    ·exact aJ rfl
    ·refine lC ?_ ?_
     ·exact aJ rfl
     ·exact aJ rfl
   ·exact aJ rfl
theorem agO (p0 : aM) (p1 : Int) : Le (Option.map aB (rA p0 p1)) (bF SE 113 [aM.av p0, .d (.int .i64 p1)] [] []) := by
 refine aV avz rfl ?_
 refine Le.trans ?_ (le_of_eq (aFx ..).symm)
 unfold rA
 refine lG (by simp only [EN]) ?_
 refine lQ eX brokerlaw43_light_inj (by (try simp only [EN]); exact ahq p0.Pool ((List.getD p0.Items (Int.toNat p1) default).ID)) fun r0 _ => ?_
 refine lC ?_ ?_
 ·exact aJ rfl
 ·refine lQ eX aL (by (try simp only [EN]); exact aiL p0.Items ((List.getD p0.Items (Int.toNat p1) default).ID)) fun r1 _ => ?_
  refine lC ?_ ?_
  ·exact aJ rfl
  ·(try simp only [EN]); exact aer (List.getD p0.Items (Int.toNat p1) default)
def arj (C : aN) (Λ2 J : Lam) (a0 : Int) (a1 : List D) : Res := lab SE C Λ2 J 74 0 [1, 1, 1, 1, 1, 0, 1, 0] (aU [(1, .ptr 1000000000 0), (4, .d (.int .i64 a0))] [⟨37, (List.map AV.d a1)⟩] [] [] [])
def au5 (C : aN) (Λ2 J : Lam) (a0 : List D) : Res := lab SE C Λ2 J 74 0 [1, 1, 0] (aU [(1, .ptr 1000000000 0)] [⟨37, (List.map AV.d a0)⟩] [] [] [])
section
variable (Γ : Fun) (γ112 γ113 : Gm (Int)) (Λ2 J : Lam)
def C74 : aN := bA (bA (aR Γ) 112 aB γ112) 113 aB γ113
theorem T74 (p0 : aM) : bG SE (C74 Γ γ112 γ113) Λ2 J 74 [aM.av p0] [] [] =
 cond (decide (p0.Limit < 0)) (
 (rI 1)) (
 cond (decide (p0.Limit > 32)) (
 (rI 1)) (
 au5 (C74 Γ γ112 γ113) Λ2 J (aM.enc p0))) := by kernel_rfl
theorem aCP (x4 : Int) (b0 : aM) : bS SE (C74 Γ γ112 γ113) Λ2 J 74 0 [1, 1, 1, 1, 1, 0, 1, 0] (aU [(1, .ptr 1000000000 0), (4, .d (.int .i64 x4))] [⟨37, (List.map AV.d (aM.enc b0))⟩] [] [] []) =
 cond (decide (x4 < (lM aE.enc b0.Items : Int))) (
 γ113 [aM.av b0, .d (.int .i64 x4)] [] [] fun r1 =>
 cond (r1 != 0) (
  (rI r1)) (
 arj (C74 Γ γ112 γ113) Λ2 J (w6 (x4 + 1)) (aM.enc b0))) (
 cond (decide ((lM aE.enc b0.Items : Int) < (lM eI b0.Pool.Used : Int))) (
 (rI 15)) (
 (rI 0))) := by kernel_rfl
theorem aCN (b0 : aM) : bS SE (C74 Γ γ112 γ113) Λ2 J 74 0 [1, 1, 0] (aU [(1, .ptr 1000000000 0)] [⟨37, (List.map AV.d (aM.enc b0))⟩] [] [] []) =
 γ112 [bE.av b0.Pool] [] [] fun r0 =>
 cond (r0 != 0) (
 (rI r0)) (
 cond (decide ((lM aE.enc b0.Items : Int) > 32)) (
 (rI 5)) (
 arj (C74 Γ γ112 γ113) Λ2 J 0 (aM.enc b0))) := by kernel_rfl
end
abbrev X74 : aN := C74 gG (cT 112 aB) (cT 113 aB)
theorem auM : X74 = aR gG := by unfold X74 C74; repeat rw [bD fun _ h => h]
abbrev aAI := arj X74 (bR SE gG (SE.hl 74) (SE.hr 74)) (J0 SE X74)
abbrev aCU := au5 X74 (bR SE gG (SE.hl 74) (SE.hr 74)) (J0 SE X74)
theorem adJ : ∀ (fu : Nat) (x4 : Int) (b0 : aM), Le (Option.map aB (iZ fu x4 b0)) (aAI x4 (aM.enc b0)) := by
 intro fu
 induction fu with
 | zero => intros; exact le_none
 | succ fu ih =>
  intro x4 b0
  refine Le.trans ?_ (le_of_eq ((aX auM).trans (aCP ..)).symm)
  unfold iZ
  refine lD (by simp only [EN]) ?_ ?_
  ·refine lQ eX aL (agO _ _) fun r1 _ => ?_
   refine lC ?_ ?_
   ·exact aJ rfl
   ·exact ih (w6 (x4 + 1)) b0
  ·refine lD (by simp only [EN]) ?_ ?_
   ·exact aJ rfl
   ·exact aJ rfl
theorem adG (b0 : aM) : Le (Option.map aB (pZ b0)) (aCU (aM.enc b0)) := by
 refine Le.trans ?_ (le_of_eq ((aX auM).trans (aCN ..)).symm)
 unfold pZ
 refine lQ eX aL (aaK _) fun r0 _ => ?_
 refine lC ?_ ?_
 ·exact aJ rfl
 ·refine lD (by simp only [EN]) ?_ ?_
  ·exact aJ rfl
  ·exact adJ fuel 0 b0
theorem age (p0 : aM) : Le (Option.map aB (pO p0)) (bF SE 74 [aM.av p0] [] []) := by
 refine aV auM rfl ?_
 refine Le.trans ?_ (le_of_eq (T74 ..).symm)
 unfold pO
 refine lC ?_ ?_
 ·exact aJ rfl
 ·refine lC ?_ ?_
  ·exact aJ rfl
  ·exact adG p0
section
variable (Γ : Fun) (γ112 : Gm (Int)) (Λ2 J : Lam)
def C75 : aN := bA (aR Γ) 112 aB γ112
theorem T75 (p0 : bN) : bG SE (C75 Γ γ112) Λ2 J 75 [bN.av p0] [] [] =
 γ112 [bE.av (bE.mk p0.IDs 0)] [] [] fun r0 =>
 (rI r0) := by kernel_rfl
end
abbrev X75 : aN := C75 gG (cT 112 aB)
theorem aEx : X75 = aR gG := by unfold X75 C75; rw [bD fun _ h => h]
theorem af1 (p0 : bN) : Le (Option.map aB (pR p0)) (bF SE 75 [bN.av p0] [] []) := by
 refine aV aEx rfl ?_
 refine Le.trans ?_ (le_of_eq (T75 ..).symm)
 unfold pR
 refine lQ eX aL (aaK _) fun r0 _ => ?_
 exact aJ rfl
def ans (C : aN) (Λ2 J : Lam) (a0 a1 : List (List D)) (a2 : Int) : Res := lab SE C Λ2 J 132 0 [1, 1, 0, 1, 0] (aU [(0, .d (.sl aG.ks a0)), (1, .d (.sl aG.ks a1)), (5, .d (.int .i64 a2))] [] [] [] [])
section
variable (Γ : Fun)  (Λ2 J : Lam)
def aoA : aN := aR Γ
theorem aDp (p0 p1 : List aG) : bG SE (aoA Γ) Λ2 J 132 [.d (.sl aG.ks (List.map aG.enc p0)), .d (.sl aG.ks (List.map aG.enc p1))] [] [] =
 cond ((lM aG.enc p0 : Int) != (lM aG.enc p1 : Int)) (
 (rB false)) (
 ans (aoA Γ) Λ2 J (List.map aG.enc p0) (List.map aG.enc p1) 0) := by kernel_rfl
theorem awv (x0 x1 : List aG) (x5 : Int) : bS SE (aoA Γ) Λ2 J 132 0 [1, 1, 0, 1, 0] (aU [(0, .d (.sl aG.ks (List.map aG.enc x0))), (1, .d (.sl aG.ks (List.map aG.enc x1))), (5, .d (.int .i64 x5))] [] [] [] []) =
 cond (decide (x5 < (lM aG.enc x0 : Int))) (
 cond (iB x5 (lM aG.enc x0 : Int)) (
  cond (iB x5 (lM aG.enc x1 : Int)) (
  cond (!(((bL (cE aG.enc x0 x5 0)) == (bL (cE aG.enc x1 x5 0))) && (((bL (cE aG.enc x0 x5 1)) == (bL (cE aG.enc x1 x5 1))) && true))) (
   (rB false)) (
  ans (aoA Γ) Λ2 J (List.map aG.enc x0) (List.map aG.enc x1) (w6 (x5 + 1)))) none) none) (
 (rB true)) := by kernel_rfl
end
abbrev atu : aN := aoA gG
theorem au4 : atu = aR gG := rfl
abbrev axI := ans atu (bR SE gG (SE.hl 132) (SE.hr 132)) (J0 SE atu)
theorem abZ : ∀ (fu : Nat) (x0 x1 : List aG) (x5 : Int), Le (Option.map brokerlaw43_light_out (gB fu x0 x1 x5)) (axI (List.map aG.enc x0) (List.map aG.enc x1) x5) := by
 intro fu
 induction fu with
 | zero => intros; exact le_none
 | succ fu ih =>
  intro x0 x1 x5
  refine Le.trans ?_ (le_of_eq ((aX au4).trans (awv ..)).symm)
  unfold gB
  refine lD (by simp only [EN]) ?_ ?_
  ·refine lG (by simp only [EN]) ?_
   refine lG (by simp only [EN]) ?_
   refine lD (by simp only [EN]) ?_ ?_
   ·exact aJ rfl
   ·exact ih x0 x1 (w6 (x5 + 1))
  ·exact aJ rfl
theorem adC (p0 p1 : List aG) : Le (Option.map brokerlaw43_light_out (lX p0 p1)) (bF SE 132 [.d (.sl aG.ks (List.map aG.enc p0)), .d (.sl aG.ks (List.map aG.enc p1))] [] []) := by
 refine aV au4 rfl ?_
 refine Le.trans ?_ (le_of_eq (aDp ..).symm)
 unfold lX
 refine lD (by simp only [EN]) ?_ ?_
 ·exact aJ rfl
 ·exact abZ fuel p0 p1 0
section
variable (Γ : Fun) (γ132 : Gm (Bool)) (Λ2 J : Lam)
def atV : aN := bA (aR Γ) 132 brokerlaw43_light_out γ132
theorem aDG (p0 p1 : aC) : bG SE (atV Γ γ132) Λ2 J 107 [aC.av p0, aC.av p1] [] [] =
 cond (p0.Topic == p1.Topic) (
 cond (p0.Payload == p1.Payload) (
  cond (p0.Level == p1.Level) (
  cond (p0.Retain == p1.Retain) (
   cond (p0.Priority == p1.Priority) (
   cond (p0.Expires == p1.Expires) (
    cond (p0.From == p1.From) (
    cond (p0.Seq == p1.Seq) (
     γ132 [.d (.sl aG.ks (List.map aG.enc p0.Props)), .d (.sl aG.ks (List.map aG.enc p1.Props))] [] [] fun r0 =>
     (rB r0)) (
    (rB false))) (
    (rB false))) (
   (rB false))) (
   (rB false))) (
  (rB false))) (
  (rB false))) (
 (rB false))) (
 (rB false)) := by kernel_rfl
end
abbrev ayB : aN := atV gG (cT 132 brokerlaw43_light_out)
theorem aBb : ayB = aR gG := by unfold ayB atV; rw [bD fun _ h => h]
theorem rN (p0 p1 : aC) : Le (Option.map brokerlaw43_light_out (j6 p0 p1)) (bF SE 107 [aC.av p0, aC.av p1] [] []) := by
 refine aV aBb rfl ?_
 refine Le.trans ?_ (le_of_eq (aDG ..).symm)
 unfold j6
 refine lC ?_ ?_
 ·refine lC ?_ ?_
  ·refine lC ?_ ?_
   ·refine lC ?_ ?_
    ·refine lC ?_ ?_
     ·refine lC ?_ ?_
      ·refine lC ?_ ?_
       ·refine lC ?_ ?_
        ·refine lQ eX brokerlaw43_light_inj (adC _ _) fun r0 _ => ?_
         exact aJ rfl
        ·exact aJ rfl
       ·exact aJ rfl
      ·exact aJ rfl
     ·exact aJ rfl
    ·exact aJ rfl
   ·exact aJ rfl
  ·exact aJ rfl
 ·exact aJ rfl
section
variable (Γ : Fun) (γ107 : Gm (Bool)) (γ106 : Gm (Int)) (Λ2 J : Lam)
def C76 : aN := bA (bA (aR Γ) 107 brokerlaw43_light_out γ107) 106 aB γ106
theorem T76 (p0 : bO) : bG SE (C76 Γ γ107 γ106) Λ2 J 76 [bO.av p0] [] [] =
 cond (!p0.Set) (
 cond (p0.Delay != 0) (
  (rI 28)) (
 γ107 [aC.av p0.Message, .agg [.d (.str []), .d (.str []), .d (.int .i64 0), .d (.bool false), .d (.int .i64 0), .d (.int .i64 0), .d (.str []), .d (.int .i64 0), .d (.sl aG.ks (List.map aG.enc []))]] [] [] fun r0 =>
 cond (!r0) (
  (rI 28)) (
 (rI 0)))) (
 cond (decide (p0.Delay < 0)) (
 (rI 1)) (
 cond (decide (p0.Delay > 1099511627776)) (
 (rI 1)) (
 γ106 [aC.av p0.Message] [] [] fun r1 =>
 (rI r1)))) := by kernel_rfl
end
abbrev X76 : aN := C76 gG (cT 107 brokerlaw43_light_out) (cT 106 aB)
theorem aET : X76 = aR gG := by unfold X76 C76; repeat rw [bD fun _ h => h]
theorem afR (p0 : bO) : Le (Option.map aB (pH p0)) (bF SE 76 [bO.av p0] [] []) := by
 refine aV aET rfl ?_
 refine Le.trans ?_ (le_of_eq (T76 ..).symm)
 unfold pH
 refine lC ?_ ?_
 ·refine lC ?_ ?_
  ·exact aJ rfl
  ·refine lQ eX brokerlaw43_light_inj (by (try simp only [EN]); exact rN p0.Message ((aC.mk [] [] 0 false 0 0 [] 0 []))) fun r0 _ => ?_
   refine lC ?_ ?_
   ·exact aJ rfl
   ·exact aJ rfl
 ·refine lC ?_ ?_
  ·exact aJ rfl
  ·refine lC ?_ ?_
   ·exact aJ rfl
   ·refine lQ eX aL (pY _) fun r1 _ => ?_
    exact aJ rfl
def aqg (C : aN) (Λ2 J : Lam) (a0 : List (List D)) (a1 : Int) : Res := lab SE C Λ2 J 70 0 [1, 0, 1, 0] (aU [(0, .d (.sl [.int .i64] a0)), (3, .d (.int .i64 a1))] [] [] [] [])
section
variable (Γ : Fun)  (Λ2 J : Lam)
def C70 : aN := aR Γ
theorem T70 (p0 : List Int) : bG SE (C70 Γ) Λ2 J 70 [.d (.sl [.int .i64] (List.map eI p0))] [] [] =
 aqg (C70 Γ) Λ2 J (List.map eI p0) 0 := by kernel_rfl
theorem aBZ (x0 : List Int) (x3 : Int) : bS SE (C70 Γ) Λ2 J 70 0 [1, 0, 1, 0] (aU [(0, .d (.sl [.int .i64] (List.map eI x0))), (3, .d (.int .i64 x3))] [] [] [] []) =
 cond (decide (x3 < (lM eI x0 : Int))) (
 cond (iB x3 (lM eI x0 : Int)) (
  cond ((aW (cE eI x0 x3 0)) != 0) (
  cond (iB x3 (lM eI x0 : Int)) (
   (rI (aW (cE eI x0 x3 0)))) none) (
  aqg (C70 Γ) Λ2 J (List.map eI x0) (w6 (x3 + 1)))) none) (
 (rI 0)) := by kernel_rfl
end
abbrev X70 : aN := C70 gG
theorem azN : X70 = aR gG := rfl
abbrev aBo := aqg X70 (bR SE gG (SE.hl 70) (SE.hr 70)) (J0 SE X70)
theorem adL : ∀ (fu : Nat) (x0 : List Int) (x3 : Int), Le (Option.map aB (iW fu x0 x3)) (aBo (List.map eI x0) x3) := by
 intro fu
 induction fu with
 | zero => intros; exact le_none
 | succ fu ih =>
  intro x0 x3
  refine Le.trans ?_ (le_of_eq ((aX azN).trans (aBZ ..)).symm)
  unfold iW
  refine lD (by simp only [EN]) ?_ ?_
  ·refine lG (by simp only [EN]) ?_
   refine lD (by simp only [EN]) ?_ ?_
   ·refine lG (by simp only [EN]) ?_
    exact aJ (by first | rfl | simp only [EN, aB] <;> rfl)
   ·exact ih x0 (w6 (x3 + 1))
  ·exact aJ rfl
theorem agl (p0 : List Int) : Le (Option.map aB (pJ p0)) (bF SE 70 [.d (.sl [.int .i64] (List.map eI p0))] [] []) := by
 refine aV azN rfl ?_
 refine Le.trans ?_ (le_of_eq (T70 ..).symm)
 unfold pJ
 exact adL fuel p0 0
section
variable (Γ : Fun) (γ71 γ72 γ73 γ74 γ75 γ76 γ70 : Gm (Int)) (Λ2 J : Lam)
def C24 : aN := bA (bA (bA (bA (bA (bA (bA (aR Γ) 71 aB γ71) 72 aB γ72) 73 aB γ73) 74 aB γ74) 75 aB γ75) 76 aB γ76) 70 aB γ70
theorem T24 (p0 : aI) : bG SE (C24 Γ γ71 γ72 γ73 γ74 γ75 γ76 γ70) Λ2 J 24 [aI.av p0] [] [] =
 γ71 [aI.av p0] [] [] fun r0 =>
 γ72 [.d (.sl aK.ks (List.map aK.enc p0.Subs))] [] [] fun r1 =>
 γ73 [.d (.sl aC.ks (List.map aC.enc p0.Queue))] [] [] fun r2 =>
 γ74 [aM.av p0.Out] [] [] fun r3 =>
 γ75 [bN.av p0.In] [] [] fun r4 =>
 γ76 [bO.av p0.Will] [] [] fun r5 =>
 γ70 [.d (.sl [.int .i64] (List.map eI [r0, r1, r2, r3, r4, r5]))] [] [] fun r6 =>
 (rI r6) := by kernel_rfl
end
abbrev X24 : aN := C24 gG (cT 71 aB) (cT 72 aB) (cT 73 aB) (cT 74 aB) (cT 75 aB) (cT 76 aB) (cT 70 aB)
theorem aDH : X24 = aR gG := by unfold X24 C24; repeat rw [bD fun _ h => h]
theorem uQ (p0 : aI) : Le (Option.map aB (kM p0)) (bF SE 24 [aI.av p0] [] []) := by
 refine aV aDH rfl ?_
 refine Le.trans ?_ (le_of_eq (T24 ..).symm)
 unfold kM
 refine lQ eX aL (agY _) fun r0 _ => ?_
 refine lQ eX aL (agU _) fun r1 _ => ?_
 refine lQ eX aL (af3 _) fun r2 _ => ?_
 refine lQ eX aL (age _) fun r3 _ => ?_
 refine lQ eX aL (af1 _) fun r4 _ => ?_
 refine lQ eX aL (afR _) fun r5 _ => ?_
 refine lQ eX aL (agl _) fun r6 _ => ?_
 exact aJ rfl
section
variable (Γ : Fun)  (Λ2 J : Lam)
def axR : aN := aR Γ
theorem aDy (p0 : Int) : bG SE (axR Γ) Λ2 J 123 [.d (.int .i64 p0)] [] [] =
 cond (decide (p0 ≥ 0)) (
 (some (.ret [.d (.int .u64 (IntKind.wrap .u64 ((IntKind.wrap .u64 p0) * 2)))] [] []))) (
 (some (.ret [.d (.int .u64 (IntKind.wrap .u64 ((IntKind.wrap .u64 ((IntKind.wrap .u64 (w6 (0 - (w6 (p0 + 1))))) * 2)) + 1)))] [] []))) := by kernel_rfl
end
abbrev aDq : aN := axR gG
theorem aCw : aDq = aR gG := rfl
theorem ag1 (p0 : Int) : Le (Option.map kC (rJ p0)) (bF SE 123 [.d (.int .i64 p0)] [] []) := by
 refine aV aCw rfl ?_
 refine Le.trans ?_ (le_of_eq (aDy ..).symm)
 unfold rJ
 refine lC ?_ ?_
 ·exact aJ rfl
 ·exact aJ rfl
def ap3 (C : aN) (Λ2 J : Lam) (a0 : Int) (a1 : List (List D)) : Res := lab SE C Λ2 J 95 0 [1, 1, 1, 0, 0] (aU [(5, .row 3005), (6, .d (.int .u64 a0))] [] [] [] [(3005, ⟨[.int .u8], 5, 1, a1⟩)])
section
variable (Γ : Fun) (γ123 : Gm (Int)) (Λ2 J : Lam)
def C95 : aN := bA (aR Γ) 123 kC γ123
theorem T95 (p0 : List Int) (p1 : Int) : bG SE (C95 Γ γ123) Λ2 J 95 [.d (.sl [.int .u8] (List.map (encI .u8) p0)), .d (.int .i64 p1)] [] [] =
 cond (decide ((lM (encI .u8) [] + lM (encI .u8) p0) * 1 ≤ 140737488355328)) (
 γ123 [.d (.int .i64 p1)] [] [] fun r0 =>
 ap3 (C95 Γ γ123) Λ2 J r0 (((List.map (encI .u8) []) ++ (List.map (encI .u8) p0)))) none := by kernel_rfl
theorem aAJ (x6 : Int) (w3005 : List Int) : bS SE (C95 Γ γ123) Λ2 J 95 0 [1, 1, 1, 0, 0] (aU [(5, .row 3005), (6, .d (.int .u64 x6))] [] [] [] [(3005, ⟨[.int .u8], 5, 1, (List.map (encI .u8) w3005)⟩)]) =
 cond (decide (x6 ≥ 128)) (
 cond (decide ((lM (encI .u8) w3005 + lM (encI .u8) [(IntKind.wrap .u8 ((IntKind.wrap .u8 (Int.tmod x6 128)) + 128))]) * 1 ≤ 140737488355328)) (
  ap3 (C95 Γ γ123) Λ2 J (IntKind.wrap .u64 (Int.tdiv x6 128)) (((List.map (encI .u8) w3005) ++ (List.map (encI .u8) [(IntKind.wrap .u8 ((IntKind.wrap .u8 (Int.tmod x6 128)) + 128))])))) none) (
 cond (decide ((lM (encI .u8) w3005 + lM (encI .u8) [(IntKind.wrap .u8 x6)]) * 1 ≤ 140737488355328)) (
 (some (.ret [.row 0] [] [⟨[.int .u8], 5, 1, ((List.map (encI .u8) w3005) ++ (List.map (encI .u8) [(IntKind.wrap .u8 x6)]))⟩]))) none) := by kernel_rfl
end
abbrev X95 : aN := C95 gG (cT 123 kC)
theorem azd : X95 = aR gG := by unfold X95 C95; rw [bD fun _ h => h]
abbrev aCd := ap3 X95 (bR SE gG (SE.hl 95) (SE.hr 95)) (J0 SE X95)
theorem ads : ∀ (fu : Nat) (x6 : Int) (w3005 : List Int), Le (Option.map aS (gK fu x6 w3005)) (aCd x6 (List.map (encI .u8) w3005)) := by
 intro fu
 induction fu with
 | zero => intros; exact le_none
 | succ fu ih =>
  intro x6 w3005
  refine Le.trans ?_ (le_of_eq ((aX azd).trans (aAJ ..)).symm)
  unfold gK
  refine lC ?_ ?_
  ·refine lG (by simp only [EN]) ?_
   (try simp only [EN]); exact ih (IntKind.wrap .u64 (Int.tdiv x6 128)) (w3005 ++ [(IntKind.wrap .u8 ((IntKind.wrap .u8 (Int.tmod x6 128)) + 128))])
  ·refine lG (by simp only [EN]) ?_
   exact aJ (by first | rfl | simp only [EN, aS] <;> rfl)
theorem bX (p0 : List Int) (p1 : Int) : Le (Option.map aS (bY p0 p1)) (bF SE 95 [.d (.sl [.int .u8] (List.map (encI .u8) p0)), .d (.int .i64 p1)] [] []) := by
 refine aV azd rfl ?_
 refine Le.trans ?_ (le_of_eq (T95 ..).symm)
 unfold bY
 refine lG (by simp only [EN]) ?_
 refine lQ eX agE (ag1 _) fun r0 _ => ?_
 (try simp only [EN]); exact ads fuel r0 (([] : List Int) ++ p0)
section
variable (Γ : Fun) (γ95 : Gm ((List Int))) (Λ2 J : Lam)
def C94 : aN := bA (aR Γ) 95 aS γ95
theorem T94 (p0 : List Int) (p1 : Str) : bG SE (C94 Γ γ95) Λ2 J 94 [.d (.sl [.int .u8] (List.map (encI .u8) p0)), .d (.str p1)] [] [] =
 γ95 [.d (.sl [.int .u8] (List.map (encI .u8) p0)), .d (.int .i64 (List.length p1 : Int))] [] [] fun r0 =>
 cond (decide ((lM (encI .u8) r0 + List.length (gO p1)) * 1 ≤ 140737488355328)) (
 (some (.ret [.row 0] [] [⟨[.int .u8], 5, 1, ((List.map (encI .u8) r0) ++ (gO p1))⟩]))) none := by kernel_rfl
end
abbrev X94 : aN := C94 gG (cT 95 aS)
theorem aDX : X94 = aR gG := by unfold X94 C94; rw [bD fun _ h => h]
theorem fK (p0 : List Int) (p1 : Str) : Le (Option.map aS (eA p0 p1)) (bF SE 94 [.d (.sl [.int .u8] (List.map (encI .u8) p0)), .d (.str p1)] [] []) := by
 refine aV aDX rfl ?_
 refine Le.trans ?_ (le_of_eq (T94 ..).symm)
 unfold eA
 refine lQ eX aZ (bX _ _) fun r0 _ => ?_
 refine lG (by simp only [EN]) ?_
 exact aJ (by first | rfl | simp only [EN, aS] <;> rfl)
section
variable (Γ : Fun)  (Λ2 J : Lam)
def C96 : aN := aR Γ
theorem T96 (p0 : Bool) : bG SE (C96 Γ) Λ2 J 96 [.d (.bool p0)] [] [] =
 cond p0 (
 (rI 1)) (
 (rI 0)) := by kernel_rfl
end
abbrev X96 : aN := C96 gG
theorem aEv : X96 = aR gG := rfl
theorem aa4 (p0 : Bool) : Le (Option.map aB (qU p0)) (bF SE 96 [.d (.bool p0)] [] []) := by
 refine aV aEv rfl ?_
 refine Le.trans ?_ (le_of_eq (T96 ..).symm)
 unfold qU
 refine lC ?_ ?_
 ·exact aJ rfl
 ·exact aJ rfl
def aoS (C : aN) (Λ2 J : Lam) (a0 : Int) (a1 : List D) (a2 : List (List D)) : Res := lab SE C Λ2 J 97 0 [1, 1, 1, 1, 1, 1, 1, 1, 0, 1, 0] (aU [(3, .ptr 1000000000 0), (6, .row 3006), (7, .d (.int .i64 a0))] [⟨42, (List.map AV.d a1)⟩] [] [] [(3006, ⟨[.int .u8], 5, 1, a2⟩)])
def aro (C : aN) (Λ2 J : Lam) (a0 : List (List D)) (a1 : Int) (a2 : List D) : Res := lab SE C Λ2 J 97 0 [1, 1, 1, 0] (aU [(0, .d (.sl [.int .u8] a0)), (3, .ptr 1000000000 0), (5, .d (.int .i64 a1))] [⟨42, (List.map AV.d a2)⟩] [] [] [])
section
variable (Γ : Fun) (γ94 γ95 : Gm ((List Int))) (Λ2 J : Lam)
def C97 : aN := bA (bA (aR Γ) 94 aS γ94) 95 aS γ95
theorem T97 (p0 : List Int) (p1 : aC) : bG SE (C97 Γ γ94 γ95) Λ2 J 97 [.d (.sl [.int .u8] (List.map (encI .u8) p0)), aC.av p1] [] [] =
 cond p1.Retain (
 aro (C97 Γ γ94 γ95) Λ2 J (List.map (encI .u8) p0) 1 (aC.enc p1)) (
 aro (C97 Γ γ94 γ95) Λ2 J (List.map (encI .u8) p0) 0 (aC.enc p1)) := by kernel_rfl
theorem ayC (x7 : Int) (b0 : aC) (w3006 : List Int) : bS SE (C97 Γ γ94 γ95) Λ2 J 97 0 [1, 1, 1, 1, 1, 1, 1, 1, 0, 1, 0] (aU [(3, .ptr 1000000000 0), (6, .row 3006), (7, .d (.int .i64 x7))] [⟨42, (List.map AV.d (aC.enc b0))⟩] [] [] [(3006, ⟨[.int .u8], 5, 1, (List.map (encI .u8) w3006)⟩)]) =
 cond (decide (x7 < (lM aG.enc b0.Props : Int))) (
 cond (iB x7 (lM aG.enc b0.Props : Int)) (
  γ94 [.d (.sl [.int .u8] (List.map (encI .u8) w3006)), .d (.str (bL (cE aG.enc b0.Props x7 0)))] [] [] fun r9 =>
  cond (iB x7 (lM aG.enc b0.Props : Int)) (
  γ94 [.d (.sl [.int .u8] (List.map (encI .u8) r9)), .d (.str (bL (cE aG.enc b0.Props x7 1)))] [] [] fun r10 =>
  aoS (C97 Γ γ94 γ95) Λ2 J (w6 (x7 + 1)) (aC.enc b0) (List.map (encI .u8) r10)) none) none) (
 (some (.ret [.row 0] [] [⟨[.int .u8], 5, 1, (List.map (encI .u8) w3006)⟩]))) := by kernel_rfl
theorem aBx (x0 : List Int) (x5 : Int) (b0 : aC) : bS SE (C97 Γ γ94 γ95) Λ2 J 97 0 [1, 1, 1, 0] (aU [(0, .d (.sl [.int .u8] (List.map (encI .u8) x0))), (3, .ptr 1000000000 0), (5, .d (.int .i64 x5))] [⟨42, (List.map AV.d (aC.enc b0))⟩] [] [] []) =
 γ94 [.d (.sl [.int .u8] (List.map (encI .u8) x0)), .d (.str b0.Topic)] [] [] fun r0 =>
 γ94 [.d (.sl [.int .u8] (List.map (encI .u8) r0)), .d (.str b0.Payload)] [] [] fun r1 =>
 γ95 [.d (.sl [.int .u8] (List.map (encI .u8) r1)), .d (.int .i64 b0.Level)] [] [] fun r2 =>
 γ95 [.d (.sl [.int .u8] (List.map (encI .u8) r2)), .d (.int .i64 x5)] [] [] fun r3 =>
 γ95 [.d (.sl [.int .u8] (List.map (encI .u8) r3)), .d (.int .i64 b0.Priority)] [] [] fun r4 =>
 γ95 [.d (.sl [.int .u8] (List.map (encI .u8) r4)), .d (.int .i64 b0.Expires)] [] [] fun r5 =>
 γ94 [.d (.sl [.int .u8] (List.map (encI .u8) r5)), .d (.str b0.From)] [] [] fun r6 =>
 γ95 [.d (.sl [.int .u8] (List.map (encI .u8) r6)), .d (.int .i64 b0.Seq)] [] [] fun r7 =>
 γ95 [.d (.sl [.int .u8] (List.map (encI .u8) r7)), .d (.int .i64 (lM aG.enc b0.Props : Int))] [] [] fun r8 =>
 aoS (C97 Γ γ94 γ95) Λ2 J 0 (aC.enc b0) (List.map (encI .u8) r8) := by kernel_rfl
end
abbrev X97 : aN := C97 gG (cT 94 aS) (cT 95 aS)
theorem auy : X97 = aR gG := by unfold X97 C97; repeat rw [bD fun _ h => h]
abbrev axx := aoS X97 (bR SE gG (SE.hl 97) (SE.hr 97)) (J0 SE X97)
abbrev aBS := aro X97 (bR SE gG (SE.hl 97) (SE.hr 97)) (J0 SE X97)
theorem aeF : ∀ (fu : Nat) (x7 : Int) (b0 : aC) (w3006 : List Int), Le (Option.map aS (iD fu x7 b0 w3006)) (axx x7 (aC.enc b0) (List.map (encI .u8) w3006)) := by
 intro fu
 induction fu with
 | zero => intros; exact le_none
 | succ fu ih =>
  intro x7 b0 w3006
  refine Le.trans ?_ (le_of_eq ((aX auy).trans (ayC ..)).symm)
  unfold iD
  refine lD (by simp only [EN]) ?_ ?_
  ·refine lG (by simp only [EN]) ?_
   refine lQ eX aZ (by (try simp only [EN]); exact fK w3006 ((List.getD b0.Props (Int.toNat x7) default).Key)) fun r9 _ => ?_
   refine lG (by simp only [EN]) ?_
   refine lQ eX aZ (by (try simp only [EN]); exact fK r9 ((List.getD b0.Props (Int.toNat x7) default).Value)) fun r10 _ => ?_
   exact ih (w6 (x7 + 1)) b0 r10
  ·exact aJ rfl
theorem zN (x0 : List Int) (x5 : Int) (b0 : aC) : Le (Option.map aS (lS x0 x5 b0)) (aBS (List.map (encI .u8) x0) x5 (aC.enc b0)) := by
 refine Le.trans ?_ (le_of_eq ((aX auy).trans (aBx ..)).symm)
 unfold lS
 refine lQ eX aZ (fK _ _) fun r0 _ => ?_
 refine lQ eX aZ (fK _ _) fun r1 _ => ?_
 refine lQ eX aZ (bX _ _) fun r2 _ => ?_
 refine lQ eX aZ (bX _ _) fun r3 _ => ?_
 refine lQ eX aZ (bX _ _) fun r4 _ => ?_
 refine lQ eX aZ (bX _ _) fun r5 _ => ?_
 refine lQ eX aZ (fK _ _) fun r6 _ => ?_
 refine lQ eX aZ (bX _ _) fun r7 _ => ?_
 refine lQ eX aZ (by (try simp only [EN]); exact bX r7 (List.length b0.Props : Int)) fun r8 _ => ?_
 exact aeF fuel 0 b0 r8
theorem wR (p0 : List Int) (p1 : aC) : Le (Option.map aS (mE p0 p1)) (bF SE 97 [.d (.sl [.int .u8] (List.map (encI .u8) p0)), aC.av p1] [] []) := by
 refine aV auy rfl ?_
 refine Le.trans ?_ (le_of_eq (T97 ..).symm)
 unfold mE
 refine lC ?_ ?_
 ·exact zN p0 1 p1
 ·exact zN p0 0 p1
def aq1 (C : aN) (Λ2 J : Lam) (a0 : List (List D)) (a1 a2 : Int) (a3 : List (List D)) : Res := lab SE C Λ2 J 98 0 [1, 1, 0, 1, 0] (aU [(5, .row 3005), (12, .d (.sl [.int .i64] a0)), (13, .d (.int .i64 a1)), (14, .d (.int .i64 a2))] [] [] [] [(3005, ⟨[.int .u8], 5, 1, a3⟩)])
section
variable (Γ : Fun) (γ95 : Gm ((List Int))) (Λ2 J : Lam)
def C98 : aN := bA (aR Γ) 95 aS γ95
theorem T98 (p0 p1 : List Int) : bG SE (C98 Γ γ95) Λ2 J 98 [.d (.sl [.int .u8] (List.map (encI .u8) p0)), .d (.sl [.int .i64] (List.map eI p1))] [] [] =
 γ95 [.d (.sl [.int .u8] (List.map (encI .u8) p0)), .d (.int .i64 (lM eI p1 : Int))] [] [] fun r0 =>
 aq1 (C98 Γ γ95) Λ2 J (List.map eI p1) (lM eI p1 : Int) 0 (List.map (encI .u8) r0) := by kernel_rfl
theorem aBA (x12 : List Int) (x13 x14 : Int) (w3005 : List Int) : bS SE (C98 Γ γ95) Λ2 J 98 0 [1, 1, 0, 1, 0] (aU [(5, .row 3005), (12, .d (.sl [.int .i64] (List.map eI x12))), (13, .d (.int .i64 x13)), (14, .d (.int .i64 x14))] [] [] [] [(3005, ⟨[.int .u8], 5, 1, (List.map (encI .u8) w3005)⟩)]) =
 cond (decide (x14 < x13)) (
 cond (iB x14 (lM eI x12 : Int)) (
  γ95 [.d (.sl [.int .u8] (List.map (encI .u8) w3005)), .d (.int .i64 (aW (cE eI x12 x14 0)))] [] [] fun r1 =>
  aq1 (C98 Γ γ95) Λ2 J (List.map eI x12) x13 (w6 (x14 + 1)) (List.map (encI .u8) r1)) none) (
 (some (.ret [.row 0] [] [⟨[.int .u8], 5, 1, (List.map (encI .u8) w3005)⟩]))) := by kernel_rfl
end
abbrev X98 : aN := C98 gG (cT 95 aS)
theorem axo : X98 = aR gG := by unfold X98 C98; rw [bD fun _ h => h]
abbrev aBf := aq1 X98 (bR SE gG (SE.hl 98) (SE.hr 98)) (J0 SE X98)
theorem ael : ∀ (fu : Nat) (x12 : List Int) (x13 x14 : Int) (w3005 : List Int), Le (Option.map aS (jP fu x12 x13 x14 w3005)) (aBf (List.map eI x12) x13 x14 (List.map (encI .u8) w3005)) := by
 intro fu
 induction fu with
 | zero => intros; exact le_none
 | succ fu ih =>
  intro x12 x13 x14 w3005
  refine Le.trans ?_ (le_of_eq ((aX axo).trans (aBA ..)).symm)
  unfold jP
  refine lC ?_ ?_
  ·refine lG (by simp only [EN]) ?_
   refine lQ eX aZ (by (try simp only [EN]); exact bX w3005 (List.getD x12 (Int.toNat x14) default)) fun r1 _ => ?_
   exact ih x12 x13 (w6 (x14 + 1)) r1
  ·exact aJ rfl
theorem aaX (p0 p1 : List Int) : Le (Option.map aS (nV p0 p1)) (bF SE 98 [.d (.sl [.int .u8] (List.map (encI .u8) p0)), .d (.sl [.int .i64] (List.map eI p1))] [] []) := by
 refine aV axo rfl ?_
 refine Le.trans ?_ (le_of_eq (T98 ..).symm)
 unfold nV
 refine lQ eX aZ (by (try simp only [EN]); exact bX p0 (List.length p1 : Int)) fun r0 _ => ?_
 (try simp only [EN]); exact ael fuel p1 (List.length p1 : Int) 0 r0
def anM (C : aN) (Λ2 J : Lam) (a0 : List (List D)) (a1 a2 : Int) (a3 : List D) (a4 : List (List D)) : Res := lab SE C Λ2 J 46 0 [1, 1, 1, 1, 1, 1, 1, 1, 0, 1, 0] (aU [(1, .ptr 1000000000 0), (3, .row 3003), (79, .d (.sl aE.ks a0)), (80, .d (.int .i64 a1)), (81, .d (.int .i64 a2))] [⟨46, (List.map AV.d a3)⟩] [] [] [(3003, ⟨[.int .u8], 5, 1, a4⟩)])
def aou (C : aN) (Λ2 J : Lam) (a0 : List (List D)) (a1 a2 : Int) (a3 : List D) (a4 : List (List D)) : Res := lab SE C Λ2 J 46 0 [1, 1, 1, 1, 1, 1, 0, 1, 0] (aU [(1, .ptr 1000000000 0), (3, .row 3003), (57, .d (.sl aC.ks a0)), (58, .d (.int .i64 a1)), (59, .d (.int .i64 a2))] [⟨46, (List.map AV.d a3)⟩] [] [] [(3003, ⟨[.int .u8], 5, 1, a4⟩)])
def aqy (C : aN) (Λ2 J : Lam) (a0 : List (List D)) (a1 a2 : Int) (a3 : List D) (a4 : List (List D)) : Res := lab SE C Λ2 J 46 0 [1, 1, 1, 1, 0, 1, 0] (aU [(1, .ptr 1000000000 0), (3, .row 3003), (32, .d (.sl aK.ks a0)), (33, .d (.int .i64 a1)), (34, .d (.int .i64 a2))] [⟨46, (List.map AV.d a3)⟩] [] [] [(3003, ⟨[.int .u8], 5, 1, a4⟩)])
section
variable (Γ : Fun) (γ94 γ95 : Gm ((List Int))) (γ96 : Gm (Int)) (γ97 γ98 : Gm ((List Int))) (Λ2 J : Lam)
def C46 : aN := bA (bA (bA (bA (bA (aR Γ) 94 aS γ94) 95 aS γ95) 96 aB γ96) 97 aS γ97) 98 aS γ98
theorem T46 (p0 : aI) : bG SE (C46 Γ γ94 γ95 γ96 γ97 γ98) Λ2 J 46 [aI.av p0] [] [] =
 γ94 [.d (.sl [.int .u8] (List.map (encI .u8) [])), .d (.str p0.Client)] [] [] fun r0 =>
 γ94 [.d (.sl [.int .u8] (List.map (encI .u8) r0)), .d (.str p0.User)] [] [] fun r1 =>
 γ95 [.d (.sl [.int .u8] (List.map (encI .u8) r1)), .d (.int .i64 p0.Expiry)] [] [] fun r2 =>
 γ95 [.d (.sl [.int .u8] (List.map (encI .u8) r2)), .d (.int .i64 p0.Until)] [] [] fun r3 =>
 γ95 [.d (.sl [.int .u8] (List.map (encI .u8) r3)), .d (.int .i64 p0.Dropped)] [] [] fun r4 =>
 γ95 [.d (.sl [.int .u8] (List.map (encI .u8) r4)), .d (.int .i64 (lM aK.enc p0.Subs : Int))] [] [] fun r5 =>
 aqy (C46 Γ γ94 γ95 γ96 γ97 γ98) Λ2 J (List.map aK.enc p0.Subs) (lM aK.enc p0.Subs : Int) 0 (aI.enc p0) (List.map (encI .u8) r5) := by kernel_rfl
theorem azB (x79 : List aE) (x80 x81 : Int) (b0 : aI) (w3003 : List Int) : bS SE (C46 Γ γ94 γ95 γ96 γ97 γ98) Λ2 J 46 0 [1, 1, 1, 1, 1, 1, 1, 1, 0, 1, 0] (aU [(1, .ptr 1000000000 0), (3, .row 3003), (79, .d (.sl aE.ks (List.map aE.enc x79))), (80, .d (.int .i64 x80)), (81, .d (.int .i64 x81))] [⟨46, (List.map AV.d (aI.enc b0))⟩] [] [] [(3003, ⟨[.int .u8], 5, 1, (List.map (encI .u8) w3003)⟩)]) =
 cond (decide (x81 < x80)) (
 cond (iB x81 (lM aE.enc x79 : Int)) (
  γ95 [.d (.sl [.int .u8] (List.map (encI .u8) w3003)), .d (.int .i64 (aW (cE aE.enc x79 x81 0)))] [] [] fun r14 =>
  γ95 [.d (.sl [.int .u8] (List.map (encI .u8) r14)), .d (.int .i64 (aW (cE aE.enc x79 x81 1)))] [] [] fun r15 =>
  γ97 [.d (.sl [.int .u8] (List.map (encI .u8) r15)), .agg [.d (.str (bL (cE aE.enc x79 x81 2))), .d (.str (bL (cE aE.enc x79 x81 3))), .d (.int .i64 (aW (cE aE.enc x79 x81 4))), .d (.bool (dL (cE aE.enc x79 x81 5))), .d (.int .i64 (aW (cE aE.enc x79 x81 6))), .d (.int .i64 (aW (cE aE.enc x79 x81 7))), .d (.str (bL (cE aE.enc x79 x81 8))), .d (.int .i64 (aW (cE aE.enc x79 x81 9))), .d (.sl aG.ks (dSl (cE aE.enc x79 x81 10)))]] [] [] fun r16 =>
  anM (C46 Γ γ94 γ95 γ96 γ97 γ98) Λ2 J (List.map aE.enc x79) x80 (w6 (x81 + 1)) (aI.enc b0) (List.map (encI .u8) r16)) none) (
 γ98 [.d (.sl [.int .u8] (List.map (encI .u8) w3003)), .d (.sl [.int .i64] (List.map eI b0.Out.Pool.Used))] [] [] fun r17 =>
 γ95 [.d (.sl [.int .u8] (List.map (encI .u8) r17)), .d (.int .i64 b0.Out.Pool.Last)] [] [] fun r18 =>
 γ98 [.d (.sl [.int .u8] (List.map (encI .u8) r18)), .d (.sl [.int .i64] (List.map eI b0.In.IDs))] [] [] fun r19 =>
 γ96 [.d (.bool b0.Will.Set)] [] [] fun r20 =>
 γ95 [.d (.sl [.int .u8] (List.map (encI .u8) r19)), .d (.int .i64 r20)] [] [] fun r21 =>
 cond b0.Will.Set (
 γ95 [.d (.sl [.int .u8] (List.map (encI .u8) r21)), .d (.int .i64 b0.Will.Delay)] [] [] fun r22 =>
 γ97 [.d (.sl [.int .u8] (List.map (encI .u8) r22)), aC.av b0.Will.Message] [] [] fun r23 =>
 (some (.ret [.row 0] [] [⟨[.int .u8], 5, 1, (List.map (encI .u8) r23)⟩]))) (
 (some (.ret [.row 0] [] [⟨[.int .u8], 5, 1, (List.map (encI .u8) r21)⟩])))) := by kernel_rfl
theorem axF (x57 : List aC) (x58 x59 : Int) (b0 : aI) (w3003 : List Int) : bS SE (C46 Γ γ94 γ95 γ96 γ97 γ98) Λ2 J 46 0 [1, 1, 1, 1, 1, 1, 0, 1, 0] (aU [(1, .ptr 1000000000 0), (3, .row 3003), (57, .d (.sl aC.ks (List.map aC.enc x57))), (58, .d (.int .i64 x58)), (59, .d (.int .i64 x59))] [⟨46, (List.map AV.d (aI.enc b0))⟩] [] [] [(3003, ⟨[.int .u8], 5, 1, (List.map (encI .u8) w3003)⟩)]) =
 cond (decide (x59 < x58)) (
 cond (iB x59 (lM aC.enc x57 : Int)) (
  γ97 [.d (.sl [.int .u8] (List.map (encI .u8) w3003)), .agg [.d (.str (bL (cE aC.enc x57 x59 0))), .d (.str (bL (cE aC.enc x57 x59 1))), .d (.int .i64 (aW (cE aC.enc x57 x59 2))), .d (.bool (dL (cE aC.enc x57 x59 3))), .d (.int .i64 (aW (cE aC.enc x57 x59 4))), .d (.int .i64 (aW (cE aC.enc x57 x59 5))), .d (.str (bL (cE aC.enc x57 x59 6))), .d (.int .i64 (aW (cE aC.enc x57 x59 7))), .d (.sl aG.ks (dSl (cE aC.enc x57 x59 8)))]] [] [] fun r11 =>
  aou (C46 Γ γ94 γ95 γ96 γ97 γ98) Λ2 J (List.map aC.enc x57) x58 (w6 (x59 + 1)) (aI.enc b0) (List.map (encI .u8) r11)) none) (
 γ95 [.d (.sl [.int .u8] (List.map (encI .u8) w3003)), .d (.int .i64 b0.Out.Limit)] [] [] fun r12 =>
 γ95 [.d (.sl [.int .u8] (List.map (encI .u8) r12)), .d (.int .i64 (lM aE.enc b0.Out.Items : Int))] [] [] fun r13 =>
 anM (C46 Γ γ94 γ95 γ96 γ97 γ98) Λ2 J (List.map aE.enc b0.Out.Items) (lM aE.enc b0.Out.Items : Int) 0 (aI.enc b0) (List.map (encI .u8) r13)) := by kernel_rfl
theorem aBm (x32 : List aK) (x33 x34 : Int) (b0 : aI) (w3003 : List Int) : bS SE (C46 Γ γ94 γ95 γ96 γ97 γ98) Λ2 J 46 0 [1, 1, 1, 1, 0, 1, 0] (aU [(1, .ptr 1000000000 0), (3, .row 3003), (32, .d (.sl aK.ks (List.map aK.enc x32))), (33, .d (.int .i64 x33)), (34, .d (.int .i64 x34))] [⟨46, (List.map AV.d (aI.enc b0))⟩] [] [] [(3003, ⟨[.int .u8], 5, 1, (List.map (encI .u8) w3003)⟩)]) =
 cond (decide (x34 < x33)) (
 cond (iB x34 (lM aK.enc x32 : Int)) (
  γ94 [.d (.sl [.int .u8] (List.map (encI .u8) w3003)), .d (.str (bL (cE aK.enc x32 x34 0)))] [] [] fun r6 =>
  γ95 [.d (.sl [.int .u8] (List.map (encI .u8) r6)), .d (.int .i64 (aW (cE aK.enc x32 x34 1)))] [] [] fun r7 =>
  γ96 [.d (.bool (dL (cE aK.enc x32 x34 2)))] [] [] fun r8 =>
  γ95 [.d (.sl [.int .u8] (List.map (encI .u8) r7)), .d (.int .i64 r8)] [] [] fun r9 =>
  aqy (C46 Γ γ94 γ95 γ96 γ97 γ98) Λ2 J (List.map aK.enc x32) x33 (w6 (x34 + 1)) (aI.enc b0) (List.map (encI .u8) r9)) none) (
 γ95 [.d (.sl [.int .u8] (List.map (encI .u8) w3003)), .d (.int .i64 (lM aC.enc b0.Queue : Int))] [] [] fun r10 =>
 aou (C46 Γ γ94 γ95 γ96 γ97 γ98) Λ2 J (List.map aC.enc b0.Queue) (lM aC.enc b0.Queue : Int) 0 (aI.enc b0) (List.map (encI .u8) r10)) := by kernel_rfl
end
abbrev X46 : aN := C46 gG (cT 94 aS) (cT 95 aS) (cT 96 aB) (cT 97 aS) (cT 98 aS)
theorem aqt : X46 = aR gG := by unfold X46 C46; repeat rw [bD fun _ h => h]
abbrev axv := anM X46 (bR SE gG (SE.hl 46) (SE.hr 46)) (J0 SE X46)
abbrev axQ := aou X46 (bR SE gG (SE.hl 46) (SE.hr 46)) (J0 SE X46)
abbrev aAB := aqy X46 (bR SE gG (SE.hl 46) (SE.hr 46)) (J0 SE X46)
theorem aca : ∀ (fu : Nat) (x79 : List aE) (x80 x81 : Int) (b0 : aI) (w3003 : List Int), Le (Option.map aS (fN fu x79 x80 x81 b0 w3003)) (axv (List.map aE.enc x79) x80 x81 (aI.enc b0) (List.map (encI .u8) w3003)) := by
 intro fu
 induction fu with
 | zero => intros; exact le_none
 | succ fu ih =>
  intro x79 x80 x81 b0 w3003
  refine Le.trans ?_ (le_of_eq ((aX aqt).trans (azB ..)).symm)
  unfold fN
  refine lC ?_ ?_
  ·refine lG (by simp only [EN]) ?_
   refine lQ eX aZ (by (try simp only [EN]); exact bX w3003 ((List.getD x79 (Int.toNat x81) default).ID)) fun r14 _ => ?_
   refine lQ eX aZ (by (try simp only [EN]); exact bX r14 ((List.getD x79 (Int.toNat x81) default).State)) fun r15 _ => ?_
   refine lQ eX aZ (by (try simp only [EN]); exact wR r15 ((List.getD x79 (Int.toNat x81) default).Message)) fun r16 _ => ?_
   exact ih x79 x80 (w6 (x81 + 1)) b0 r16
  ·refine lQ eX aZ (aaX _ _) fun r17 _ => ?_
   refine lQ eX aZ (bX _ _) fun r18 _ => ?_
   refine lQ eX aZ (aaX _ _) fun r19 _ => ?_
   refine lQ eX aL (aa4 _) fun r20 _ => ?_
   refine lQ eX aZ (bX _ _) fun r21 _ => ?_
   refine lC ?_ ?_
   ·refine lQ eX aZ (bX _ _) fun r22 _ => ?_
    refine lQ eX aZ (wR _ _) fun r23 _ => ?_
    exact aJ rfl
   ·exact aJ rfl
theorem acm : ∀ (fu : Nat) (x57 : List aC) (x58 x59 : Int) (b0 : aI) (w3003 : List Int), Le (Option.map aS (fP fu x57 x58 x59 b0 w3003)) (axQ (List.map aC.enc x57) x58 x59 (aI.enc b0) (List.map (encI .u8) w3003)) := by
 intro fu
 induction fu with
 | zero => intros; exact le_none
 | succ fu ih =>
  intro x57 x58 x59 b0 w3003
  refine Le.trans ?_ (le_of_eq ((aX aqt).trans (axF ..)).symm)
  unfold fP
  refine lC ?_ ?_
  ·refine lG (by simp only [EN]) ?_
   refine lQ eX aZ (by (try simp only [EN]); exact wR w3003 (List.getD x57 (Int.toNat x59) default)) fun r11 _ => ?_
   exact ih x57 x58 (w6 (x59 + 1)) b0 r11
  ·refine lQ eX aZ (bX _ _) fun r12 _ => ?_
   refine lQ eX aZ (by (try simp only [EN]); exact bX r12 (List.length b0.Out.Items : Int)) fun r13 _ => ?_
   (try simp only [EN]); exact aca fuel b0.Out.Items (List.length b0.Out.Items : Int) 0 b0 r13
theorem ac6 : ∀ (fu : Nat) (x32 : List aK) (x33 x34 : Int) (b0 : aI) (w3003 : List Int), Le (Option.map aS (gN fu x32 x33 x34 b0 w3003)) (aAB (List.map aK.enc x32) x33 x34 (aI.enc b0) (List.map (encI .u8) w3003)) := by
 intro fu
 induction fu with
 | zero => intros; exact le_none
 | succ fu ih =>
  intro x32 x33 x34 b0 w3003
  refine Le.trans ?_ (le_of_eq ((aX aqt).trans (aBm ..)).symm)
  unfold gN
  refine lC ?_ ?_
  ·refine lG (by simp only [EN]) ?_
   refine lQ eX aZ (by (try simp only [EN]); exact fK w3003 ((List.getD x32 (Int.toNat x34) default).Filter)) fun r6 _ => ?_
   refine lQ eX aZ (by (try simp only [EN]); exact bX r6 ((List.getD x32 (Int.toNat x34) default).Level)) fun r7 _ => ?_
   refine lQ eX aL (by (try simp only [EN]); exact aa4 ((List.getD x32 (Int.toNat x34) default).NoLocal)) fun r8 _ => ?_
   refine lQ eX aZ (bX _ _) fun r9 _ => ?_
   exact ih x32 x33 (w6 (x34 + 1)) b0 r9
  ·refine lQ eX aZ (by (try simp only [EN]); exact bX w3003 (List.length b0.Queue : Int)) fun r10 _ => ?_
   (try simp only [EN]); exact acm fuel b0.Queue (List.length b0.Queue : Int) 0 b0 r10
theorem aeZ (p0 : aI) : Le (Option.map aS (oK p0)) (bF SE 46 [aI.av p0] [] []) := by
 refine aV aqt rfl ?_
 refine Le.trans ?_ (le_of_eq (T46 ..).symm)
 unfold oK
 refine lQ eX aZ (by (try simp only [EN]); exact fK [] p0.Client) fun r0 _ => ?_
 refine lQ eX aZ (fK _ _) fun r1 _ => ?_
 refine lQ eX aZ (bX _ _) fun r2 _ => ?_
 refine lQ eX aZ (bX _ _) fun r3 _ => ?_
 refine lQ eX aZ (bX _ _) fun r4 _ => ?_
 refine lQ eX aZ (by (try simp only [EN]); exact bX r4 (List.length p0.Subs : Int)) fun r5 _ => ?_
 (try simp only [EN]); exact ac6 fuel p0.Subs (List.length p0.Subs : Int) 0 p0 r5
section
variable (Γ : Fun) (γ24 : Gm (Int)) (γ46 : Gm ((List Int))) (Λ2 J : Lam)
def C19 : aN := bA (bA (aR Γ) 24 aB γ24) 46 aS γ46
theorem T19 (p0 : aI) : bG SE (C19 Γ γ24 γ46) Λ2 J 19 [aI.av p0] [] [] =
 γ24 [aI.av p0] [] [] fun r0 =>
 cond (r0 != 0) (
 (some (.ret [.row 0, .d (.int .i64 r0)] [] [⟨[.int .u8], 5, 1, []⟩]))) (
 cond p0.Online (
 (some (.ret [.row 0, .d (.int .i64 9)] [] [⟨[.int .u8], 5, 1, []⟩]))) (
 γ46 [aI.av p0] [] [] fun r1 =>
 (some (.ret [.row 0, .d (.int .i64 0)] [] [⟨[.int .u8], 5, 1, (List.map (encI .u8) r1)⟩])))) := by kernel_rfl
end
abbrev X19 : aN := C19 gG (cT 24 aB) (cT 46 aS)
theorem aEK : X19 = aR gG := by unfold X19 C19; repeat rw [bD fun _ h => h]
theorem afk (p0 : aI) : Le (Option.map dD (oO p0)) (bF SE 19 [aI.av p0] [] []) := by
 refine aV aEK rfl ?_
 refine Le.trans ?_ (le_of_eq (T19 ..).symm)
 unfold oO
 refine lQ eX aL (uQ _) fun r0 _ => ?_
 refine lC ?_ ?_
 ·exact aJ rfl
 ·refine lC ?_ ?_
  ·exact aJ rfl
  ·refine lQ eX aZ (aeZ _) fun r1 _ => ?_
   exact aJ rfl
section
variable (Γ : Fun) (γ17 γ12 : Gm (Bool)) (γ18 γ19 : Gm ((List Int) × Int)) (γ20 : Gm (Bool)) (Λ2 J : Lam)
def C4 : aN := bA (bA (bA (bA (bA (aR Γ) 17 brokerlaw43_light_out γ17) 12 brokerlaw43_light_out γ12) 18 dD γ18) 19 dD γ19) 20 brokerlaw43_light_out γ20
theorem T4 (p0 : aI) : bG SE (C4 Γ γ17 γ12 γ18 γ19 γ20) Λ2 J 4 [aI.av p0] [] [] =
 γ17 [aI.av p0] [] [] fun r0 =>
 cond (!r0) (
 γ12 [] [] [] fun r1 =>
 (rB r1)) (
 γ18 [aI.av p0] [] [] fun r2 =>
 γ19 [aI.av p0] [] [] fun r3 =>
 cond (r2.2 == r3.2) (
 γ20 [.d (.sl [.int .u8] (List.map (encI .u8) r2.1)), .d (.sl [.int .u8] (List.map (encI .u8) r3.1))] [] [] fun r4 =>
 cond r4 (
  γ12 [] [] [] fun r5 =>
  (rB r5)) (
 (rB false))) (
 (rB false))) := by kernel_rfl
end
abbrev X4 : aN := C4 gG (cT 17 brokerlaw43_light_out) (cT 12 brokerlaw43_light_out) (cT 18 dD) (cT 19 dD) (cT 20 brokerlaw43_light_out)
theorem Cr4 : X4 = aR gG := by unfold X4 C4; repeat rw [bD fun _ h => h]
theorem aaV (p0 : aI) : Le (Option.map brokerlaw43_light_out (lE p0)) (bF SE 4 [aI.av p0] [] []) := by
 refine aV Cr4 rfl ?_
 refine Le.trans ?_ (le_of_eq (T4 ..).symm)
 unfold lE
 refine lQ eX brokerlaw43_light_inj (aaI _) fun r0 _ => ?_
 refine lC ?_ ?_
 ·refine lQ eX brokerlaw43_light_inj (bI) fun r1 _ => ?_
  exact aJ rfl
 ·refine lQ eX j9 (mX _) fun r2 _ => ?_
  refine lQ eX j9 (afk _) fun r3 _ => ?_
  refine lC ?_ ?_
  ·refine lQ eX brokerlaw43_light_inj (rO _ _) fun r4 _ => ?_
   refine lC ?_ ?_
   ·refine lQ eX brokerlaw43_light_inj (bI) fun r5 _ => ?_
    exact aJ rfl
   ·exact aJ rfl
  ·exact aJ rfl
end Te
end PX
