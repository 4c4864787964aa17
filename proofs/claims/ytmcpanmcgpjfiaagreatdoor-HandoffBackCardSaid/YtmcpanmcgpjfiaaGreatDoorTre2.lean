import Derived.Test.YtmcpanmcgpjfiaaGreatDoorTre1
set_option linter.unusedVariables false
set_option linter.unusedSimpArgs false
set_option maxRecDepth 100000
noncomputable section
namespace PX
open Go
open Md
namespace Te
section
variable (Γ : Fun)  (Λ2 J : Lam)
def aAJ : aP := aR Γ
theorem aHS (p0 p1 : Int) : bG SE (aAJ Γ) Λ2 J 110 [.d (.int .i64 p0), .d (.int .i64 p1)] [] [] =
 cond (decide (p0 ≥ 0)) (
 (rB (decide (p0 ≤ p1)))) (
 (rB false)) := by kernel_rfl
end
abbrev aHG : aP := aAJ gG
theorem aEu : aHG = aR gG := rfl
theorem zY (p0 p1 : Int) : Le (Option.map brokerlaw43_light_out (pB p0 p1)) (bF SE 110 [.d (.int .i64 p0), .d (.int .i64 p1)] [] []) := by
 refine aW aEu rfl ?_
 refine Le.trans ?_ (le_of_eq (aHS ..).symm)
 unfold pB
 refine lC ?_ ?_
 ·exact aJ rfl
 ·exact aJ rfl
def amt (C : aP) (Λ2 J : Lam) (a0 : List D) : Res := lab SE C Λ2 J 71 0 [1, 1, 1, 0, 0] (aV [(1, .ptr 1000000000 0)] [⟨46, (List.map AV.d a0)⟩] [] [] [])
def arT (C : aP) (Λ2 J : Lam) (a0 : List D) : Res := lab SE C Λ2 J 71 0 [1, 1, 0, 0] (aV [(1, .ptr 1000000000 0)] [⟨46, (List.map AV.d a0)⟩] [] [] [])
section
variable (Γ : Fun) (γ33 γ110 : Gm (Bool)) (Λ2 J : Lam)
def C71 : aP := bB (bB (aR Γ) 33 brokerlaw43_light_out γ33) 110 brokerlaw43_light_out γ110
theorem T71 (p0 : aI) : bG SE (C71 Γ γ33 γ110) Λ2 J 71 [aI.av p0] [] [] =
 γ33 [.d (.str p0.Client)] [] [] fun r0 =>
 cond (!r0) (
 (rI 11)) (
 cond (!(p0.User == ([] : Str))) (
 γ33 [.d (.str p0.User)] [] [] fun r1 =>
 cond (!r1) (
  (rI 11)) (
 arT (C71 Γ γ33 γ110) Λ2 J (aI.enc p0))) (
 arT (C71 Γ γ33 γ110) Λ2 J (aI.enc p0))) := by kernel_rfl
theorem aDP (b0 : aI) : bW SE (C71 Γ γ33 γ110) Λ2 J 71 0 [1, 1, 1, 0, 0] (aV [(1, .ptr 1000000000 0)] [⟨46, (List.map AV.d (aI.enc b0))⟩] [] [] []) =
 γ110 [.d (.int .i64 b0.Expiry), .d (.int .i64 1099511627776)] [] [] fun r2 =>
 cond (!r2) (
 (rI 1)) (
 γ110 [.d (.int .i64 b0.Until), .d (.int .i64 1099511627776)] [] [] fun r3 =>
 cond (!r3) (
 (rI 1)) (
 γ110 [.d (.int .i64 b0.Dropped), .d (.int .i64 1099511627776)] [] [] fun r4 =>
 cond (!r4) (
 (rI 1)) (
 (rI 0)))) := by kernel_rfl
theorem aCY (b0 : aI) : bW SE (C71 Γ γ33 γ110) Λ2 J 71 0 [1, 1, 0, 0] (aV [(1, .ptr 1000000000 0)] [⟨46, (List.map AV.d (aI.enc b0))⟩] [] [] []) =
 cond (!b0.Online) (
 cond (b0.Conn != 0) (
  (rI 9)) (
 cond b0.Online (
  cond (b0.Until != 0) (
  (rI 9)) (
  amt (C71 Γ γ33 γ110) Λ2 J (aI.enc b0))) (
 amt (C71 Γ γ33 γ110) Λ2 J (aI.enc b0)))) (
 cond b0.Online (
 cond (b0.Until != 0) (
  (rI 9)) (
 amt (C71 Γ γ33 γ110) Λ2 J (aI.enc b0))) (
 amt (C71 Γ γ33 γ110) Λ2 J (aI.enc b0))) := by kernel_rfl
end
abbrev X71 : aP := C71 gG (cT 33 brokerlaw43_light_out) (cT 110 brokerlaw43_light_out)
theorem awj : X71 = aR gG := by unfold X71 C71; repeat rw [bD fun _ h => h]
abbrev aDD := amt X71 (bV SE gG (SE.hl 71) (SE.hr 71)) (J0 SE X71)
abbrev aCX := arT X71 (bV SE gG (SE.hl 71) (SE.hr 71)) (J0 SE X71)
theorem pU (b0 : aI) : Le (Option.map aB (kK b0)) (aDD (aI.enc b0)) := by
 refine Le.trans ?_ (le_of_eq ((aZ awj).trans (aDP ..)).symm)
 unfold kK
 refine lQ eX brokerlaw43_light_inj (zY _ _) fun r2 _ => ?_
 refine lC ?_ ?_
 ·exact aJ rfl
 ·refine lQ eX brokerlaw43_light_inj (zY _ _) fun r3 _ => ?_
  refine lC ?_ ?_
  ·exact aJ rfl
  ·refine lQ eX brokerlaw43_light_inj (zY _ _) fun r4 _ => ?_
   refine lC ?_ ?_
   ·exact aJ rfl
   ·exact aJ rfl
theorem aav (b0 : aI) : Le (Option.map aB (o9 b0)) (aCX (aI.enc b0)) := by
 refine Le.trans ?_ (le_of_eq ((aZ awj).trans (aCY ..)).symm)
 unfold o9
 refine lC ?_ ?_
 ·refine lC ?_ ?_
  ·exact aJ rfl
  ·refine lC ?_ ?_
   ·refine lC ?_ ?_
    ·exact aJ rfl
    ·exact pU b0
   ·exact pU b0
 ·refine lC ?_ ?_
  ·refine lC ?_ ?_
   ·exact aJ rfl
   ·exact pU b0
  ·exact pU b0
theorem aii (p0 : aI) : Le (Option.map aB (sW p0)) (bF SE 71 [aI.av p0] [] []) := by
 refine aW awj rfl ?_
 refine Le.trans ?_ (le_of_eq (T71 ..).symm)
 unfold sW
 refine lQ eX brokerlaw43_light_inj (mU _) fun r0 _ => ?_
 refine lC ?_ ?_
 ·exact aJ rfl
 ·refine lC ?_ ?_
  ·refine lQ eX brokerlaw43_light_inj (mU _) fun r1 _ => ?_
   refine lC ?_ ?_
   ·exact aJ rfl
   ·exact aav p0
  ·exact aav p0
section
variable (Γ : Fun)  (Λ2 J : Lam)
def azF : aP := aR Γ
theorem aHZ (p0 p1 : Str) : bG SE (azF Γ) Λ2 J 152 [.d (.str p0), .d (.str p1)] [] [] =
 cond (decide ((List.length p0 : Int) ≥ (List.length p1 : Int))) (
 cond (decide (0 ≤ (List.length p1 : Int)) && decide ((List.length p1 : Int) ≤ ((List.length p0) : Int))) (
  (rB ((dB p0 none (some (List.length p1 : Int))) == p1))) none) (
 (rB false)) := by kernel_rfl
end
abbrev aG0 : aP := azF gG
theorem aD9 : aG0 = aR gG := rfl
theorem vM (p0 p1 : Str) : Le (Option.map brokerlaw43_light_out (nJ p0 p1)) (bF SE 152 [.d (.str p0), .d (.str p1)] [] []) := by
 refine aW aD9 rfl ?_
 refine Le.trans ?_ (le_of_eq (aHZ ..).symm)
 unfold nJ
 refine lC ?_ ?_
 ·refine lF ?_
  exact aJ rfl
 ·exact aJ rfl
def aoW (C : aP) (Λ2 J : Lam) (a0 : Str) (a1 a2 : Int) : Res := lab SE C Λ2 J 148 0 [1, 0, 1, 0] (aV [(0, .d (.str a0)), (1, .d (.int .u8 a1)), (5, .d (.int .i64 a2))] [] [] [] [])
section
variable (Γ : Fun)  (Λ2 J : Lam)
def apA : aP := aR Γ
theorem aFH (p0 : Str) (p1 : Int) : bG SE (apA Γ) Λ2 J 148 [.d (.str p0), .d (.int .u8 p1)] [] [] =
 aoW (apA Γ) Λ2 J p0 p1 0 := by kernel_rfl
theorem az9 (x0 : Str) (x1 x5 : Int) : bW SE (apA Γ) Λ2 J 148 0 [1, 0, 1, 0] (aV [(0, .d (.str x0)), (1, .d (.int .u8 x1)), (5, .d (.int .i64 x5))] [] [] [] []) =
 cond (decide (x5 < (List.length x0 : Int))) (
 cond (iB x5 (List.length x0 : Int)) (
  cond ((UInt8.toNat (List.getD x0 (Int.toNat x5) 0) : Int) == x1) (
  (rB true)) (
  aoW (apA Γ) Λ2 J x0 x1 (w6 (x5 + 1)))) none) (
 (rB false)) := by kernel_rfl
end
abbrev awB : aP := apA gG
theorem axI : awB = aR gG := rfl
abbrev ay8 := aoW awB (bV SE gG (SE.hl 148) (SE.hr 148)) (J0 SE awB)
theorem agA : ∀ (fu : Nat) (x0 : Str) (x1 x5 : Int), Le (Option.map brokerlaw43_light_out (lS fu x0 x1 x5)) (ay8 x0 x1 x5) := by
 intro fu
 induction fu with
 | zero => intros; exact le_none
 | succ fu ih =>
  intro x0 x1 x5
  refine Le.trans ?_ (le_of_eq ((aZ axI).trans (az9 ..)).symm)
  unfold lS
  refine lC ?_ ?_
  ·refine lF ?_
   refine lC ?_ ?_
   ·exact aJ rfl
   ·exact ih x0 x1 (w6 (x5 + 1))
  ·exact aJ rfl
theorem p7 (p0 : Str) (p1 : Int) : Le (Option.map brokerlaw43_light_out (kO p0 p1)) (bF SE 148 [.d (.str p0), .d (.int .u8 p1)] [] []) := by
 refine aW axI rfl ?_
 refine Le.trans ?_ (le_of_eq (aFH ..).symm)
 unfold kO
 exact agA fuel p0 p1 0
def amn (C : aP) (Λ2 J : Lam) (a0 : Str) (a1 a2 : Int) (a3 : List (List D)) : Res := lab SE C Λ2 J 163 0 [1, 1, 1, 0, 1, 0] (aV [(0, .d (.str a0)), (3, .row 3003), (4, .d (.int .i64 a1)), (5, .d (.int .i64 a2))] [] [] [] [(3003, ⟨[.str], 9, 16, a3⟩)])
section
variable (Γ : Fun)  (Λ2 J : Lam)
def anu : aP := aR Γ
theorem aF1 (p0 : Str) : bG SE (anu Γ) Λ2 J 163 [.d (.str p0)] [] [] =
 amn (anu Γ) Λ2 J p0 0 0 (List.map cU []) := by kernel_rfl
theorem aAq (x0 : Str) (x4 x5 : Int) (w3003 : List Str) : bW SE (anu Γ) Λ2 J 163 0 [1, 1, 1, 0, 1, 0] (aV [(0, .d (.str x0)), (3, .row 3003), (4, .d (.int .i64 x4)), (5, .d (.int .i64 x5))] [] [] [] [(3003, ⟨[.str], 9, 16, (List.map cU w3003)⟩)]) =
 cond (decide (x5 < (List.length x0 : Int))) (
 cond (iB x5 (List.length x0 : Int)) (
  cond ((UInt8.toNat (List.getD x0 (Int.toNat x5) 0) : Int) == 47) (
  cond (decide (0 ≤ x5) && decide (x5 ≤ ((List.length x0) : Int))) (
   cond (decide (0 ≤ x4) && decide (x4 ≤ x5)) (
   cond (decide ((lM cU w3003 + lM cU [(dB x0 (some x4) (some x5))]) * 16 ≤ 140737488355328)) (
    amn (anu Γ) Λ2 J x0 (w6 (x5 + 1)) (w6 (x5 + 1)) (((List.map cU w3003) ++ (List.map cU [(dB x0 (some x4) (some x5))])))) none) none) none) (
  amn (anu Γ) Λ2 J x0 x4 (w6 (x5 + 1)) (List.map cU w3003))) none) (
 cond (decide (0 ≤ x4) && decide (x4 ≤ ((List.length x0) : Int))) (
 cond (decide ((lM cU w3003 + lM cU [(dB x0 (some x4) none)]) * 16 ≤ 140737488355328)) (
  (some (.ret [.row 0] [] [⟨[.str], 9, 16, ((List.map cU w3003) ++ (List.map cU [(dB x0 (some x4) none)]))⟩]))) none) none) := by kernel_rfl
end
abbrev auY : aP := anu gG
theorem axR : auY = aR gG := rfl
abbrev aAB := amn auY (bV SE gG (SE.hl 163) (SE.hr 163)) (J0 SE auY)
theorem ael : ∀ (fu : Nat) (x0 : Str) (x4 x5 : Int) (w3003 : List Str), Le (Option.map eR (gW fu x0 x4 x5 w3003)) (aAB x0 x4 x5 (List.map cU w3003)) := by
 intro fu
 induction fu with
 | zero => intros; exact le_none
 | succ fu ih =>
  intro x0 x4 x5 w3003
  refine Le.trans ?_ (le_of_eq ((aZ axR).trans (aAq ..)).symm)
  unfold gW
  refine lC ?_ ?_
  ·refine lF ?_
   refine lC ?_ ?_
   ·refine lF ?_
    refine lF ?_
    refine lG (by simp only [EN]) ?_
    (try simp only [EN]); exact ih x0 (w6 (x5 + 1)) (w6 (x5 + 1)) ((w3003 ++ [(dB x0 (some x4) (some x5))]))
   ·exact ih x0 x4 (w6 (x5 + 1)) w3003
  ·refine lF ?_
   refine lG (by simp only [EN]) ?_
   exact aJ (by first | rfl | simp only [EN, eR] <;> rfl)
theorem aaX (p0 : Str) : Le (Option.map eR (qG p0)) (bF SE 163 [.d (.str p0)] [] []) := by
 refine aW axR rfl ?_
 refine Le.trans ?_ (le_of_eq (aF1 ..).symm)
 unfold qG
 (try simp only [EN]); exact ael fuel p0 0 0 []
section
variable (Γ : Fun) (γ148 : Gm (Bool)) (γ163 : Gm ((List Str))) (Λ2 J : Lam)
def avE : aP := bB (bB (aR Γ) 148 brokerlaw43_light_out γ148) 163 eR γ163
theorem aH0 (p0 : Str) : bG SE (avE Γ γ148 γ163) Λ2 J 147 [.d (.str p0)] [] [] =
 cond (decide ((List.length p0 : Int) ≥ 1)) (
 cond (decide ((List.length p0 : Int) ≤ 64)) (
  γ148 [.d (.str p0), .d (.int .u8 0)] [] [] fun r0 =>
  cond (!r0) (
  γ163 [.d (.str p0)] [] [] fun r1 =>
  (rB (decide ((lM cU r1 : Int) ≤ 8)))) (
  (rB false))) (
 (rB false))) (
 (rB false)) := by kernel_rfl
end
abbrev aBD : aP := avE gG (cT 148 brokerlaw43_light_out) (cT 163 eR)
theorem aEP : aBD = aR gG := by unfold aBD avE; repeat rw [bD fun _ h => h]
theorem abi (p0 : Str) : Le (Option.map brokerlaw43_light_out (oQ p0)) (bF SE 147 [.d (.str p0)] [] []) := by
 refine aW aEP rfl ?_
 refine Le.trans ?_ (le_of_eq (aH0 ..).symm)
 unfold oQ
 refine lC ?_ ?_
 ·refine lC ?_ ?_
  ·refine lQ eX brokerlaw43_light_inj (p7 _ _) fun r0 _ => ?_
   refine lC ?_ ?_
   ·refine lQ eX aam (aaX _) fun r1 _ => ?_
    exact aJ (by first | rfl | simp only [EN, brokerlaw43_light_out] <;> rfl)
   ·exact aJ rfl
  ·exact aJ rfl
 ·exact aJ rfl
def apR (C : aP) (Λ2 J : Lam) (a0 : Int) (a1 : List (List D)) : Res := lab SE C Λ2 J 151 0 [1, 1, 1, 0, 1, 0, 0, 1, 0, 0, 1, 0] (aV [(3, .row 3003), (4, .d (.int .i64 a0))] [] [] [] [(3003, ⟨[.str], 9, 16, a1⟩)])
def amv (C : aP) (Λ2 J : Lam) (a0 : Int) (a1 : List (List D)) : Res := lab SE C Λ2 J 151 0 [1, 1, 1, 0, 1, 0] (aV [(3, .row 3003), (4, .d (.int .i64 a0))] [] [] [] [(3003, ⟨[.str], 9, 16, a1⟩)])
section
variable (Γ : Fun) (γ147 : Gm (Bool)) (γ163 : Gm ((List Str))) (γ148 : Gm (Bool)) (Λ2 J : Lam)
def afW : aP := bB (bB (bB (aR Γ) 147 brokerlaw43_light_out γ147) 163 eR γ163) 148 brokerlaw43_light_out γ148
theorem aHE (p0 : Str) : bG SE (afW Γ γ147 γ163 γ148) Λ2 J 151 [.d (.str p0)] [] [] =
 γ147 [.d (.str p0)] [] [] fun r0 =>
 cond (!r0) (
 (rB false)) (
 γ163 [.d (.str p0)] [] [] fun r1 =>
 amv (afW Γ γ147 γ163 γ148) Λ2 J 0 (List.map cU r1)) := by kernel_rfl
theorem azA (x4 : Int) (w3003 : List Str) : bW SE (afW Γ γ147 γ163 γ148) Λ2 J 151 0 [1, 1, 1, 0, 1, 0, 0, 1, 0, 0, 1, 0] (aV [(3, .row 3003), (4, .d (.int .i64 x4))] [] [] [] [(3003, ⟨[.str], 9, 16, (List.map cU w3003)⟩)]) =
 cond (iB x4 (lM cU w3003 : Int)) (
 γ148 [.d (.str (bL (cE cU w3003 x4 0))), .d (.int .u8 35)] [] [] fun r3 =>
 cond r3 (
  cond (iB x4 (lM cU w3003 : Int)) (
  cond (!((bL (cE cU w3003 x4 0)) == ([35] : Str))) (
   (rB false)) (
  cond (x4 != (w6 ((lM cU w3003 : Int) - 1))) (
   (rB false)) (
  amv (afW Γ γ147 γ163 γ148) Λ2 J (w6 (x4 + 1)) (List.map cU w3003)))) none) (
 amv (afW Γ γ147 γ163 γ148) Λ2 J (w6 (x4 + 1)) (List.map cU w3003))) none := by kernel_rfl
theorem aAh (x4 : Int) (w3003 : List Str) : bW SE (afW Γ γ147 γ163 γ148) Λ2 J 151 0 [1, 1, 1, 0, 1, 0] (aV [(3, .row 3003), (4, .d (.int .i64 x4))] [] [] [] [(3003, ⟨[.str], 9, 16, (List.map cU w3003)⟩)]) =
 cond (decide (x4 < (lM cU w3003 : Int))) (
 cond (iB x4 (lM cU w3003 : Int)) (
  γ148 [.d (.str (bL (cE cU w3003 x4 0))), .d (.int .u8 43)] [] [] fun r2 =>
  cond r2 (
  cond (iB x4 (lM cU w3003 : Int)) (
   cond (!((bL (cE cU w3003 x4 0)) == ([43] : Str))) (
   (rB false)) (
   apR (afW Γ γ147 γ163 γ148) Λ2 J x4 (List.map cU w3003))) none) (
  apR (afW Γ γ147 γ163 γ148) Λ2 J x4 (List.map cU w3003))) none) (
 (rB true)) := by kernel_rfl
end
abbrev amJ : aP := afW gG (cT 147 brokerlaw43_light_out) (cT 163 eR) (cT 148 brokerlaw43_light_out)
theorem asX : amJ = aR gG := by unfold amJ afW; repeat rw [bD fun _ h => h]
abbrev az0 := apR amJ (bV SE gG (SE.hl 151) (SE.hr 151)) (J0 SE amJ)
abbrev auc := amv amJ (bV SE gG (SE.hl 151) (SE.hr 151)) (J0 SE amJ)
theorem yP (k5 : Int → (List Str) → Option (Bool)) (hk5 : ∀ (x4 : Int) (w3003 : List Str), Le (Option.map brokerlaw43_light_out (k5 x4 w3003)) (auc x4 (List.map cU w3003))) (x4 : Int) (w3003 : List Str) : Le (Option.map brokerlaw43_light_out (kU k5 x4 w3003)) (az0 x4 (List.map cU w3003)) := by
 refine Le.trans ?_ (le_of_eq ((aZ asX).trans (azA ..)).symm)
 unfold kU
 refine lG (by simp only [EN]) ?_
 refine lQ eX brokerlaw43_light_inj (by (try simp only [EN]); exact p7 (List.getD w3003 (Int.toNat x4) default) 35) fun r3 _ => ?_
 refine lC ?_ ?_
 ·refine lG (by simp only [EN]) ?_
  refine lD (by simp only [EN]) ?_ ?_
  ·exact aJ rfl
  ·refine lD (by simp only [EN]) ?_ ?_
   ·exact aJ rfl
   ·exact hk5 (w6 (x4 + 1)) w3003
 ·exact hk5 (w6 (x4 + 1)) w3003
theorem aez : ∀ (fu : Nat) (x4 : Int) (w3003 : List Str), Le (Option.map brokerlaw43_light_out (gU fu x4 w3003)) (auc x4 (List.map cU w3003)) := by
 intro fu
 induction fu with
 | zero => intros; exact le_none
 | succ fu ih =>
  intro x4 w3003
  refine Le.trans ?_ (le_of_eq ((aZ asX).trans (aAh ..)).symm)
  unfold gU
  refine lD (by simp only [EN]) ?_ ?_
  ·refine lG (by simp only [EN]) ?_
   refine lQ eX brokerlaw43_light_inj (by (try simp only [EN]); exact p7 (List.getD w3003 (Int.toNat x4) default) 43) fun r2 _ => ?_
   refine lC ?_ ?_
   ·refine lG (by simp only [EN]) ?_
    refine lD (by simp only [EN]) ?_ ?_
    ·exact aJ rfl
    ·exact yP _ (ih) x4 w3003
   ·exact yP _ (ih) x4 w3003
  ·exact aJ rfl
theorem aaR (p0 : Str) : Le (Option.map brokerlaw43_light_out (nS p0)) (bF SE 151 [.d (.str p0)] [] []) := by
 refine aW asX rfl ?_
 refine Le.trans ?_ (le_of_eq (aHE ..).symm)
 unfold nS
 refine lQ eX brokerlaw43_light_inj (abi _) fun r0 _ => ?_
 refine lC ?_ ?_
 ·exact aJ rfl
 ·refine lQ eX aam (aaX _) fun r1 _ => ?_
  exact aez fuel 0 r1
def atN (C : aP) (Λ2 J : Lam) (a0 : Str) (a1 : Int) : Res := lab SE C Λ2 J 150 0 [1, 1, 1, 1, 1, 1, 0] (aV [(5, .d (.str a0)), (6, .d (.int .i64 a1))] [] [] [] [])
def apW (C : aP) (Λ2 J : Lam) (a0 : Str) (a1 : Int) : Res := lab SE C Λ2 J 150 0 [1, 1, 1, 1, 1, 0, 0] (aV [(5, .d (.str a0)), (6, .d (.int .i64 a1))] [] [] [] [])
def apm (C : aP) (Λ2 J : Lam) (a0 : Str) (a1 : Int) : Res := lab SE C Λ2 J 150 0 [1, 1, 1, 1, 0, 0] (aV [(5, .d (.str a0)), (6, .d (.int .i64 a1))] [] [] [] [])
section
variable (Γ : Fun) (γ152 γ33 γ151 : Gm (Bool)) (Λ2 J : Lam)
def aeb : aP := bB (bB (bB (aR Γ) 152 brokerlaw43_light_out γ152) 33 brokerlaw43_light_out γ33) 151 brokerlaw43_light_out γ151
theorem aGj (p0 : Str) : bG SE (aeb Γ γ152 γ33 γ151) Λ2 J 150 [.d (.str p0)] [] [] =
 γ152 [.d (.str p0), .d (.str ([36, 115, 104, 97, 114, 101, 47] : Str))] [] [] fun r0 =>
 cond (!r0) (
 (some (.ret [.d (.str []), .d (.str []), .d (.bool false)] [] []))) (
 cond (decide (0 ≤ 7) && decide (7 ≤ ((List.length p0) : Int))) (
 apm (aeb Γ γ152 γ33 γ151) Λ2 J (dB p0 (some 7) none) 0) none) := by kernel_rfl
theorem aAR (x5 : Str) (x6 : Int) : bW SE (aeb Γ γ152 γ33 γ151) Λ2 J 150 0 [1, 1, 1, 1, 1, 1, 0] (aV [(5, .d (.str x5)), (6, .d (.int .i64 x6))] [] [] [] []) =
 cond (decide (0 ≤ x6) && decide (x6 ≤ ((List.length x5) : Int))) (
 cond (decide (0 ≤ (w6 (x6 + 1))) && decide ((w6 (x6 + 1)) ≤ ((List.length x5) : Int))) (
  (some (.ret [.d (.str (dB x5 none (some x6))), .d (.str (dB x5 (some (w6 (x6 + 1))) none)), .d (.bool true)] [] []))) none) none := by kernel_rfl
theorem aBc (x5 : Str) (x6 : Int) : bW SE (aeb Γ γ152 γ33 γ151) Λ2 J 150 0 [1, 1, 1, 1, 1, 0, 0] (aV [(5, .d (.str x5)), (6, .d (.int .i64 x6))] [] [] [] []) =
 cond (x6 == (List.length x5 : Int)) (
 (some (.ret [.d (.str []), .d (.str []), .d (.bool false)] [] []))) (
 cond (decide (0 ≤ x6) && decide (x6 ≤ ((List.length x5) : Int))) (
 γ33 [.d (.str (dB x5 none (some x6)))] [] [] fun r1 =>
 cond (!r1) (
  (some (.ret [.d (.str []), .d (.str []), .d (.bool false)] [] []))) (
 cond (decide (0 ≤ (w6 (x6 + 1))) && decide ((w6 (x6 + 1)) ≤ ((List.length x5) : Int))) (
  γ151 [.d (.str (dB x5 (some (w6 (x6 + 1))) none))] [] [] fun r2 =>
  cond (!r2) (
  (some (.ret [.d (.str []), .d (.str []), .d (.bool false)] [] []))) (
  cond (decide (0 ≤ (w6 (x6 + 1))) && decide ((w6 (x6 + 1)) ≤ ((List.length x5) : Int))) (
  γ152 [.d (.str (dB x5 (some (w6 (x6 + 1))) none)), .d (.str ([36, 115, 104, 97, 114, 101, 47] : Str))] [] [] fun r3 =>
  cond r3 (
   (some (.ret [.d (.str []), .d (.str []), .d (.bool false)] [] []))) (
  atN (aeb Γ γ152 γ33 γ151) Λ2 J x5 x6)) none)) none)) none) := by kernel_rfl
theorem azW (x5 : Str) (x6 : Int) : bW SE (aeb Γ γ152 γ33 γ151) Λ2 J 150 0 [1, 1, 1, 1, 0, 0] (aV [(5, .d (.str x5)), (6, .d (.int .i64 x6))] [] [] [] []) =
 cond (decide (x6 < (List.length x5 : Int))) (
 cond (iB x6 (List.length x5 : Int)) (
  cond ((UInt8.toNat (List.getD x5 (Int.toNat x6) 0) : Int) != 47) (
  apm (aeb Γ γ152 γ33 γ151) Λ2 J x5 (w6 (x6 + 1))) (
  apW (aeb Γ γ152 γ33 γ151) Λ2 J x5 x6)) none) (
 apW (aeb Γ γ152 γ33 γ151) Λ2 J x5 x6) := by kernel_rfl
end
abbrev aiv : aP := aeb gG (cT 152 brokerlaw43_light_out) (cT 33 brokerlaw43_light_out) (cT 151 brokerlaw43_light_out)
theorem aoM : aiv = aR gG := by unfold aiv aeb; repeat rw [bD fun _ h => h]
abbrev aBu := atN aiv (bV SE gG (SE.hl 150) (SE.hr 150)) (J0 SE aiv)
abbrev aB2 := apW aiv (bV SE gG (SE.hl 150) (SE.hr 150)) (J0 SE aiv)
abbrev azS := apm aiv (bV SE gG (SE.hl 150) (SE.hr 150)) (J0 SE aiv)
theorem aes (x5 : Str) (x6 : Int) : Le (Option.map cH (qL x5 x6)) (aBu x5 x6) := by
 refine Le.trans ?_ (le_of_eq ((aZ aoM).trans (aAR ..)).symm)
 unfold qL
 refine lF ?_
 refine lF ?_
 exact aJ rfl
theorem yL (x5 : Str) (x6 : Int) : Le (Option.map cH (kV x5 x6)) (aB2 x5 x6) := by
 refine Le.trans ?_ (le_of_eq ((aZ aoM).trans (aBc ..)).symm)
 unfold kV
 refine lC ?_ ?_
 ·exact aJ rfl
 ·refine lF ?_
  refine lQ eX brokerlaw43_light_inj (mU _) fun r1 _ => ?_
  refine lC ?_ ?_
  ·exact aJ rfl
  ·refine lF ?_
   refine lQ eX brokerlaw43_light_inj (aaR _) fun r2 _ => ?_
   refine lC ?_ ?_
   ·exact aJ rfl
   ·refine lF ?_
    refine lQ eX brokerlaw43_light_inj (vM _ _) fun r3 _ => ?_
    refine lC ?_ ?_
    ·exact aJ rfl
    ·exact aes x5 x6
theorem aeq : ∀ (fu : Nat) (x5 : Str) (x6 : Int), Le (Option.map cH (jE fu x5 x6)) (azS x5 x6) := by
 intro fu
 induction fu with
 | zero => intros; exact le_none
 | succ fu ih =>
  intro x5 x6
  refine Le.trans ?_ (le_of_eq ((aZ aoM).trans (azW ..)).symm)
  unfold jE
  refine lC ?_ ?_
  ·refine lF ?_
   refine lC ?_ ?_
   ·exact ih x5 (w6 (x6 + 1))
   ·exact yL x5 x6
  ·exact yL x5 x6
theorem aaU (p0 : Str) : Le (Option.map cH (nH p0)) (bF SE 150 [.d (.str p0)] [] []) := by
 refine aW aoM rfl ?_
 refine Le.trans ?_ (le_of_eq (aGj ..).symm)
 unfold nH
 refine lQ eX brokerlaw43_light_inj (vM _ _) fun r0 _ => ?_
 refine lC ?_ ?_
 ·exact aJ rfl
 ·refine lF ?_
  exact aeq fuel (dB p0 (some 7) none) 0
section
variable (Γ : Fun) (γ150 : Gm (Str × Str × Bool)) (γ151 γ152 : Gm (Bool)) (Λ2 J : Lam)
def av3 : aP := bB (bB (bB (aR Γ) 150 cH γ150) 151 brokerlaw43_light_out γ151) 152 brokerlaw43_light_out γ152
theorem aGs (p0 : Str) : bG SE (av3 Γ γ150 γ151 γ152) Λ2 J 133 [.d (.str p0)] [] [] =
 γ150 [.d (.str p0)] [] [] fun r0 =>
 cond r0.2.2 (
 (rB true)) (
 γ151 [.d (.str p0)] [] [] fun r1 =>
 cond r1 (
 γ152 [.d (.str p0), .d (.str ([36, 115, 104, 97, 114, 101, 47] : Str))] [] [] fun r2 =>
 (rB (!r2))) (
 (rB false))) := by kernel_rfl
end
abbrev azK : aP := av3 gG (cT 150 cH) (cT 151 brokerlaw43_light_out) (cT 152 brokerlaw43_light_out)
theorem aFg : azK = aR gG := by unfold azK av3; repeat rw [bD fun _ h => h]
theorem agN (p0 : Str) : Le (Option.map brokerlaw43_light_out (pV p0)) (bF SE 133 [.d (.str p0)] [] []) := by
 refine aW aFg rfl ?_
 refine Le.trans ?_ (le_of_eq (aGs ..).symm)
 unfold pV
 refine lQ eX o7 (aaU _) fun r0 _ => ?_
 refine lC ?_ ?_
 ·exact aJ rfl
 ·refine lQ eX brokerlaw43_light_inj (aaR _) fun r1 _ => ?_
  refine lC ?_ ?_
  ·refine lQ eX brokerlaw43_light_inj (vM _ _) fun r2 _ => ?_
   exact aJ rfl
  ·exact aJ rfl
section
variable (Γ : Fun)  (Λ2 J : Lam)
def aAx : aP := aR Γ
theorem aGi (p0 : Int) : bG SE (aAx Γ) Λ2 J 134 [.d (.int .i64 p0)] [] [] =
 cond (p0 == 0) (
 (rB true)) (
 cond (p0 == 1) (
 (rB true)) (
 (rB (p0 == 2)))) := by kernel_rfl
end
abbrev aGA : aP := aAx gG
theorem aDS : aGA = aR gG := rfl
theorem ag5 (p0 : Int) : Le (Option.map brokerlaw43_light_out (rU p0)) (bF SE 134 [.d (.int .i64 p0)] [] []) := by
 refine aW aDS rfl ?_
 refine Le.trans ?_ (le_of_eq (aGi ..).symm)
 unfold rU
 refine lC ?_ ?_
 ·exact aJ rfl
 ·refine lC ?_ ?_
  ·exact aJ rfl
  ·exact aJ rfl
section
variable (Γ : Fun) (γ150 : Gm (Str × Str × Bool)) (Λ2 J : Lam)
def avG : aP := bB (aR Γ) 150 cH γ150
theorem aHL (p0 : Str) : bG SE (avG Γ γ150) Λ2 J 135 [.d (.str p0)] [] [] =
 γ150 [.d (.str p0)] [] [] fun r0 =>
 (rB r0.2.2) := by kernel_rfl
end
abbrev aA9 : aP := avG gG (cT 150 cH)
theorem aD7 : aA9 = aR gG := by unfold aA9 avG; rw [bD fun _ h => h]
theorem agO (p0 : Str) : Le (Option.map brokerlaw43_light_out (uA p0)) (bF SE 135 [.d (.str p0)] [] []) := by
 refine aW aD7 rfl ?_
 refine Le.trans ?_ (le_of_eq (aHL ..).symm)
 unfold uA
 refine lQ eX o7 (aaU _) fun r0 _ => ?_
 exact aJ rfl
section
variable (Γ : Fun) (γ133 γ134 γ135 : Gm (Bool)) (Λ2 J : Lam)
def avn : aP := bB (bB (bB (aR Γ) 133 brokerlaw43_light_out γ133) 134 brokerlaw43_light_out γ134) 135 brokerlaw43_light_out γ135
theorem aG7 (p0 : aK) : bG SE (avn Γ γ133 γ134 γ135) Λ2 J 111 [aK.av p0] [] [] =
 γ133 [.d (.str p0.Filter)] [] [] fun r0 =>
 cond (!r0) (
 (rI 13)) (
 γ134 [.d (.int .i64 p0.Level)] [] [] fun r1 =>
 cond (!r1) (
 (rI 14)) (
 cond p0.NoLocal (
 γ135 [.d (.str p0.Filter)] [] [] fun r2 =>
 cond r2 (
  (rI 28)) (
 (rI 0))) (
 (rI 0)))) := by kernel_rfl
end
abbrev aAP : aP := avn gG (cT 133 brokerlaw43_light_out) (cT 134 brokerlaw43_light_out) (cT 135 brokerlaw43_light_out)
theorem aFb : aAP = aR gG := by unfold aAP avn; repeat rw [bD fun _ h => h]
theorem aiI (p0 : aK) : Le (Option.map aB (uC p0)) (bF SE 111 [aK.av p0] [] []) := by
 refine aW aFb rfl ?_
 refine Le.trans ?_ (le_of_eq (aG7 ..).symm)
 unfold uC
 refine lQ eX brokerlaw43_light_inj (agN _) fun r0 _ => ?_
 refine lC ?_ ?_
 ·exact aJ rfl
 ·refine lQ eX brokerlaw43_light_inj (ag5 _) fun r1 _ => ?_
  refine lC ?_ ?_
  ·exact aJ rfl
  ·refine lC ?_ ?_
   ·refine lQ eX brokerlaw43_light_inj (agO _) fun r2 _ => ?_
    refine lC ?_ ?_
    ·exact aJ rfl
    ·exact aJ rfl
   ·exact aJ rfl
def aoK (C : aP) (Λ2 J : Lam) (a0 : List (List D)) (a1 : Int) : Res := lab SE C Λ2 J 72 0 [1, 1, 0, 1, 0] (aV [(0, .d (.sl aK.ks a0)), (3, .d (.int .i64 a1))] [] [] [] [])
section
variable (Γ : Fun) (γ111 : Gm (Int)) (Λ2 J : Lam)
def C72 : aP := bB (aR Γ) 111 aB γ111
theorem T72 (p0 : List aK) : bG SE (C72 Γ γ111) Λ2 J 72 [.d (.sl aK.ks (List.map aK.enc p0))] [] [] =
 cond (decide ((lM aK.enc p0 : Int) > 32)) (
 (rI 5)) (
 aoK (C72 Γ γ111) Λ2 J (List.map aK.enc p0) 0) := by kernel_rfl
theorem aFr (x0 : List aK) (x3 : Int) : bW SE (C72 Γ γ111) Λ2 J 72 0 [1, 1, 0, 1, 0] (aV [(0, .d (.sl aK.ks (List.map aK.enc x0))), (3, .d (.int .i64 x3))] [] [] [] []) =
 cond (decide (x3 < (lM aK.enc x0 : Int))) (
 cond (iB x3 (lM aK.enc x0 : Int)) (
  γ111 [.agg [.d (.str (bL (cE aK.enc x0 x3 0))), .d (.int .i64 (aX (cE aK.enc x0 x3 1))), .d (.bool (dU (cE aK.enc x0 x3 2)))]] [] [] fun r0 =>
  cond (r0 != 0) (
  (rI r0)) (
  cond (decide (x3 > 0)) (
  cond (iB x3 (lM aK.enc x0 : Int)) (
   cond (iB (w6 (x3 - 1)) (lM aK.enc x0 : Int)) (
   cond (Op.bytesLess (bL (cE aK.enc x0 x3 0)) (bL (cE aK.enc x0 (w6 (x3 - 1)) 0)) || (bL (cE aK.enc x0 x3 0)) == (bL (cE aK.enc x0 (w6 (x3 - 1)) 0))) (
    (rI 22)) (
   aoK (C72 Γ γ111) Λ2 J (List.map aK.enc x0) (w6 (x3 + 1)))) none) none) (
  aoK (C72 Γ γ111) Λ2 J (List.map aK.enc x0) (w6 (x3 + 1))))) none) (
 (rI 0)) := by kernel_rfl
end
abbrev X72 : aP := C72 gG (cT 111 aB)
theorem aAz : X72 = aR gG := by unfold X72 C72; rw [bD fun _ h => h]
abbrev aFn := aoK X72 (bV SE gG (SE.hl 72) (SE.hr 72)) (J0 SE X72)
theorem afC : ∀ (fu : Nat) (x0 : List aK) (x3 : Int), Le (Option.map aB (iZ fu x0 x3)) (aFn (List.map aK.enc x0) x3) := by
 intro fu
 induction fu with
 | zero => intros; exact le_none
 | succ fu ih =>
  intro x0 x3
  refine Le.trans ?_ (le_of_eq ((aZ aAz).trans (aFr ..)).symm)
  unfold iZ
  refine lD (by simp only [EN]) ?_ ?_
  ·refine lG (by simp only [EN]) ?_
   refine lQ eX aM (by (try simp only [EN]); exact aiI (List.getD x0 (Int.toNat x3) default)) fun r0 _ => ?_
   refine lC ?_ ?_
   ·exact aJ rfl
   ·refine lC ?_ ?_
    ·refine lG (by simp only [EN]) ?_
     refine lG (by simp only [EN]) ?_
     refine lD (by simp only [EN]) ?_ ?_
     ·exact aJ rfl
     ·exact ih x0 (w6 (x3 + 1))
    ·exact ih x0 (w6 (x3 + 1))
  ·exact aJ rfl
theorem aic (p0 : List aK) : Le (Option.map aB (sM p0)) (bF SE 72 [.d (.sl aK.ks (List.map aK.enc p0))] [] []) := by
 refine aW aAz rfl ?_
 refine Le.trans ?_ (le_of_eq (T72 ..).symm)
 unfold sM
 refine lD (by simp only [EN]) ?_ ?_
 ·exact aJ rfl
 ·exact afC fuel p0 0
section
variable (Γ : Fun) (γ147 γ148 : Gm (Bool)) (Λ2 J : Lam)
def avF : aP := bB (bB (aR Γ) 147 brokerlaw43_light_out γ147) 148 brokerlaw43_light_out γ148
theorem aGP (p0 : Str) : bG SE (avF Γ γ147 γ148) Λ2 J 130 [.d (.str p0)] [] [] =
 γ147 [.d (.str p0)] [] [] fun r0 =>
 cond r0 (
 γ148 [.d (.str p0), .d (.int .u8 43)] [] [] fun r1 =>
 cond (!r1) (
  γ148 [.d (.str p0), .d (.int .u8 35)] [] [] fun r2 =>
  (rB (!r2))) (
 (rB false))) (
 (rB false)) := by kernel_rfl
end
abbrev aBt : aP := avF gG (cT 147 brokerlaw43_light_out) (cT 148 brokerlaw43_light_out)
theorem aFf : aBt = aR gG := by unfold aBt avF; repeat rw [bD fun _ h => h]
theorem ahJ (p0 : Str) : Le (Option.map brokerlaw43_light_out (rQ p0)) (bF SE 130 [.d (.str p0)] [] []) := by
 refine aW aFf rfl ?_
 refine Le.trans ?_ (le_of_eq (aGP ..).symm)
 unfold rQ
 refine lQ eX brokerlaw43_light_inj (abi _) fun r0 _ => ?_
 refine lC ?_ ?_
 ·refine lQ eX brokerlaw43_light_inj (p7 _ _) fun r1 _ => ?_
  refine lC ?_ ?_
  ·refine lQ eX brokerlaw43_light_inj (p7 _ _) fun r2 _ => ?_
   exact aJ rfl
  ·exact aJ rfl
 ·exact aJ rfl
def abJ (C : aP) (Λ2 J : Lam) (a0 : Str) (a1 : Int) : Res := lab SE C Λ2 J 149 0 [1, 1, 0, 1, 0] (aV [(0, .d (.str a0)), (3, .d (.int .i64 a1))] [] [] [] [])
def auJ (C : aP) (Λ2 J : Lam) (a0 : Str) : Res := lab SE C Λ2 J 149 0 [1, 1, 0, 0] (aV [(0, .d (.str a0))] [] [] [] [])
section
variable (Γ : Fun)  (Λ2 J : Lam)
def acn : aP := aR Γ
theorem aG3 (p0 : Str) : bG SE (acn Γ) Λ2 J 149 [.d (.str p0)] [] [] =
 cond (decide ((List.length p0 : Int) < 1)) (
 (rB false)) (
 cond (decide ((List.length p0 : Int) > 16)) (
 (rB false)) (
 auJ (acn Γ) Λ2 J p0)) := by kernel_rfl
theorem aBS (x0 : Str) (x3 : Int) : bW SE (acn Γ) Λ2 J 149 0 [1, 1, 0, 1, 0] (aV [(0, .d (.str x0)), (3, .d (.int .i64 x3))] [] [] [] []) =
 cond (decide (x3 < (List.length x0 : Int))) (
 cond (iB x3 (List.length x0 : Int)) (
  cond (decide ((UInt8.toNat (List.getD x0 (Int.toNat x3) 0) : Int) ≥ 97)) (
  cond (!(decide ((UInt8.toNat (List.getD x0 (Int.toNat x3) 0) : Int) ≤ 122))) (
   cond (decide ((UInt8.toNat (List.getD x0 (Int.toNat x3) 0) : Int) ≥ 48)) (
   cond (!(decide ((UInt8.toNat (List.getD x0 (Int.toNat x3) 0) : Int) ≤ 57))) (
    cond ((UInt8.toNat (List.getD x0 (Int.toNat x3) 0) : Int) != 45) (
    (rB false)) (
    abJ (acn Γ) Λ2 J x0 (w6 (x3 + 1)))) (
   abJ (acn Γ) Λ2 J x0 (w6 (x3 + 1)))) (
   cond ((UInt8.toNat (List.getD x0 (Int.toNat x3) 0) : Int) != 45) (
   (rB false)) (
   abJ (acn Γ) Λ2 J x0 (w6 (x3 + 1))))) (
  abJ (acn Γ) Λ2 J x0 (w6 (x3 + 1)))) (
  cond (decide ((UInt8.toNat (List.getD x0 (Int.toNat x3) 0) : Int) ≥ 48)) (
  cond (!(decide ((UInt8.toNat (List.getD x0 (Int.toNat x3) 0) : Int) ≤ 57))) (
   cond ((UInt8.toNat (List.getD x0 (Int.toNat x3) 0) : Int) != 45) (
   (rB false)) (
   abJ (acn Γ) Λ2 J x0 (w6 (x3 + 1)))) (
  abJ (acn Γ) Λ2 J x0 (w6 (x3 + 1)))) (
  cond ((UInt8.toNat (List.getD x0 (Int.toNat x3) 0) : Int) != 45) (
  (rB false)) (
  abJ (acn Γ) Λ2 J x0 (w6 (x3 + 1)))))) none) (
 (rB true)) := by kernel_rfl
theorem az2 (x0 : Str) : bW SE (acn Γ) Λ2 J 149 0 [1, 1, 0, 0] (aV [(0, .d (.str x0))] [] [] [] []) =
 abJ (acn Γ) Λ2 J x0 0 := by kernel_rfl
end
abbrev aoU : aP := acn gG
theorem as9 : aoU = aR gG := rfl
abbrev aAf := abJ aoU (bV SE gG (SE.hl 149) (SE.hr 149)) (J0 SE aoU)
abbrev aBH := auJ aoU (bV SE gG (SE.hl 149) (SE.hr 149)) (J0 SE aoU)
theorem agE : ∀ (fu : Nat) (x0 : Str) (x3 : Int), Le (Option.map brokerlaw43_light_out (eJ fu x0 x3)) (aAf x0 x3) := by
 intro fu
 induction fu with
 | zero => intros; exact le_none
 | succ fu ih =>
  intro x0 x3
  refine Le.trans ?_ (le_of_eq ((aZ as9).trans (aBS ..)).symm)
  unfold eJ
  refine lC ?_ ?_
  ·refine lF ?_
   refine lC ?_ ?_
   ·refine lC ?_ ?_
    ·refine lC ?_ ?_
     ·refine lC ?_ ?_
      ·refine lC ?_ ?_
       ·exact aJ rfl
       ·exact ih x0 (w6 (x3 + 1))
      ·exact ih x0 (w6 (x3 + 1))
     ·refine lC ?_ ?_
      ·exact aJ rfl
      ·exact ih x0 (w6 (x3 + 1))
    ·exact ih x0 (w6 (x3 + 1))
   ·refine lC ?_ ?_
    ·refine lC ?_ ?_
     ·refine lC ?_ ?_
      ·exact aJ rfl
      ·exact ih x0 (w6 (x3 + 1))
     ·exact ih x0 (w6 (x3 + 1))
    ·refine lC ?_ ?_
     ·exact aJ rfl
     ·exact ih x0 (w6 (x3 + 1))
  ·exact aJ rfl
theorem agC (x0 : Str) : Le (Option.map brokerlaw43_light_out (uR x0)) (aBH x0) := by
 refine Le.trans ?_ (le_of_eq ((aZ as9).trans (az2 ..)).symm)
 unfold uR
 exact agE fuel x0 0
theorem aiw (p0 : Str) : Le (Option.map brokerlaw43_light_out (uB p0)) (bF SE 149 [.d (.str p0)] [] []) := by
 refine aW as9 rfl ?_
 refine Le.trans ?_ (le_of_eq (aG3 ..).symm)
 unfold uB
 refine lC ?_ ?_
 ·exact aJ rfl
 ·refine lC ?_ ?_
  ·exact aJ rfl
  ·exact agC p0
def alV (C : aP) (Λ2 J : Lam) (a0 : List (List D)) (a1 : Int) : Res := lab SE C Λ2 J 131 0 [1, 1, 0, 1, 0] (aV [(0, .d (.sl aG.ks a0)), (3, .d (.int .i64 a1))] [] [] [] [])
section
variable (Γ : Fun) (γ149 : Gm (Bool)) (Λ2 J : Lam)
def ak3 : aP := bB (aR Γ) 149 brokerlaw43_light_out γ149
theorem aFW (p0 : List aG) : bG SE (ak3 Γ γ149) Λ2 J 131 [.d (.sl aG.ks (List.map aG.enc p0))] [] [] =
 cond (decide ((lM aG.enc p0 : Int) > 8)) (
 (rI 5)) (
 alV (ak3 Γ γ149) Λ2 J (List.map aG.enc p0) 0) := by kernel_rfl
theorem aza (x0 : List aG) (x3 : Int) : bW SE (ak3 Γ γ149) Λ2 J 131 0 [1, 1, 0, 1, 0] (aV [(0, .d (.sl aG.ks (List.map aG.enc x0))), (3, .d (.int .i64 x3))] [] [] [] []) =
 cond (decide (x3 < (lM aG.enc x0 : Int))) (
 cond (iB x3 (lM aG.enc x0 : Int)) (
  γ149 [.d (.str (bL (cE aG.enc x0 x3 0)))] [] [] fun r0 =>
  cond (!r0) (
  (rI 16)) (
  cond (iB x3 (lM aG.enc x0 : Int)) (
  cond (decide ((List.length (bL (cE aG.enc x0 x3 1)) : Int) > 160)) (
   (rI 5)) (
  cond (decide (x3 > 0)) (
   cond (iB x3 (lM aG.enc x0 : Int)) (
   cond (iB (w6 (x3 - 1)) (lM aG.enc x0 : Int)) (
    cond (Op.bytesLess (bL (cE aG.enc x0 x3 0)) (bL (cE aG.enc x0 (w6 (x3 - 1)) 0)) || (bL (cE aG.enc x0 x3 0)) == (bL (cE aG.enc x0 (w6 (x3 - 1)) 0))) (
    (rI 16)) (
    alV (ak3 Γ γ149) Λ2 J (List.map aG.enc x0) (w6 (x3 + 1)))) none) none) (
  alV (ak3 Γ γ149) Λ2 J (List.map aG.enc x0) (w6 (x3 + 1))))) none)) none) (
 (rI 0)) := by kernel_rfl
end
abbrev asK : aP := ak3 gG (cT 149 brokerlaw43_light_out)
theorem axN : asK = aR gG := by unfold asK ak3; rw [bD fun _ h => h]
abbrev aBd := alV asK (bV SE gG (SE.hl 131) (SE.hr 131)) (J0 SE asK)
theorem aeP : ∀ (fu : Nat) (x0 : List aG) (x3 : Int), Le (Option.map aB (iJ fu x0 x3)) (aBd (List.map aG.enc x0) x3) := by
 intro fu
 induction fu with
 | zero => intros; exact le_none
 | succ fu ih =>
  intro x0 x3
  refine Le.trans ?_ (le_of_eq ((aZ axN).trans (aza ..)).symm)
  unfold iJ
  refine lD (by simp only [EN]) ?_ ?_
  ·refine lG (by simp only [EN]) ?_
   refine lQ eX brokerlaw43_light_inj (by (try simp only [EN]); exact aiw ((List.getD x0 (Int.toNat x3) default).Key)) fun r0 _ => ?_
   refine lC ?_ ?_
   ·exact aJ rfl
   ·refine lG (by simp only [EN]) ?_
    refine lD (by simp only [EN]) ?_ ?_
    ·exact aJ rfl
    ·refine lC ?_ ?_
     ·refine lG (by simp only [EN]) ?_
      refine lG (by simp only [EN]) ?_
      refine lD (by simp only [EN]) ?_ ?_
      ·exact aJ rfl
      ·exact ih x0 (w6 (x3 + 1))
     ·exact ih x0 (w6 (x3 + 1))
  ·exact aJ rfl
theorem ahq (p0 : List aG) : Le (Option.map aB (rP p0)) (bF SE 131 [.d (.sl aG.ks (List.map aG.enc p0))] [] []) := by
 refine aW axN rfl ?_
 refine Le.trans ?_ (le_of_eq (aFW ..).symm)
 unfold rP
 refine lD (by simp only [EN]) ?_ ?_
 ·exact aJ rfl
 ·exact aeP fuel p0 0
def amE (C : aP) (Λ2 J : Lam) (a0 : List D) : Res := lab SE C Λ2 J 106 0 [1, 1, 1, 1, 1, 1, 0, 0] (aV [(1, .ptr 1000000000 0)] [⟨42, (List.map AV.d a0)⟩] [] [] [])
def atv (C : aP) (Λ2 J : Lam) (a0 : List D) : Res := lab SE C Λ2 J 106 0 [1, 1, 1, 1, 1, 0, 0] (aV [(1, .ptr 1000000000 0)] [⟨42, (List.map AV.d a0)⟩] [] [] [])
def atT (C : aP) (Λ2 J : Lam) (a0 : List D) : Res := lab SE C Λ2 J 106 0 [1, 1, 1, 1, 0, 0] (aV [(1, .ptr 1000000000 0)] [⟨42, (List.map AV.d a0)⟩] [] [] [])
section
variable (Γ : Fun) (γ130 γ33 : Gm (Bool)) (γ131 : Gm (Int)) (Λ2 J : Lam)
def afT : aP := bB (bB (bB (aR Γ) 130 brokerlaw43_light_out γ130) 33 brokerlaw43_light_out γ33) 131 aB γ131
theorem aGZ (p0 : aC) : bG SE (afT Γ γ130 γ33 γ131) Λ2 J 106 [aC.av p0] [] [] =
 γ130 [.d (.str p0.Topic)] [] [] fun r0 =>
 cond (!r0) (
 (rI 12)) (
 cond (decide ((List.length p0.Payload : Int) > 256)) (
 (rI 5)) (
 cond (decide (p0.Level < 0)) (
 (rI 14)) (
 cond (decide (p0.Level > 2)) (
 (rI 14)) (
 atT (afT Γ γ130 γ33 γ131) Λ2 J (aC.enc p0))))) := by kernel_rfl
theorem ayA (b0 : aC) : bW SE (afT Γ γ130 γ33 γ131) Λ2 J 106 0 [1, 1, 1, 1, 1, 1, 0, 0] (aV [(1, .ptr 1000000000 0)] [⟨42, (List.map AV.d (aC.enc b0))⟩] [] [] []) =
 cond (decide (b0.Seq < 0)) (
 (rI 1)) (
 cond (decide (b0.Seq > 1099511627776)) (
 (rI 1)) (
 γ131 [.d (.sl aG.ks (List.map aG.enc b0.Props))] [] [] fun r2 =>
 (rI r2))) := by kernel_rfl
theorem aBa (b0 : aC) : bW SE (afT Γ γ130 γ33 γ131) Λ2 J 106 0 [1, 1, 1, 1, 1, 0, 0] (aV [(1, .ptr 1000000000 0)] [⟨42, (List.map AV.d (aC.enc b0))⟩] [] [] []) =
 cond (!(b0.From == ([] : Str))) (
 γ33 [.d (.str b0.From)] [] [] fun r1 =>
 cond (!r1) (
  (rI 11)) (
 amE (afT Γ γ130 γ33 γ131) Λ2 J (aC.enc b0))) (
 amE (afT Γ γ130 γ33 γ131) Λ2 J (aC.enc b0)) := by kernel_rfl
theorem azX (b0 : aC) : bW SE (afT Γ γ130 γ33 γ131) Λ2 J 106 0 [1, 1, 1, 1, 0, 0] (aV [(1, .ptr 1000000000 0)] [⟨42, (List.map AV.d (aC.enc b0))⟩] [] [] []) =
 cond (decide (b0.Priority < 0)) (
 (rI 1)) (
 cond (decide (b0.Priority > 9)) (
 (rI 1)) (
 cond (decide (b0.Expires < 0)) (
 (rI 1)) (
 cond (decide (b0.Expires > 1099511627776)) (
 (rI 1)) (
 atv (afT Γ γ130 γ33 γ131) Λ2 J (aC.enc b0))))) := by kernel_rfl
end
abbrev aiN : aP := afT gG (cT 130 brokerlaw43_light_out) (cT 33 brokerlaw43_light_out) (cT 131 aB)
theorem aoP : aiN = aR gG := by unfold aiN afT; repeat rw [bD fun _ h => h]
abbrev aym := amE aiN (bV SE gG (SE.hl 106) (SE.hr 106)) (J0 SE aiN)
abbrev aAI := atv aiN (bV SE gG (SE.hl 106) (SE.hr 106)) (J0 SE aiN)
abbrev ayO := atT aiN (bV SE gG (SE.hl 106) (SE.hr 106)) (J0 SE aiN)
theorem yI (b0 : aC) : Le (Option.map aB (kW b0)) (aym (aC.enc b0)) := by
 refine Le.trans ?_ (le_of_eq ((aZ aoP).trans (ayA ..)).symm)
 unfold kW
 refine lC ?_ ?_
 ·exact aJ rfl
 ·refine lC ?_ ?_
  ·exact aJ rfl
  ·refine lQ eX aM (ahq _) fun r2 _ => ?_
   exact aJ rfl
theorem aeY (b0 : aC) : Le (Option.map aB (oK b0)) (aAI (aC.enc b0)) := by
 refine Le.trans ?_ (le_of_eq ((aZ aoP).trans (aBa ..)).symm)
 unfold oK
 refine lC ?_ ?_
 ·refine lQ eX brokerlaw43_light_inj (mU _) fun r1 _ => ?_
  refine lC ?_ ?_
  ·exact aJ rfl
  ·exact yI b0
 ·exact yI b0
theorem aeU (b0 : aC) : Le (Option.map aB (oH b0)) (ayO (aC.enc b0)) := by
 refine Le.trans ?_ (le_of_eq ((aZ aoP).trans (azX ..)).symm)
 unfold oH
 refine lC ?_ ?_
 ·exact aJ rfl
 ·refine lC ?_ ?_
  ·exact aJ rfl
  ·refine lC ?_ ?_
   ·exact aJ rfl
   ·refine lC ?_ ?_
    ·exact aJ rfl
    ·exact aeY b0
theorem sB (p0 : aC) : Le (Option.map aB (hJ p0)) (bF SE 106 [aC.av p0] [] []) := by
 refine aW aoP rfl ?_
 refine Le.trans ?_ (le_of_eq (aGZ ..).symm)
 unfold hJ
 refine lQ eX brokerlaw43_light_inj (ahJ _) fun r0 _ => ?_
 refine lC ?_ ?_
 ·exact aJ rfl
 ·refine lC ?_ ?_
  ·exact aJ rfl
  ·refine lC ?_ ?_
   ·exact aJ rfl
   ·refine lC ?_ ?_
    ·exact aJ rfl
    ·exact aeU p0
def asP (C : aP) (Λ2 J : Lam) (a0 : List (List D)) (a1 : Int) : Res := lab SE C Λ2 J 73 0 [1, 1, 0, 1, 0] (aV [(0, .d (.sl aC.ks a0)), (3, .d (.int .i64 a1))] [] [] [] [])
section
variable (Γ : Fun) (γ106 : Gm (Int)) (Λ2 J : Lam)
def C73 : aP := bB (aR Γ) 106 aB γ106
theorem T73 (p0 : List aC) : bG SE (C73 Γ γ106) Λ2 J 73 [.d (.sl aC.ks (List.map aC.enc p0))] [] [] =
 cond (decide ((lM aC.enc p0 : Int) > 256)) (
 (rI 5)) (
 asP (C73 Γ γ106) Λ2 J (List.map aC.enc p0) 0) := by kernel_rfl
theorem aE8 (x0 : List aC) (x3 : Int) : bW SE (C73 Γ γ106) Λ2 J 73 0 [1, 1, 0, 1, 0] (aV [(0, .d (.sl aC.ks (List.map aC.enc x0))), (3, .d (.int .i64 x3))] [] [] [] []) =
 cond (decide (x3 < (lM aC.enc x0 : Int))) (
 cond (iB x3 (lM aC.enc x0 : Int)) (
  γ106 [.agg [.d (.str (bL (cE aC.enc x0 x3 0))), .d (.str (bL (cE aC.enc x0 x3 1))), .d (.int .i64 (aX (cE aC.enc x0 x3 2))), .d (.bool (dU (cE aC.enc x0 x3 3))), .d (.int .i64 (aX (cE aC.enc x0 x3 4))), .d (.int .i64 (aX (cE aC.enc x0 x3 5))), .d (.str (bL (cE aC.enc x0 x3 6))), .d (.int .i64 (aX (cE aC.enc x0 x3 7))), .d (.sl aG.ks (dSl (cE aC.enc x0 x3 8)))]] [] [] fun r0 =>
  cond (r0 != 0) (
  (rI r0)) (
  asP (C73 Γ γ106) Λ2 J (List.map aC.enc x0) (w6 (x3 + 1)))) none) (
 (rI 0)) := by kernel_rfl
end
abbrev X73 : aP := C73 gG (cT 106 aB)
theorem aBZ : X73 = aR gG := by unfold X73 C73; rw [bD fun _ h => h]
abbrev aCM := asP X73 (bV SE gG (SE.hl 73) (SE.hr 73)) (J0 SE X73)
theorem aeM : ∀ (fu : Nat) (x0 : List aC) (x3 : Int), Le (Option.map aB (jV fu x0 x3)) (aCM (List.map aC.enc x0) x3) := by
 intro fu
 induction fu with
 | zero => intros; exact le_none
 | succ fu ih =>
  intro x0 x3
  refine Le.trans ?_ (le_of_eq ((aZ aBZ).trans (aE8 ..)).symm)
  unfold jV
  refine lD (by simp only [EN]) ?_ ?_
  ·refine lG (by simp only [EN]) ?_
   refine lQ eX aM (by (try simp only [EN]); exact sB (List.getD x0 (Int.toNat x3) default)) fun r0 _ => ?_
   refine lC ?_ ?_
   ·exact aJ rfl
   ·exact ih x0 (w6 (x3 + 1))
  ·exact aJ rfl
theorem ag9 (p0 : List aC) : Le (Option.map aB (rL p0)) (bF SE 73 [.d (.sl aC.ks (List.map aC.enc p0))] [] []) := by
 refine aW aBZ rfl ?_
 refine Le.trans ?_ (le_of_eq (T73 ..).symm)
 unfold rL
 refine lD (by simp only [EN]) ?_ ?_
 ·exact aJ rfl
 ·exact aeM fuel p0 0
def alS (C : aP) (Λ2 J : Lam) (a0 : Int) (a1 : List D) : Res := lab SE C Λ2 J 112 0 [1, 1, 0, 1, 0] (aV [(1, .ptr 1000000000 0), (3, .d (.int .i64 a0))] [⟨35, (List.map AV.d a1)⟩] [] [] [])
section
variable (Γ : Fun)  (Λ2 J : Lam)
def anx : aP := aR Γ
theorem aGk (p0 : bE) : bG SE (anx Γ) Λ2 J 112 [bE.av p0] [] [] =
 cond (decide ((lM eI p0.Used : Int) > 32)) (
 (rI 5)) (
 alS (anx Γ) Λ2 J 0 (bE.enc p0)) := by kernel_rfl
theorem aA8 (x3 : Int) (b0 : bE) : bW SE (anx Γ) Λ2 J 112 0 [1, 1, 0, 1, 0] (aV [(1, .ptr 1000000000 0), (3, .d (.int .i64 x3))] [⟨35, (List.map AV.d (bE.enc b0))⟩] [] [] []) =
 cond (decide (x3 < (lM eI b0.Used : Int))) (
 cond (iB x3 (lM eI b0.Used : Int)) (
  cond (decide ((aX (cE eI b0.Used x3 0)) < 1)) (
  (rI 15)) (
  cond (iB x3 (lM eI b0.Used : Int)) (
  cond (decide ((aX (cE eI b0.Used x3 0)) > 65535)) (
   (rI 15)) (
  cond (decide (x3 > 0)) (
   cond (iB x3 (lM eI b0.Used : Int)) (
   cond (iB (w6 (x3 - 1)) (lM eI b0.Used : Int)) (
    cond (decide ((aX (cE eI b0.Used x3 0)) ≤ (aX (cE eI b0.Used (w6 (x3 - 1)) 0)))) (
    (rI 15)) (
    alS (anx Γ) Λ2 J (w6 (x3 + 1)) (bE.enc b0))) none) none) (
  alS (anx Γ) Λ2 J (w6 (x3 + 1)) (bE.enc b0)))) none)) none) (
 cond (decide (b0.Last < 0)) (
 (rI 1)) (
 cond (decide (b0.Last > 65535)) (
 (rI 1)) (
 (rI 0)))) := by kernel_rfl
end
abbrev avj : aP := anx gG
theorem aw9 : avj = aR gG := rfl
abbrev aAK := alS avj (bV SE gG (SE.hl 112) (SE.hr 112)) (J0 SE avj)
theorem aeO : ∀ (fu : Nat) (x3 : Int) (b0 : bE), Le (Option.map aB (eT fu x3 b0)) (aAK x3 (bE.enc b0)) := by
 intro fu
 induction fu with
 | zero => intros; exact le_none
 | succ fu ih =>
  intro x3 b0
  refine Le.trans ?_ (le_of_eq ((aZ aw9).trans (aA8 ..)).symm)
  unfold eT
  refine lD (by simp only [EN]) ?_ ?_
  ·refine lG (by simp only [EN]) ?_
   refine lD (by simp only [EN]) ?_ ?_
   ·exact aJ rfl
   ·refine lG (by simp only [EN]) ?_
    refine lD (by simp only [EN]) ?_ ?_
    ·exact aJ rfl
    ·refine lC ?_ ?_
     ·refine lG (by simp only [EN]) ?_
      refine lG (by simp only [EN]) ?_
      refine lD (by simp only [EN]) ?_ ?_
      ·exact aJ rfl
      ·exact ih (w6 (x3 + 1)) b0
     ·exact ih (w6 (x3 + 1)) b0
  ·refine lC ?_ ?_
   ·exact aJ rfl
   ·refine lC ?_ ?_
    ·exact aJ rfl
    ·exact aJ rfl
theorem abb (p0 : bE) : Le (Option.map aB (kD p0)) (bF SE 112 [bE.av p0] [] []) := by
 refine aW aw9 rfl ?_
 refine Le.trans ?_ (le_of_eq (aGk ..).symm)
 unfold kD
 refine lD (by simp only [EN]) ?_ ?_
 ·exact aJ rfl
 ·exact aeO fuel 0 p0
def apu (C : aP) (Λ2 J : Lam) (a0 a1 : Int) (a2 : List D) : Res := lab SE C Λ2 J 136 0 [1, 0, 1, 0] (aV [(1, .d (.int .i64 a0)), (2, .ptr 1000000000 0), (5, .d (.int .i64 a1))] [⟨35, (List.map AV.d a2)⟩] [] [] [])
section
variable (Γ : Fun)  (Λ2 J : Lam)
def aqC : aP := aR Γ
theorem aF3 (p0 : bE) (p1 : Int) : bG SE (aqC Γ) Λ2 J 136 [bE.av p0, .d (.int .i64 p1)] [] [] =
 apu (aqC Γ) Λ2 J p1 0 (bE.enc p0) := by kernel_rfl
theorem aBQ (x1 x5 : Int) (b0 : bE) : bW SE (aqC Γ) Λ2 J 136 0 [1, 0, 1, 0] (aV [(1, .d (.int .i64 x1)), (2, .ptr 1000000000 0), (5, .d (.int .i64 x5))] [⟨35, (List.map AV.d (bE.enc b0))⟩] [] [] []) =
 cond (decide (x5 < (lM eI b0.Used : Int))) (
 cond (iB x5 (lM eI b0.Used : Int)) (
  cond ((aX (cE eI b0.Used x5 0)) == x1) (
  (rB true)) (
  apu (aqC Γ) Λ2 J x1 (w6 (x5 + 1)) (bE.enc b0))) none) (
 (rB false)) := by kernel_rfl
end
abbrev avQ : aP := aqC gG
theorem axv : avQ = aR gG := rfl
abbrev aAQ := apu avQ (bV SE gG (SE.hl 136) (SE.hr 136)) (J0 SE avQ)
theorem agd : ∀ (fu : Nat) (x1 x5 : Int) (b0 : bE), Le (Option.map brokerlaw43_light_out (lP fu x1 x5 b0)) (aAQ x1 x5 (bE.enc b0)) := by
 intro fu
 induction fu with
 | zero => intros; exact le_none
 | succ fu ih =>
  intro x1 x5 b0
  refine Le.trans ?_ (le_of_eq ((aZ axv).trans (aBQ ..)).symm)
  unfold lP
  refine lD (by simp only [EN]) ?_ ?_
  ·refine lG (by simp only [EN]) ?_
   refine lD (by simp only [EN]) ?_ ?_
   ·exact aJ rfl
   ·exact ih x1 (w6 (x5 + 1)) b0
  ·exact aJ rfl
theorem ajo (p0 : bE) (p1 : Int) : Le (Option.map brokerlaw43_light_out (uH p0 p1)) (bF SE 136 [bE.av p0, .d (.int .i64 p1)] [] []) := by
 refine aW axv rfl ?_
 refine Le.trans ?_ (le_of_eq (aF3 ..).symm)
 unfold uH
 exact agd fuel p1 0 p0
def aqo (C : aP) (Λ2 J : Lam) (a0 : List (List D)) (a1 a2 : Int) : Res := lab SE C Λ2 J 137 0 [1, 0, 1, 0] (aV [(0, .d (.sl aE.ks a0)), (1, .d (.int .i64 a1)), (5, .d (.int .i64 a2))] [] [] [] [])
section
variable (Γ : Fun)  (Λ2 J : Lam)
def ao9 : aP := aR Γ
theorem aGo (p0 : List aE) (p1 : Int) : bG SE (ao9 Γ) Λ2 J 137 [.d (.sl aE.ks (List.map aE.enc p0)), .d (.int .i64 p1)] [] [] =
 aqo (ao9 Γ) Λ2 J (List.map aE.enc p0) p1 0 := by kernel_rfl
theorem az5 (x0 : List aE) (x1 x5 : Int) : bW SE (ao9 Γ) Λ2 J 137 0 [1, 0, 1, 0] (aV [(0, .d (.sl aE.ks (List.map aE.enc x0))), (1, .d (.int .i64 x1)), (5, .d (.int .i64 x5))] [] [] [] []) =
 cond (decide (x5 < (lM aE.enc x0 : Int))) (
 cond (iB x5 (lM aE.enc x0 : Int)) (
  cond ((aX (cE aE.enc x0 x5 0)) == x1) (
  (rI x5)) (
  aqo (ao9 Γ) Λ2 J (List.map aE.enc x0) x1 (w6 (x5 + 1)))) none) (
 (rI (-1))) := by kernel_rfl
end
abbrev awW : aP := ao9 gG
theorem axi : awW = aR gG := rfl
abbrev ay2 := aqo awW (bV SE gG (SE.hl 137) (SE.hr 137)) (J0 SE awW)
theorem ag1 : ∀ (fu : Nat) (x0 : List aE) (x1 x5 : Int), Le (Option.map aB (mJ fu x0 x1 x5)) (ay2 (List.map aE.enc x0) x1 x5) := by
 intro fu
 induction fu with
 | zero => intros; exact le_none
 | succ fu ih =>
  intro x0 x1 x5
  refine Le.trans ?_ (le_of_eq ((aZ axi).trans (az5 ..)).symm)
  unfold mJ
  refine lD (by simp only [EN]) ?_ ?_
  ·refine lG (by simp only [EN]) ?_
   refine lD (by simp only [EN]) ?_ ?_
   ·exact aJ rfl
   ·exact ih x0 x1 (w6 (x5 + 1))
  ·exact aJ rfl
theorem aj8 (p0 : List aE) (p1 : Int) : Le (Option.map aB (vE p0 p1)) (bF SE 137 [.d (.sl aE.ks (List.map aE.enc p0)), .d (.int .i64 p1)] [] []) := by
 refine aW axi rfl ?_
 refine Le.trans ?_ (le_of_eq (aGo ..).symm)
 unfold vE
 exact ag1 fuel p0 p1 0
def auG (C : aP) (Λ2 J : Lam) (a0 : List D) : Res := lab SE C Λ2 J 113 0 [1, 1, 1, 0] (aV [(5, .ptr 1000000000 0)] [⟨78, (List.map AV.d a0)⟩] [] [] [])
section
variable (Γ : Fun) (γ136 : Gm (Bool)) (γ137 γ106 : Gm (Int)) (Λ2 J : Lam)
def aqe : aP := bB (bB (bB (aR Γ) 136 brokerlaw43_light_out γ136) 137 aB γ137) 106 aB γ106
theorem aF7 (p0 : aO) (p1 : Int) : bG SE (aqe Γ γ136 γ137 γ106) Λ2 J 113 [aO.av p0, .d (.int .i64 p1)] [] [] =
 cond (iB p1 (lM aE.enc p0.Items : Int)) (
 γ136 [bE.av p0.Pool, .d (.int .i64 (aX (cE aE.enc p0.Items p1 0)))] [] [] fun r0 =>
 cond (!r0) (
  (rI 15)) (
 γ137 [.d (.sl aE.ks (List.map aE.enc p0.Items)), .d (.int .i64 (aX (cE aE.enc p0.Items p1 0)))] [] [] fun r1 =>
 cond (decide (r1 < p1)) (
  (rI 15)) (
 auG (aqe Γ γ136 γ137 γ106) Λ2 J [D.int .i64 (aX (cE aE.enc p0.Items p1 0)), D.int .i64 (aX (cE aE.enc p0.Items p1 1)), D.str (bL (cE aE.enc p0.Items p1 2)), D.str (bL (cE aE.enc p0.Items p1 3)), D.int .i64 (aX (cE aE.enc p0.Items p1 4)), D.bool (dU (cE aE.enc p0.Items p1 5)), D.int .i64 (aX (cE aE.enc p0.Items p1 6)), D.int .i64 (aX (cE aE.enc p0.Items p1 7)), D.str (bL (cE aE.enc p0.Items p1 8)), D.int .i64 (aX (cE aE.enc p0.Items p1 9)), D.sl aG.ks (dSl (cE aE.enc p0.Items p1 10))]))) none := by kernel_rfl
theorem aBe (b0 : aE) : bW SE (aqe Γ γ136 γ137 γ106) Λ2 J 113 0 [1, 1, 1, 0] (aV [(5, .ptr 1000000000 0)] [⟨78, (List.map AV.d (aE.enc b0))⟩] [] [] []) =
 γ106 [aC.av b0.Message] [] [] fun r2 =>
 cond (r2 != 0) (
 (rI r2)) (
 cond (b0.Message.Level == 0) (
 (rI 14)) (
 cond (b0.State != 1) (
 cond (b0.State != 2) (
  (rI 9)) (
 cond (b0.Message.Level == 1) (
  (rI 9)) (
 (rI 0)))) (
 (rI 0)))) := by kernel_rfl
end
abbrev asR : aP := aqe gG (cT 136 brokerlaw43_light_out) (cT 137 aB) (cT 106 aB)
theorem axx : asR = aR gG := by unfold asR aqe; repeat rw [bD fun _ h => h]
abbrev aAk := auG asR (bV SE gG (SE.hl 113) (SE.hr 113)) (J0 SE asR)
theorem af4 (b0 : aE) : Le (Option.map aB (tN b0)) (aAk (aE.enc b0)) := by
 refine Le.trans ?_ (le_of_eq ((aZ axx).trans (aBe ..)).symm)
 unfold tN
 refine lQ eX aM (sB _) fun r2 _ => ?_
 refine lC ?_ ?_
 ·exact aJ rfl
 ·refine lC ?_ ?_
  ·exact aJ rfl
  ·refine lC ?_ ?_
   ·refine lC ?_ ?_
    ·exact aJ rfl
    ·refine lC ?_ ?_
     ·exact aJ rfl
     ·exact aJ rfl
   ·exact aJ rfl
theorem ah5 (p0 : aO) (p1 : Int) : Le (Option.map aB (s9 p0 p1)) (bF SE 113 [aO.av p0, .d (.int .i64 p1)] [] []) := by
 refine aW axx rfl ?_
 refine Le.trans ?_ (le_of_eq (aF7 ..).symm)
 unfold s9
 refine lG (by simp only [EN]) ?_
 refine lQ eX brokerlaw43_light_inj (by (try simp only [EN]); exact ajo p0.Pool ((List.getD p0.Items (Int.toNat p1) default).ID)) fun r0 _ => ?_
 refine lC ?_ ?_
 ·exact aJ rfl
 ·refine lQ eX aM (by (try simp only [EN]); exact aj8 p0.Items ((List.getD p0.Items (Int.toNat p1) default).ID)) fun r1 _ => ?_
  refine lC ?_ ?_
  ·exact aJ rfl
  ·(try simp only [EN]); exact af4 (List.getD p0.Items (Int.toNat p1) default)
def ash (C : aP) (Λ2 J : Lam) (a0 : Int) (a1 : List D) : Res := lab SE C Λ2 J 74 0 [1, 1, 1, 1, 1, 0, 1, 0] (aV [(1, .ptr 1000000000 0), (4, .d (.int .i64 a0))] [⟨37, (List.map AV.d a1)⟩] [] [] [])
def axT (C : aP) (Λ2 J : Lam) (a0 : List D) : Res := lab SE C Λ2 J 74 0 [1, 1, 0] (aV [(1, .ptr 1000000000 0)] [⟨37, (List.map AV.d a0)⟩] [] [] [])
section
variable (Γ : Fun) (γ112 γ113 : Gm (Int)) (Λ2 J : Lam)
def C74 : aP := bB (bB (aR Γ) 112 aB γ112) 113 aB γ113
theorem T74 (p0 : aO) : bG SE (C74 Γ γ112 γ113) Λ2 J 74 [aO.av p0] [] [] =
 cond (decide (p0.Limit < 0)) (
 (rI 1)) (
 cond (decide (p0.Limit > 32)) (
 (rI 1)) (
 axT (C74 Γ γ112 γ113) Λ2 J (aO.enc p0))) := by kernel_rfl
theorem aEm (x4 : Int) (b0 : aO) : bW SE (C74 Γ γ112 γ113) Λ2 J 74 0 [1, 1, 1, 1, 1, 0, 1, 0] (aV [(1, .ptr 1000000000 0), (4, .d (.int .i64 x4))] [⟨37, (List.map AV.d (aO.enc b0))⟩] [] [] []) =
 cond (decide (x4 < (lM aE.enc b0.Items : Int))) (
 γ113 [aO.av b0, .d (.int .i64 x4)] [] [] fun r1 =>
 cond (r1 != 0) (
  (rI r1)) (
 ash (C74 Γ γ112 γ113) Λ2 J (w6 (x4 + 1)) (aO.enc b0))) (
 cond (decide ((lM aE.enc b0.Items : Int) < (lM eI b0.Pool.Used : Int))) (
 (rI 15)) (
 (rI 0))) := by kernel_rfl
theorem aFm (b0 : aO) : bW SE (C74 Γ γ112 γ113) Λ2 J 74 0 [1, 1, 0] (aV [(1, .ptr 1000000000 0)] [⟨37, (List.map AV.d (aO.enc b0))⟩] [] [] []) =
 γ112 [bE.av b0.Pool] [] [] fun r0 =>
 cond (r0 != 0) (
 (rI r0)) (
 cond (decide ((lM aE.enc b0.Items : Int) > 32)) (
 (rI 5)) (
 ash (C74 Γ γ112 γ113) Λ2 J 0 (aO.enc b0))) := by kernel_rfl
end
abbrev X74 : aP := C74 gG (cT 112 aB) (cT 113 aB)
theorem avv : X74 = aR gG := by unfold X74 C74; repeat rw [bD fun _ h => h]
abbrev aCW := ash X74 (bV SE gG (SE.hl 74) (SE.hr 74)) (J0 SE X74)
abbrev aEn := axT X74 (bV SE gG (SE.hl 74) (SE.hr 74)) (J0 SE X74)
theorem aeS : ∀ (fu : Nat) (x4 : Int) (b0 : aO), Le (Option.map aB (jZ fu x4 b0)) (aCW x4 (aO.enc b0)) := by
 intro fu
 induction fu with
 | zero => intros; exact le_none
 | succ fu ih =>
  intro x4 b0
  refine Le.trans ?_ (le_of_eq ((aZ avv).trans (aEm ..)).symm)
  unfold jZ
  refine lD (by simp only [EN]) ?_ ?_
  ·refine lQ eX aM (ah5 _ _) fun r1 _ => ?_
   refine lC ?_ ?_
   ·exact aJ rfl
   ·exact ih (w6 (x4 + 1)) b0
  ·refine lD (by simp only [EN]) ?_ ?_
   ·exact aJ rfl
   ·exact aJ rfl
theorem aeR (b0 : aO) : Le (Option.map aB (sD b0)) (aEn (aO.enc b0)) := by
 refine Le.trans ?_ (le_of_eq ((aZ avv).trans (aFm ..)).symm)
 unfold sD
 refine lQ eX aM (abb _) fun r0 _ => ?_
 refine lC ?_ ?_
 ·exact aJ rfl
 ·refine lD (by simp only [EN]) ?_ ?_
  ·exact aJ rfl
  ·exact aeS fuel 0 b0
theorem ahe (p0 : aO) : Le (Option.map aB (rO p0)) (bF SE 74 [aO.av p0] [] []) := by
 refine aW avv rfl ?_
 refine Le.trans ?_ (le_of_eq (T74 ..).symm)
 unfold rO
 refine lC ?_ ?_
 ·exact aJ rfl
 ·refine lC ?_ ?_
  ·exact aJ rfl
  ·exact aeR p0
section
variable (Γ : Fun) (γ112 : Gm (Int)) (Λ2 J : Lam)
def C75 : aP := bB (aR Γ) 112 aB γ112
theorem T75 (p0 : bO) : bG SE (C75 Γ γ112) Λ2 J 75 [bO.av p0] [] [] =
 γ112 [bE.av (bE.mk p0.IDs 0)] [] [] fun r0 =>
 (rI r0) := by kernel_rfl
end
abbrev X75 : aP := C75 gG (cT 112 aB)
theorem aGx : X75 = aR gG := by unfold X75 C75; rw [bD fun _ h => h]
theorem ahu (p0 : bO) : Le (Option.map aB (rS p0)) (bF SE 75 [bO.av p0] [] []) := by
 refine aW aGx rfl ?_
 refine Le.trans ?_ (le_of_eq (T75 ..).symm)
 unfold rS
 refine lQ eX aM (abb _) fun r0 _ => ?_
 exact aJ rfl
def aql (C : aP) (Λ2 J : Lam) (a0 a1 : List (List D)) (a2 : Int) : Res := lab SE C Λ2 J 132 0 [1, 1, 0, 1, 0] (aV [(0, .d (.sl aG.ks a0)), (1, .d (.sl aG.ks a1)), (5, .d (.int .i64 a2))] [] [] [] [])
section
variable (Γ : Fun)  (Λ2 J : Lam)
def ap6 : aP := aR Γ
theorem aFM (p0 p1 : List aG) : bG SE (ap6 Γ) Λ2 J 132 [.d (.sl aG.ks (List.map aG.enc p0)), .d (.sl aG.ks (List.map aG.enc p1))] [] [] =
 cond ((lM aG.enc p0 : Int) != (lM aG.enc p1 : Int)) (
 (rB false)) (
 aql (ap6 Γ) Λ2 J (List.map aG.enc p0) (List.map aG.enc p1) 0) := by kernel_rfl
theorem aAE (x0 x1 : List aG) (x5 : Int) : bW SE (ap6 Γ) Λ2 J 132 0 [1, 1, 0, 1, 0] (aV [(0, .d (.sl aG.ks (List.map aG.enc x0))), (1, .d (.sl aG.ks (List.map aG.enc x1))), (5, .d (.int .i64 x5))] [] [] [] []) =
 cond (decide (x5 < (lM aG.enc x0 : Int))) (
 cond (iB x5 (lM aG.enc x0 : Int)) (
  cond (iB x5 (lM aG.enc x1 : Int)) (
  cond (!(((bL (cE aG.enc x0 x5 0)) == (bL (cE aG.enc x1 x5 0))) && (((bL (cE aG.enc x0 x5 1)) == (bL (cE aG.enc x1 x5 1))) && true))) (
   (rB false)) (
  aql (ap6 Γ) Λ2 J (List.map aG.enc x0) (List.map aG.enc x1) (w6 (x5 + 1)))) none) none) (
 (rB true)) := by kernel_rfl
end
abbrev awo : aP := ap6 gG
theorem axK : awo = aR gG := rfl
abbrev aAA := aql awo (bV SE gG (SE.hl 132) (SE.hr 132)) (J0 SE awo)
theorem acU : ∀ (fu : Nat) (x0 x1 : List aG) (x5 : Int), Le (Option.map brokerlaw43_light_out (gO fu x0 x1 x5)) (aAA (List.map aG.enc x0) (List.map aG.enc x1) x5) := by
 intro fu
 induction fu with
 | zero => intros; exact le_none
 | succ fu ih =>
  intro x0 x1 x5
  refine Le.trans ?_ (le_of_eq ((aZ axK).trans (aAE ..)).symm)
  unfold gO
  refine lD (by simp only [EN]) ?_ ?_
  ·refine lG (by simp only [EN]) ?_
   refine lG (by simp only [EN]) ?_
   refine lD (by simp only [EN]) ?_ ?_
   ·exact aJ rfl
   ·exact ih x0 x1 (w6 (x5 + 1))
  ·exact aJ rfl
theorem aec (p0 p1 : List aG) : Le (Option.map brokerlaw43_light_out (nF p0 p1)) (bF SE 132 [.d (.sl aG.ks (List.map aG.enc p0)), .d (.sl aG.ks (List.map aG.enc p1))] [] []) := by
 refine aW axK rfl ?_
 refine Le.trans ?_ (le_of_eq (aFM ..).symm)
 unfold nF
 refine lD (by simp only [EN]) ?_ ?_
 ·exact aJ rfl
 ·exact acU fuel p0 p1 0
section
variable (Γ : Fun) (γ132 : Gm (Bool)) (Λ2 J : Lam)
def awX : aP := bB (aR Γ) 132 brokerlaw43_light_out γ132
theorem aFZ (p0 p1 : aC) : bG SE (awX Γ γ132) Λ2 J 107 [aC.av p0, aC.av p1] [] [] =
 cond (p0.Topic == p1.Topic) (
 cond (p0.Payload == p1.Payload) (
  cond (p0.Level == p1.Level) (
  cond (p0.Retain == p1.Retain) (
   cond (p0.Priority == p1.Priority) (
   cond (p0.Expires == p1.Expires) (
    cond (p0.From == p1.From) (
    cond (p0.Seq == p1.Seq) (
     γ132 [.d (.sl aG.ks (List.map aG.enc p0.Props)), .d (.sl aG.ks (List.map aG.enc p1.Props))] [] [] fun r0 =>
     (rB r0)) (
    (rB false))) (
    (rB false))) (
   (rB false))) (
   (rB false))) (
  (rB false))) (
  (rB false))) (
 (rB false))) (
 (rB false)) := by kernel_rfl
end
abbrev azJ : aP := awX gG (cT 132 brokerlaw43_light_out)
theorem aCC : azJ = aR gG := by unfold azJ awX; rw [bD fun _ h => h]
theorem tL (p0 p1 : aC) : Le (Option.map brokerlaw43_light_out (lH p0 p1)) (bF SE 107 [aC.av p0, aC.av p1] [] []) := by
 refine aW aCC rfl ?_
 refine Le.trans ?_ (le_of_eq (aFZ ..).symm)
 unfold lH
 refine lC ?_ ?_
 ·refine lC ?_ ?_
  ·refine lC ?_ ?_
   ·refine lC ?_ ?_
    ·refine lC ?_ ?_
     ·refine lC ?_ ?_
      ·refine lC ?_ ?_
       ·refine lC ?_ ?_
        ·refine lQ eX brokerlaw43_light_inj (aec _ _) fun r0 _ => ?_
         exact aJ rfl
        ·exact aJ rfl
       ·exact aJ rfl
      ·exact aJ rfl
     ·exact aJ rfl
    ·exact aJ rfl
   ·exact aJ rfl
  ·exact aJ rfl
 ·exact aJ rfl
section
variable (Γ : Fun) (γ107 : Gm (Bool)) (γ106 : Gm (Int)) (Λ2 J : Lam)
def C76 : aP := bB (bB (aR Γ) 107 brokerlaw43_light_out γ107) 106 aB γ106
theorem T76 (p0 : bM) : bG SE (C76 Γ γ107 γ106) Λ2 J 76 [bM.av p0] [] [] =
 cond (!p0.Set) (
 cond (p0.Delay != 0) (
  (rI 28)) (
 γ107 [aC.av p0.Message, .agg [.d (.str []), .d (.str []), .d (.int .i64 0), .d (.bool false), .d (.int .i64 0), .d (.int .i64 0), .d (.str []), .d (.int .i64 0), .d (.sl aG.ks (List.map aG.enc []))]] [] [] fun r0 =>
 cond (!r0) (
  (rI 28)) (
 (rI 0)))) (
 cond (decide (p0.Delay < 0)) (
 (rI 1)) (
 cond (decide (p0.Delay > 1099511627776)) (
 (rI 1)) (
 γ106 [aC.av p0.Message] [] [] fun r1 =>
 (rI r1)))) := by kernel_rfl
end
abbrev X76 : aP := C76 gG (cT 107 brokerlaw43_light_out) (cT 106 aB)
theorem aFR : X76 = aR gG := by unfold X76 C76; repeat rw [bD fun _ h => h]
theorem ahC (p0 : bM) : Le (Option.map aB (rT p0)) (bF SE 76 [bM.av p0] [] []) := by
 refine aW aFR rfl ?_
 refine Le.trans ?_ (le_of_eq (T76 ..).symm)
 unfold rT
 refine lC ?_ ?_
 ·refine lC ?_ ?_
  ·exact aJ rfl
  ·refine lQ eX brokerlaw43_light_inj (by (try simp only [EN]); exact tL p0.Message ((aC.mk [] [] 0 false 0 0 [] 0 []))) fun r0 _ => ?_
   refine lC ?_ ?_
   ·exact aJ rfl
   ·exact aJ rfl
 ·refine lC ?_ ?_
  ·exact aJ rfl
  ·refine lC ?_ ?_
   ·exact aJ rfl
   ·refine lQ eX aM (sB _) fun r1 _ => ?_
    exact aJ rfl
def ar7 (C : aP) (Λ2 J : Lam) (a0 : List (List D)) (a1 : Int) : Res := lab SE C Λ2 J 70 0 [1, 0, 1, 0] (aV [(0, .d (.sl [.int .i64] a0)), (3, .d (.int .i64 a1))] [] [] [] [])
section
variable (Γ : Fun)  (Λ2 J : Lam)
def C70 : aP := aR Γ
theorem T70 (p0 : List Int) : bG SE (C70 Γ) Λ2 J 70 [.d (.sl [.int .i64] (List.map eI p0))] [] [] =
 ar7 (C70 Γ) Λ2 J (List.map eI p0) 0 := by kernel_rfl
theorem aC8 (x0 : List Int) (x3 : Int) : bW SE (C70 Γ) Λ2 J 70 0 [1, 0, 1, 0] (aV [(0, .d (.sl [.int .i64] (List.map eI x0))), (3, .d (.int .i64 x3))] [] [] [] []) =
 cond (decide (x3 < (lM eI x0 : Int))) (
 cond (iB x3 (lM eI x0 : Int)) (
  cond ((aX (cE eI x0 x3 0)) != 0) (
  cond (iB x3 (lM eI x0 : Int)) (
   (rI (aX (cE eI x0 x3 0)))) none) (
  ar7 (C70 Γ) Λ2 J (List.map eI x0) (w6 (x3 + 1)))) none) (
 (rI 0)) := by kernel_rfl
end
abbrev X70 : aP := C70 gG
theorem aBN : X70 = aR gG := rfl
abbrev aD0 := ar7 X70 (bV SE gG (SE.hl 70) (SE.hr 70)) (J0 SE X70)
theorem aeQ : ∀ (fu : Nat) (x0 : List Int) (x3 : Int), Le (Option.map aB (jW fu x0 x3)) (aD0 (List.map eI x0) x3) := by
 intro fu
 induction fu with
 | zero => intros; exact le_none
 | succ fu ih =>
  intro x0 x3
  refine Le.trans ?_ (le_of_eq ((aZ aBN).trans (aC8 ..)).symm)
  unfold jW
  refine lD (by simp only [EN]) ?_ ?_
  ·refine lG (by simp only [EN]) ?_
   refine lD (by simp only [EN]) ?_ ?_
   ·refine lG (by simp only [EN]) ?_
    exact aJ (by first | rfl | simp only [EN, aB] <;> rfl)
   ·exact ih x0 (w6 (x3 + 1))
  ·exact aJ rfl
theorem agT (p0 : List Int) : Le (Option.map aB (rR p0)) (bF SE 70 [.d (.sl [.int .i64] (List.map eI p0))] [] []) := by
 refine aW aBN rfl ?_
 refine Le.trans ?_ (le_of_eq (T70 ..).symm)
 unfold rR
 exact aeQ fuel p0 0
section
variable (Γ : Fun) (γ71 γ72 γ73 γ74 γ75 γ76 γ70 : Gm (Int)) (Λ2 J : Lam)
def C24 : aP := bB (bB (bB (bB (bB (bB (bB (aR Γ) 71 aB γ71) 72 aB γ72) 73 aB γ73) 74 aB γ74) 75 aB γ75) 76 aB γ76) 70 aB γ70
theorem T24 (p0 : aI) : bG SE (C24 Γ γ71 γ72 γ73 γ74 γ75 γ76 γ70) Λ2 J 24 [aI.av p0] [] [] =
 γ71 [aI.av p0] [] [] fun r0 =>
 γ72 [.d (.sl aK.ks (List.map aK.enc p0.Subs))] [] [] fun r1 =>
 γ73 [.d (.sl aC.ks (List.map aC.enc p0.Queue))] [] [] fun r2 =>
 γ74 [aO.av p0.Out] [] [] fun r3 =>
 γ75 [bO.av p0.In] [] [] fun r4 =>
 γ76 [bM.av p0.Will] [] [] fun r5 =>
 γ70 [.d (.sl [.int .i64] (List.map eI [r0, r1, r2, r3, r4, r5]))] [] [] fun r6 =>
 (rI r6) := by kernel_rfl
end
abbrev X24 : aP := C24 gG (cT 71 aB) (cT 72 aB) (cT 73 aB) (cT 74 aB) (cT 75 aB) (cT 76 aB) (cT 70 aB)
theorem aHB : X24 = aR gG := by unfold X24 C24; repeat rw [bD fun _ h => h]
theorem wA (p0 : aI) : Le (Option.map aB (fU p0)) (bF SE 24 [aI.av p0] [] []) := by
 refine aW aHB rfl ?_
 refine Le.trans ?_ (le_of_eq (T24 ..).symm)
 unfold fU
 refine lQ eX aM (aii _) fun r0 _ => ?_
 refine lQ eX aM (aic _) fun r1 _ => ?_
 refine lQ eX aM (ag9 _) fun r2 _ => ?_
 refine lQ eX aM (ahe _) fun r3 _ => ?_
 refine lQ eX aM (ahu _) fun r4 _ => ?_
 refine lQ eX aM (ahC _) fun r5 _ => ?_
 refine lQ eX aM (agT _) fun r6 _ => ?_
 exact aJ rfl
def atl (C : aP) (Λ2 J : Lam) (a0 a1 : List (List D)) (a2 : Int) : Res := lab SE C Λ2 J 65 0 [1, 1, 0, 1, 0] (aV [(0, .d (.sl aK.ks a0)), (1, .d (.sl aK.ks a1)), (5, .d (.int .i64 a2))] [] [] [] [])
section
variable (Γ : Fun)  (Λ2 J : Lam)
def C65 : aP := aR Γ
theorem T65 (p0 p1 : List aK) : bG SE (C65 Γ) Λ2 J 65 [.d (.sl aK.ks (List.map aK.enc p0)), .d (.sl aK.ks (List.map aK.enc p1))] [] [] =
 cond ((lM aK.enc p0 : Int) != (lM aK.enc p1 : Int)) (
 (rB false)) (
 atl (C65 Γ) Λ2 J (List.map aK.enc p0) (List.map aK.enc p1) 0) := by kernel_rfl
theorem aEr (x0 x1 : List aK) (x5 : Int) : bW SE (C65 Γ) Λ2 J 65 0 [1, 1, 0, 1, 0] (aV [(0, .d (.sl aK.ks (List.map aK.enc x0))), (1, .d (.sl aK.ks (List.map aK.enc x1))), (5, .d (.int .i64 x5))] [] [] [] []) =
 cond (decide (x5 < (lM aK.enc x0 : Int))) (
 cond (iB x5 (lM aK.enc x0 : Int)) (
  cond (iB x5 (lM aK.enc x1 : Int)) (
  cond (!((bL (cE aK.enc x0 x5 0)) == (bL (cE aK.enc x1 x5 0)))) (
   (rB false)) (
  cond (iB x5 (lM aK.enc x0 : Int)) (
   cond (iB x5 (lM aK.enc x1 : Int)) (
   cond ((aX (cE aK.enc x0 x5 1)) != (aX (cE aK.enc x1 x5 1))) (
    (rB false)) (
   cond (iB x5 (lM aK.enc x0 : Int)) (
    cond (iB x5 (lM aK.enc x1 : Int)) (
    cond ((dU (cE aK.enc x0 x5 2)) != (dU (cE aK.enc x1 x5 2))) (
     (rB false)) (
    atl (C65 Γ) Λ2 J (List.map aK.enc x0) (List.map aK.enc x1) (w6 (x5 + 1)))) none) none)) none) none)) none) none) (
 (rB true)) := by kernel_rfl
end
abbrev X65 : aP := C65 gG
theorem aAw : X65 = aR gG := rfl
abbrev aDf := atl X65 (bV SE gG (SE.hl 65) (SE.hr 65)) (J0 SE X65)
theorem aft : ∀ (fu : Nat) (x0 x1 : List aK) (x5 : Int), Le (Option.map brokerlaw43_light_out (kJ fu x0 x1 x5)) (aDf (List.map aK.enc x0) (List.map aK.enc x1) x5) := by
 intro fu
 induction fu with
 | zero => intros; exact le_none
 | succ fu ih =>
  intro x0 x1 x5
  refine Le.trans ?_ (le_of_eq ((aZ aAw).trans (aEr ..)).symm)
  unfold kJ
  refine lD (by simp only [EN]) ?_ ?_
  ·refine lG (by simp only [EN]) ?_
   refine lG (by simp only [EN]) ?_
   refine lD (by simp only [EN]) ?_ ?_
   ·exact aJ rfl
   ·refine lG (by simp only [EN]) ?_
    refine lG (by simp only [EN]) ?_
    refine lD (by simp only [EN]) ?_ ?_
    ·exact aJ rfl
    ·refine lG (by simp only [EN]) ?_
     refine lG (by simp only [EN]) ?_
     refine lD (by simp only [EN]) ?_ ?_
     ·exact aJ rfl
     ·exact ih x0 x1 (w6 (x5 + 1))
  ·exact aJ rfl
theorem ah9 (p0 p1 : List aK) : Le (Option.map brokerlaw43_light_out (tB p0 p1)) (bF SE 65 [.d (.sl aK.ks (List.map aK.enc p0)), .d (.sl aK.ks (List.map aK.enc p1))] [] []) := by
 refine aW aAw rfl ?_
 refine Le.trans ?_ (le_of_eq (T65 ..).symm)
 unfold tB
 refine lD (by simp only [EN]) ?_ ?_
 ·exact aJ rfl
 ·exact aft fuel p0 p1 0
def ato (C : aP) (Λ2 J : Lam) (a0 a1 : List (List D)) (a2 : Int) : Res := lab SE C Λ2 J 66 0 [1, 1, 0, 1, 0] (aV [(0, .d (.sl aC.ks a0)), (1, .d (.sl aC.ks a1)), (5, .d (.int .i64 a2))] [] [] [] [])
section
variable (Γ : Fun) (γ107 : Gm (Bool)) (Λ2 J : Lam)
def C66 : aP := bB (aR Γ) 107 brokerlaw43_light_out γ107
theorem T66 (p0 p1 : List aC) : bG SE (C66 Γ γ107) Λ2 J 66 [.d (.sl aC.ks (List.map aC.enc p0)), .d (.sl aC.ks (List.map aC.enc p1))] [] [] =
 cond ((lM aC.enc p0 : Int) != (lM aC.enc p1 : Int)) (
 (rB false)) (
 ato (C66 Γ γ107) Λ2 J (List.map aC.enc p0) (List.map aC.enc p1) 0) := by kernel_rfl
theorem aDk (x0 x1 : List aC) (x5 : Int) : bW SE (C66 Γ γ107) Λ2 J 66 0 [1, 1, 0, 1, 0] (aV [(0, .d (.sl aC.ks (List.map aC.enc x0))), (1, .d (.sl aC.ks (List.map aC.enc x1))), (5, .d (.int .i64 x5))] [] [] [] []) =
 cond (decide (x5 < (lM aC.enc x0 : Int))) (
 cond (iB x5 (lM aC.enc x0 : Int)) (
  cond (iB x5 (lM aC.enc x1 : Int)) (
  γ107 [.agg [.d (.str (bL (cE aC.enc x0 x5 0))), .d (.str (bL (cE aC.enc x0 x5 1))), .d (.int .i64 (aX (cE aC.enc x0 x5 2))), .d (.bool (dU (cE aC.enc x0 x5 3))), .d (.int .i64 (aX (cE aC.enc x0 x5 4))), .d (.int .i64 (aX (cE aC.enc x0 x5 5))), .d (.str (bL (cE aC.enc x0 x5 6))), .d (.int .i64 (aX (cE aC.enc x0 x5 7))), .d (.sl aG.ks (dSl (cE aC.enc x0 x5 8)))], .agg [.d (.str (bL (cE aC.enc x1 x5 0))), .d (.str (bL (cE aC.enc x1 x5 1))), .d (.int .i64 (aX (cE aC.enc x1 x5 2))), .d (.bool (dU (cE aC.enc x1 x5 3))), .d (.int .i64 (aX (cE aC.enc x1 x5 4))), .d (.int .i64 (aX (cE aC.enc x1 x5 5))), .d (.str (bL (cE aC.enc x1 x5 6))), .d (.int .i64 (aX (cE aC.enc x1 x5 7))), .d (.sl aG.ks (dSl (cE aC.enc x1 x5 8)))]] [] [] fun r0 =>
  cond (!r0) (
   (rB false)) (
  ato (C66 Γ γ107) Λ2 J (List.map aC.enc x0) (List.map aC.enc x1) (w6 (x5 + 1)))) none) none) (
 (rB true)) := by kernel_rfl
end
abbrev X66 : aP := C66 gG (cT 107 brokerlaw43_light_out)
theorem aAG : X66 = aR gG := by unfold X66 C66; rw [bD fun _ h => h]
abbrev aEl := ato X66 (bV SE gG (SE.hl 66) (SE.hr 66)) (J0 SE X66)
theorem af0 : ∀ (fu : Nat) (x0 x1 : List aC) (x5 : Int), Le (Option.map brokerlaw43_light_out (kI fu x0 x1 x5)) (aEl (List.map aC.enc x0) (List.map aC.enc x1) x5) := by
 intro fu
 induction fu with
 | zero => intros; exact le_none
 | succ fu ih =>
  intro x0 x1 x5
  refine Le.trans ?_ (le_of_eq ((aZ aAG).trans (aDk ..)).symm)
  unfold kI
  refine lD (by simp only [EN]) ?_ ?_
  ·refine lG (by simp only [EN]) ?_
   refine lG (by simp only [EN]) ?_
   refine lQ eX brokerlaw43_light_inj (by (try simp only [EN]); exact tL (List.getD x0 (Int.toNat x5) default) (List.getD x1 (Int.toNat x5) default)) fun r0 _ => ?_
   refine lC ?_ ?_
   ·exact aJ rfl
   ·exact ih x0 x1 (w6 (x5 + 1))
  ·exact aJ rfl
theorem ah4 (p0 p1 : List aC) : Le (Option.map brokerlaw43_light_out (m8 p0 p1)) (bF SE 66 [.d (.sl aC.ks (List.map aC.enc p0)), .d (.sl aC.ks (List.map aC.enc p1))] [] []) := by
 refine aW aAG rfl ?_
 refine Le.trans ?_ (le_of_eq (T66 ..).symm)
 unfold m8
 refine lD (by simp only [EN]) ?_ ?_
 ·exact aJ rfl
 ·exact af0 fuel p0 p1 0
def aqf (C : aP) (Λ2 J : Lam) (a0 a1 : List (List D)) (a2 : Int) : Res := lab SE C Λ2 J 109 0 [1, 1, 0, 1, 0] (aV [(0, .d (.sl [.int .i64] a0)), (1, .d (.sl [.int .i64] a1)), (5, .d (.int .i64 a2))] [] [] [] [])
section
variable (Γ : Fun)  (Λ2 J : Lam)
def ao8 : aP := aR Γ
theorem aGV (p0 p1 : List Int) : bG SE (ao8 Γ) Λ2 J 109 [.d (.sl [.int .i64] (List.map eI p0)), .d (.sl [.int .i64] (List.map eI p1))] [] [] =
 cond ((lM eI p0 : Int) != (lM eI p1 : Int)) (
 (rB false)) (
 aqf (ao8 Γ) Λ2 J (List.map eI p0) (List.map eI p1) 0) := by kernel_rfl
theorem azf (x0 x1 : List Int) (x5 : Int) : bW SE (ao8 Γ) Λ2 J 109 0 [1, 1, 0, 1, 0] (aV [(0, .d (.sl [.int .i64] (List.map eI x0))), (1, .d (.sl [.int .i64] (List.map eI x1))), (5, .d (.int .i64 x5))] [] [] [] []) =
 cond (decide (x5 < (lM eI x0 : Int))) (
 cond (iB x5 (lM eI x0 : Int)) (
  cond (iB x5 (lM eI x1 : Int)) (
  cond ((aX (cE eI x0 x5 0)) != (aX (cE eI x1 x5 0))) (
   (rB false)) (
  aqf (ao8 Γ) Λ2 J (List.map eI x0) (List.map eI x1) (w6 (x5 + 1)))) none) none) (
 (rB true)) := by kernel_rfl
end
abbrev awk : aP := ao8 gG
theorem axJ : awk = aR gG := rfl
abbrev aBp := aqf awk (bV SE gG (SE.hl 109) (SE.hr 109)) (J0 SE awk)
theorem afx : ∀ (fu : Nat) (x0 x1 : List Int) (x5 : Int), Le (Option.map brokerlaw43_light_out (kM fu x0 x1 x5)) (aBp (List.map eI x0) (List.map eI x1) x5) := by
 intro fu
 induction fu with
 | zero => intros; exact le_none
 | succ fu ih =>
  intro x0 x1 x5
  refine Le.trans ?_ (le_of_eq ((aZ axJ).trans (azf ..)).symm)
  unfold kM
  refine lD (by simp only [EN]) ?_ ?_
  ·refine lG (by simp only [EN]) ?_
   refine lG (by simp only [EN]) ?_
   refine lD (by simp only [EN]) ?_ ?_
   ·exact aJ rfl
   ·exact ih x0 x1 (w6 (x5 + 1))
  ·exact aJ rfl
theorem abU (p0 p1 : List Int) : Le (Option.map brokerlaw43_light_out (pA p0 p1)) (bF SE 109 [.d (.sl [.int .i64] (List.map eI p0)), .d (.sl [.int .i64] (List.map eI p1))] [] []) := by
 refine aW axJ rfl ?_
 refine Le.trans ?_ (le_of_eq (aGV ..).symm)
 unfold pA
 refine lD (by simp only [EN]) ?_ ?_
 ·exact aJ rfl
 ·exact afx fuel p0 p1 0
section
variable (Γ : Fun) (γ109 : Gm (Bool)) (Λ2 J : Lam)
def aw6 : aP := bB (aR Γ) 109 brokerlaw43_light_out γ109
theorem aFK (p0 p1 : bE) : bG SE (aw6 Γ γ109) Λ2 J 108 [bE.av p0, bE.av p1] [] [] =
 cond (p0.Last == p1.Last) (
 γ109 [.d (.sl [.int .i64] (List.map eI p0.Used)), .d (.sl [.int .i64] (List.map eI p1.Used))] [] [] fun r0 =>
 (rB r0)) (
 (rB false)) := by kernel_rfl
end
abbrev azs : aP := aw6 gG (cT 109 brokerlaw43_light_out)
theorem aEC : azs = aR gG := by unfold azs aw6; rw [bD fun _ h => h]
theorem ah1 (p0 p1 : bE) : Le (Option.map brokerlaw43_light_out (vY p0 p1)) (bF SE 108 [bE.av p0, bE.av p1] [] []) := by
 refine aW aEC rfl ?_
 refine Le.trans ?_ (le_of_eq (aFK ..).symm)
 unfold vY
 refine lC ?_ ?_
 ·refine lQ eX brokerlaw43_light_inj (abU _ _) fun r0 _ => ?_
  exact aJ rfl
 ·exact aJ rfl
def asl (C : aP) (Λ2 J : Lam) (a0 : Int) (a1 a2 : List D) : Res := lab SE C Λ2 J 67 0 [1, 1, 0, 1, 0] (aV [(2, .ptr 1000000000 0), (3, .ptr 1000000001 0), (5, .d (.int .i64 a0))] [⟨37, (List.map AV.d a1)⟩, ⟨37, (List.map AV.d a2)⟩] [] [] [])
def axh (C : aP) (Λ2 J : Lam) (a0 a1 : List D) : Res := lab SE C Λ2 J 67 0 [1, 1, 0, 0] (aV [(2, .ptr 1000000000 0), (3, .ptr 1000000001 0)] [⟨37, (List.map AV.d a0)⟩, ⟨37, (List.map AV.d a1)⟩] [] [] [])
section
variable (Γ : Fun) (γ108 γ107 : Gm (Bool)) (Λ2 J : Lam)
def C67 : aP := bB (bB (aR Γ) 108 brokerlaw43_light_out γ108) 107 brokerlaw43_light_out γ107
theorem T67 (p0 p1 : aO) : bG SE (C67 Γ γ108 γ107) Λ2 J 67 [aO.av p0, aO.av p1] [] [] =
 cond (p0.Limit != p1.Limit) (
 (rB false)) (
 γ108 [bE.av p0.Pool, bE.av p1.Pool] [] [] fun r0 =>
 cond (!r0) (
 (rB false)) (
 cond ((lM aE.enc p0.Items : Int) != (lM aE.enc p1.Items : Int)) (
 (rB false)) (
 axh (C67 Γ γ108 γ107) Λ2 J (aO.enc p0) (aO.enc p1)))) := by kernel_rfl
theorem aDs (x5 : Int) (b0 b1 : aO) : bW SE (C67 Γ γ108 γ107) Λ2 J 67 0 [1, 1, 0, 1, 0] (aV [(2, .ptr 1000000000 0), (3, .ptr 1000000001 0), (5, .d (.int .i64 x5))] [⟨37, (List.map AV.d (aO.enc b0))⟩, ⟨37, (List.map AV.d (aO.enc b1))⟩] [] [] []) =
 cond (decide (x5 < (lM aE.enc b0.Items : Int))) (
 cond (iB x5 (lM aE.enc b0.Items : Int)) (
  cond (iB x5 (lM aE.enc b1.Items : Int)) (
  cond ((aX (cE aE.enc b0.Items x5 0)) != (aX (cE aE.enc b1.Items x5 0))) (
   (rB false)) (
  cond (iB x5 (lM aE.enc b0.Items : Int)) (
   cond (iB x5 (lM aE.enc b1.Items : Int)) (
   cond ((aX (cE aE.enc b0.Items x5 1)) != (aX (cE aE.enc b1.Items x5 1))) (
    (rB false)) (
   cond (iB x5 (lM aE.enc b0.Items : Int)) (
    cond (iB x5 (lM aE.enc b1.Items : Int)) (
    γ107 [.agg [.d (.str (bL (cE aE.enc b0.Items x5 2))), .d (.str (bL (cE aE.enc b0.Items x5 3))), .d (.int .i64 (aX (cE aE.enc b0.Items x5 4))), .d (.bool (dU (cE aE.enc b0.Items x5 5))), .d (.int .i64 (aX (cE aE.enc b0.Items x5 6))), .d (.int .i64 (aX (cE aE.enc b0.Items x5 7))), .d (.str (bL (cE aE.enc b0.Items x5 8))), .d (.int .i64 (aX (cE aE.enc b0.Items x5 9))), .d (.sl aG.ks (dSl (cE aE.enc b0.Items x5 10)))], .agg [.d (.str (bL (cE aE.enc b1.Items x5 2))), .d (.str (bL (cE aE.enc b1.Items x5 3))), .d (.int .i64 (aX (cE aE.enc b1.Items x5 4))), .d (.bool (dU (cE aE.enc b1.Items x5 5))), .d (.int .i64 (aX (cE aE.enc b1.Items x5 6))), .d (.int .i64 (aX (cE aE.enc b1.Items x5 7))), .d (.str (bL (cE aE.enc b1.Items x5 8))), .d (.int .i64 (aX (cE aE.enc b1.Items x5 9))), .d (.sl aG.ks (dSl (cE aE.enc b1.Items x5 10)))]] [] [] fun r1 =>
    cond (!r1) (
     (rB false)) (
    asl (C67 Γ γ108 γ107) Λ2 J (w6 (x5 + 1)) (aO.enc b0) (aO.enc b1))) none) none)) none) none)) none) none) (
 (rB true)) := by kernel_rfl
theorem aDg (b0 b1 : aO) : bW SE (C67 Γ γ108 γ107) Λ2 J 67 0 [1, 1, 0, 0] (aV [(2, .ptr 1000000000 0), (3, .ptr 1000000001 0)] [⟨37, (List.map AV.d (aO.enc b0))⟩, ⟨37, (List.map AV.d (aO.enc b1))⟩] [] [] []) =
 asl (C67 Γ γ108 γ107) Λ2 J 0 (aO.enc b0) (aO.enc b1) := by kernel_rfl
end
abbrev X67 : aP := C67 gG (cT 108 brokerlaw43_light_out) (cT 107 brokerlaw43_light_out)
theorem awq : X67 = aR gG := by unfold X67 C67; repeat rw [bD fun _ h => h]
abbrev aFp := asl X67 (bV SE gG (SE.hl 67) (SE.hr 67)) (J0 SE X67)
abbrev aC3 := axh X67 (bV SE gG (SE.hl 67) (SE.hr 67)) (J0 SE X67)
theorem afI : ∀ (fu : Nat) (x5 : Int) (b0 b1 : aO), Le (Option.map brokerlaw43_light_out (kF fu x5 b0 b1)) (aFp x5 (aO.enc b0) (aO.enc b1)) := by
 intro fu
 induction fu with
 | zero => intros; exact le_none
 | succ fu ih =>
  intro x5 b0 b1
  refine Le.trans ?_ (le_of_eq ((aZ awq).trans (aDs ..)).symm)
  unfold kF
  refine lD (by simp only [EN]) ?_ ?_
  ·refine lG (by simp only [EN]) ?_
   refine lG (by simp only [EN]) ?_
   refine lD (by simp only [EN]) ?_ ?_
   ·exact aJ rfl
   ·refine lG (by simp only [EN]) ?_
    refine lG (by simp only [EN]) ?_
    refine lD (by simp only [EN]) ?_ ?_
    ·exact aJ rfl
    ·refine lG (by simp only [EN]) ?_
     refine lG (by simp only [EN]) ?_
     refine lQ eX brokerlaw43_light_inj (by (try simp only [EN]); exact tL ((List.getD b0.Items (Int.toNat x5) default).Message) ((List.getD b1.Items (Int.toNat x5) default).Message)) fun r1 _ => ?_
     refine lC ?_ ?_
     ·exact aJ rfl
     ·exact ih (w6 (x5 + 1)) b0 b1
  ·exact aJ rfl
theorem afP (b0 b1 : aO) : Le (Option.map brokerlaw43_light_out (tF b0 b1)) (aC3 (aO.enc b0) (aO.enc b1)) := by
 refine Le.trans ?_ (le_of_eq ((aZ awq).trans (aDg ..)).symm)
 unfold tF
 exact afI fuel 0 b0 b1
theorem aij (p0 p1 : aO) : Le (Option.map brokerlaw43_light_out (sO p0 p1)) (bF SE 67 [aO.av p0, aO.av p1] [] []) := by
 refine aW awq rfl ?_
 refine Le.trans ?_ (le_of_eq (T67 ..).symm)
 unfold sO
 refine lC ?_ ?_
 ·exact aJ rfl
 ·refine lQ eX brokerlaw43_light_inj (ah1 _ _) fun r0 _ => ?_
  refine lC ?_ ?_
  ·exact aJ rfl
  ·refine lD (by simp only [EN]) ?_ ?_
   ·exact aJ rfl
   ·exact afP p0 p1
section
variable (Γ : Fun) (γ109 : Gm (Bool)) (Λ2 J : Lam)
def C68 : aP := bB (aR Γ) 109 brokerlaw43_light_out γ109
theorem T68 (p0 p1 : bO) : bG SE (C68 Γ γ109) Λ2 J 68 [bO.av p0, bO.av p1] [] [] =
 γ109 [.d (.sl [.int .i64] (List.map eI p0.IDs)), .d (.sl [.int .i64] (List.map eI p1.IDs))] [] [] fun r0 =>
 (rB r0) := by kernel_rfl
end
abbrev X68 : aP := C68 gG (cT 109 brokerlaw43_light_out)
theorem aGe : X68 = aR gG := by unfold X68 C68; rw [bD fun _ h => h]
theorem aie (p0 p1 : bO) : Le (Option.map brokerlaw43_light_out (wE p0 p1)) (bF SE 68 [bO.av p0, bO.av p1] [] []) := by
 refine aW aGe rfl ?_
 refine Le.trans ?_ (le_of_eq (T68 ..).symm)
 unfold wE
 refine lQ eX brokerlaw43_light_inj (abU _ _) fun r0 _ => ?_
 exact aJ rfl
section
variable (Γ : Fun) (γ107 : Gm (Bool)) (Λ2 J : Lam)
def C69 : aP := bB (aR Γ) 107 brokerlaw43_light_out γ107
theorem T69 (p0 p1 : bM) : bG SE (C69 Γ γ107) Λ2 J 69 [bM.av p0, bM.av p1] [] [] =
 cond (p0.Set == p1.Set) (
 cond (p0.Delay == p1.Delay) (
  γ107 [aC.av p0.Message, aC.av p1.Message] [] [] fun r0 =>
  (rB r0)) (
 (rB false))) (
 (rB false)) := by kernel_rfl
end
abbrev X69 : aP := C69 gG (cT 107 brokerlaw43_light_out)
theorem aGF : X69 = aR gG := by unfold X69 C69; rw [bD fun _ h => h]
theorem aid (p0 p1 : bM) : Le (Option.map brokerlaw43_light_out (wC p0 p1)) (bF SE 69 [bM.av p0, bM.av p1] [] []) := by
 refine aW aGF rfl ?_
 refine Le.trans ?_ (le_of_eq (T69 ..).symm)
 unfold wC
 refine lC ?_ ?_
 ·refine lC ?_ ?_
  ·refine lQ eX brokerlaw43_light_inj (tL _ _) fun r0 _ => ?_
   exact aJ rfl
  ·exact aJ rfl
 ·exact aJ rfl
section
variable (Γ : Fun) (γ65 γ66 γ67 γ68 γ69 : Gm (Bool)) (Λ2 J : Lam)
def C23 : aP := bB (bB (bB (bB (bB (aR Γ) 65 brokerlaw43_light_out γ65) 66 brokerlaw43_light_out γ66) 67 brokerlaw43_light_out γ67) 68 brokerlaw43_light_out γ68) 69 brokerlaw43_light_out γ69
theorem T23 (p0 p1 : aI) : bG SE (C23 Γ γ65 γ66 γ67 γ68 γ69) Λ2 J 23 [aI.av p0, aI.av p1] [] [] =
 cond (p0.Client == p1.Client) (
 cond (p0.User == p1.User) (
  cond (p0.Online == p1.Online) (
  cond (p0.Conn == p1.Conn) (
   cond (p0.Expiry == p1.Expiry) (
   cond (p0.Until == p1.Until) (
    cond (p0.Dropped == p1.Dropped) (
    γ65 [.d (.sl aK.ks (List.map aK.enc p0.Subs)), .d (.sl aK.ks (List.map aK.enc p1.Subs))] [] [] fun r0 =>
    cond r0 (
     γ66 [.d (.sl aC.ks (List.map aC.enc p0.Queue)), .d (.sl aC.ks (List.map aC.enc p1.Queue))] [] [] fun r1 =>
     cond r1 (
     γ67 [aO.av p0.Out, aO.av p1.Out] [] [] fun r2 =>
     cond r2 (
      γ68 [bO.av p0.In, bO.av p1.In] [] [] fun r3 =>
      cond r3 (
      γ69 [bM.av p0.Will, bM.av p1.Will] [] [] fun r4 =>
      (rB r4)) (
      (rB false))) (
     (rB false))) (
     (rB false))) (
    (rB false))) (
    (rB false))) (
   (rB false))) (
   (rB false))) (
  (rB false))) (
  (rB false))) (
 (rB false))) (
 (rB false)) := by kernel_rfl
end
abbrev X23 : aP := C23 gG (cT 65 brokerlaw43_light_out) (cT 66 brokerlaw43_light_out) (cT 67 brokerlaw43_light_out) (cT 68 brokerlaw43_light_out) (cT 69 brokerlaw43_light_out)
theorem aG2 : X23 = aR gG := by unfold X23 C23; repeat rw [bD fun _ h => h]
theorem abZ (p0 p1 : aI) : Le (Option.map brokerlaw43_light_out (m9 p0 p1)) (bF SE 23 [aI.av p0, aI.av p1] [] []) := by
 refine aW aG2 rfl ?_
 refine Le.trans ?_ (le_of_eq (T23 ..).symm)
 unfold m9
 refine lC ?_ ?_
 ·refine lC ?_ ?_
  ·refine lC ?_ ?_
   ·refine lC ?_ ?_
    ·refine lC ?_ ?_
     ·refine lC ?_ ?_
      ·refine lC ?_ ?_
       ·refine lQ eX brokerlaw43_light_inj (ah9 _ _) fun r0 _ => ?_
        refine lC ?_ ?_
        ·refine lQ eX brokerlaw43_light_inj (ah4 _ _) fun r1 _ => ?_
         refine lC ?_ ?_
         ·refine lQ eX brokerlaw43_light_inj (aij _ _) fun r2 _ => ?_
          refine lC ?_ ?_
          ·refine lQ eX brokerlaw43_light_inj (aie _ _) fun r3 _ => ?_
           refine lC ?_ ?_
           ·refine lQ eX brokerlaw43_light_inj (aid _ _) fun r4 _ => ?_
            exact aJ rfl
           ·exact aJ rfl
          ·exact aJ rfl
         ·exact aJ rfl
        ·exact aJ rfl
       ·exact aJ rfl
      ·exact aJ rfl
     ·exact aJ rfl
    ·exact aJ rfl
   ·exact aJ rfl
  ·exact aJ rfl
 ·exact aJ rfl
section
variable (Γ : Fun)  (Λ2 J : Lam)
def C25 : aP := aR Γ
theorem T25 (p0 : List Int) : bG SE (C25 Γ) Λ2 J 25 [.d (.sl [.int .u8] (List.map (encI .u8) p0))] [] [] =
 cond (List.isEmpty (List.map (encI .u8) p0)) (
 adj (
  (some (.ret [.row 0] [] [⟨[.int .u8], 5, 1, []⟩]))) (
  cond (decide ((lM (encI .u8) [] + lM (encI .u8) p0) * 1 ≤ 140737488355328)) (
  (some (.ret [.row 0] [] [⟨[.int .u8], 5, 1, ((List.map (encI .u8) []) ++ (List.map (encI .u8) p0))⟩]))) none)) (
 cond (decide ((lM (encI .u8) [] + lM (encI .u8) p0) * 1 ≤ 140737488355328)) (
 (some (.ret [.row 0] [] [⟨[.int .u8], 5, 1, ((List.map (encI .u8) []) ++ (List.map (encI .u8) p0))⟩]))) none) := by kernel_rfl
end
abbrev X25 : aP := C25 gG
theorem aHQ : X25 = aR gG := rfl
theorem acm (p0 : List Int) : Le (Option.map aT (iT p0)) (bF SE 25 [.d (.sl [.int .u8] (List.map (encI .u8) p0))] [] []) := by
 refine aW aHQ rfl ?_
 refine Le.trans ?_ (le_of_eq (T25 ..).symm)
 unfold iT
 refine lD (by simp only [EN]) ?_ ?_
 ·refine arj ?_ ?_
  ·exact aJ rfl
  ·refine lG (by simp only [EN]) ?_
   exact aJ rfl
 ·refine lG (by simp only [EN]) ?_
  exact aJ rfl
def axd (C : aP) (Λ2 J : Lam) (a0 : Int) (a1 : List (List D)) (a2 a3 : Str) (a4 : Bool) (a5 a6 a7 a8 a9 a10 : Int) (a11 : Bool) (a12 : Int) (a13 a14 : Str) (a15 : Int) (a16 : Bool) (a17 a18 : Int) (a19 : Str) (a20 : Int) (a21 a22 a23 a24 a25 a26 : List (List D)) : Res := lab SE C Λ2 J 6 0 [1, 1, 1, 1, 1, 1, 1, 1, 0] (aV [(1, .d (.int .u16 a0)), (5, .d (.sl [.int .u8] a1)), (7, .ptr 1000000000 0)] [⟨46, [.d (.str a2), .d (.str a3), .d (.bool a4), .d (.int .i64 a5), .d (.int .i64 a6), .d (.int .i64 a7), .d (.int .i64 a8), .row 50007, .row 50008, .d (.int .i64 a9), .row 50010, .row 50011, .d (.int .i64 a10), .row 50013, .d (.bool a11), .d (.int .i64 a12), .d (.str a13), .d (.str a14), .d (.int .i64 a15), .d (.bool a16), .d (.int .i64 a17), .d (.int .i64 a18), .d (.str a19), .d (.int .i64 a20), .row 50024]⟩] [] [] [(50007, ⟨aK.ks, 72, 32, a21⟩), (50008, ⟨aC.ks, 42, 112, a22⟩), (50010, ⟨aE.ks, 78, 128, a23⟩), (50011, ⟨[.int .i64], 3, 8, a24⟩), (50013, ⟨[.int .i64], 3, 8, a25⟩), (50024, ⟨aG.ks, 128, 32, a26⟩)])
section
variable (Γ : Fun) (γ17 γ12 : Gm (Bool)) (γ18 : Gm ((List Int) × Int)) (γ24 : Gm (Int)) (γ21 : Gm (aI × Int)) (γ23 : Gm (Bool)) (γ25 : Gm ((List Int))) (γ20 : Gm (Bool)) (Λ2 J : Lam)
def C6 : aP := bB (bB (bB (bB (bB (bB (bB (bB (aR Γ) 17 brokerlaw43_light_out γ17) 12 brokerlaw43_light_out γ12) 18 dP γ18) 24 aB γ24) 21 dZ γ21) 23 brokerlaw43_light_out γ23) 25 aT γ25) 20 brokerlaw43_light_out γ20
theorem T6 (p0 : aI) (p1 : Int) : bG SE (C6 Γ γ17 γ12 γ18 γ24 γ21 γ23 γ25 γ20) Λ2 J 6 [aI.av p0, .d (.int .u16 p1)] [] [] =
 γ17 [aI.av p0] [] [] fun r0 =>
 cond (!r0) (
 γ12 [] [] [] fun r1 =>
 (rB r1)) (
 γ18 [aI.av (aI.mk p0.Client p0.User false 0 p0.Expiry p0.Until p0.Dropped p0.Subs p0.Queue p0.Out p0.In p0.Will)] [] [] fun r2 =>
 cond (r2.2 != 0) (
 γ24 [aI.av (aI.mk p0.Client p0.User false 0 p0.Expiry p0.Until p0.Dropped p0.Subs p0.Queue p0.Out p0.In p0.Will)] [] [] fun r3 =>
 cond (r2.2 == r3) (
  cond ((lM (encI .u8) r2.1 : Int) == 0) (
  γ12 [] [] [] fun r4 =>
  (rB r4)) (
  (rB false))) (
 (rB false))) (
 γ21 [.d (.sl [.int .u8] (List.map (encI .u8) r2.1))] [] [] fun r5 =>
 cond (r5.2 != 0) (
 (rB false)) (
 γ23 [aI.av (aI.mk p0.Client p0.User false 0 p0.Expiry p0.Until p0.Dropped p0.Subs p0.Queue p0.Out p0.In p0.Will), aI.av r5.1] [] [] fun r6 =>
 cond (!r6) (
 (rB false)) (
 cond ((lM (encI .u8) r2.1 : Int) == 0) (
 (rB false)) (
 axd (C6 Γ γ17 γ12 γ18 γ24 γ21 γ23 γ25 γ20) Λ2 J p1 (List.map (encI .u8) r2.1) r5.1.Client r5.1.User r5.1.Online r5.1.Conn r5.1.Expiry r5.1.Until r5.1.Dropped r5.1.Out.Limit r5.1.Out.Pool.Last r5.1.Will.Set r5.1.Will.Delay r5.1.Will.Message.Topic r5.1.Will.Message.Payload r5.1.Will.Message.Level r5.1.Will.Message.Retain r5.1.Will.Message.Priority r5.1.Will.Message.Expires r5.1.Will.Message.From r5.1.Will.Message.Seq (List.map aK.enc r5.1.Subs) (List.map aC.enc r5.1.Queue) (List.map aE.enc r5.1.Out.Items) (List.map eI r5.1.Out.Pool.Used) (List.map eI r5.1.In.IDs) (List.map aG.enc r5.1.Will.Message.Props)))))) := by kernel_rfl
theorem aEw (x1 : Int) (x5 : List Int) (b0_0 b0_1 : Str) (b0_2 : Bool) (b0_3 b0_4 b0_5 b0_6 b0_9 b0_12 : Int) (b0_14 : Bool) (b0_15 : Int) (b0_16 b0_17 : Str) (b0_18 : Int) (b0_19 : Bool) (b0_20 b0_21 : Int) (b0_22 : Str) (b0_23 : Int) (w50007 : List aK) (w50008 : List aC) (w50010 : List aE) (w50011 w50013 : List Int) (w50024 : List aG) : bW SE (C6 Γ γ17 γ12 γ18 γ24 γ21 γ23 γ25 γ20) Λ2 J 6 0 [1, 1, 1, 1, 1, 1, 1, 1, 0] (aV [(1, .d (.int .u16 x1)), (5, .d (.sl [.int .u8] (List.map (encI .u8) x5))), (7, .ptr 1000000000 0)] [⟨46, [.d (.str b0_0), .d (.str b0_1), .d (.bool b0_2), .d (.int .i64 b0_3), .d (.int .i64 b0_4), .d (.int .i64 b0_5), .d (.int .i64 b0_6), .row 50007, .row 50008, .d (.int .i64 b0_9), .row 50010, .row 50011, .d (.int .i64 b0_12), .row 50013, .d (.bool b0_14), .d (.int .i64 b0_15), .d (.str b0_16), .d (.str b0_17), .d (.int .i64 b0_18), .d (.bool b0_19), .d (.int .i64 b0_20), .d (.int .i64 b0_21), .d (.str b0_22), .d (.int .i64 b0_23), .row 50024]⟩] [] [] [(50007, ⟨aK.ks, 72, 32, (List.map aK.enc w50007)⟩), (50008, ⟨aC.ks, 42, 112, (List.map aC.enc w50008)⟩), (50010, ⟨aE.ks, 78, 128, (List.map aE.enc w50010)⟩), (50011, ⟨[.int .i64], 3, 8, (List.map eI w50011)⟩), (50013, ⟨[.int .i64], 3, 8, (List.map eI w50013)⟩), (50024, ⟨aG.ks, 128, 32, (List.map aG.enc w50024)⟩)]) =
 γ18 [aI.av (aI.mk b0_0 b0_1 b0_2 b0_3 b0_4 b0_5 b0_6 w50007 w50008 (aO.mk b0_9 w50010 (bE.mk w50011 b0_12)) (bO.mk w50013) (bM.mk b0_14 b0_15 (aC.mk b0_16 b0_17 b0_18 b0_19 b0_20 b0_21 b0_22 b0_23 w50024)))] [] [] fun r7 =>
 cond ((lM (encI .u8) x5 : Int) != 0) (
 cond (decide (0 ≤ (Int.tmod (w6 x1) (lM (encI .u8) x5 : Int))) && decide ((Int.tmod (w6 x1) (lM (encI .u8) x5 : Int)) ≤ ((lM (encI .u8) x5) : Int))) (
  γ21 [.d (.sl [.int .u8] (dB (List.map (encI .u8) x5) none (some (Int.tmod (w6 x1) (lM (encI .u8) x5 : Int)))))] [] [] fun r8 =>
  γ25 [.d (.sl [.int .u8] (List.map (encI .u8) x5))] [] [] fun r9 =>
  cond (decide ((lM (encI .u8) r9 + lM (encI .u8) [(IntKind.wrap .u8 x1)]) * 1 ≤ 140737488355328)) (
  γ21 [.d (.sl [.int .u8] ((List.map (encI .u8) r9) ++ (List.map (encI .u8) [(IntKind.wrap .u8 x1)])))] [] [] fun r10 =>
  cond (r7.2 == 0) (
   γ20 [.d (.sl [.int .u8] (List.map (encI .u8) x5)), .d (.sl [.int .u8] (List.map (encI .u8) r7.1))] [] [] fun r11 =>
   cond r11 (
   cond (r8.2 != 0) (
    cond (r10.2 == 2) (
    γ12 [] [] [] fun r12 =>
    (rB r12)) (
    (rB false))) (
   (rB false))) (
   (rB false))) (
  (rB false))) none) none) none := by kernel_rfl
end
abbrev X6 : aP := C6 gG (cT 17 brokerlaw43_light_out) (cT 12 brokerlaw43_light_out) (cT 18 dP) (cT 24 aB) (cT 21 dZ) (cT 23 brokerlaw43_light_out) (cT 25 aT) (cT 20 brokerlaw43_light_out)
theorem Cr6 : X6 = aR gG := by unfold X6 C6; repeat rw [bD fun _ h => h]
abbrev aEa := axd X6 (bV SE gG (SE.hl 6) (SE.hr 6)) (J0 SE X6)
theorem abq (x1 : Int) (x5 : List Int) (b0_0 b0_1 : Str) (b0_2 : Bool) (b0_3 b0_4 b0_5 b0_6 b0_9 b0_12 : Int) (b0_14 : Bool) (b0_15 : Int) (b0_16 b0_17 : Str) (b0_18 : Int) (b0_19 : Bool) (b0_20 b0_21 : Int) (b0_22 : Str) (b0_23 : Int) (w50007 : List aK) (w50008 : List aC) (w50010 : List aE) (w50011 w50013 : List Int) (w50024 : List aG) : Le (Option.map brokerlaw43_light_out (mP x1 x5 b0_0 b0_1 b0_2 b0_3 b0_4 b0_5 b0_6 b0_9 b0_12 b0_14 b0_15 b0_16 b0_17 b0_18 b0_19 b0_20 b0_21 b0_22 b0_23 w50007 w50008 w50010 w50011 w50013 w50024)) (aEa x1 (List.map (encI .u8) x5) b0_0 b0_1 b0_2 b0_3 b0_4 b0_5 b0_6 b0_9 b0_12 b0_14 b0_15 b0_16 b0_17 b0_18 b0_19 b0_20 b0_21 b0_22 b0_23 (List.map aK.enc w50007) (List.map aC.enc w50008) (List.map aE.enc w50010) (List.map eI w50011) (List.map eI w50013) (List.map aG.enc w50024)) := by
 refine Le.trans ?_ (le_of_eq ((aZ Cr6).trans (aEw ..)).symm)
 unfold mP
 refine lQ eX lE (oM _) fun r7 _ => ?_
 refine lG (by simp only [EN]) ?_
 refine lG (by simp only [EN]) ?_
 refine lQ eX nO (by (try simp only [EN]); exact oP ((dB x5 none (some (Int.tmod (w6 x1) (List.length x5 : Int)))))) fun r8 _ => ?_
 refine lQ eX bA (acm _) fun r9 _ => ?_
 refine lG (by simp only [EN]) ?_
 refine lQ eX nO (by (try simp only [EN]); exact oP (r9 ++ [(IntKind.wrap .u8 x1)])) fun r10 _ => ?_
 refine lC ?_ ?_
 ·refine lQ eX brokerlaw43_light_inj (tE _ _) fun r11 _ => ?_
  refine lC ?_ ?_
  ·refine lC ?_ ?_
   ·refine lC ?_ ?_
    ·refine lQ eX brokerlaw43_light_inj (bI) fun r12 _ => ?_
     exact aJ rfl
    ·exact aJ rfl
   ·exact aJ rfl
  ·exact aJ rfl
 ·exact aJ rfl
theorem ac8 (p0 : aI) (p1 : Int) : Le (Option.map brokerlaw43_light_out (oZ p0 p1)) (bF SE 6 [aI.av p0, .d (.int .u16 p1)] [] []) := by
 refine aW Cr6 rfl ?_
 refine Le.trans ?_ (le_of_eq (T6 ..).symm)
 unfold oZ
 refine lQ eX brokerlaw43_light_inj (abx _) fun r0 _ => ?_
 refine lC ?_ ?_
 ·refine lQ eX brokerlaw43_light_inj (bI) fun r1 _ => ?_
  exact aJ rfl
 ·refine lQ eX lE (oM _) fun r2 _ => ?_
  refine lC ?_ ?_
  ·refine lQ eX aM (wA _) fun r3 _ => ?_
   refine lC ?_ ?_
   ·refine lD (by simp only [EN]) ?_ ?_
    ·refine lQ eX brokerlaw43_light_inj (bI) fun r4 _ => ?_
     exact aJ rfl
    ·exact aJ rfl
   ·exact aJ rfl
  ·refine lQ eX nO (oP _) fun r5 _ => ?_
   refine lC ?_ ?_
   ·exact aJ rfl
   ·refine lQ eX brokerlaw43_light_inj (abZ _ _) fun r6 _ => ?_
    refine lC ?_ ?_
    ·exact aJ rfl
    ·refine lD (by simp only [EN]) ?_ ?_
     ·exact aJ rfl
     ·exact abq p1 r2.1 r5.1.Client r5.1.User r5.1.Online r5.1.Conn r5.1.Expiry r5.1.Until r5.1.Dropped r5.1.Out.Limit r5.1.Out.Pool.Last r5.1.Will.Set r5.1.Will.Delay r5.1.Will.Message.Topic r5.1.Will.Message.Payload r5.1.Will.Message.Level r5.1.Will.Message.Retain r5.1.Will.Message.Priority r5.1.Will.Message.Expires r5.1.Will.Message.From r5.1.Will.Message.Seq r5.1.Subs r5.1.Queue r5.1.Out.Items r5.1.Out.Pool.Used r5.1.In.IDs r5.1.Will.Message.Props
end Te
end PX
