import Derived.Test.YtojlmojebnlmdaaGreatDoorTre1
set_option linter.unusedVariables false
set_option linter.unusedSimpArgs false
set_option maxRecDepth 100000
noncomputable section
namespace PX
open Go
open Md
namespace Te
section
variable (Γ : Fun)  (Λ2 J : Lam)
def azA : aP := aQ Γ
theorem aES (p0 : Int) : bF SE (azA Γ) Λ2 J 101 [.d (.int .u8 p0)] [] [] =
 cond (decide (p0 ≥ 48)) (
 (rB (decide (p0 ≤ 57)))) (
 (rB false)) := by kernel_rfl
end
abbrev aEA : aP := azA gG
theorem aC8 : aEA = aQ gG := rfl
theorem af5 (p0 : Int) : Le (Option.map stringslite_HasPrefix_out (pJ p0)) (bA SE 101 [.d (.int .u8 p0)] [] []) := by
 refine aV aC8 rfl ?_
 refine Le.trans ?_ (le_of_eq (aES ..).symm)
 unfold pJ
 refine lC ?_ ?_
 ·exact aJ rfl
 ·exact aJ rfl
def akB (C : aP) (Λ2 J : Lam) (a0 : Str) (a1 : Int) : Res := lab SE C Λ2 J 48 0 [1, 1, 0, 1, 0] (aW [(0, .d (.str a0)), (3, .d (.int .i64 a1))] [] [] [] [])
def avL (C : aP) (Λ2 J : Lam) (a0 : Str) : Res := lab SE C Λ2 J 48 0 [1, 1, 0, 0] (aW [(0, .d (.str a0))] [] [] [] [])
section
variable (Γ : Fun) (γ100 γ101 : Gm (Bool)) (Λ2 J : Lam)
def C48 : aP := aY (aY (aQ Γ) 100 stringslite_HasPrefix_out γ100) 101 stringslite_HasPrefix_out γ101
theorem T48 (p0 : Str) : bF SE (C48 Γ γ100 γ101) Λ2 J 48 [.d (.str p0)] [] [] =
 cond (decide ((List.length p0 : Int) < 1)) (
 (rB false)) (
 cond (decide ((List.length p0 : Int) > 16)) (
 (rB false)) (
 cond (decide (0 ≤ 0) && decide (0 < (List.length p0 : Int))) (
 γ100 [.d (.int .u8 (UInt8.toNat (List.getD p0 (Int.toNat 0) 0) : Int))] [] [] fun r0 =>
 cond (!r0) (
  (rB false)) (
 avL (C48 Γ γ100 γ101) Λ2 J p0)) none)) := by kernel_rfl
theorem aCI (x0 : Str) (x3 : Int) : bT SE (C48 Γ γ100 γ101) Λ2 J 48 0 [1, 1, 0, 1, 0] (aW [(0, .d (.str x0)), (3, .d (.int .i64 x3))] [] [] [] []) =
 cond (decide (x3 < (List.length x0 : Int))) (
 cond (iB x3 (List.length x0 : Int)) (
  γ100 [.d (.int .u8 (UInt8.toNat (List.getD x0 (Int.toNat x3) 0) : Int))] [] [] fun r1 =>
  cond (!r1) (
  cond (iB x3 (List.length x0 : Int)) (
   γ101 [.d (.int .u8 (UInt8.toNat (List.getD x0 (Int.toNat x3) 0) : Int))] [] [] fun r2 =>
   cond (!r2) (
   cond (iB x3 (List.length x0 : Int)) (
    cond ((UInt8.toNat (List.getD x0 (Int.toNat x3) 0) : Int) != 45) (
    (rB false)) (
    akB (C48 Γ γ100 γ101) Λ2 J x0 (w6 (x3 + 1)))) none) (
   akB (C48 Γ γ100 γ101) Λ2 J x0 (w6 (x3 + 1)))) none) (
  akB (C48 Γ γ100 γ101) Λ2 J x0 (w6 (x3 + 1)))) none) (
 (rB true)) := by kernel_rfl
theorem aA7 (x0 : Str) : bT SE (C48 Γ γ100 γ101) Λ2 J 48 0 [1, 1, 0, 0] (aW [(0, .d (.str x0))] [] [] [] []) =
 akB (C48 Γ γ100 γ101) Λ2 J x0 0 := by kernel_rfl
end
abbrev X48 : aP := C48 gG (cT 100 stringslite_HasPrefix_out) (cT 101 stringslite_HasPrefix_out)
theorem as4 : X48 = aQ gG := by unfold X48 C48; repeat rw [bC fun _ h => h]
abbrev aBx := akB X48 (bP SE gG (SE.hl 48) (SE.hr 48)) (J0 SE X48)
abbrev aBG := avL X48 (bP SE gG (SE.hl 48) (SE.hr 48)) (J0 SE X48)
theorem aez : ∀ (fu : Nat) (x0 : Str) (x3 : Int), Le (Option.map stringslite_HasPrefix_out (fJ fu x0 x3)) (aBx x0 x3) := by
 intro fu
 induction fu with
 | zero => intros; exact le_none
 | succ fu ih =>
  intro x0 x3
  refine Le.trans ?_ (le_of_eq ((aZ as4).trans (aCI ..)).symm)
  unfold fJ
  refine lC ?_ ?_
  ·refine lF ?_
   refine lQ eX stringslite_HasPrefix_inj (zQ _) fun r1 _ => ?_
   refine lC ?_ ?_
   ·refine lF ?_
    refine lQ eX stringslite_HasPrefix_inj (af5 _) fun r2 _ => ?_
    refine lC ?_ ?_
    ·refine lF ?_
     refine lC ?_ ?_
     ·exact aJ rfl
     ·exact ih x0 (w6 (x3 + 1))
    ·exact ih x0 (w6 (x3 + 1))
   ·exact ih x0 (w6 (x3 + 1))
  ·exact aJ rfl
theorem aeL (x0 : Str) : Le (Option.map stringslite_HasPrefix_out (rR x0)) (aBG x0) := by
 refine Le.trans ?_ (le_of_eq ((aZ as4).trans (aA7 ..)).symm)
 unfold rR
 exact aez fuel x0 0
theorem kI (p0 : Str) : Le (Option.map stringslite_HasPrefix_out (gD p0)) (bA SE 48 [.d (.str p0)] [] []) := by
 refine aV as4 rfl ?_
 refine Le.trans ?_ (le_of_eq (T48 ..).symm)
 unfold gD
 refine lC ?_ ?_
 ·exact aJ rfl
 ·refine lC ?_ ?_
  ·exact aJ rfl
  ·refine lF ?_
   refine lQ eX stringslite_HasPrefix_inj (zQ _) fun r0 _ => ?_
   refine lC ?_ ?_
   ·exact aJ rfl
   ·exact aeL p0
def arf (C : aP) (Λ2 J : Lam) (a0 : Str) (a1 a2 : Int) : Res := lab SE C Λ2 J 99 0 [1, 0, 1, 0] (aW [(0, .d (.str a0)), (1, .d (.int .u8 a1)), (5, .d (.int .i64 a2))] [] [] [] [])
section
variable (Γ : Fun)  (Λ2 J : Lam)
def C99 : aP := aQ Γ
theorem T99 (p0 : Str) (p1 : Int) : bF SE (C99 Γ) Λ2 J 99 [.d (.str p0), .d (.int .u8 p1)] [] [] =
 arf (C99 Γ) Λ2 J p0 p1 0 := by kernel_rfl
theorem aAP (x0 : Str) (x1 x5 : Int) : bT SE (C99 Γ) Λ2 J 99 0 [1, 0, 1, 0] (aW [(0, .d (.str x0)), (1, .d (.int .u8 x1)), (5, .d (.int .i64 x5))] [] [] [] []) =
 cond (decide (x5 < (List.length x0 : Int))) (
 cond (iB x5 (List.length x0 : Int)) (
  cond ((UInt8.toNat (List.getD x0 (Int.toNat x5) 0) : Int) == x1) (
  (rB true)) (
  arf (C99 Γ) Λ2 J x0 x1 (w6 (x5 + 1)))) none) (
 (rB false)) := by kernel_rfl
end
abbrev X99 : aP := C99 gG
theorem awE : X99 = aQ gG := rfl
abbrev aDg := arf X99 (bP SE gG (SE.hl 99) (SE.hr 99)) (J0 SE X99)
theorem ae7 : ∀ (fu : Nat) (x0 : Str) (x1 x5 : Int), Le (Option.map stringslite_HasPrefix_out (jN fu x0 x1 x5)) (aDg x0 x1 x5) := by
 intro fu
 induction fu with
 | zero => intros; exact le_none
 | succ fu ih =>
  intro x0 x1 x5
  refine Le.trans ?_ (le_of_eq ((aZ awE).trans (aAP ..)).symm)
  unfold jN
  refine lC ?_ ?_
  ·refine lF ?_
   refine lC ?_ ?_
   ·exact aJ rfl
   ·exact ih x0 x1 (w6 (x5 + 1))
  ·exact aJ rfl
theorem oL (p0 : Str) (p1 : Int) : Le (Option.map stringslite_HasPrefix_out (iZ p0 p1)) (bA SE 99 [.d (.str p0), .d (.int .u8 p1)] [] []) := by
 refine aV awE rfl ?_
 refine Le.trans ?_ (le_of_eq (T99 ..).symm)
 unfold iZ
 exact ae7 fuel p0 p1 0
def akq (C : aP) (Λ2 J : Lam) (a0 : Str) (a1 a2 : Int) (a3 : List (List D)) : Res := lab SE C Λ2 J 150 0 [1, 1, 1, 0, 1, 0] (aW [(0, .d (.str a0)), (3, .row 3003), (4, .d (.int .i64 a1)), (5, .d (.int .i64 a2))] [] [] [] [(3003, ⟨[.str], 9, 16, a3⟩)])
section
variable (Γ : Fun)  (Λ2 J : Lam)
def alI : aP := aQ Γ
theorem aFv (p0 : Str) : bF SE (alI Γ) Λ2 J 150 [.d (.str p0)] [] [] =
 akq (alI Γ) Λ2 J p0 0 0 (List.map bL []) := by kernel_rfl
theorem awY (x0 : Str) (x4 x5 : Int) (w3003 : List Str) : bT SE (alI Γ) Λ2 J 150 0 [1, 1, 1, 0, 1, 0] (aW [(0, .d (.str x0)), (3, .row 3003), (4, .d (.int .i64 x4)), (5, .d (.int .i64 x5))] [] [] [] [(3003, ⟨[.str], 9, 16, (List.map bL w3003)⟩)]) =
 cond (decide (x5 < (List.length x0 : Int))) (
 cond (iB x5 (List.length x0 : Int)) (
  cond ((UInt8.toNat (List.getD x0 (Int.toNat x5) 0) : Int) == 47) (
  cond (decide (0 ≤ x5) && decide (x5 ≤ ((List.length x0) : Int))) (
   cond (decide (0 ≤ x4) && decide (x4 ≤ x5)) (
   cond (decide ((lM bL w3003 + lM bL [(bR x0 (some x4) (some x5))]) * 16 ≤ 140737488355328)) (
    akq (alI Γ) Λ2 J x0 (w6 (x5 + 1)) (w6 (x5 + 1)) (((List.map bL w3003) ++ (List.map bL [(bR x0 (some x4) (some x5))])))) none) none) none) (
  akq (alI Γ) Λ2 J x0 x4 (w6 (x5 + 1)) (List.map bL w3003))) none) (
 cond (decide (0 ≤ x4) && decide (x4 ≤ ((List.length x0) : Int))) (
 cond (decide ((lM bL w3003 + lM bL [(bR x0 (some x4) none)]) * 16 ≤ 140737488355328)) (
  (some (.ret [.row 0] [] [⟨[.str], 9, 16, ((List.map bL w3003) ++ (List.map bL [(bR x0 (some x4) none)]))⟩]))) none) none) := by kernel_rfl
end
abbrev atu : aP := alI gG
theorem avH : atu = aQ gG := rfl
abbrev axe := akq atu (bP SE gG (SE.hl 150) (SE.hr 150)) (J0 SE atu)
theorem acH : ∀ (fu : Nat) (x0 : Str) (x4 x5 : Int) (w3003 : List Str), Le (Option.map dN (fK fu x0 x4 x5 w3003)) (axe x0 x4 x5 (List.map bL w3003)) := by
 intro fu
 induction fu with
 | zero => intros; exact le_none
 | succ fu ih =>
  intro x0 x4 x5 w3003
  refine Le.trans ?_ (le_of_eq ((aZ avH).trans (awY ..)).symm)
  unfold fK
  refine lC ?_ ?_
  ·refine lF ?_
   refine lC ?_ ?_
   ·refine lF ?_
    refine lF ?_
    refine lG (by simp only [EN]) ?_
    (try simp only [EN]); exact ih x0 (w6 (x5 + 1)) (w6 (x5 + 1)) ((w3003 ++ [(bR x0 (some x4) (some x5))]))
   ·exact ih x0 x4 (w6 (x5 + 1)) w3003
  ·refine lF ?_
   refine lG (by simp only [EN]) ?_
   exact aJ (by first | rfl | simp only [EN, dN] <;> rfl)
theorem zC (p0 : Str) : Le (Option.map dN (oI p0)) (bA SE 150 [.d (.str p0)] [] []) := by
 refine aV avH rfl ?_
 refine Le.trans ?_ (le_of_eq (aFv ..).symm)
 unfold oI
 (try simp only [EN]); exact acH fuel p0 0 0 []
section
variable (Γ : Fun) (γ99 : Gm (Bool)) (γ150 : Gm ((List Str))) (Λ2 J : Lam)
def C98 : aP := aY (aY (aQ Γ) 99 stringslite_HasPrefix_out γ99) 150 dN γ150
theorem T98 (p0 : Str) : bF SE (C98 Γ γ99 γ150) Λ2 J 98 [.d (.str p0)] [] [] =
 cond (decide ((List.length p0 : Int) ≥ 1)) (
 cond (decide ((List.length p0 : Int) ≤ 64)) (
  γ99 [.d (.str p0), .d (.int .u8 0)] [] [] fun r0 =>
  cond (!r0) (
  γ150 [.d (.str p0)] [] [] fun r1 =>
  (rB (decide ((lM bL r1 : Int) ≤ 8)))) (
  (rB false))) (
 (rB false))) (
 (rB false)) := by kernel_rfl
end
abbrev X98 : aP := C98 gG (cT 99 stringslite_HasPrefix_out) (cT 150 dN)
theorem aFg : X98 = aQ gG := by unfold X98 C98; repeat rw [bC fun _ h => h]
theorem aay (p0 : Str) : Le (Option.map stringslite_HasPrefix_out (mW p0)) (bA SE 98 [.d (.str p0)] [] []) := by
 refine aV aFg rfl ?_
 refine Le.trans ?_ (le_of_eq (T98 ..).symm)
 unfold mW
 refine lC ?_ ?_
 ·refine lC ?_ ?_
  ·refine lQ eX stringslite_HasPrefix_inj (oL _ _) fun r0 _ => ?_
   refine lC ?_ ?_
   ·refine lQ eX yB (zC _) fun r1 _ => ?_
    exact aJ (by first | rfl | simp only [EN, stringslite_HasPrefix_out] <;> rfl)
   ·exact aJ rfl
  ·exact aJ rfl
 ·exact aJ rfl
section
variable (Γ : Fun) (γ98 γ99 : Gm (Bool)) (Λ2 J : Lam)
def C47 : aP := aY (aY (aQ Γ) 98 stringslite_HasPrefix_out γ98) 99 stringslite_HasPrefix_out γ99
theorem T47 (p0 : Str) : bF SE (C47 Γ γ98 γ99) Λ2 J 47 [.d (.str p0)] [] [] =
 γ98 [.d (.str p0)] [] [] fun r0 =>
 cond r0 (
 γ99 [.d (.str p0), .d (.int .u8 43)] [] [] fun r1 =>
 cond (!r1) (
  γ99 [.d (.str p0), .d (.int .u8 35)] [] [] fun r2 =>
  (rB (!r2))) (
 (rB false))) (
 (rB false)) := by kernel_rfl
end
abbrev X47 : aP := C47 gG (cT 98 stringslite_HasPrefix_out) (cT 99 stringslite_HasPrefix_out)
theorem aFm : X47 = aQ gG := by unfold X47 C47; repeat rw [bC fun _ h => h]
theorem afT (p0 : Str) : Le (Option.map stringslite_HasPrefix_out (pO p0)) (bA SE 47 [.d (.str p0)] [] []) := by
 refine aV aFm rfl ?_
 refine Le.trans ?_ (le_of_eq (T47 ..).symm)
 unfold pO
 refine lQ eX stringslite_HasPrefix_inj (aay _) fun r0 _ => ?_
 refine lC ?_ ?_
 ·refine lQ eX stringslite_HasPrefix_inj (oL _ _) fun r1 _ => ?_
  refine lC ?_ ?_
  ·refine lQ eX stringslite_HasPrefix_inj (oL _ _) fun r2 _ => ?_
   exact aJ rfl
  ·exact aJ rfl
 ·exact aJ rfl
def aad (C : aP) (Λ2 J : Lam) (a0 : Str) (a1 : Int) : Res := lab SE C Λ2 J 102 0 [1, 1, 0, 1, 0] (aW [(0, .d (.str a0)), (3, .d (.int .i64 a1))] [] [] [] [])
def ar7 (C : aP) (Λ2 J : Lam) (a0 : Str) : Res := lab SE C Λ2 J 102 0 [1, 1, 0, 0] (aW [(0, .d (.str a0))] [] [] [] [])
section
variable (Γ : Fun)  (Λ2 J : Lam)
def abf : aP := aQ Γ
theorem aEd (p0 : Str) : bF SE (abf Γ) Λ2 J 102 [.d (.str p0)] [] [] =
 cond (decide ((List.length p0 : Int) < 1)) (
 (rB false)) (
 cond (decide ((List.length p0 : Int) > 16)) (
 (rB false)) (
 ar7 (abf Γ) Λ2 J p0)) := by kernel_rfl
theorem aw2 (x0 : Str) (x3 : Int) : bT SE (abf Γ) Λ2 J 102 0 [1, 1, 0, 1, 0] (aW [(0, .d (.str x0)), (3, .d (.int .i64 x3))] [] [] [] []) =
 cond (decide (x3 < (List.length x0 : Int))) (
 cond (iB x3 (List.length x0 : Int)) (
  cond (decide ((UInt8.toNat (List.getD x0 (Int.toNat x3) 0) : Int) ≥ 97)) (
  cond (!(decide ((UInt8.toNat (List.getD x0 (Int.toNat x3) 0) : Int) ≤ 122))) (
   cond (decide ((UInt8.toNat (List.getD x0 (Int.toNat x3) 0) : Int) ≥ 48)) (
   cond (!(decide ((UInt8.toNat (List.getD x0 (Int.toNat x3) 0) : Int) ≤ 57))) (
    cond ((UInt8.toNat (List.getD x0 (Int.toNat x3) 0) : Int) != 45) (
    (rB false)) (
    aad (abf Γ) Λ2 J x0 (w6 (x3 + 1)))) (
   aad (abf Γ) Λ2 J x0 (w6 (x3 + 1)))) (
   cond ((UInt8.toNat (List.getD x0 (Int.toNat x3) 0) : Int) != 45) (
   (rB false)) (
   aad (abf Γ) Λ2 J x0 (w6 (x3 + 1))))) (
  aad (abf Γ) Λ2 J x0 (w6 (x3 + 1)))) (
  cond (decide ((UInt8.toNat (List.getD x0 (Int.toNat x3) 0) : Int) ≥ 48)) (
  cond (!(decide ((UInt8.toNat (List.getD x0 (Int.toNat x3) 0) : Int) ≤ 57))) (
   cond ((UInt8.toNat (List.getD x0 (Int.toNat x3) 0) : Int) != 45) (
   (rB false)) (
   aad (abf Γ) Λ2 J x0 (w6 (x3 + 1)))) (
  aad (abf Γ) Λ2 J x0 (w6 (x3 + 1)))) (
  cond ((UInt8.toNat (List.getD x0 (Int.toNat x3) 0) : Int) != 45) (
  (rB false)) (
  aad (abf Γ) Λ2 J x0 (w6 (x3 + 1)))))) none) (
 (rB true)) := by kernel_rfl
theorem axU (x0 : Str) : bT SE (abf Γ) Λ2 J 102 0 [1, 1, 0, 0] (aW [(0, .d (.str x0))] [] [] [] []) =
 aad (abf Γ) Λ2 J x0 0 := by kernel_rfl
end
abbrev aoo : aP := abf gG
theorem aqH : aoo = aQ gG := rfl
abbrev aAw := aad aoo (bP SE gG (SE.hl 102) (SE.hr 102)) (J0 SE aoo)
abbrev ayV := ar7 aoo (bP SE gG (SE.hl 102) (SE.hr 102)) (J0 SE aoo)
theorem afj : ∀ (fu : Nat) (x0 : Str) (x3 : Int), Le (Option.map stringslite_HasPrefix_out (dF fu x0 x3)) (aAw x0 x3) := by
 intro fu
 induction fu with
 | zero => intros; exact le_none
 | succ fu ih =>
  intro x0 x3
  refine Le.trans ?_ (le_of_eq ((aZ aqH).trans (aw2 ..)).symm)
  unfold dF
  refine lC ?_ ?_
  ·refine lF ?_
   refine lC ?_ ?_
   ·refine lC ?_ ?_
    ·refine lC ?_ ?_
     ·refine lC ?_ ?_
      ·refine lC ?_ ?_
       ·exact aJ rfl
       ·exact ih x0 (w6 (x3 + 1))
      ·exact ih x0 (w6 (x3 + 1))
     ·refine lC ?_ ?_
      ·exact aJ rfl
      ·exact ih x0 (w6 (x3 + 1))
    ·exact ih x0 (w6 (x3 + 1))
   ·refine lC ?_ ?_
    ·refine lC ?_ ?_
     ·refine lC ?_ ?_
      ·exact aJ rfl
      ·exact ih x0 (w6 (x3 + 1))
     ·exact ih x0 (w6 (x3 + 1))
    ·refine lC ?_ ?_
     ·exact aJ rfl
     ·exact ih x0 (w6 (x3 + 1))
  ·exact aJ rfl
theorem afa (x0 : Str) : Le (Option.map stringslite_HasPrefix_out (sK x0)) (ayV x0) := by
 refine Le.trans ?_ (le_of_eq ((aZ aqH).trans (axU ..)).symm)
 unfold sK
 exact afj fuel x0 0
theorem ahr (p0 : Str) : Le (Option.map stringslite_HasPrefix_out (sV p0)) (bA SE 102 [.d (.str p0)] [] []) := by
 refine aV aqH rfl ?_
 refine Le.trans ?_ (le_of_eq (aEd ..).symm)
 unfold sV
 refine lC ?_ ?_
 ·exact aJ rfl
 ·refine lC ?_ ?_
  ·exact aJ rfl
  ·exact afa p0
def am2 (C : aP) (Λ2 J : Lam) (a0 : List (List D)) (a1 : Int) : Res := lab SE C Λ2 J 49 0 [1, 1, 0, 1, 0] (aW [(0, .d (.sl aG.ks a0)), (3, .d (.int .i64 a1))] [] [] [] [])
section
variable (Γ : Fun) (γ102 : Gm (Bool)) (Λ2 J : Lam)
def C49 : aP := aY (aQ Γ) 102 stringslite_HasPrefix_out γ102
theorem T49 (p0 : List aG) : bF SE (C49 Γ γ102) Λ2 J 49 [.d (.sl aG.ks (List.map aG.enc p0))] [] [] =
 cond (decide ((lM aG.enc p0 : Int) > 8)) (
 (rI 5)) (
 am2 (C49 Γ γ102) Λ2 J (List.map aG.enc p0) 0) := by kernel_rfl
theorem aDc (x0 : List aG) (x3 : Int) : bT SE (C49 Γ γ102) Λ2 J 49 0 [1, 1, 0, 1, 0] (aW [(0, .d (.sl aG.ks (List.map aG.enc x0))), (3, .d (.int .i64 x3))] [] [] [] []) =
 cond (decide (x3 < (lM aG.enc x0 : Int))) (
 cond (iB x3 (lM aG.enc x0 : Int)) (
  γ102 [.d (.str (bD (cE aG.enc x0 x3 0)))] [] [] fun r0 =>
  cond (!r0) (
  (rI 16)) (
  cond (iB x3 (lM aG.enc x0 : Int)) (
  cond (decide ((List.length (bD (cE aG.enc x0 x3 1)) : Int) > 160)) (
   (rI 5)) (
  cond (decide (x3 > 0)) (
   cond (iB x3 (lM aG.enc x0 : Int)) (
   cond (iB (w6 (x3 - 1)) (lM aG.enc x0 : Int)) (
    cond (Op.bytesLess (bD (cE aG.enc x0 x3 0)) (bD (cE aG.enc x0 (w6 (x3 - 1)) 0)) || (bD (cE aG.enc x0 x3 0)) == (bD (cE aG.enc x0 (w6 (x3 - 1)) 0))) (
    (rI 16)) (
    am2 (C49 Γ γ102) Λ2 J (List.map aG.enc x0) (w6 (x3 + 1)))) none) none) (
  am2 (C49 Γ γ102) Λ2 J (List.map aG.enc x0) (w6 (x3 + 1))))) none)) none) (
 (rI 0)) := by kernel_rfl
end
abbrev X49 : aP := C49 gG (cT 102 stringslite_HasPrefix_out)
theorem aye : X49 = aQ gG := by unfold X49 C49; rw [bC fun _ h => h]
abbrev aCP := am2 X49 (bP SE gG (SE.hl 49) (SE.hr 49)) (J0 SE X49)
theorem adA : ∀ (fu : Nat) (x0 : List aG) (x3 : Int), Le (Option.map stringslite_IndexByte_out (fZ fu x0 x3)) (aCP (List.map aG.enc x0) x3) := by
 intro fu
 induction fu with
 | zero => intros; exact le_none
 | succ fu ih =>
  intro x0 x3
  refine Le.trans ?_ (le_of_eq ((aZ aye).trans (aDc ..)).symm)
  unfold fZ
  refine lD (by simp only [EN]) ?_ ?_
  ·refine lG (by simp only [EN]) ?_
   refine lQ eX stringslite_HasPrefix_inj (by (try simp only [EN]); exact ahr ((List.getD x0 (Int.toNat x3) default).Key)) fun r0 _ => ?_
   refine lC ?_ ?_
   ·exact aJ rfl
   ·refine lG (by simp only [EN]) ?_
    refine lD (by simp only [EN]) ?_ ?_
    ·exact aJ rfl
    ·refine lC ?_ ?_
     ·refine lG (by simp only [EN]) ?_
      refine lG (by simp only [EN]) ?_
      refine lD (by simp only [EN]) ?_ ?_
      ·exact aJ rfl
      ·exact ih x0 (w6 (x3 + 1))
     ·exact ih x0 (w6 (x3 + 1))
  ·exact aJ rfl
theorem agz (p0 : List aG) : Le (Option.map stringslite_IndexByte_out (pP p0)) (bA SE 49 [.d (.sl aG.ks (List.map aG.enc p0))] [] []) := by
 refine aV aye rfl ?_
 refine Le.trans ?_ (le_of_eq (T49 ..).symm)
 unfold pP
 refine lD (by simp only [EN]) ?_ ?_
 ·exact aJ rfl
 ·exact adA fuel p0 0
def aph (C : aP) (Λ2 J : Lam) (a0 : List D) : Res := lab SE C Λ2 J 13 0 [1, 1, 1, 1, 1, 1, 0, 0] (aW [(1, .ptr 1000000000 0)] [⟨34, (List.map AV.d a0)⟩] [] [] [])
def avh (C : aP) (Λ2 J : Lam) (a0 : List D) : Res := lab SE C Λ2 J 13 0 [1, 1, 1, 1, 1, 0, 0] (aW [(1, .ptr 1000000000 0)] [⟨34, (List.map AV.d a0)⟩] [] [] [])
def avl (C : aP) (Λ2 J : Lam) (a0 : List D) : Res := lab SE C Λ2 J 13 0 [1, 1, 1, 1, 0, 0] (aW [(1, .ptr 1000000000 0)] [⟨34, (List.map AV.d a0)⟩] [] [] [])
section
variable (Γ : Fun) (γ47 γ48 : Gm (Bool)) (γ49 : Gm (Int)) (Λ2 J : Lam)
def C13 : aP := aY (aY (aY (aQ Γ) 47 stringslite_HasPrefix_out γ47) 48 stringslite_HasPrefix_out γ48) 49 stringslite_IndexByte_out γ49
theorem T13 (p0 : aA) : bF SE (C13 Γ γ47 γ48 γ49) Λ2 J 13 [aA.av p0] [] [] =
 γ47 [.d (.str p0.Topic)] [] [] fun r0 =>
 cond (!r0) (
 (rI 12)) (
 cond (decide ((List.length p0.Payload : Int) > 256)) (
 (rI 5)) (
 cond (decide (p0.Level < 0)) (
 (rI 14)) (
 cond (decide (p0.Level > 2)) (
 (rI 14)) (
 avl (C13 Γ γ47 γ48 γ49) Λ2 J (aA.enc p0))))) := by kernel_rfl
theorem ax5 (b0 : aA) : bT SE (C13 Γ γ47 γ48 γ49) Λ2 J 13 0 [1, 1, 1, 1, 1, 1, 0, 0] (aW [(1, .ptr 1000000000 0)] [⟨34, (List.map AV.d (aA.enc b0))⟩] [] [] []) =
 cond (decide (b0.Seq < 0)) (
 (rI 1)) (
 cond (decide (b0.Seq > 1099511627776)) (
 (rI 1)) (
 γ49 [.d (.sl aG.ks (List.map aG.enc b0.Props))] [] [] fun r2 =>
 (rI r2))) := by kernel_rfl
theorem aCZ (b0 : aA) : bT SE (C13 Γ γ47 γ48 γ49) Λ2 J 13 0 [1, 1, 1, 1, 1, 0, 0] (aW [(1, .ptr 1000000000 0)] [⟨34, (List.map AV.d (aA.enc b0))⟩] [] [] []) =
 cond (!(b0.From == ([] : Str))) (
 γ48 [.d (.str b0.From)] [] [] fun r1 =>
 cond (!r1) (
  (rI 11)) (
 aph (C13 Γ γ47 γ48 γ49) Λ2 J (aA.enc b0))) (
 aph (C13 Γ γ47 γ48 γ49) Λ2 J (aA.enc b0)) := by kernel_rfl
theorem aBS (b0 : aA) : bT SE (C13 Γ γ47 γ48 γ49) Λ2 J 13 0 [1, 1, 1, 1, 0, 0] (aW [(1, .ptr 1000000000 0)] [⟨34, (List.map AV.d (aA.enc b0))⟩] [] [] []) =
 cond (decide (b0.Priority < 0)) (
 (rI 1)) (
 cond (decide (b0.Priority > 9)) (
 (rI 1)) (
 cond (decide (b0.Expires < 0)) (
 (rI 1)) (
 cond (decide (b0.Expires > 1099511627776)) (
 (rI 1)) (
 avh (C13 Γ γ47 γ48 γ49) Λ2 J (aA.enc b0))))) := by kernel_rfl
end
abbrev X13 : aP := C13 gG (cT 47 stringslite_HasPrefix_out) (cT 48 stringslite_HasPrefix_out) (cT 49 stringslite_IndexByte_out)
theorem aqO : X13 = aQ gG := by unfold X13 C13; repeat rw [bC fun _ h => h]
abbrev awC := aph X13 (bP SE gG (SE.hl 13) (SE.hr 13)) (J0 SE X13)
abbrev aBJ := avh X13 (bP SE gG (SE.hl 13) (SE.hr 13)) (J0 SE X13)
abbrev aDe := avl X13 (bP SE gG (SE.hl 13) (SE.hr 13)) (J0 SE X13)
theorem v8 (b0 : aA) : Le (Option.map stringslite_IndexByte_out (lK b0)) (awC (aA.enc b0)) := by
 refine Le.trans ?_ (le_of_eq ((aZ aqO).trans (ax5 ..)).symm)
 unfold lK
 refine lC ?_ ?_
 ·exact aJ rfl
 ·refine lC ?_ ?_
  ·exact aJ rfl
  ·refine lQ eX stringslite_IndexByte_inj (agz _) fun r2 _ => ?_
   exact aJ rfl
theorem adB (b0 : aA) : Le (Option.map stringslite_IndexByte_out (pX b0)) (aBJ (aA.enc b0)) := by
 refine Le.trans ?_ (le_of_eq ((aZ aqO).trans (aCZ ..)).symm)
 unfold pX
 refine lC ?_ ?_
 ·refine lQ eX stringslite_HasPrefix_inj (kI _) fun r1 _ => ?_
  refine lC ?_ ?_
  ·exact aJ rfl
  ·exact v8 b0
 ·exact v8 b0
theorem ady (b0 : aA) : Le (Option.map stringslite_IndexByte_out (pZ b0)) (aDe (aA.enc b0)) := by
 refine Le.trans ?_ (le_of_eq ((aZ aqO).trans (aBS ..)).symm)
 unfold pZ
 refine lC ?_ ?_
 ·exact aJ rfl
 ·refine lC ?_ ?_
  ·exact aJ rfl
  ·refine lC ?_ ?_
   ·exact aJ rfl
   ·refine lC ?_ ?_
    ·exact aJ rfl
    ·exact adB b0
theorem gZ (p0 : aA) : Le (Option.map stringslite_IndexByte_out (eN p0)) (bA SE 13 [aA.av p0] [] []) := by
 refine aV aqO rfl ?_
 refine Le.trans ?_ (le_of_eq (T13 ..).symm)
 unfold eN
 refine lQ eX stringslite_HasPrefix_inj (afT _) fun r0 _ => ?_
 refine lC ?_ ?_
 ·exact aJ rfl
 ·refine lC ?_ ?_
  ·exact aJ rfl
  ·refine lC ?_ ?_
   ·exact aJ rfl
   ·refine lC ?_ ?_
    ·exact aJ rfl
    ·exact ady p0
section
variable (Γ : Fun) (γ97 : Gm (Bool)) (γ13 : Gm (Int)) (Λ2 J : Lam)
def atO : aP := aY (aY (aQ Γ) 97 stringslite_HasPrefix_out γ97) 13 stringslite_IndexByte_out γ13
theorem aER (p0 : aU) : bF SE (atO Γ γ97 γ13) Λ2 J 136 [aU.av p0] [] [] =
 cond (!p0.Set) (
 cond (p0.Delay != 0) (
  (rI 28)) (
 γ97 [aA.av p0.Message, .agg [.d (.str []), .d (.str []), .d (.int .i64 0), .d (.bool false), .d (.int .i64 0), .d (.int .i64 0), .d (.str []), .d (.int .i64 0), .d (.sl aG.ks (List.map aG.enc []))]] [] [] fun r0 =>
 cond (!r0) (
  (rI 28)) (
 (rI 0)))) (
 cond (decide (p0.Delay < 0)) (
 (rI 1)) (
 cond (decide (p0.Delay > 1099511627776)) (
 (rI 1)) (
 γ13 [aA.av p0.Message] [] [] fun r1 =>
 (rI r1)))) := by kernel_rfl
end
abbrev axE : aP := atO gG (cT 97 stringslite_HasPrefix_out) (cT 13 stringslite_IndexByte_out)
theorem aAS : axE = aQ gG := by unfold axE atO; repeat rw [bC fun _ h => h]
theorem agP (p0 : aU) : Le (Option.map stringslite_IndexByte_out (rD p0)) (bA SE 136 [aU.av p0] [] []) := by
 refine aV aAS rfl ?_
 refine Le.trans ?_ (le_of_eq (aER ..).symm)
 unfold rD
 refine lC ?_ ?_
 ·refine lC ?_ ?_
  ·exact aJ rfl
  ·refine lQ eX stringslite_HasPrefix_inj (by (try simp only [EN]); exact iL p0.Message ((aA.mk [] [] 0 false 0 0 [] 0 []))) fun r0 _ => ?_
   refine lC ?_ ?_
   ·exact aJ rfl
   ·exact aJ rfl
 ·refine lC ?_ ?_
  ·exact aJ rfl
  ·refine lC ?_ ?_
   ·exact aJ rfl
   ·refine lQ eX stringslite_IndexByte_inj (gZ _) fun r1 _ => ?_
    exact aJ rfl
def aqw (C : aP) (Λ2 J : Lam) (a0 : List D) : Res := lab SE C Λ2 J 74 0 [1, 1, 0, 0] (aW [(1, .ptr 1000000000 0)] [⟨49, (List.map AV.d a0)⟩] [] [] [])
section
variable (Γ : Fun) (γ48 : Gm (Bool)) (γ136 : Gm (Int)) (Λ2 J : Lam)
def C74 : aP := aY (aY (aQ Γ) 48 stringslite_HasPrefix_out γ48) 136 stringslite_IndexByte_out γ136
theorem T74 (p0 : aC) : bF SE (C74 Γ γ48 γ136) Λ2 J 74 [aC.av p0] [] [] =
 γ48 [.d (.str p0.Client)] [] [] fun r0 =>
 cond (!r0) (
 (rI 11)) (
 cond (!(p0.User == ([] : Str))) (
 γ48 [.d (.str p0.User)] [] [] fun r1 =>
 cond (!r1) (
  (rI 11)) (
 aqw (C74 Γ γ48 γ136) Λ2 J (aC.enc p0))) (
 aqw (C74 Γ γ48 γ136) Λ2 J (aC.enc p0))) := by kernel_rfl
theorem aCD (b0 : aC) : bT SE (C74 Γ γ48 γ136) Λ2 J 74 0 [1, 1, 0, 0] (aW [(1, .ptr 1000000000 0)] [⟨49, (List.map AV.d (aC.enc b0))⟩] [] [] []) =
 cond (decide (b0.Keep < 0)) (
 (rI 1)) (
 cond (decide (b0.Keep > 1099511627776)) (
 (rI 1)) (
 cond (decide (b0.Expiry < 0)) (
 (rI 1)) (
 cond (decide (b0.Expiry > 1099511627776)) (
 (rI 1)) (
 cond (decide (b0.Window < 1)) (
 (rI 1)) (
 cond (decide (b0.Window > 32)) (
 (rI 1)) (
 γ136 [aU.av b0.Will] [] [] fun r2 =>
 (rI r2))))))) := by kernel_rfl
end
abbrev X74 : aP := C74 gG (cT 48 stringslite_HasPrefix_out) (cT 136 stringslite_IndexByte_out)
theorem axZ : X74 = aQ gG := by unfold X74 C74; repeat rw [bC fun _ h => h]
abbrev aBT := aqw X74 (bP SE gG (SE.hl 74) (SE.hr 74)) (J0 SE X74)
theorem vS (b0 : aC) : Le (Option.map stringslite_IndexByte_out (kK b0)) (aBT (aC.enc b0)) := by
 refine Le.trans ?_ (le_of_eq ((aZ axZ).trans (aCD ..)).symm)
 unfold kK
 refine lC ?_ ?_
 ·exact aJ rfl
 ·refine lC ?_ ?_
  ·exact aJ rfl
  ·refine lC ?_ ?_
   ·exact aJ rfl
   ·refine lC ?_ ?_
    ·exact aJ rfl
    ·refine lC ?_ ?_
     ·exact aJ rfl
     ·refine lC ?_ ?_
      ·exact aJ rfl
      ·refine lQ eX stringslite_IndexByte_inj (agP _) fun r2 _ => ?_
       exact aJ rfl
theorem aeg (p0 : aC) : Le (Option.map stringslite_IndexByte_out (nH p0)) (bA SE 74 [aC.av p0] [] []) := by
 refine aV axZ rfl ?_
 refine Le.trans ?_ (le_of_eq (T74 ..).symm)
 unfold nH
 refine lQ eX stringslite_HasPrefix_inj (kI _) fun r0 _ => ?_
 refine lC ?_ ?_
 ·exact aJ rfl
 ·refine lC ?_ ?_
  ·refine lQ eX stringslite_HasPrefix_inj (kI _) fun r1 _ => ?_
   refine lC ?_ ?_
   ·exact aJ rfl
   ·exact vS p0
  ·exact vS p0
section
variable (Γ : Fun)  (Λ2 J : Lam)
def C77 : aP := aQ Γ
theorem T77 (p0 : Int) : bF SE (C77 Γ) Λ2 J 77 [.d (.int .i64 p0)] [] [] =
 cond (decide (p0 < 1)) (
 (rI 15)) (
 cond (decide (p0 > 65535)) (
 (rI 15)) (
 (rI 0))) := by kernel_rfl
end
abbrev X77 : aP := C77 gG
theorem aDQ : X77 = aQ gG := rfl
theorem zJ (p0 : Int) : Le (Option.map stringslite_IndexByte_out (mQ p0)) (bA SE 77 [.d (.int .i64 p0)] [] []) := by
 refine aV aDQ rfl ?_
 refine Le.trans ?_ (le_of_eq (T77 ..).symm)
 unfold mQ
 refine lC ?_ ?_
 ·exact aJ rfl
 ·refine lC ?_ ?_
  ·exact aJ rfl
  ·exact aJ rfl
section
variable (Γ : Fun) (γ13 γ77 : Gm (Int)) (Λ2 J : Lam)
def C75 : aP := aY (aY (aQ Γ) 13 stringslite_IndexByte_out γ13) 77 stringslite_IndexByte_out γ77
theorem T75 (p0 : aC) : bF SE (C75 Γ γ13 γ77) Λ2 J 75 [aC.av p0] [] [] =
 γ13 [aA.av p0.Message] [] [] fun r0 =>
 cond (r0 != 0) (
 (rI r0)) (
 cond (p0.Message.Level == 0) (
 cond (p0.ID != 0) (
  (rI 15)) (
 cond p0.Dup (
  (rI 28)) (
 (rI 0)))) (
 γ77 [.d (.int .i64 p0.ID)] [] [] fun r1 =>
 (rI r1))) := by kernel_rfl
end
abbrev X75 : aP := C75 gG (cT 13 stringslite_IndexByte_out) (cT 77 stringslite_IndexByte_out)
theorem aFb : X75 = aQ gG := by unfold X75 C75; repeat rw [bC fun _ h => h]
theorem aeD (p0 : aC) : Le (Option.map stringslite_IndexByte_out (nE p0)) (bA SE 75 [aC.av p0] [] []) := by
 refine aV aFb rfl ?_
 refine Le.trans ?_ (le_of_eq (T75 ..).symm)
 unfold nE
 refine lQ eX stringslite_IndexByte_inj (gZ _) fun r0 _ => ?_
 refine lC ?_ ?_
 ·exact aJ rfl
 ·refine lC ?_ ?_
  ·refine lC ?_ ?_
   ·exact aJ rfl
   ·refine lC ?_ ?_
    ·exact aJ rfl
    ·exact aJ rfl
  ·refine lQ eX stringslite_IndexByte_inj (zJ _) fun r1 _ => ?_
   exact aJ rfl
section
variable (Γ : Fun)  (Λ2 J : Lam)
def C76 : aP := aQ Γ
theorem T76 (p0 : Int) : bF SE (C76 Γ) Λ2 J 76 [.d (.int .i64 p0)] [] [] =
 cond (decide (p0 ≥ 0)) (
 (rB (decide (p0 ≤ 29)))) (
 (rB false)) := by kernel_rfl
end
abbrev X76 : aP := C76 gG
theorem aGm : X76 = aQ gG := rfl
theorem vN (p0 : Int) : Le (Option.map stringslite_HasPrefix_out (kV p0)) (bA SE 76 [.d (.int .i64 p0)] [] []) := by
 refine aV aGm rfl ?_
 refine Le.trans ?_ (le_of_eq (T76 ..).symm)
 unfold kV
 refine lC ?_ ?_
 ·exact aJ rfl
 ·exact aJ rfl
section
variable (Γ : Fun)  (Λ2 J : Lam)
def C78 : aP := aQ Γ
theorem T78 (p0 : Int) : bF SE (C78 Γ) Λ2 J 78 [.d (.int .i64 p0)] [] [] =
 cond (p0 == 0) (
 (rI 1)) (
 cond (decide (p0 > 32)) (
 (rI 5)) (
 (rI 0))) := by kernel_rfl
end
abbrev X78 : aP := C78 gG
theorem aFK : X78 = aQ gG := rfl
theorem afZ (p0 : Int) : Le (Option.map stringslite_IndexByte_out (pQ p0)) (bA SE 78 [.d (.int .i64 p0)] [] []) := by
 refine aV aFK rfl ?_
 refine Le.trans ?_ (le_of_eq (T78 ..).symm)
 unfold pQ
 refine lC ?_ ?_
 ·exact aJ rfl
 ·refine lC ?_ ?_
  ·exact aJ rfl
  ·exact aJ rfl
section
variable (Γ : Fun)  (Λ2 J : Lam)
def azS : aP := aQ Γ
theorem aEM (p0 p1 : Str) : bF SE (azS Γ) Λ2 J 168 [.d (.str p0), .d (.str p1)] [] [] =
 cond (decide ((List.length p0 : Int) ≥ (List.length p1 : Int))) (
 cond (decide (0 ≤ (List.length p1 : Int)) && decide ((List.length p1 : Int) ≤ ((List.length p0) : Int))) (
  (rB ((bR p0 none (some (List.length p1 : Int))) == p1))) none) (
 (rB false)) := by kernel_rfl
end
abbrev aFd : aP := azS gG
theorem aDf : aFd = aQ gG := rfl
theorem tN (p0 p1 : Str) : Le (Option.map stringslite_HasPrefix_out (k8 p0 p1)) (bA SE 168 [.d (.str p0), .d (.str p1)] [] []) := by
 refine aV aDf rfl ?_
 refine Le.trans ?_ (le_of_eq (aEM ..).symm)
 unfold k8
 refine lC ?_ ?_
 ·refine lF ?_
  exact aJ rfl
 ·exact aJ rfl
def aoT (C : aP) (Λ2 J : Lam) (a0 : Int) (a1 : List (List D)) : Res := lab SE C Λ2 J 167 0 [1, 1, 1, 0, 1, 0, 0, 1, 0, 0, 1, 0] (aW [(3, .row 3003), (4, .d (.int .i64 a0))] [] [] [] [(3003, ⟨[.str], 9, 16, a1⟩)])
def aka (C : aP) (Λ2 J : Lam) (a0 : Int) (a1 : List (List D)) : Res := lab SE C Λ2 J 167 0 [1, 1, 1, 0, 1, 0] (aW [(3, .row 3003), (4, .d (.int .i64 a0))] [] [] [] [(3003, ⟨[.str], 9, 16, a1⟩)])
section
variable (Γ : Fun) (γ98 : Gm (Bool)) (γ150 : Gm ((List Str))) (γ99 : Gm (Bool)) (Λ2 J : Lam)
def aeQ : aP := aY (aY (aY (aQ Γ) 98 stringslite_HasPrefix_out γ98) 150 dN γ150) 99 stringslite_HasPrefix_out γ99
theorem aDR (p0 : Str) : bF SE (aeQ Γ γ98 γ150 γ99) Λ2 J 167 [.d (.str p0)] [] [] =
 γ98 [.d (.str p0)] [] [] fun r0 =>
 cond (!r0) (
 (rB false)) (
 γ150 [.d (.str p0)] [] [] fun r1 =>
 aka (aeQ Γ γ98 γ150 γ99) Λ2 J 0 (List.map bL r1)) := by kernel_rfl
theorem awW (x4 : Int) (w3003 : List Str) : bT SE (aeQ Γ γ98 γ150 γ99) Λ2 J 167 0 [1, 1, 1, 0, 1, 0, 0, 1, 0, 0, 1, 0] (aW [(3, .row 3003), (4, .d (.int .i64 x4))] [] [] [] [(3003, ⟨[.str], 9, 16, (List.map bL w3003)⟩)]) =
 cond (iB x4 (lM bL w3003 : Int)) (
 γ99 [.d (.str (bD (cE bL w3003 x4 0))), .d (.int .u8 35)] [] [] fun r3 =>
 cond r3 (
  cond (iB x4 (lM bL w3003 : Int)) (
  cond (!((bD (cE bL w3003 x4 0)) == ([35] : Str))) (
   (rB false)) (
  cond (x4 != (w6 ((lM bL w3003 : Int) - 1))) (
   (rB false)) (
  aka (aeQ Γ γ98 γ150 γ99) Λ2 J (w6 (x4 + 1)) (List.map bL w3003)))) none) (
 aka (aeQ Γ γ98 γ150 γ99) Λ2 J (w6 (x4 + 1)) (List.map bL w3003))) none := by kernel_rfl
theorem azO (x4 : Int) (w3003 : List Str) : bT SE (aeQ Γ γ98 γ150 γ99) Λ2 J 167 0 [1, 1, 1, 0, 1, 0] (aW [(3, .row 3003), (4, .d (.int .i64 x4))] [] [] [] [(3003, ⟨[.str], 9, 16, (List.map bL w3003)⟩)]) =
 cond (decide (x4 < (lM bL w3003 : Int))) (
 cond (iB x4 (lM bL w3003 : Int)) (
  γ99 [.d (.str (bD (cE bL w3003 x4 0))), .d (.int .u8 43)] [] [] fun r2 =>
  cond r2 (
  cond (iB x4 (lM bL w3003 : Int)) (
   cond (!((bD (cE bL w3003 x4 0)) == ([43] : Str))) (
   (rB false)) (
   aoT (aeQ Γ γ98 γ150 γ99) Λ2 J x4 (List.map bL w3003))) none) (
  aoT (aeQ Γ γ98 γ150 γ99) Λ2 J x4 (List.map bL w3003))) none) (
 (rB true)) := by kernel_rfl
end
abbrev als : aP := aeQ gG (cT 98 stringslite_HasPrefix_out) (cT 150 dN) (cT 99 stringslite_HasPrefix_out)
theorem aqq : als = aQ gG := by unfold als aeQ; repeat rw [bC fun _ h => h]
abbrev axm := aoT als (bP SE gG (SE.hl 167) (SE.hr 167)) (J0 SE als)
abbrev asf := aka als (bP SE gG (SE.hl 167) (SE.hr 167)) (J0 SE als)
theorem wC (k5 : Int → (List Str) → Option (Bool)) (hk5 : ∀ (x4 : Int) (w3003 : List Str), Le (Option.map stringslite_HasPrefix_out (k5 x4 w3003)) (asf x4 (List.map bL w3003))) (x4 : Int) (w3003 : List Str) : Le (Option.map stringslite_HasPrefix_out (jB k5 x4 w3003)) (axm x4 (List.map bL w3003)) := by
 refine Le.trans ?_ (le_of_eq ((aZ aqq).trans (awW ..)).symm)
 unfold jB
 refine lG (by simp only [EN]) ?_
 refine lQ eX stringslite_HasPrefix_inj (by (try simp only [EN]); exact oL (List.getD w3003 (Int.toNat x4) default) 35) fun r3 _ => ?_
 refine lC ?_ ?_
 ·refine lG (by simp only [EN]) ?_
  refine lD (by simp only [EN]) ?_ ?_
  ·exact aJ rfl
  ·refine lD (by simp only [EN]) ?_ ?_
   ·exact aJ rfl
   ·exact hk5 (w6 (x4 + 1)) w3003
 ·exact hk5 (w6 (x4 + 1)) w3003
theorem ac0 : ∀ (fu : Nat) (x4 : Int) (w3003 : List Str), Le (Option.map stringslite_HasPrefix_out (fM fu x4 w3003)) (asf x4 (List.map bL w3003)) := by
 intro fu
 induction fu with
 | zero => intros; exact le_none
 | succ fu ih =>
  intro x4 w3003
  refine Le.trans ?_ (le_of_eq ((aZ aqq).trans (azO ..)).symm)
  unfold fM
  refine lD (by simp only [EN]) ?_ ?_
  ·refine lG (by simp only [EN]) ?_
   refine lQ eX stringslite_HasPrefix_inj (by (try simp only [EN]); exact oL (List.getD w3003 (Int.toNat x4) default) 43) fun r2 _ => ?_
   refine lC ?_ ?_
   ·refine lG (by simp only [EN]) ?_
    refine lD (by simp only [EN]) ?_ ?_
    ·exact aJ rfl
    ·exact wC _ (ih) x4 w3003
   ·exact wC _ (ih) x4 w3003
  ·exact aJ rfl
theorem yW (p0 : Str) : Le (Option.map stringslite_HasPrefix_out (lA p0)) (bA SE 167 [.d (.str p0)] [] []) := by
 refine aV aqq rfl ?_
 refine Le.trans ?_ (le_of_eq (aDR ..).symm)
 unfold lA
 refine lQ eX stringslite_HasPrefix_inj (aay _) fun r0 _ => ?_
 refine lC ?_ ?_
 ·exact aJ rfl
 ·refine lQ eX yB (zC _) fun r1 _ => ?_
  exact ac0 fuel 0 r1
def asJ (C : aP) (Λ2 J : Lam) (a0 : Str) (a1 : Int) : Res := lab SE C Λ2 J 166 0 [1, 1, 1, 1, 1, 1, 0] (aW [(5, .d (.str a0)), (6, .d (.int .i64 a1))] [] [] [] [])
def aou (C : aP) (Λ2 J : Lam) (a0 : Str) (a1 : Int) : Res := lab SE C Λ2 J 166 0 [1, 1, 1, 1, 1, 0, 0] (aW [(5, .d (.str a0)), (6, .d (.int .i64 a1))] [] [] [] [])
def ao3 (C : aP) (Λ2 J : Lam) (a0 : Str) (a1 : Int) : Res := lab SE C Λ2 J 166 0 [1, 1, 1, 1, 0, 0] (aW [(5, .d (.str a0)), (6, .d (.int .i64 a1))] [] [] [] [])
section
variable (Γ : Fun) (γ168 γ48 γ167 : Gm (Bool)) (Λ2 J : Lam)
def adr : aP := aY (aY (aY (aQ Γ) 168 stringslite_HasPrefix_out γ168) 48 stringslite_HasPrefix_out γ48) 167 stringslite_HasPrefix_out γ167
theorem aFE (p0 : Str) : bF SE (adr Γ γ168 γ48 γ167) Λ2 J 166 [.d (.str p0)] [] [] =
 γ168 [.d (.str p0), .d (.str ([36, 115, 104, 97, 114, 101, 47] : Str))] [] [] fun r0 =>
 cond (!r0) (
 (some (.ret [.d (.str []), .d (.str []), .d (.bool false)] [] []))) (
 cond (decide (0 ≤ 7) && decide (7 ≤ ((List.length p0) : Int))) (
 ao3 (adr Γ γ168 γ48 γ167) Λ2 J (bR p0 (some 7) none) 0) none) := by kernel_rfl
theorem axO (x5 : Str) (x6 : Int) : bT SE (adr Γ γ168 γ48 γ167) Λ2 J 166 0 [1, 1, 1, 1, 1, 1, 0] (aW [(5, .d (.str x5)), (6, .d (.int .i64 x6))] [] [] [] []) =
 cond (decide (0 ≤ x6) && decide (x6 ≤ ((List.length x5) : Int))) (
 cond (decide (0 ≤ (w6 (x6 + 1))) && decide ((w6 (x6 + 1)) ≤ ((List.length x5) : Int))) (
  (some (.ret [.d (.str (bR x5 none (some x6))), .d (.str (bR x5 (some (w6 (x6 + 1))) none)), .d (.bool true)] [] []))) none) none := by kernel_rfl
theorem ax2 (x5 : Str) (x6 : Int) : bT SE (adr Γ γ168 γ48 γ167) Λ2 J 166 0 [1, 1, 1, 1, 1, 0, 0] (aW [(5, .d (.str x5)), (6, .d (.int .i64 x6))] [] [] [] []) =
 cond (x6 == (List.length x5 : Int)) (
 (some (.ret [.d (.str []), .d (.str []), .d (.bool false)] [] []))) (
 cond (decide (0 ≤ x6) && decide (x6 ≤ ((List.length x5) : Int))) (
 γ48 [.d (.str (bR x5 none (some x6)))] [] [] fun r1 =>
 cond (!r1) (
  (some (.ret [.d (.str []), .d (.str []), .d (.bool false)] [] []))) (
 cond (decide (0 ≤ (w6 (x6 + 1))) && decide ((w6 (x6 + 1)) ≤ ((List.length x5) : Int))) (
  γ167 [.d (.str (bR x5 (some (w6 (x6 + 1))) none))] [] [] fun r2 =>
  cond (!r2) (
  (some (.ret [.d (.str []), .d (.str []), .d (.bool false)] [] []))) (
  cond (decide (0 ≤ (w6 (x6 + 1))) && decide ((w6 (x6 + 1)) ≤ ((List.length x5) : Int))) (
  γ168 [.d (.str (bR x5 (some (w6 (x6 + 1))) none)), .d (.str ([36, 115, 104, 97, 114, 101, 47] : Str))] [] [] fun r3 =>
  cond r3 (
   (some (.ret [.d (.str []), .d (.str []), .d (.bool false)] [] []))) (
  asJ (adr Γ γ168 γ48 γ167) Λ2 J x5 x6)) none)) none)) none) := by kernel_rfl
theorem ayF (x5 : Str) (x6 : Int) : bT SE (adr Γ γ168 γ48 γ167) Λ2 J 166 0 [1, 1, 1, 1, 0, 0] (aW [(5, .d (.str x5)), (6, .d (.int .i64 x6))] [] [] [] []) =
 cond (decide (x6 < (List.length x5 : Int))) (
 cond (iB x6 (List.length x5 : Int)) (
  cond ((UInt8.toNat (List.getD x5 (Int.toNat x6) 0) : Int) != 47) (
  ao3 (adr Γ γ168 γ48 γ167) Λ2 J x5 (w6 (x6 + 1))) (
  aou (adr Γ γ168 γ48 γ167) Λ2 J x5 x6)) none) (
 aou (adr Γ γ168 γ48 γ167) Λ2 J x5 x6) := by kernel_rfl
end
abbrev ahk : aP := adr gG (cT 168 stringslite_HasPrefix_out) (cT 48 stringslite_HasPrefix_out) (cT 167 stringslite_HasPrefix_out)
theorem anf : ahk = aQ gG := by unfold ahk adr; repeat rw [bC fun _ h => h]
abbrev ayD := asJ ahk (bP SE gG (SE.hl 166) (SE.hr 166)) (J0 SE ahk)
abbrev aAq := aou ahk (bP SE gG (SE.hl 166) (SE.hr 166)) (J0 SE ahk)
abbrev azy := ao3 ahk (bP SE gG (SE.hl 166) (SE.hr 166)) (J0 SE ahk)
theorem ac9 (x5 : Str) (x6 : Int) : Le (Option.map stringslite_Cut_out (oZ x5 x6)) (ayD x5 x6) := by
 refine Le.trans ?_ (le_of_eq ((aZ anf).trans (axO ..)).symm)
 unfold oZ
 refine lF ?_
 refine lF ?_
 exact aJ rfl
theorem wQ (x5 : Str) (x6 : Int) : Le (Option.map stringslite_Cut_out (jC x5 x6)) (aAq x5 x6) := by
 refine Le.trans ?_ (le_of_eq ((aZ anf).trans (ax2 ..)).symm)
 unfold jC
 refine lC ?_ ?_
 ·exact aJ rfl
 ·refine lF ?_
  refine lQ eX stringslite_HasPrefix_inj (kI _) fun r1 _ => ?_
  refine lC ?_ ?_
  ·exact aJ rfl
  ·refine lF ?_
   refine lQ eX stringslite_HasPrefix_inj (yW _) fun r2 _ => ?_
   refine lC ?_ ?_
   ·exact aJ rfl
   ·refine lF ?_
    refine lQ eX stringslite_HasPrefix_inj (tN _ _) fun r3 _ => ?_
    refine lC ?_ ?_
    ·exact aJ rfl
    ·exact ac9 x5 x6
theorem adj : ∀ (fu : Nat) (x5 : Str) (x6 : Int), Le (Option.map stringslite_Cut_out (gR fu x5 x6)) (azy x5 x6) := by
 intro fu
 induction fu with
 | zero => intros; exact le_none
 | succ fu ih =>
  intro x5 x6
  refine Le.trans ?_ (le_of_eq ((aZ anf).trans (ayF ..)).symm)
  unfold gR
  refine lC ?_ ?_
  ·refine lF ?_
   refine lC ?_ ?_
   ·exact ih x5 (w6 (x6 + 1))
   ·exact wQ x5 x6
  ·exact wQ x5 x6
theorem tL (p0 : Str) : Le (Option.map stringslite_Cut_out (jQ p0)) (bA SE 166 [.d (.str p0)] [] []) := by
 refine aV anf rfl ?_
 refine Le.trans ?_ (le_of_eq (aFE ..).symm)
 unfold jQ
 refine lQ eX stringslite_HasPrefix_inj (tN _ _) fun r0 _ => ?_
 refine lC ?_ ?_
 ·exact aJ rfl
 ·refine lF ?_
  exact adj fuel (bR p0 (some 7) none) 0
section
variable (Γ : Fun) (γ166 : Gm (Str × Str × Bool)) (γ167 γ168 : Gm (Bool)) (Λ2 J : Lam)
def as9 : aP := aY (aY (aY (aQ Γ) 166 stringslite_Cut_out γ166) 167 stringslite_HasPrefix_out γ167) 168 stringslite_HasPrefix_out γ168
theorem aFn (p0 : Str) : bF SE (as9 Γ γ166 γ167 γ168) Λ2 J 133 [.d (.str p0)] [] [] =
 γ166 [.d (.str p0)] [] [] fun r0 =>
 cond r0.2.2 (
 (rB true)) (
 γ167 [.d (.str p0)] [] [] fun r1 =>
 cond r1 (
 γ168 [.d (.str p0), .d (.str ([36, 115, 104, 97, 114, 101, 47] : Str))] [] [] fun r2 =>
 (rB (!r2))) (
 (rB false))) := by kernel_rfl
end
abbrev aw4 : aP := as9 gG (cT 166 stringslite_Cut_out) (cT 167 stringslite_HasPrefix_out) (cT 168 stringslite_HasPrefix_out)
theorem aBH : aw4 = aQ gG := by unfold aw4 as9; repeat rw [bC fun _ h => h]
theorem tI (p0 : Str) : Le (Option.map stringslite_HasPrefix_out (jL p0)) (bA SE 133 [.d (.str p0)] [] []) := by
 refine aV aBH rfl ?_
 refine Le.trans ?_ (le_of_eq (aFn ..).symm)
 unfold jL
 refine lQ eX stringslite_Cut_inj (tL _) fun r0 _ => ?_
 refine lC ?_ ?_
 ·exact aJ rfl
 ·refine lQ eX stringslite_HasPrefix_inj (yW _) fun r1 _ => ?_
  refine lC ?_ ?_
  ·refine lQ eX stringslite_HasPrefix_inj (tN _ _) fun r2 _ => ?_
   exact aJ rfl
  ·exact aJ rfl
def asl (C : aP) (Λ2 J : Lam) (a0 : List D) : Res := lab SE C Λ2 J 137 0 [1, 1, 1, 0] (aW [(1, .ptr 1000000000 0)] [⟨60, (List.map AV.d a0)⟩] [] [] [])
section
variable (Γ : Fun) (γ133 : Gm (Bool)) (γ166 : Gm (Str × Str × Bool)) (Λ2 J : Lam)
def anV : aP := aY (aY (aQ Γ) 133 stringslite_HasPrefix_out γ133) 166 stringslite_Cut_out γ166
theorem aD7 (p0 : aF) : bF SE (anV Γ γ133 γ166) Λ2 J 137 [aF.av p0] [] [] =
 γ133 [.d (.str p0.Filter)] [] [] fun r0 =>
 cond (!r0) (
 (rI 13)) (
 cond (decide (p0.Level < 0)) (
 (rI 14)) (
 cond (decide (p0.Level > 2)) (
 (rI 14)) (
 asl (anV Γ γ133 γ166) Λ2 J (aF.enc p0)))) := by kernel_rfl
theorem aAh (b0 : aF) : bT SE (anV Γ γ133 γ166) Λ2 J 137 0 [1, 1, 1, 0] (aW [(1, .ptr 1000000000 0)] [⟨60, (List.map AV.d (aF.enc b0))⟩] [] [] []) =
 γ166 [.d (.str b0.Filter)] [] [] fun r1 =>
 cond b0.NoLocal (
 cond r1.2.2 (
  (rI 28)) (
 (rI 0))) (
 (rI 0)) := by kernel_rfl
end
abbrev aqE : aP := anV gG (cT 133 stringslite_HasPrefix_out) (cT 166 stringslite_Cut_out)
theorem avk : aqE = aQ gG := by unfold aqE anV; repeat rw [bC fun _ h => h]
abbrev azD := asl aqE (bP SE gG (SE.hl 137) (SE.hr 137)) (J0 SE aqE)
theorem afd (b0 : aF) : Le (Option.map stringslite_IndexByte_out (sY b0)) (azD (aF.enc b0)) := by
 refine Le.trans ?_ (le_of_eq ((aZ avk).trans (aAh ..)).symm)
 unfold sY
 refine lQ eX stringslite_Cut_inj (tL _) fun r1 _ => ?_
 refine lC ?_ ?_
 ·refine lC ?_ ?_
  ·exact aJ rfl
  ·exact aJ rfl
 ·exact aJ rfl
theorem aix (p0 : aF) : Le (Option.map stringslite_IndexByte_out (sE p0)) (bA SE 137 [aF.av p0] [] []) := by
 refine aV avk rfl ?_
 refine Le.trans ?_ (le_of_eq (aD7 ..).symm)
 unfold sE
 refine lQ eX stringslite_HasPrefix_inj (tI _) fun r0 _ => ?_
 refine lC ?_ ?_
 ·exact aJ rfl
 ·refine lC ?_ ?_
  ·exact aJ rfl
  ·refine lC ?_ ?_
   ·exact aJ rfl
   ·exact afd p0
def aot (C : aP) (Λ2 J : Lam) (a0 : Int) (a1 : List D) : Res := lab SE C Λ2 J 79 0 [1, 1, 1, 0, 1, 0] (aW [(1, .ptr 1000000000 0), (6, .d (.int .i64 a0))] [⟨49, (List.map AV.d a1)⟩] [] [] [])
def art (C : aP) (Λ2 J : Lam) (a0 : Int) (a1 : List D) : Res := lab SE C Λ2 J 79 0 [1, 1, 0, 1, 0] (aW [(1, .ptr 1000000000 0), (5, .d (.int .i64 a0))] [⟨49, (List.map AV.d a1)⟩] [] [] [])
def arE (C : aP) (Λ2 J : Lam) (a0 : Int) (a1 : List D) : Res := lab SE C Λ2 J 79 0 [1, 0, 1, 0] (aW [(1, .ptr 1000000000 0), (3, .d (.int .i64 a0))] [⟨49, (List.map AV.d a1)⟩] [] [] [])
section
variable (Γ : Fun) (γ137 : Gm (Int)) (γ133 γ76 : Gm (Bool)) (Λ2 J : Lam)
def C79 : aP := aY (aY (aY (aQ Γ) 137 stringslite_IndexByte_out γ137) 133 stringslite_HasPrefix_out γ133) 76 stringslite_HasPrefix_out γ76
theorem T79 (p0 : aC) : bF SE (C79 Γ γ137 γ133 γ76) Λ2 J 79 [aC.av p0] [] [] =
 arE (C79 Γ γ137 γ133 γ76) Λ2 J 0 (aC.enc p0) := by kernel_rfl
theorem az4 (x6 : Int) (b0 : aC) : bT SE (C79 Γ γ137 γ133 γ76) Λ2 J 79 0 [1, 1, 1, 0, 1, 0] (aW [(1, .ptr 1000000000 0), (6, .d (.int .i64 x6))] [⟨49, (List.map AV.d (aC.enc b0))⟩] [] [] []) =
 cond (decide (x6 < (lM eI b0.Codes : Int))) (
 cond (iB x6 (lM eI b0.Codes : Int)) (
  γ76 [.d (.int .i64 (aR (cE eI b0.Codes x6 0)))] [] [] fun r2 =>
  cond (!r2) (
  (rI 1)) (
  aot (C79 Γ γ137 γ133 γ76) Λ2 J (w6 (x6 + 1)) (aC.enc b0))) none) (
 (rI 0)) := by kernel_rfl
theorem aAI (x5 : Int) (b0 : aC) : bT SE (C79 Γ γ137 γ133 γ76) Λ2 J 79 0 [1, 1, 0, 1, 0] (aW [(1, .ptr 1000000000 0), (5, .d (.int .i64 x5))] [⟨49, (List.map AV.d (aC.enc b0))⟩] [] [] []) =
 cond (decide (x5 < (lM bL b0.Filters : Int))) (
 cond (iB x5 (lM bL b0.Filters : Int)) (
  γ133 [.d (.str (bD (cE bL b0.Filters x5 0)))] [] [] fun r1 =>
  cond (!r1) (
  (rI 13)) (
  art (C79 Γ γ137 γ133 γ76) Λ2 J (w6 (x5 + 1)) (aC.enc b0))) none) (
 aot (C79 Γ γ137 γ133 γ76) Λ2 J 0 (aC.enc b0)) := by kernel_rfl
theorem aDi (x3 : Int) (b0 : aC) : bT SE (C79 Γ γ137 γ133 γ76) Λ2 J 79 0 [1, 0, 1, 0] (aW [(1, .ptr 1000000000 0), (3, .d (.int .i64 x3))] [⟨49, (List.map AV.d (aC.enc b0))⟩] [] [] []) =
 cond (decide (x3 < (lM aF.enc b0.Subs : Int))) (
 cond (iB x3 (lM aF.enc b0.Subs : Int)) (
  γ137 [.agg [.d (.str (bD (cE aF.enc b0.Subs x3 0))), .d (.int .i64 (aR (cE aF.enc b0.Subs x3 1))), .d (.bool (bN (cE aF.enc b0.Subs x3 2)))]] [] [] fun r0 =>
  cond (r0 != 0) (
  (rI r0)) (
  arE (C79 Γ γ137 γ133 γ76) Λ2 J (w6 (x3 + 1)) (aC.enc b0))) none) (
 art (C79 Γ γ137 γ133 γ76) Λ2 J 0 (aC.enc b0)) := by kernel_rfl
end
abbrev X79 : aP := C79 gG (cT 137 stringslite_IndexByte_out) (cT 133 stringslite_HasPrefix_out) (cT 76 stringslite_HasPrefix_out)
theorem arH : X79 = aQ gG := by unfold X79 C79; repeat rw [bC fun _ h => h]
abbrev awN := aot X79 (bP SE gG (SE.hl 79) (SE.hr 79)) (J0 SE X79)
abbrev aCQ := art X79 (bP SE gG (SE.hl 79) (SE.hr 79)) (J0 SE X79)
abbrev aCG := arE X79 (bP SE gG (SE.hl 79) (SE.hr 79)) (J0 SE X79)
theorem abF : ∀ (fu : Nat) (x6 : Int) (b0 : aC), Le (Option.map stringslite_IndexByte_out (eC fu x6 b0)) (awN x6 (aC.enc b0)) := by
 intro fu
 induction fu with
 | zero => intros; exact le_none
 | succ fu ih =>
  intro x6 b0
  refine Le.trans ?_ (le_of_eq ((aZ arH).trans (az4 ..)).symm)
  unfold eC
  refine lD (by simp only [EN]) ?_ ?_
  ·refine lG (by simp only [EN]) ?_
   refine lQ eX stringslite_HasPrefix_inj (by (try simp only [EN]); exact vN (List.getD b0.Codes (Int.toNat x6) default)) fun r2 _ => ?_
   refine lC ?_ ?_
   ·exact aJ rfl
   ·exact ih (w6 (x6 + 1)) b0
  ·exact aJ rfl
theorem abO : ∀ (fu : Nat) (x5 : Int) (b0 : aC), Le (Option.map stringslite_IndexByte_out (eK fu x5 b0)) (aCQ x5 (aC.enc b0)) := by
 intro fu
 induction fu with
 | zero => intros; exact le_none
 | succ fu ih =>
  intro x5 b0
  refine Le.trans ?_ (le_of_eq ((aZ arH).trans (aAI ..)).symm)
  unfold eK
  refine lD (by simp only [EN]) ?_ ?_
  ·refine lG (by simp only [EN]) ?_
   refine lQ eX stringslite_HasPrefix_inj (by (try simp only [EN]); exact tI (List.getD b0.Filters (Int.toNat x5) default)) fun r1 _ => ?_
   refine lC ?_ ?_
   ·exact aJ rfl
   ·exact ih (w6 (x5 + 1)) b0
  ·exact abF fuel 0 b0
theorem ab1 : ∀ (fu : Nat) (x3 : Int) (b0 : aC), Le (Option.map stringslite_IndexByte_out (fX fu x3 b0)) (aCG x3 (aC.enc b0)) := by
 intro fu
 induction fu with
 | zero => intros; exact le_none
 | succ fu ih =>
  intro x3 b0
  refine Le.trans ?_ (le_of_eq ((aZ arH).trans (aDi ..)).symm)
  unfold fX
  refine lD (by simp only [EN]) ?_ ?_
  ·refine lG (by simp only [EN]) ?_
   refine lQ eX stringslite_IndexByte_inj (by (try simp only [EN]); exact aix (List.getD b0.Subs (Int.toNat x3) default)) fun r0 _ => ?_
   refine lC ?_ ?_
   ·exact aJ rfl
   ·exact ih (w6 (x3 + 1)) b0
  ·exact abO fuel 0 b0
theorem adz (p0 : aC) : Le (Option.map stringslite_IndexByte_out (l6 p0)) (bA SE 79 [aC.av p0] [] []) := by
 refine aV arH rfl ?_
 refine Le.trans ?_ (le_of_eq (T79 ..).symm)
 unfold l6
 exact ab1 fuel 0 p0
def as0 (C : aP) (Λ2 J : Lam) (a0 : List D) : Res := lab SE C Λ2 J 30 0 [1, 1, 1, 1, 1, 1, 1, 1, 1, 0] (aW [(1, .ptr 1000000000 0)] [⟨49, (List.map AV.d a0)⟩] [] [] [])
def ar2 (C : aP) (Λ2 J : Lam) (a0 : List D) : Res := lab SE C Λ2 J 30 0 [1, 1, 1, 1, 1, 1, 1, 0] (aW [(1, .ptr 1000000000 0)] [⟨49, (List.map AV.d a0)⟩] [] [] [])
def asI (C : aP) (Λ2 J : Lam) (a0 : List D) : Res := lab SE C Λ2 J 30 0 [1, 1, 1, 1, 1, 1, 0, 0] (aW [(1, .ptr 1000000000 0)] [⟨49, (List.map AV.d a0)⟩] [] [] [])
def au4 (C : aP) (Λ2 J : Lam) (a0 : List D) : Res := lab SE C Λ2 J 30 0 [1, 1, 0, 0] (aW [(1, .ptr 1000000000 0)] [⟨49, (List.map AV.d a0)⟩] [] [] [])
section
variable (Γ : Fun) (γ73 : Gm (aC)) (γ63 : Gm (Bool)) (γ74 γ75 : Gm (Int)) (γ76 : Gm (Bool)) (γ77 γ78 γ79 : Gm (Int)) (Λ2 J : Lam)
def C30 : aP := aY (aY (aY (aY (aY (aY (aY (aY (aQ Γ) 73 cY γ73) 63 stringslite_HasPrefix_out γ63) 74 stringslite_IndexByte_out γ74) 75 stringslite_IndexByte_out γ75) 76 stringslite_HasPrefix_out γ76) 77 stringslite_IndexByte_out γ77) 78 stringslite_IndexByte_out γ78) 79 stringslite_IndexByte_out γ79
theorem T30 (p0 : aC) : bF SE (C30 Γ γ73 γ63 γ74 γ75 γ76 γ77 γ78 γ79) Λ2 J 30 [aC.av p0] [] [] =
 cond (decide (p0.Kind < 1)) (
 (rI 10)) (
 cond (decide (p0.Kind > 14)) (
 (rI 10)) (
 au4 (C30 Γ γ73 γ63 γ74 γ75 γ76 γ77 γ78 γ79) Λ2 J (aC.enc p0))) := by kernel_rfl
theorem azV (b0 : aC) : bT SE (C30 Γ γ73 γ63 γ74 γ75 γ76 γ77 γ78 γ79) Λ2 J 30 0 [1, 1, 1, 1, 1, 1, 1, 1, 1, 0] (aW [(1, .ptr 1000000000 0)] [⟨49, (List.map AV.d (aC.enc b0))⟩] [] [] []) =
 γ78 [.d (.int .i64 (w6 ((w6 ((lM aF.enc b0.Subs : Int) + (lM bL b0.Filters : Int))) + (lM eI b0.Codes : Int))))] [] [] fun r7 =>
 cond (r7 != 0) (
 (rI r7)) (
 γ79 [aC.av b0] [] [] fun r8 =>
 (rI r8)) := by kernel_rfl
theorem ayy (b0 : aC) : bT SE (C30 Γ γ73 γ63 γ74 γ75 γ76 γ77 γ78 γ79) Λ2 J 30 0 [1, 1, 1, 1, 1, 1, 1, 0] (aW [(1, .ptr 1000000000 0)] [⟨49, (List.map AV.d (aC.enc b0))⟩] [] [] []) =
 γ77 [.d (.int .i64 b0.ID)] [] [] fun r6 =>
 cond (r6 != 0) (
 (rI r6)) (
 cond (decide (b0.Kind ≤ 7)) (
 (rI r6)) (
 as0 (C30 Γ γ73 γ63 γ74 γ75 γ76 γ77 γ78 γ79) Λ2 J (aC.enc b0))) := by kernel_rfl
theorem azN (b0 : aC) : bT SE (C30 Γ γ73 γ63 γ74 γ75 γ76 γ77 γ78 γ79) Λ2 J 30 0 [1, 1, 1, 1, 1, 1, 0, 0] (aW [(1, .ptr 1000000000 0)] [⟨49, (List.map AV.d (aC.enc b0))⟩] [] [] []) =
 cond (b0.Kind == 12) (
 (rI 0)) (
 cond (b0.Kind == 13) (
 (rI 0)) (
 ar2 (C30 Γ γ73 γ63 γ74 γ75 γ76 γ77 γ78 γ79) Λ2 J (aC.enc b0))) := by kernel_rfl
theorem aAM (b0 : aC) : bT SE (C30 Γ γ73 γ63 γ74 γ75 γ76 γ77 γ78 γ79) Λ2 J 30 0 [1, 1, 0, 0] (aW [(1, .ptr 1000000000 0)] [⟨49, (List.map AV.d (aC.enc b0))⟩] [] [] []) =
 γ73 [aC.av b0] [] [] fun r0 =>
 γ63 [aC.av b0, aC.av r0] [] [] fun r1 =>
 cond (!r1) (
 (rI 28)) (
 cond (b0.Kind == 1) (
 γ74 [aC.av b0] [] [] fun r2 =>
 (rI r2)) (
 cond (b0.Kind == 3) (
 γ75 [aC.av b0] [] [] fun r3 =>
 (rI r3)) (
 cond (b0.Kind == 2) (
 γ76 [.d (.int .i64 b0.Code)] [] [] fun r4 =>
 cond (!r4) (
  (rI 1)) (
 cond b0.Present (
  cond (b0.Code != 0) (
  (rI 28)) (
  (rI 0))) (
 (rI 0)))) (
 cond (b0.Kind == 14) (
 γ76 [.d (.int .i64 b0.Code)] [] [] fun r5 =>
 cond (!r5) (
  (rI 1)) (
 cond b0.Present (
  cond (b0.Code != 0) (
  (rI 28)) (
  (rI 0))) (
 (rI 0)))) (
 asI (C30 Γ γ73 γ63 γ74 γ75 γ76 γ77 γ78 γ79) Λ2 J (aC.enc b0)))))) := by kernel_rfl
end
abbrev X30 : aP := C30 gG (cT 73 cY) (cT 63 stringslite_HasPrefix_out) (cT 74 stringslite_IndexByte_out) (cT 75 stringslite_IndexByte_out) (cT 76 stringslite_HasPrefix_out) (cT 77 stringslite_IndexByte_out) (cT 78 stringslite_IndexByte_out) (cT 79 stringslite_IndexByte_out)
theorem aog : X30 = aQ gG := by unfold X30 C30; repeat rw [bC fun _ h => h]
abbrev ays := as0 X30 (bP SE gG (SE.hl 30) (SE.hr 30)) (J0 SE X30)
abbrev awx := ar2 X30 (bP SE gG (SE.hl 30) (SE.hr 30)) (J0 SE X30)
abbrev axR := asI X30 (bP SE gG (SE.hl 30) (SE.hr 30)) (J0 SE X30)
abbrev aDo := au4 X30 (bP SE gG (SE.hl 30) (SE.hr 30)) (J0 SE X30)
theorem acQ (b0 : aC) : Le (Option.map stringslite_IndexByte_out (tW b0)) (ays (aC.enc b0)) := by
 refine Le.trans ?_ (le_of_eq ((aZ aog).trans (azV ..)).symm)
 unfold tW
 refine lQ eX stringslite_IndexByte_inj (by (try simp only [EN]); exact afZ ((w6 ((w6 ((List.length b0.Subs : Int) + (List.length b0.Filters : Int))) + (List.length b0.Codes : Int))))) fun r7 _ => ?_
 refine lC ?_ ?_
 ·exact aJ rfl
 ·refine lQ eX stringslite_IndexByte_inj (adz _) fun r8 _ => ?_
  exact aJ rfl
theorem ac2 (b0 : aC) : Le (Option.map stringslite_IndexByte_out (tJ b0)) (awx (aC.enc b0)) := by
 refine Le.trans ?_ (le_of_eq ((aZ aog).trans (ayy ..)).symm)
 unfold tJ
 refine lQ eX stringslite_IndexByte_inj (zJ _) fun r6 _ => ?_
 refine lC ?_ ?_
 ·exact aJ rfl
 ·refine lC ?_ ?_
  ·exact aJ rfl
  ·exact acQ b0
theorem adm (b0 : aC) : Le (Option.map stringslite_IndexByte_out (tZ b0)) (axR (aC.enc b0)) := by
 refine Le.trans ?_ (le_of_eq ((aZ aog).trans (azN ..)).symm)
 unfold tZ
 refine lC ?_ ?_
 ·exact aJ rfl
 ·refine lC ?_ ?_
  ·exact aJ rfl
  ·exact ac2 b0
theorem adu (b0 : aC) : Le (Option.map stringslite_IndexByte_out (qC b0)) (aDo (aC.enc b0)) := by
 refine Le.trans ?_ (le_of_eq ((aZ aog).trans (aAM ..)).symm)
 unfold qC
 refine lQ eX afL (ag1 _) fun r0 _ => ?_
 refine lQ eX stringslite_HasPrefix_inj (aaJ _ _) fun r1 _ => ?_
 refine lC ?_ ?_
 ·exact aJ rfl
 ·refine lC ?_ ?_
  ·refine lQ eX stringslite_IndexByte_inj (aeg _) fun r2 _ => ?_
   exact aJ rfl
  ·refine lC ?_ ?_
   ·refine lQ eX stringslite_IndexByte_inj (aeD _) fun r3 _ => ?_
    exact aJ rfl
   ·refine lC ?_ ?_
    ·refine lQ eX stringslite_HasPrefix_inj (vN _) fun r4 _ => ?_
     refine lC ?_ ?_
     ·exact aJ rfl
     ·refine lC ?_ ?_
      ·refine lC ?_ ?_
       ·exact aJ rfl
       ·exact aJ rfl
      ·exact aJ rfl
    ·refine lC ?_ ?_
     ·refine lQ eX stringslite_HasPrefix_inj (vN _) fun r5 _ => ?_
      refine lC ?_ ?_
      ·exact aJ rfl
      ·refine lC ?_ ?_
       ·refine lC ?_ ?_
        ·exact aJ rfl
        ·exact aJ rfl
       ·exact aJ rfl
     ·exact adm b0
theorem aaj (p0 : aC) : Le (Option.map stringslite_IndexByte_out (j1 p0)) (bA SE 30 [aC.av p0] [] []) := by
 refine aV aog rfl ?_
 refine Le.trans ?_ (le_of_eq (T30 ..).symm)
 unfold j1
 refine lC ?_ ?_
 ·exact aJ rfl
 ·refine lC ?_ ?_
  ·exact aJ rfl
  ·exact adu p0
section
variable (Γ : Fun)  (Λ2 J : Lam)
def C82 : aP := aQ Γ
theorem T82 (p0 : Int) : bF SE (C82 Γ) Λ2 J 82 [.d (.int .i64 p0)] [] [] =
 cond (decide (p0 < 0)) (
 (some (.ret [.agg [.d (.int .i64 0), .row 0, .row 1, .d (.int .i64 0)]] [] [⟨aD.ks, 122, 128, (List.map aD.enc [])⟩, ⟨[.int .i64], 3, 8, (List.map eI [])⟩]))) (
 cond (decide (p0 > 32)) (
 (some (.ret [.agg [.d (.int .i64 32), .row 0, .row 1, .d (.int .i64 0)]] [] [⟨aD.ks, 122, 128, (List.map aD.enc [])⟩, ⟨[.int .i64], 3, 8, (List.map eI [])⟩]))) (
 (some (.ret [.agg [.d (.int .i64 p0), .row 0, .row 1, .d (.int .i64 0)]] [] [⟨aD.ks, 122, 128, (List.map aD.enc [])⟩, ⟨[.int .i64], 3, 8, (List.map eI [])⟩])))) := by kernel_rfl
end
abbrev X82 : aP := C82 gG
theorem aEp : X82 = aQ gG := rfl
theorem ahQ (p0 : Int) : Le (Option.map bY (vO p0)) (bA SE 82 [.d (.int .i64 p0)] [] []) := by
 refine aV aEp rfl ?_
 refine Le.trans ?_ (le_of_eq (T82 ..).symm)
 unfold vO
 refine lC ?_ ?_
 ·exact aJ rfl
 ·refine lC ?_ ?_
  ·exact aJ rfl
  ·exact aJ rfl
section
variable (Γ : Fun) (γ82 : Gm (aI)) (Λ2 J : Lam)
def C32 : aP := aY (aQ Γ) 82 bY γ82
theorem T32 (p0 : aC) (p1 : Int) : bF SE (C32 Γ γ82) Λ2 J 32 [aC.av p0, .d (.int .i64 p1)] [] [] =
 γ82 [.d (.int .i64 p0.Window)] [] [] fun r0 =>
 (some (.ret [.agg [.d (.str p0.Client), .d (.str p0.User), .d (.bool true), .d (.int .i64 p1), .d (.int .i64 p0.Expiry), .d (.int .i64 0), .d (.int .i64 0), .row 0, .row 1, .d (.int .i64 r0.Limit), .row 2, .row 3, .d (.int .i64 r0.Pool.Last), .row 4, .d (.bool p0.Will.Set), .d (.int .i64 p0.Will.Delay), .d (.str p0.Will.Message.Topic), .d (.str p0.Will.Message.Payload), .d (.int .i64 p0.Will.Message.Level), .d (.bool p0.Will.Message.Retain), .d (.int .i64 p0.Will.Message.Priority), .d (.int .i64 p0.Will.Message.Expires), .d (.str p0.Will.Message.From), .d (.int .i64 p0.Will.Message.Seq), .d (.sl aG.ks (List.map aG.enc p0.Will.Message.Props))]] [] [⟨aF.ks, 60, 32, (List.map aF.enc [])⟩, ⟨aA.ks, 34, 112, (List.map aA.enc [])⟩, ⟨aD.ks, 122, 128, (List.map aD.enc r0.Items)⟩, ⟨[.int .i64], 3, 8, (List.map eI r0.Pool.Used)⟩, ⟨[.int .i64], 3, 8, (List.map eI [])⟩])) := by kernel_rfl
end
abbrev X32 : aP := C32 gG (cT 82 bY)
theorem aEr : X32 = aQ gG := by unfold X32 C32; rw [bC fun _ h => h]
theorem ahq (p0 : aC) (p1 : Int) : Le (Option.map kG (sG p0 p1)) (bA SE 32 [aC.av p0, .d (.int .i64 p1)] [] []) := by
 refine aV aEr rfl ?_
 refine Le.trans ?_ (le_of_eq (T32 ..).symm)
 unfold sG
 refine lQ eX fC (ahQ _) fun r0 _ => ?_
 exact aJ rfl
def aqu (C : aP) (Λ2 J : Lam) (a0 a1 : List (List D)) (a2 : Int) : Res := lab SE C Λ2 J 55 0 [1, 1, 0, 1, 0] (aW [(0, .d (.sl aF.ks a0)), (1, .d (.sl aF.ks a1)), (5, .d (.int .i64 a2))] [] [] [] [])
section
variable (Γ : Fun)  (Λ2 J : Lam)
def C55 : aP := aQ Γ
theorem T55 (p0 p1 : List aF) : bF SE (C55 Γ) Λ2 J 55 [.d (.sl aF.ks (List.map aF.enc p0)), .d (.sl aF.ks (List.map aF.enc p1))] [] [] =
 cond ((lM aF.enc p0 : Int) != (lM aF.enc p1 : Int)) (
 (rB false)) (
 aqu (C55 Γ) Λ2 J (List.map aF.enc p0) (List.map aF.enc p1) 0) := by kernel_rfl
theorem aA2 (x0 x1 : List aF) (x5 : Int) : bT SE (C55 Γ) Λ2 J 55 0 [1, 1, 0, 1, 0] (aW [(0, .d (.sl aF.ks (List.map aF.enc x0))), (1, .d (.sl aF.ks (List.map aF.enc x1))), (5, .d (.int .i64 x5))] [] [] [] []) =
 cond (decide (x5 < (lM aF.enc x0 : Int))) (
 cond (iB x5 (lM aF.enc x0 : Int)) (
  cond (iB x5 (lM aF.enc x1 : Int)) (
  cond (!((bD (cE aF.enc x0 x5 0)) == (bD (cE aF.enc x1 x5 0)))) (
   (rB false)) (
  cond (iB x5 (lM aF.enc x0 : Int)) (
   cond (iB x5 (lM aF.enc x1 : Int)) (
   cond ((aR (cE aF.enc x0 x5 1)) != (aR (cE aF.enc x1 x5 1))) (
    (rB false)) (
   cond (iB x5 (lM aF.enc x0 : Int)) (
    cond (iB x5 (lM aF.enc x1 : Int)) (
    cond ((bN (cE aF.enc x0 x5 2)) != (bN (cE aF.enc x1 x5 2))) (
     (rB false)) (
    aqu (C55 Γ) Λ2 J (List.map aF.enc x0) (List.map aF.enc x1) (w6 (x5 + 1)))) none) none)) none) none)) none) none) (
 (rB true)) := by kernel_rfl
end
abbrev X55 : aP := C55 gG
theorem axa : X55 = aQ gG := rfl
abbrev aCK := aqu X55 (bP SE gG (SE.hl 55) (SE.hr 55)) (J0 SE X55)
theorem aeC : ∀ (fu : Nat) (x0 x1 : List aF) (x5 : Int), Le (Option.map stringslite_HasPrefix_out (iN fu x0 x1 x5)) (aCK (List.map aF.enc x0) (List.map aF.enc x1) x5) := by
 intro fu
 induction fu with
 | zero => intros; exact le_none
 | succ fu ih =>
  intro x0 x1 x5
  refine Le.trans ?_ (le_of_eq ((aZ axa).trans (aA2 ..)).symm)
  unfold iN
  refine lD (by simp only [EN]) ?_ ?_
  ·refine lG (by simp only [EN]) ?_
   refine lG (by simp only [EN]) ?_
   refine lD (by simp only [EN]) ?_ ?_
   ·exact aJ rfl
   ·refine lG (by simp only [EN]) ?_
    refine lG (by simp only [EN]) ?_
    refine lD (by simp only [EN]) ?_ ?_
    ·exact aJ rfl
    ·refine lG (by simp only [EN]) ?_
     refine lG (by simp only [EN]) ?_
     refine lD (by simp only [EN]) ?_ ?_
     ·exact aJ rfl
     ·exact ih x0 x1 (w6 (x5 + 1))
  ·exact aJ rfl
theorem ag7 (p0 p1 : List aF) : Le (Option.map stringslite_HasPrefix_out (rK p0 p1)) (bA SE 55 [.d (.sl aF.ks (List.map aF.enc p0)), .d (.sl aF.ks (List.map aF.enc p1))] [] []) := by
 refine aV axa rfl ?_
 refine Le.trans ?_ (le_of_eq (T55 ..).symm)
 unfold rK
 refine lD (by simp only [EN]) ?_ ?_
 ·exact aJ rfl
 ·exact aeC fuel p0 p1 0
def aq8 (C : aP) (Λ2 J : Lam) (a0 a1 : List (List D)) (a2 : Int) : Res := lab SE C Λ2 J 56 0 [1, 1, 0, 1, 0] (aW [(0, .d (.sl aA.ks a0)), (1, .d (.sl aA.ks a1)), (5, .d (.int .i64 a2))] [] [] [] [])
section
variable (Γ : Fun) (γ97 : Gm (Bool)) (Λ2 J : Lam)
def C56 : aP := aY (aQ Γ) 97 stringslite_HasPrefix_out γ97
theorem T56 (p0 p1 : List aA) : bF SE (C56 Γ γ97) Λ2 J 56 [.d (.sl aA.ks (List.map aA.enc p0)), .d (.sl aA.ks (List.map aA.enc p1))] [] [] =
 cond ((lM aA.enc p0 : Int) != (lM aA.enc p1 : Int)) (
 (rB false)) (
 aq8 (C56 Γ γ97) Λ2 J (List.map aA.enc p0) (List.map aA.enc p1) 0) := by kernel_rfl
theorem aCL (x0 x1 : List aA) (x5 : Int) : bT SE (C56 Γ γ97) Λ2 J 56 0 [1, 1, 0, 1, 0] (aW [(0, .d (.sl aA.ks (List.map aA.enc x0))), (1, .d (.sl aA.ks (List.map aA.enc x1))), (5, .d (.int .i64 x5))] [] [] [] []) =
 cond (decide (x5 < (lM aA.enc x0 : Int))) (
 cond (iB x5 (lM aA.enc x0 : Int)) (
  cond (iB x5 (lM aA.enc x1 : Int)) (
  γ97 [.agg [.d (.str (bD (cE aA.enc x0 x5 0))), .d (.str (bD (cE aA.enc x0 x5 1))), .d (.int .i64 (aR (cE aA.enc x0 x5 2))), .d (.bool (bN (cE aA.enc x0 x5 3))), .d (.int .i64 (aR (cE aA.enc x0 x5 4))), .d (.int .i64 (aR (cE aA.enc x0 x5 5))), .d (.str (bD (cE aA.enc x0 x5 6))), .d (.int .i64 (aR (cE aA.enc x0 x5 7))), .d (.sl aG.ks (dSl (cE aA.enc x0 x5 8)))], .agg [.d (.str (bD (cE aA.enc x1 x5 0))), .d (.str (bD (cE aA.enc x1 x5 1))), .d (.int .i64 (aR (cE aA.enc x1 x5 2))), .d (.bool (bN (cE aA.enc x1 x5 3))), .d (.int .i64 (aR (cE aA.enc x1 x5 4))), .d (.int .i64 (aR (cE aA.enc x1 x5 5))), .d (.str (bD (cE aA.enc x1 x5 6))), .d (.int .i64 (aR (cE aA.enc x1 x5 7))), .d (.sl aG.ks (dSl (cE aA.enc x1 x5 8)))]] [] [] fun r0 =>
  cond (!r0) (
   (rB false)) (
  aq8 (C56 Γ γ97) Λ2 J (List.map aA.enc x0) (List.map aA.enc x1) (w6 (x5 + 1)))) none) none) (
 (rB true)) := by kernel_rfl
end
abbrev X56 : aP := C56 gG (cT 97 stringslite_HasPrefix_out)
theorem azJ : X56 = aQ gG := by unfold X56 C56; rw [bC fun _ h => h]
abbrev aAE := aq8 X56 (bP SE gG (SE.hl 56) (SE.hr 56)) (J0 SE X56)
theorem aeE : ∀ (fu : Nat) (x0 x1 : List aA) (x5 : Int), Le (Option.map stringslite_HasPrefix_out (iP fu x0 x1 x5)) (aAE (List.map aA.enc x0) (List.map aA.enc x1) x5) := by
 intro fu
 induction fu with
 | zero => intros; exact le_none
 | succ fu ih =>
  intro x0 x1 x5
  refine Le.trans ?_ (le_of_eq ((aZ azJ).trans (aCL ..)).symm)
  unfold iP
  refine lD (by simp only [EN]) ?_ ?_
  ·refine lG (by simp only [EN]) ?_
   refine lG (by simp only [EN]) ?_
   refine lQ eX stringslite_HasPrefix_inj (by (try simp only [EN]); exact iL (List.getD x0 (Int.toNat x5) default) (List.getD x1 (Int.toNat x5) default)) fun r0 _ => ?_
   refine lC ?_ ?_
   ·exact aJ rfl
   ·exact ih x0 x1 (w6 (x5 + 1))
  ·exact aJ rfl
theorem ag8 (p0 p1 : List aA) : Le (Option.map stringslite_HasPrefix_out (kX p0 p1)) (bA SE 56 [.d (.sl aA.ks (List.map aA.enc p0)), .d (.sl aA.ks (List.map aA.enc p1))] [] []) := by
 refine aV azJ rfl ?_
 refine Le.trans ?_ (le_of_eq (T56 ..).symm)
 unfold kX
 refine lD (by simp only [EN]) ?_ ?_
 ·exact aJ rfl
 ·exact aeE fuel p0 p1 0
def ao1 (C : aP) (Λ2 J : Lam) (a0 a1 : List (List D)) (a2 : Int) : Res := lab SE C Λ2 J 108 0 [1, 1, 0, 1, 0] (aW [(0, .d (.sl [.int .i64] a0)), (1, .d (.sl [.int .i64] a1)), (5, .d (.int .i64 a2))] [] [] [] [])
section
variable (Γ : Fun)  (Λ2 J : Lam)
def apl : aP := aQ Γ
theorem aDN (p0 p1 : List Int) : bF SE (apl Γ) Λ2 J 108 [.d (.sl [.int .i64] (List.map eI p0)), .d (.sl [.int .i64] (List.map eI p1))] [] [] =
 cond ((lM eI p0 : Int) != (lM eI p1 : Int)) (
 (rB false)) (
 ao1 (apl Γ) Λ2 J (List.map eI p0) (List.map eI p1) 0) := by kernel_rfl
theorem axs (x0 x1 : List Int) (x5 : Int) : bT SE (apl Γ) Λ2 J 108 0 [1, 1, 0, 1, 0] (aW [(0, .d (.sl [.int .i64] (List.map eI x0))), (1, .d (.sl [.int .i64] (List.map eI x1))), (5, .d (.int .i64 x5))] [] [] [] []) =
 cond (decide (x5 < (lM eI x0 : Int))) (
 cond (iB x5 (lM eI x0 : Int)) (
  cond (iB x5 (lM eI x1 : Int)) (
  cond ((aR (cE eI x0 x5 0)) != (aR (cE eI x1 x5 0))) (
   (rB false)) (
  ao1 (apl Γ) Λ2 J (List.map eI x0) (List.map eI x1) (w6 (x5 + 1)))) none) none) (
 (rB true)) := by kernel_rfl
end
abbrev atK : aP := apl gG
theorem avb : atK = aQ gG := rfl
abbrev axJ := ao1 atK (bP SE gG (SE.hl 108) (SE.hr 108)) (J0 SE atK)
theorem aee : ∀ (fu : Nat) (x0 x1 : List Int) (x5 : Int), Le (Option.map stringslite_HasPrefix_out (iM fu x0 x1 x5)) (axJ (List.map eI x0) (List.map eI x1) x5) := by
 intro fu
 induction fu with
 | zero => intros; exact le_none
 | succ fu ih =>
  intro x0 x1 x5
  refine Le.trans ?_ (le_of_eq ((aZ avb).trans (axs ..)).symm)
  unfold iM
  refine lD (by simp only [EN]) ?_ ?_
  ·refine lG (by simp only [EN]) ?_
   refine lG (by simp only [EN]) ?_
   refine lD (by simp only [EN]) ?_ ?_
   ·exact aJ rfl
   ·exact ih x0 x1 (w6 (x5 + 1))
  ·exact aJ rfl
theorem aaK (p0 p1 : List Int) : Le (Option.map stringslite_HasPrefix_out (nV p0 p1)) (bA SE 108 [.d (.sl [.int .i64] (List.map eI p0)), .d (.sl [.int .i64] (List.map eI p1))] [] []) := by
 refine aV avb rfl ?_
 refine Le.trans ?_ (le_of_eq (aDN ..).symm)
 unfold nV
 refine lD (by simp only [EN]) ?_ ?_
 ·exact aJ rfl
 ·exact aee fuel p0 p1 0
section
variable (Γ : Fun) (γ108 : Gm (Bool)) (Λ2 J : Lam)
def atU : aP := aY (aQ Γ) 108 stringslite_HasPrefix_out γ108
theorem aGn (p0 p1 : aO) : bF SE (atU Γ γ108) Λ2 J 107 [aO.av p0, aO.av p1] [] [] =
 cond (p0.Last == p1.Last) (
 γ108 [.d (.sl [.int .i64] (List.map eI p0.Used)), .d (.sl [.int .i64] (List.map eI p1.Used))] [] [] fun r0 =>
 (rB r0)) (
 (rB false)) := by kernel_rfl
end
abbrev azo : aP := atU gG (cT 108 stringslite_HasPrefix_out)
theorem aDb : azo = aQ gG := by unfold azo atU; rw [bC fun _ h => h]
theorem ahc (p0 p1 : aO) : Le (Option.map stringslite_HasPrefix_out (uO p0 p1)) (bA SE 107 [aO.av p0, aO.av p1] [] []) := by
 refine aV aDb rfl ?_
 refine Le.trans ?_ (le_of_eq (aGn ..).symm)
 unfold uO
 refine lC ?_ ?_
 ·refine lQ eX stringslite_HasPrefix_inj (aaK _ _) fun r0 _ => ?_
  exact aJ rfl
 ·exact aJ rfl
def aqg (C : aP) (Λ2 J : Lam) (a0 : Int) (a1 a2 : List D) : Res := lab SE C Λ2 J 57 0 [1, 1, 0, 1, 0] (aW [(2, .ptr 1000000000 0), (3, .ptr 1000000001 0), (5, .d (.int .i64 a0))] [⟨29, (List.map AV.d a1)⟩, ⟨29, (List.map AV.d a2)⟩] [] [] [])
def avo (C : aP) (Λ2 J : Lam) (a0 a1 : List D) : Res := lab SE C Λ2 J 57 0 [1, 1, 0, 0] (aW [(2, .ptr 1000000000 0), (3, .ptr 1000000001 0)] [⟨29, (List.map AV.d a0)⟩, ⟨29, (List.map AV.d a1)⟩] [] [] [])
section
variable (Γ : Fun) (γ107 γ97 : Gm (Bool)) (Λ2 J : Lam)
def C57 : aP := aY (aY (aQ Γ) 107 stringslite_HasPrefix_out γ107) 97 stringslite_HasPrefix_out γ97
theorem T57 (p0 p1 : aI) : bF SE (C57 Γ γ107 γ97) Λ2 J 57 [aI.av p0, aI.av p1] [] [] =
 cond (p0.Limit != p1.Limit) (
 (rB false)) (
 γ107 [aO.av p0.Pool, aO.av p1.Pool] [] [] fun r0 =>
 cond (!r0) (
 (rB false)) (
 cond ((lM aD.enc p0.Items : Int) != (lM aD.enc p1.Items : Int)) (
 (rB false)) (
 avo (C57 Γ γ107 γ97) Λ2 J (aI.enc p0) (aI.enc p1)))) := by kernel_rfl
theorem aBg (x5 : Int) (b0 b1 : aI) : bT SE (C57 Γ γ107 γ97) Λ2 J 57 0 [1, 1, 0, 1, 0] (aW [(2, .ptr 1000000000 0), (3, .ptr 1000000001 0), (5, .d (.int .i64 x5))] [⟨29, (List.map AV.d (aI.enc b0))⟩, ⟨29, (List.map AV.d (aI.enc b1))⟩] [] [] []) =
 cond (decide (x5 < (lM aD.enc b0.Items : Int))) (
 cond (iB x5 (lM aD.enc b0.Items : Int)) (
  cond (iB x5 (lM aD.enc b1.Items : Int)) (
  cond ((aR (cE aD.enc b0.Items x5 0)) != (aR (cE aD.enc b1.Items x5 0))) (
   (rB false)) (
  cond (iB x5 (lM aD.enc b0.Items : Int)) (
   cond (iB x5 (lM aD.enc b1.Items : Int)) (
   cond ((aR (cE aD.enc b0.Items x5 1)) != (aR (cE aD.enc b1.Items x5 1))) (
    (rB false)) (
   cond (iB x5 (lM aD.enc b0.Items : Int)) (
    cond (iB x5 (lM aD.enc b1.Items : Int)) (
    γ97 [.agg [.d (.str (bD (cE aD.enc b0.Items x5 2))), .d (.str (bD (cE aD.enc b0.Items x5 3))), .d (.int .i64 (aR (cE aD.enc b0.Items x5 4))), .d (.bool (bN (cE aD.enc b0.Items x5 5))), .d (.int .i64 (aR (cE aD.enc b0.Items x5 6))), .d (.int .i64 (aR (cE aD.enc b0.Items x5 7))), .d (.str (bD (cE aD.enc b0.Items x5 8))), .d (.int .i64 (aR (cE aD.enc b0.Items x5 9))), .d (.sl aG.ks (dSl (cE aD.enc b0.Items x5 10)))], .agg [.d (.str (bD (cE aD.enc b1.Items x5 2))), .d (.str (bD (cE aD.enc b1.Items x5 3))), .d (.int .i64 (aR (cE aD.enc b1.Items x5 4))), .d (.bool (bN (cE aD.enc b1.Items x5 5))), .d (.int .i64 (aR (cE aD.enc b1.Items x5 6))), .d (.int .i64 (aR (cE aD.enc b1.Items x5 7))), .d (.str (bD (cE aD.enc b1.Items x5 8))), .d (.int .i64 (aR (cE aD.enc b1.Items x5 9))), .d (.sl aG.ks (dSl (cE aD.enc b1.Items x5 10)))]] [] [] fun r1 =>
    cond (!r1) (
     (rB false)) (
    aqg (C57 Γ γ107 γ97) Λ2 J (w6 (x5 + 1)) (aI.enc b0) (aI.enc b1))) none) none)) none) none)) none) none) (
 (rB true)) := by kernel_rfl
theorem aCC (b0 b1 : aI) : bT SE (C57 Γ γ107 γ97) Λ2 J 57 0 [1, 1, 0, 0] (aW [(2, .ptr 1000000000 0), (3, .ptr 1000000001 0)] [⟨29, (List.map AV.d (aI.enc b0))⟩, ⟨29, (List.map AV.d (aI.enc b1))⟩] [] [] []) =
 aqg (C57 Γ γ107 γ97) Λ2 J 0 (aI.enc b0) (aI.enc b1) := by kernel_rfl
end
abbrev X57 : aP := C57 gG (cT 107 stringslite_HasPrefix_out) (cT 97 stringslite_HasPrefix_out)
theorem aud : X57 = aQ gG := by unfold X57 C57; repeat rw [bC fun _ h => h]
abbrev aAT := aqg X57 (bP SE gG (SE.hl 57) (SE.hr 57)) (J0 SE X57)
abbrev aBF := avo X57 (bP SE gG (SE.hl 57) (SE.hr 57)) (J0 SE X57)
theorem aeN : ∀ (fu : Nat) (x5 : Int) (b0 b1 : aI), Le (Option.map stringslite_HasPrefix_out (iK fu x5 b0 b1)) (aAT x5 (aI.enc b0) (aI.enc b1)) := by
 intro fu
 induction fu with
 | zero => intros; exact le_none
 | succ fu ih =>
  intro x5 b0 b1
  refine Le.trans ?_ (le_of_eq ((aZ aud).trans (aBg ..)).symm)
  unfold iK
  refine lD (by simp only [EN]) ?_ ?_
  ·refine lG (by simp only [EN]) ?_
   refine lG (by simp only [EN]) ?_
   refine lD (by simp only [EN]) ?_ ?_
   ·exact aJ rfl
   ·refine lG (by simp only [EN]) ?_
    refine lG (by simp only [EN]) ?_
    refine lD (by simp only [EN]) ?_ ?_
    ·exact aJ rfl
    ·refine lG (by simp only [EN]) ?_
     refine lG (by simp only [EN]) ?_
     refine lQ eX stringslite_HasPrefix_inj (by (try simp only [EN]); exact iL ((List.getD b0.Items (Int.toNat x5) default).Message) ((List.getD b1.Items (Int.toNat x5) default).Message)) fun r1 _ => ?_
     refine lC ?_ ?_
     ·exact aJ rfl
     ·exact ih (w6 (x5 + 1)) b0 b1
  ·exact aJ rfl
theorem aeS (b0 b1 : aI) : Le (Option.map stringslite_HasPrefix_out (rT b0 b1)) (aBF (aI.enc b0) (aI.enc b1)) := by
 refine Le.trans ?_ (le_of_eq ((aZ aud).trans (aCC ..)).symm)
 unfold rT
 exact aeN fuel 0 b0 b1
theorem ahb (p0 p1 : aI) : Le (Option.map stringslite_HasPrefix_out (qK p0 p1)) (bA SE 57 [aI.av p0, aI.av p1] [] []) := by
 refine aV aud rfl ?_
 refine Le.trans ?_ (le_of_eq (T57 ..).symm)
 unfold qK
 refine lC ?_ ?_
 ·exact aJ rfl
 ·refine lQ eX stringslite_HasPrefix_inj (ahc _ _) fun r0 _ => ?_
  refine lC ?_ ?_
  ·exact aJ rfl
  ·refine lD (by simp only [EN]) ?_ ?_
   ·exact aJ rfl
   ·exact aeS p0 p1
section
variable (Γ : Fun) (γ108 : Gm (Bool)) (Λ2 J : Lam)
def C58 : aP := aY (aQ Γ) 108 stringslite_HasPrefix_out γ108
theorem T58 (p0 p1 : bE) : bF SE (C58 Γ γ108) Λ2 J 58 [bE.av p0, bE.av p1] [] [] =
 γ108 [.d (.sl [.int .i64] (List.map eI p0.IDs)), .d (.sl [.int .i64] (List.map eI p1.IDs))] [] [] fun r0 =>
 (rB r0) := by kernel_rfl
end
abbrev X58 : aP := C58 gG (cT 108 stringslite_HasPrefix_out)
theorem aFB : X58 = aQ gG := by unfold X58 C58; rw [bC fun _ h => h]
theorem ag6 (p0 p1 : bE) : Le (Option.map stringslite_HasPrefix_out (uU p0 p1)) (bA SE 58 [bE.av p0, bE.av p1] [] []) := by
 refine aV aFB rfl ?_
 refine Le.trans ?_ (le_of_eq (T58 ..).symm)
 unfold uU
 refine lQ eX stringslite_HasPrefix_inj (aaK _ _) fun r0 _ => ?_
 exact aJ rfl
section
variable (Γ : Fun) (γ97 : Gm (Bool)) (Λ2 J : Lam)
def C59 : aP := aY (aQ Γ) 97 stringslite_HasPrefix_out γ97
theorem T59 (p0 p1 : aU) : bF SE (C59 Γ γ97) Λ2 J 59 [aU.av p0, aU.av p1] [] [] =
 cond (p0.Set == p1.Set) (
 cond (p0.Delay == p1.Delay) (
  γ97 [aA.av p0.Message, aA.av p1.Message] [] [] fun r0 =>
  (rB r0)) (
 (rB false))) (
 (rB false)) := by kernel_rfl
end
abbrev X59 : aP := C59 gG (cT 97 stringslite_HasPrefix_out)
theorem aEN : X59 = aQ gG := by unfold X59 C59; rw [bC fun _ h => h]
theorem ag3 (p0 p1 : aU) : Le (Option.map stringslite_HasPrefix_out (uJ p0 p1)) (bA SE 59 [aU.av p0, aU.av p1] [] []) := by
 refine aV aEN rfl ?_
 refine Le.trans ?_ (le_of_eq (T59 ..).symm)
 unfold uJ
 refine lC ?_ ?_
 ·refine lC ?_ ?_
  ·refine lQ eX stringslite_HasPrefix_inj (iL _ _) fun r0 _ => ?_
   exact aJ rfl
  ·exact aJ rfl
 ·exact aJ rfl
section
variable (Γ : Fun) (γ55 γ56 γ57 γ58 γ59 : Gm (Bool)) (Λ2 J : Lam)
def C17 : aP := aY (aY (aY (aY (aY (aQ Γ) 55 stringslite_HasPrefix_out γ55) 56 stringslite_HasPrefix_out γ56) 57 stringslite_HasPrefix_out γ57) 58 stringslite_HasPrefix_out γ58) 59 stringslite_HasPrefix_out γ59
theorem T17 (p0 p1 : aB) : bF SE (C17 Γ γ55 γ56 γ57 γ58 γ59) Λ2 J 17 [aB.av p0, aB.av p1] [] [] =
 cond (p0.Client == p1.Client) (
 cond (p0.User == p1.User) (
  cond (p0.Online == p1.Online) (
  cond (p0.Conn == p1.Conn) (
   cond (p0.Expiry == p1.Expiry) (
   cond (p0.Until == p1.Until) (
    cond (p0.Dropped == p1.Dropped) (
    γ55 [.d (.sl aF.ks (List.map aF.enc p0.Subs)), .d (.sl aF.ks (List.map aF.enc p1.Subs))] [] [] fun r0 =>
    cond r0 (
     γ56 [.d (.sl aA.ks (List.map aA.enc p0.Queue)), .d (.sl aA.ks (List.map aA.enc p1.Queue))] [] [] fun r1 =>
     cond r1 (
     γ57 [aI.av p0.Out, aI.av p1.Out] [] [] fun r2 =>
     cond r2 (
      γ58 [bE.av p0.In, bE.av p1.In] [] [] fun r3 =>
      cond r3 (
      γ59 [aU.av p0.Will, aU.av p1.Will] [] [] fun r4 =>
      (rB r4)) (
      (rB false))) (
     (rB false))) (
     (rB false))) (
    (rB false))) (
    (rB false))) (
   (rB false))) (
   (rB false))) (
  (rB false))) (
  (rB false))) (
 (rB false))) (
 (rB false)) := by kernel_rfl
end
abbrev X17 : aP := C17 gG (cT 55 stringslite_HasPrefix_out) (cT 56 stringslite_HasPrefix_out) (cT 57 stringslite_HasPrefix_out) (cT 58 stringslite_HasPrefix_out) (cT 59 stringslite_HasPrefix_out)
theorem aFJ : X17 = aQ gG := by unfold X17 C17; repeat rw [bC fun _ h => h]
theorem gJ (p0 p1 : aB) : Le (Option.map stringslite_HasPrefix_out (eG p0 p1)) (bA SE 17 [aB.av p0, aB.av p1] [] []) := by
 refine aV aFJ rfl ?_
 refine Le.trans ?_ (le_of_eq (T17 ..).symm)
 unfold eG
 refine lC ?_ ?_
 ·refine lC ?_ ?_
  ·refine lC ?_ ?_
   ·refine lC ?_ ?_
    ·refine lC ?_ ?_
     ·refine lC ?_ ?_
      ·refine lC ?_ ?_
       ·refine lQ eX stringslite_HasPrefix_inj (ag7 _ _) fun r0 _ => ?_
        refine lC ?_ ?_
        ·refine lQ eX stringslite_HasPrefix_inj (ag8 _ _) fun r1 _ => ?_
         refine lC ?_ ?_
         ·refine lQ eX stringslite_HasPrefix_inj (ahb _ _) fun r2 _ => ?_
          refine lC ?_ ?_
          ·refine lQ eX stringslite_HasPrefix_inj (ag6 _ _) fun r3 _ => ?_
           refine lC ?_ ?_
           ·refine lQ eX stringslite_HasPrefix_inj (ag3 _ _) fun r4 _ => ?_
            exact aJ rfl
           ·exact aJ rfl
          ·exact aJ rfl
         ·exact aJ rfl
        ·exact aJ rfl
       ·exact aJ rfl
      ·exact aJ rfl
     ·exact aJ rfl
    ·exact aJ rfl
   ·exact aJ rfl
  ·exact aJ rfl
 ·exact aJ rfl
section
variable (Γ : Fun)  (Λ2 J : Lam)
def aAp : aP := aQ Γ
theorem aD1 (p0 : Int) : bF SE (aAp Γ) Λ2 J 140 [.d (.int .i64 p0)] [] [] =
 cond (decide (p0 ≥ 0)) (
 (rB (decide (p0 ≤ 1099511627776)))) (
 (rB false)) := by kernel_rfl
end
abbrev aF5 : aP := aAp gG
theorem aDd : aF5 = aQ gG := rfl
theorem adN (p0 : Int) : Le (Option.map stringslite_HasPrefix_out (tO p0)) (bA SE 140 [.d (.int .i64 p0)] [] []) := by
 refine aV aDd rfl ?_
 refine Le.trans ?_ (le_of_eq (aD1 ..).symm)
 unfold tO
 refine lC ?_ ?_
 ·exact aJ rfl
 ·exact aJ rfl
def akZ (C : aP) (Λ2 J : Lam) (a0 : List D) : Res := lab SE C Λ2 J 83 0 [1, 1, 1, 0, 0] (aW [(1, .ptr 1000000000 0)] [⟨38, (List.map AV.d a0)⟩] [] [] [])
def aq0 (C : aP) (Λ2 J : Lam) (a0 : List D) : Res := lab SE C Λ2 J 83 0 [1, 1, 0, 0] (aW [(1, .ptr 1000000000 0)] [⟨38, (List.map AV.d a0)⟩] [] [] [])
section
variable (Γ : Fun) (γ139 γ140 : Gm (Bool)) (Λ2 J : Lam)
def C83 : aP := aY (aY (aQ Γ) 139 stringslite_HasPrefix_out γ139) 140 stringslite_HasPrefix_out γ140
theorem T83 (p0 : aB) : bF SE (C83 Γ γ139 γ140) Λ2 J 83 [aB.av p0] [] [] =
 γ139 [.d (.str p0.Client)] [] [] fun r0 =>
 cond (!r0) (
 (rI 11)) (
 cond (!(p0.User == ([] : Str))) (
 γ139 [.d (.str p0.User)] [] [] fun r1 =>
 cond (!r1) (
  (rI 11)) (
 aq0 (C83 Γ γ139 γ140) Λ2 J (aB.enc p0))) (
 aq0 (C83 Γ γ139 γ140) Λ2 J (aB.enc p0))) := by kernel_rfl
theorem aBA (b0 : aB) : bT SE (C83 Γ γ139 γ140) Λ2 J 83 0 [1, 1, 1, 0, 0] (aW [(1, .ptr 1000000000 0)] [⟨38, (List.map AV.d (aB.enc b0))⟩] [] [] []) =
 γ140 [.d (.int .i64 b0.Expiry)] [] [] fun r2 =>
 cond (!r2) (
 (rI 1)) (
 γ140 [.d (.int .i64 b0.Until)] [] [] fun r3 =>
 cond (!r3) (
 (rI 1)) (
 cond (decide (b0.Dropped < 0)) (
 (rI 1)) (
 cond (decide (b0.Dropped > 1099511627776)) (
 (rI 1)) (
 (rI 0))))) := by kernel_rfl
theorem aBK (b0 : aB) : bT SE (C83 Γ γ139 γ140) Λ2 J 83 0 [1, 1, 0, 0] (aW [(1, .ptr 1000000000 0)] [⟨38, (List.map AV.d (aB.enc b0))⟩] [] [] []) =
 cond (!b0.Online) (
 cond (b0.Conn != 0) (
  (rI 9)) (
 cond b0.Online (
  cond (b0.Until != 0) (
  (rI 9)) (
  akZ (C83 Γ γ139 γ140) Λ2 J (aB.enc b0))) (
 akZ (C83 Γ γ139 γ140) Λ2 J (aB.enc b0)))) (
 cond b0.Online (
 cond (b0.Until != 0) (
  (rI 9)) (
 akZ (C83 Γ γ139 γ140) Λ2 J (aB.enc b0))) (
 akZ (C83 Γ γ139 γ140) Λ2 J (aB.enc b0))) := by kernel_rfl
end
abbrev X83 : aP := C83 gG (cT 139 stringslite_HasPrefix_out) (cT 140 stringslite_HasPrefix_out)
theorem auA : X83 = aQ gG := by unfold X83 C83; repeat rw [bC fun _ h => h]
abbrev aCh := akZ X83 (bP SE gG (SE.hl 83) (SE.hr 83)) (J0 SE X83)
abbrev aDt := aq0 X83 (bP SE gG (SE.hl 83) (SE.hr 83)) (J0 SE X83)
theorem m9 (b0 : aB) : Le (Option.map stringslite_IndexByte_out (hQ b0)) (aCh (aB.enc b0)) := by
 refine Le.trans ?_ (le_of_eq ((aZ auA).trans (aBA ..)).symm)
 unfold hQ
 refine lQ eX stringslite_HasPrefix_inj (adN _) fun r2 _ => ?_
 refine lC ?_ ?_
 ·exact aJ rfl
 ·refine lQ eX stringslite_HasPrefix_inj (adN _) fun r3 _ => ?_
  refine lC ?_ ?_
  ·exact aJ rfl
  ·refine lC ?_ ?_
   ·exact aJ rfl
   ·refine lC ?_ ?_
    ·exact aJ rfl
    ·exact aJ rfl
theorem xI (b0 : aB) : Le (Option.map stringslite_IndexByte_out (lZ b0)) (aDt (aB.enc b0)) := by
 refine Le.trans ?_ (le_of_eq ((aZ auA).trans (aBK ..)).symm)
 unfold lZ
 refine lC ?_ ?_
 ·refine lC ?_ ?_
  ·exact aJ rfl
  ·refine lC ?_ ?_
   ·refine lC ?_ ?_
    ·exact aJ rfl
    ·exact m9 b0
   ·exact m9 b0
 ·refine lC ?_ ?_
  ·refine lC ?_ ?_
   ·exact aJ rfl
   ·exact m9 b0
  ·exact m9 b0
theorem afO (p0 : aB) : Le (Option.map stringslite_IndexByte_out (pD p0)) (bA SE 83 [aB.av p0] [] []) := by
 refine aV auA rfl ?_
 refine Le.trans ?_ (le_of_eq (T83 ..).symm)
 unfold pD
 refine lQ eX stringslite_HasPrefix_inj (yM _) fun r0 _ => ?_
 refine lC ?_ ?_
 ·exact aJ rfl
 ·refine lC ?_ ?_
  ·refine lQ eX stringslite_HasPrefix_inj (yM _) fun r1 _ => ?_
   refine lC ?_ ?_
   ·exact aJ rfl
   ·exact xI p0
  ·exact xI p0
def aoZ (C : aP) (Λ2 J : Lam) (a0 : List (List D)) (a1 a2 : Int) : Res := lab SE C Λ2 J 84 0 [1, 1, 1, 1, 0, 1, 0] (aW [(46, .d (.sl aA.ks a0)), (47, .d (.int .i64 a1)), (48, .d (.int .i64 a2))] [] [] [] [])
def am8 (C : aP) (Λ2 J : Lam) (a0 : List (List D)) (a1 a2 : Int) (a3 : List D) : Res := lab SE C Λ2 J 84 0 [1, 1, 0, 1, 0] (aW [(1, .ptr 1000000000 0), (14, .d (.sl aF.ks a0)), (15, .d (.int .i64 a1)), (16, .d (.int .i64 a2))] [⟨38, (List.map AV.d a3)⟩] [] [] [])
section
variable (Γ : Fun) (γ66 γ141 : Gm (Int)) (Λ2 J : Lam)
def C84 : aP := aY (aY (aQ Γ) 66 stringslite_IndexByte_out γ66) 141 stringslite_IndexByte_out γ141
theorem T84 (p0 : aB) : bF SE (C84 Γ γ66 γ141) Λ2 J 84 [aB.av p0] [] [] =
 cond (decide ((lM aF.enc p0.Subs : Int) > 32)) (
 (rI 5)) (
 am8 (C84 Γ γ66 γ141) Λ2 J (List.map aF.enc p0.Subs) (lM aF.enc p0.Subs : Int) 0 (aB.enc p0)) := by kernel_rfl
theorem awM (x46 : List aA) (x47 x48 : Int) : bT SE (C84 Γ γ66 γ141) Λ2 J 84 0 [1, 1, 1, 1, 0, 1, 0] (aW [(46, .d (.sl aA.ks (List.map aA.enc x46))), (47, .d (.int .i64 x47)), (48, .d (.int .i64 x48))] [] [] [] []) =
 cond (decide (x48 < x47)) (
 cond (iB x48 (lM aA.enc x46 : Int)) (
  γ141 [.agg [.d (.str (bD (cE aA.enc x46 x48 0))), .d (.str (bD (cE aA.enc x46 x48 1))), .d (.int .i64 (aR (cE aA.enc x46 x48 2))), .d (.bool (bN (cE aA.enc x46 x48 3))), .d (.int .i64 (aR (cE aA.enc x46 x48 4))), .d (.int .i64 (aR (cE aA.enc x46 x48 5))), .d (.str (bD (cE aA.enc x46 x48 6))), .d (.int .i64 (aR (cE aA.enc x46 x48 7))), .d (.sl aG.ks (dSl (cE aA.enc x46 x48 8)))]] [] [] fun r1 =>
  cond (r1 != 0) (
  (rI r1)) (
  aoZ (C84 Γ γ66 γ141) Λ2 J (List.map aA.enc x46) x47 (w6 (x48 + 1)))) none) (
 (rI 0)) := by kernel_rfl
theorem aB8 (x14 : List aF) (x15 x16 : Int) (b0 : aB) : bT SE (C84 Γ γ66 γ141) Λ2 J 84 0 [1, 1, 0, 1, 0] (aW [(1, .ptr 1000000000 0), (14, .d (.sl aF.ks (List.map aF.enc x14))), (15, .d (.int .i64 x15)), (16, .d (.int .i64 x16))] [⟨38, (List.map AV.d (aB.enc b0))⟩] [] [] []) =
 cond (decide (x16 < x15)) (
 cond (iB x16 (lM aF.enc x14 : Int)) (
  γ66 [.agg [.d (.str (bD (cE aF.enc x14 x16 0))), .d (.int .i64 (aR (cE aF.enc x14 x16 1))), .d (.bool (bN (cE aF.enc x14 x16 2)))]] [] [] fun r0 =>
  cond (r0 != 0) (
  (rI r0)) (
  cond (decide (x16 > 0)) (
  cond (iB (w6 (x16 - 1)) (lM aF.enc b0.Subs : Int)) (
   cond (Op.bytesLess (bD (cE aF.enc x14 x16 0)) (bD (cE aF.enc b0.Subs (w6 (x16 - 1)) 0)) || (bD (cE aF.enc x14 x16 0)) == (bD (cE aF.enc b0.Subs (w6 (x16 - 1)) 0))) (
   (rI 22)) (
   am8 (C84 Γ γ66 γ141) Λ2 J (List.map aF.enc x14) x15 (w6 (x16 + 1)) (aB.enc b0))) none) (
  am8 (C84 Γ γ66 γ141) Λ2 J (List.map aF.enc x14) x15 (w6 (x16 + 1)) (aB.enc b0)))) none) (
 cond (decide ((lM aA.enc b0.Queue : Int) > 256)) (
 (rI 5)) (
 aoZ (C84 Γ γ66 γ141) Λ2 J (List.map aA.enc b0.Queue) (lM aA.enc b0.Queue : Int) 0)) := by kernel_rfl
end
abbrev X84 : aP := C84 gG (cT 66 stringslite_IndexByte_out) (cT 141 stringslite_IndexByte_out)
theorem aue : X84 = aQ gG := by unfold X84 C84; repeat rw [bC fun _ h => h]
abbrev aAo := aoZ X84 (bP SE gG (SE.hl 84) (SE.hr 84)) (J0 SE X84)
abbrev aA5 := am8 X84 (bP SE gG (SE.hl 84) (SE.hr 84)) (J0 SE X84)
theorem acj : ∀ (fu : Nat) (x46 : List aA) (x47 x48 : Int), Le (Option.map stringslite_IndexByte_out (eS fu x46 x47 x48)) (aAo (List.map aA.enc x46) x47 x48) := by
 intro fu
 induction fu with
 | zero => intros; exact le_none
 | succ fu ih =>
  intro x46 x47 x48
  refine Le.trans ?_ (le_of_eq ((aZ aue).trans (awM ..)).symm)
  unfold eS
  refine lC ?_ ?_
  ·refine lG (by simp only [EN]) ?_
   refine lQ eX stringslite_IndexByte_inj (by (try simp only [EN]); exact uS (List.getD x46 (Int.toNat x48) default)) fun r1 _ => ?_
   refine lC ?_ ?_
   ·exact aJ rfl
   ·exact ih x46 x47 (w6 (x48 + 1))
  ·exact aJ rfl
theorem acV : ∀ (fu : Nat) (x14 : List aF) (x15 x16 : Int) (b0 : aB), Le (Option.map stringslite_IndexByte_out (fN fu x14 x15 x16 b0)) (aA5 (List.map aF.enc x14) x15 x16 (aB.enc b0)) := by
 intro fu
 induction fu with
 | zero => intros; exact le_none
 | succ fu ih =>
  intro x14 x15 x16 b0
  refine Le.trans ?_ (le_of_eq ((aZ aue).trans (aB8 ..)).symm)
  unfold fN
  refine lC ?_ ?_
  ·refine lG (by simp only [EN]) ?_
   refine lQ eX stringslite_IndexByte_inj (by (try simp only [EN]); exact aaP (List.getD x14 (Int.toNat x16) default)) fun r0 _ => ?_
   refine lC ?_ ?_
   ·exact aJ rfl
   ·refine lC ?_ ?_
    ·refine lG (by simp only [EN]) ?_
     refine lD (by simp only [EN]) ?_ ?_
     ·exact aJ rfl
     ·exact ih x14 x15 (w6 (x16 + 1)) b0
    ·exact ih x14 x15 (w6 (x16 + 1)) b0
  ·refine lD (by simp only [EN]) ?_ ?_
   ·exact aJ rfl
   ·(try simp only [EN]); exact acj fuel b0.Queue (List.length b0.Queue : Int) 0
theorem afE (p0 : aB) : Le (Option.map stringslite_IndexByte_out (oH p0)) (bA SE 84 [aB.av p0] [] []) := by
 refine aV aue rfl ?_
 refine Le.trans ?_ (le_of_eq (T84 ..).symm)
 unfold oH
 refine lD (by simp only [EN]) ?_ ?_
 ·exact aJ rfl
 ·(try simp only [EN]); exact acV fuel p0.Subs (List.length p0.Subs : Int) 0 p0
def apa (C : aP) (Λ2 J : Lam) (a0 : Int) (a1 : List (List D)) (a2 a3 : Int) (a4 : List D) : Res := lab SE C Λ2 J 142 0 [1, 1, 1, 0, 1, 0] (aW [(1, .ptr 1000000000 0), (3, .d (.int .i64 a0)), (11, .d (.sl [.int .i64] a1)), (12, .d (.int .i64 a2)), (13, .d (.int .i64 a3))] [⟨27, (List.map AV.d a4)⟩] [] [] [])
section
variable (Γ : Fun)  (Λ2 J : Lam)
def aos : aP := aQ Γ
theorem aDZ (p0 : aO) : bF SE (aos Γ) Λ2 J 142 [aO.av p0] [] [] =
 cond (decide ((lM eI p0.Used : Int) > 32)) (
 (rI 5)) (
 apa (aos Γ) Λ2 J 0 (List.map eI p0.Used) (lM eI p0.Used : Int) 0 (aO.enc p0)) := by kernel_rfl
theorem az1 (x3 : Int) (x11 : List Int) (x12 x13 : Int) (b0 : aO) : bT SE (aos Γ) Λ2 J 142 0 [1, 1, 1, 0, 1, 0] (aW [(1, .ptr 1000000000 0), (3, .d (.int .i64 x3)), (11, .d (.sl [.int .i64] (List.map eI x11))), (12, .d (.int .i64 x12)), (13, .d (.int .i64 x13))] [⟨27, (List.map AV.d (aO.enc b0))⟩] [] [] []) =
 cond (decide (x13 < x12)) (
 cond (iB x13 (lM eI x11 : Int)) (
  cond (decide ((aR (cE eI x11 x13 0)) ≤ x3)) (
  (rI 15)) (
  cond (decide ((aR (cE eI x11 x13 0)) > 65535)) (
  (rI 15)) (
  apa (aos Γ) Λ2 J ((aR (cE eI x11 x13 0))) (List.map eI x11) x12 (w6 (x13 + 1)) (aO.enc b0)))) none) (
 cond (decide (b0.Last < 0)) (
 (rI 1)) (
 cond (decide (b0.Last > 65535)) (
 (rI 1)) (
 (rI 0)))) := by kernel_rfl
end
abbrev atn : aP := aos gG
theorem avB : atn = aQ gG := rfl
abbrev azG := apa atn (bP SE gG (SE.hl 142) (SE.hr 142)) (J0 SE atn)
theorem aiS : ∀ (fu : Nat) (x3 : Int) (x11 : List Int) (x12 x13 : Int) (b0 : aO), Le (Option.map stringslite_IndexByte_out (nO fu x3 x11 x12 x13 b0)) (azG x3 (List.map eI x11) x12 x13 (aO.enc b0)) := by
 intro fu
 induction fu with
 | zero => intros; exact le_none
 | succ fu ih =>
  intro x3 x11 x12 x13 b0
  refine Le.trans ?_ (le_of_eq ((aZ avB).trans (az1 ..)).symm)
  unfold nO
  refine lC ?_ ?_
  ·refine lG (by simp only [EN]) ?_
   refine lD (by simp only [EN]) ?_ ?_
   ·exact aJ rfl
   ·refine lD (by simp only [EN]) ?_ ?_
    ·exact aJ rfl
    ·(try simp only [EN]); exact ih (List.getD x11 (Int.toNat x13) default) x11 x12 (w6 (x13 + 1)) b0
  ·refine lC ?_ ?_
   ·exact aJ rfl
   ·refine lC ?_ ?_
    ·exact aJ rfl
    ·exact aJ rfl
theorem alD (p0 : aO) : Le (Option.map stringslite_IndexByte_out (xU p0)) (bA SE 142 [aO.av p0] [] []) := by
 refine aV avB rfl ?_
 refine Le.trans ?_ (le_of_eq (aDZ ..).symm)
 unfold xU
 refine lD (by simp only [EN]) ?_ ?_
 ·exact aJ rfl
 ·(try simp only [EN]); exact aiS fuel 0 p0.Used (List.length p0.Used : Int) 0 p0
section
variable (Γ : Fun) (γ175 : Gm (Int × Bool)) (Λ2 J : Lam)
def aub : aP := aY (aQ Γ) 175 aX γ175
theorem aE4 (p0 : aO) (p1 : Int) : bF SE (aub Γ γ175) Λ2 J 172 [aO.av p0, .d (.int .i64 p1)] [] [] =
 γ175 [.d (.sl [.int .i64] (List.map eI p0.Used)), .d (.int .i64 p1)] [] [] fun r0 =>
 (rB r0.2) := by kernel_rfl
end
abbrev ayP : aP := aub gG (cT 175 aX)
theorem aBN : ayP = aQ gG := by unfold ayP aub; rw [bC fun _ h => h]
theorem anA (p0 : aO) (p1 : Int) : Le (Option.map stringslite_HasPrefix_out (abM p0 p1)) (bA SE 172 [aO.av p0, .d (.int .i64 p1)] [] []) := by
 refine aV aBN rfl ?_
 refine Le.trans ?_ (le_of_eq (aE4 ..).symm)
 unfold abM
 refine lQ eX cG (kJ _ _) fun r0 _ => ?_
 exact aJ rfl
def asO (C : aP) (Λ2 J : Lam) (a0 : List D) : Res := lab SE C Λ2 J 143 0 [1, 1, 1, 0, 0] (aW [(5, .ptr 1000000000 0)] [⟨122, (List.map AV.d a0)⟩] [] [] [])
section
variable (Γ : Fun) (γ172 : Gm (Bool)) (γ109 γ141 : Gm (Int)) (Λ2 J : Lam)
def anS : aP := aY (aY (aY (aQ Γ) 172 stringslite_HasPrefix_out γ172) 109 stringslite_IndexByte_out γ109) 141 stringslite_IndexByte_out γ141
theorem aD6 (p0 : aI) (p1 : Int) : bF SE (anS Γ γ172 γ109 γ141) Λ2 J 143 [aI.av p0, .d (.int .i64 p1)] [] [] =
 cond (iB p1 (lM aD.enc p0.Items : Int)) (
 γ172 [aO.av p0.Pool, .d (.int .i64 (aR (cE aD.enc p0.Items p1 0)))] [] [] fun r0 =>
 cond (!r0) (
  (rI 15)) (
 cond (decide (0 ≤ p1) && decide (p1 ≤ ((lM aD.enc p0.Items) : Int))) (
  γ109 [.d (.sl aD.ks (bR (List.map aD.enc p0.Items) none (some p1))), .d (.int .i64 (aR (cE aD.enc p0.Items p1 0)))] [] [] fun r1 =>
  cond (decide (r1 ≥ 0)) (
  (rI 15)) (
  asO (anS Γ γ172 γ109 γ141) Λ2 J [D.int .i64 (aR (cE aD.enc p0.Items p1 0)), D.int .i64 (aR (cE aD.enc p0.Items p1 1)), D.str (bD (cE aD.enc p0.Items p1 2)), D.str (bD (cE aD.enc p0.Items p1 3)), D.int .i64 (aR (cE aD.enc p0.Items p1 4)), D.bool (bN (cE aD.enc p0.Items p1 5)), D.int .i64 (aR (cE aD.enc p0.Items p1 6)), D.int .i64 (aR (cE aD.enc p0.Items p1 7)), D.str (bD (cE aD.enc p0.Items p1 8)), D.int .i64 (aR (cE aD.enc p0.Items p1 9)), D.sl aG.ks (dSl (cE aD.enc p0.Items p1 10))])) none)) none := by kernel_rfl
theorem awG (b0 : aD) : bT SE (anS Γ γ172 γ109 γ141) Λ2 J 143 0 [1, 1, 1, 0, 0] (aW [(5, .ptr 1000000000 0)] [⟨122, (List.map AV.d (aD.enc b0))⟩] [] [] []) =
 γ141 [aA.av b0.Message] [] [] fun r2 =>
 cond (r2 != 0) (
 (rI r2)) (
 cond (b0.Message.Level == 0) (
 (rI 14)) (
 cond (b0.State != 1) (
 cond (b0.State != 2) (
  (rI 9)) (
 cond (b0.Message.Level == 1) (
  (rI 9)) (
 (rI 0)))) (
 (rI 0)))) := by kernel_rfl
end
abbrev arz : aP := anS gG (cT 172 stringslite_HasPrefix_out) (cT 109 stringslite_IndexByte_out) (cT 141 stringslite_IndexByte_out)
theorem avG : arz = aQ gG := by unfold arz anS; repeat rw [bC fun _ h => h]
abbrev azq := asO arz (bP SE gG (SE.hl 143) (SE.hr 143)) (J0 SE arz)
theorem adn (b0 : aD) : Le (Option.map stringslite_IndexByte_out (oU b0)) (azq (aD.enc b0)) := by
 refine Le.trans ?_ (le_of_eq ((aZ avG).trans (awG ..)).symm)
 unfold oU
 refine lQ eX stringslite_IndexByte_inj (uS _) fun r2 _ => ?_
 refine lC ?_ ?_
 ·exact aJ rfl
 ·refine lC ?_ ?_
  ·exact aJ rfl
  ·refine lC ?_ ?_
   ·refine lC ?_ ?_
    ·exact aJ rfl
    ·refine lC ?_ ?_
     ·exact aJ rfl
     ·exact aJ rfl
   ·exact aJ rfl
theorem afm (p0 : aI) (p1 : Int) : Le (Option.map stringslite_IndexByte_out (oE p0 p1)) (bA SE 143 [aI.av p0, .d (.int .i64 p1)] [] []) := by
 refine aV avG rfl ?_
 refine Le.trans ?_ (le_of_eq (aD6 ..).symm)
 unfold oE
 refine lG (by simp only [EN]) ?_
 refine lQ eX stringslite_HasPrefix_inj (by (try simp only [EN]); exact anA p0.Pool ((List.getD p0.Items (Int.toNat p1) default).ID)) fun r0 _ => ?_
 refine lC ?_ ?_
 ·exact aJ rfl
 ·refine lG (by simp only [EN]) ?_
  refine lQ eX stringslite_IndexByte_inj (by (try simp only [EN]); exact ads (bR p0.Items none (some p1)) ((List.getD p0.Items (Int.toNat p1) default).ID)) fun r1 _ => ?_
  refine lC ?_ ?_
  ·exact aJ rfl
  ·(try simp only [EN]); exact adn (List.getD p0.Items (Int.toNat p1) default)
def arq (C : aP) (Λ2 J : Lam) (a0 a1 : Int) (a2 : List D) : Res := lab SE C Λ2 J 85 0 [1, 1, 1, 1, 0, 1, 0] (aW [(1, .ptr 1000000000 0), (26, .d (.int .i64 a0)), (27, .d (.int .i64 a1))] [⟨29, (List.map AV.d a2)⟩] [] [] [])
def ava (C : aP) (Λ2 J : Lam) (a0 : List D) : Res := lab SE C Λ2 J 85 0 [1, 1, 0, 0] (aW [(1, .ptr 1000000000 0)] [⟨29, (List.map AV.d a0)⟩] [] [] [])
section
variable (Γ : Fun) (γ142 γ143 : Gm (Int)) (Λ2 J : Lam)
def C85 : aP := aY (aY (aQ Γ) 142 stringslite_IndexByte_out γ142) 143 stringslite_IndexByte_out γ143
theorem T85 (p0 : aI) : bF SE (C85 Γ γ142 γ143) Λ2 J 85 [aI.av p0] [] [] =
 cond (decide (p0.Limit < 0)) (
 (rI 1)) (
 cond (decide (p0.Limit > 32)) (
 (rI 1)) (
 ava (C85 Γ γ142 γ143) Λ2 J (aI.enc p0))) := by kernel_rfl
theorem aC1 (x26 x27 : Int) (b0 : aI) : bT SE (C85 Γ γ142 γ143) Λ2 J 85 0 [1, 1, 1, 1, 0, 1, 0] (aW [(1, .ptr 1000000000 0), (26, .d (.int .i64 x26)), (27, .d (.int .i64 x27))] [⟨29, (List.map AV.d (aI.enc b0))⟩] [] [] []) =
 cond (decide (x27 < x26)) (
 γ143 [aI.av b0, .d (.int .i64 x27)] [] [] fun r1 =>
 cond (r1 != 0) (
  (rI r1)) (
 arq (C85 Γ γ142 γ143) Λ2 J x26 (w6 (x27 + 1)) (aI.enc b0))) (
 cond (decide ((lM aD.enc b0.Items : Int) < (lM eI b0.Pool.Used : Int))) (
 (rI 15)) (
 (rI 0))) := by kernel_rfl
theorem aB7 (b0 : aI) : bT SE (C85 Γ γ142 γ143) Λ2 J 85 0 [1, 1, 0, 0] (aW [(1, .ptr 1000000000 0)] [⟨29, (List.map AV.d (aI.enc b0))⟩] [] [] []) =
 γ142 [aO.av b0.Pool] [] [] fun r0 =>
 cond (r0 != 0) (
 (rI r0)) (
 cond (decide ((lM aD.enc b0.Items : Int) > 32)) (
 (rI 5)) (
 arq (C85 Γ γ142 γ143) Λ2 J (lM aD.enc b0.Items : Int) 0 (aI.enc b0))) := by kernel_rfl
end
abbrev X85 : aP := C85 gG (cT 142 stringslite_IndexByte_out) (cT 143 stringslite_IndexByte_out)
theorem atT : X85 = aQ gG := by unfold X85 C85; repeat rw [bC fun _ h => h]
abbrev aBd := arq X85 (bP SE gG (SE.hl 85) (SE.hr 85)) (J0 SE X85)
abbrev aAZ := ava X85 (bP SE gG (SE.hl 85) (SE.hr 85)) (J0 SE X85)
theorem agy : ∀ (fu : Nat) (x26 x27 : Int) (b0 : aI), Le (Option.map stringslite_IndexByte_out (j2 fu x26 x27 b0)) (aBd x26 x27 (aI.enc b0)) := by
 intro fu
 induction fu with
 | zero => intros; exact le_none
 | succ fu ih =>
  intro x26 x27 b0
  refine Le.trans ?_ (le_of_eq ((aZ atT).trans (aC1 ..)).symm)
  unfold j2
  refine lC ?_ ?_
  ·refine lQ eX stringslite_IndexByte_inj (afm _ _) fun r1 _ => ?_
   refine lC ?_ ?_
   ·exact aJ rfl
   ·exact ih x26 (w6 (x27 + 1)) b0
  ·refine lD (by simp only [EN]) ?_ ?_
   ·exact aJ rfl
   ·exact aJ rfl
theorem agm (b0 : aI) : Le (Option.map stringslite_IndexByte_out (tD b0)) (aAZ (aI.enc b0)) := by
 refine Le.trans ?_ (le_of_eq ((aZ atT).trans (aB7 ..)).symm)
 unfold tD
 refine lQ eX stringslite_IndexByte_inj (alD _) fun r0 _ => ?_
 refine lC ?_ ?_
 ·exact aJ rfl
 ·refine lD (by simp only [EN]) ?_ ?_
  ·exact aJ rfl
  ·(try simp only [EN]); exact agy fuel (List.length b0.Items : Int) 0 b0
theorem aiU (p0 : aI) : Le (Option.map stringslite_IndexByte_out (tV p0)) (bA SE 85 [aI.av p0] [] []) := by
 refine aV atT rfl ?_
 refine Le.trans ?_ (le_of_eq (T85 ..).symm)
 unfold tV
 refine lC ?_ ?_
 ·exact aJ rfl
 ·refine lC ?_ ?_
  ·exact aJ rfl
  ·exact agm p0
def arp (C : aP) (Λ2 J : Lam) (a0 : Int) (a1 : List (List D)) (a2 a3 : Int) : Res := lab SE C Λ2 J 86 0 [1, 1, 1, 0, 1, 0] (aW [(3, .d (.int .i64 a0)), (11, .d (.sl [.int .i64] a1)), (12, .d (.int .i64 a2)), (13, .d (.int .i64 a3))] [] [] [] [])
section
variable (Γ : Fun)  (Λ2 J : Lam)
def C86 : aP := aQ Γ
theorem T86 (p0 : bE) : bF SE (C86 Γ) Λ2 J 86 [bE.av p0] [] [] =
 cond (decide ((lM eI p0.IDs : Int) > 32)) (
 (rI 5)) (
 arp (C86 Γ) Λ2 J 0 (List.map eI p0.IDs) (lM eI p0.IDs : Int) 0) := by kernel_rfl
theorem aDw (x3 : Int) (x11 : List Int) (x12 x13 : Int) : bT SE (C86 Γ) Λ2 J 86 0 [1, 1, 1, 0, 1, 0] (aW [(3, .d (.int .i64 x3)), (11, .d (.sl [.int .i64] (List.map eI x11))), (12, .d (.int .i64 x12)), (13, .d (.int .i64 x13))] [] [] [] []) =
 cond (decide (x13 < x12)) (
 cond (iB x13 (lM eI x11 : Int)) (
  cond (decide ((aR (cE eI x11 x13 0)) ≤ x3)) (
  (rI 15)) (
  cond (decide ((aR (cE eI x11 x13 0)) > 65535)) (
  (rI 15)) (
  arp (C86 Γ) Λ2 J ((aR (cE eI x11 x13 0))) (List.map eI x11) x12 (w6 (x13 + 1))))) none) (
 (rI 0)) := by kernel_rfl
end
abbrev X86 : aP := C86 gG
theorem awU : X86 = aQ gG := rfl
abbrev aAH := arp X86 (bP SE gG (SE.hl 86) (SE.hr 86)) (J0 SE X86)
theorem ag0 : ∀ (fu : Nat) (x3 : Int) (x11 : List Int) (x12 x13 : Int), Le (Option.map stringslite_IndexByte_out (kS fu x3 x11 x12 x13)) (aAH x3 (List.map eI x11) x12 x13) := by
 intro fu
 induction fu with
 | zero => intros; exact le_none
 | succ fu ih =>
  intro x3 x11 x12 x13
  refine Le.trans ?_ (le_of_eq ((aZ awU).trans (aDw ..)).symm)
  unfold kS
  refine lC ?_ ?_
  ·refine lG (by simp only [EN]) ?_
   refine lD (by simp only [EN]) ?_ ?_
   ·exact aJ rfl
   ·refine lD (by simp only [EN]) ?_ ?_
    ·exact aJ rfl
    ·(try simp only [EN]); exact ih (List.getD x11 (Int.toNat x13) default) x11 x12 (w6 (x13 + 1))
  ·exact aJ rfl
theorem ajD (p0 : bE) : Le (Option.map stringslite_IndexByte_out (sB p0)) (bA SE 86 [bE.av p0] [] []) := by
 refine aV awU rfl ?_
 refine Le.trans ?_ (le_of_eq (T86 ..).symm)
 unfold sB
 refine lD (by simp only [EN]) ?_ ?_
 ·exact aJ rfl
 ·(try simp only [EN]); exact ag0 fuel 0 p0.IDs (List.length p0.IDs : Int) 0
def aoS (C : aP) (Λ2 J : Lam) (a0 : List (List D)) (a1 a2 : Int) (a3 : List D) : Res := lab SE C Λ2 J 144 0 [1, 1, 0, 1, 0] (aW [(3, .ptr 1000000000 0), (71, .d (.sl aG.ks a0)), (72, .d (.int .i64 a1)), (73, .d (.int .i64 a2))] [⟨34, (List.map AV.d a3)⟩] [] [] [])
def asS (C : aP) (Λ2 J : Lam) (a0 a1 : List D) : Res := lab SE C Λ2 J 144 0 [1, 1, 0, 0] (aW [(2, .ptr 1000000000 0), (3, .ptr 1000000001 0)] [⟨34, (List.map AV.d a0)⟩, ⟨34, (List.map AV.d a1)⟩] [] [] [])
section
variable (Γ : Fun)  (Λ2 J : Lam)
def ajx : aP := aQ Γ
theorem aEq (p0 p1 : aA) : bF SE (ajx Γ) Λ2 J 144 [aA.av p0, aA.av p1] [] [] =
 cond (!(p0.Topic == p1.Topic)) (
 (rB false)) (
 cond (!(p0.Payload == p1.Payload)) (
 (rB false)) (
 cond (p0.Level != p1.Level) (
 (rB false)) (
 cond (p0.Retain != p1.Retain) (
 (rB false)) (
 cond (p0.Priority != p1.Priority) (
 (rB false)) (
 cond (p0.Expires != p1.Expires) (
 (rB false)) (
 cond (!(p0.From == p1.From)) (
 (rB false)) (
 cond (p0.Seq != p1.Seq) (
 (rB false)) (
 cond ((lM aG.enc p0.Props : Int) != (lM aG.enc p1.Props : Int)) (
 (rB false)) (
 asS (ajx Γ) Λ2 J (aA.enc p0) (aA.enc p1)))))))))) := by kernel_rfl
theorem az5 (x71 : List aG) (x72 x73 : Int) (b0 : aA) : bT SE (ajx Γ) Λ2 J 144 0 [1, 1, 0, 1, 0] (aW [(3, .ptr 1000000000 0), (71, .d (.sl aG.ks (List.map aG.enc x71))), (72, .d (.int .i64 x72)), (73, .d (.int .i64 x73))] [⟨34, (List.map AV.d (aA.enc b0))⟩] [] [] []) =
 cond (decide (x73 < x72)) (
 cond (iB x73 (lM aG.enc x71 : Int)) (
  cond (iB x73 (lM aG.enc b0.Props : Int)) (
  cond (!(((bD (cE aG.enc x71 x73 0)) == (bD (cE aG.enc b0.Props x73 0))) && (((bD (cE aG.enc x71 x73 1)) == (bD (cE aG.enc b0.Props x73 1))) && true))) (
   (rB false)) (
  aoS (ajx Γ) Λ2 J (List.map aG.enc x71) x72 (w6 (x73 + 1)) (aA.enc b0))) none) none) (
 (rB true)) := by kernel_rfl
theorem ayb (b0 b1 : aA) : bT SE (ajx Γ) Λ2 J 144 0 [1, 1, 0, 0] (aW [(2, .ptr 1000000000 0), (3, .ptr 1000000001 0)] [⟨34, (List.map AV.d (aA.enc b0))⟩, ⟨34, (List.map AV.d (aA.enc b1))⟩] [] [] []) =
 aoS (ajx Γ) Λ2 J (List.map aG.enc b0.Props) (lM aG.enc b0.Props : Int) 0 (aA.enc b1) := by kernel_rfl
end
abbrev anR : aP := ajx gG
theorem aql : anR = aQ gG := rfl
abbrev aw1 := aoS anR (bP SE gG (SE.hl 144) (SE.hr 144)) (J0 SE anR)
abbrev axQ := asS anR (bP SE gG (SE.hl 144) (SE.hr 144)) (J0 SE anR)
theorem ahO : ∀ (fu : Nat) (x71 : List aG) (x72 x73 : Int) (b0 : aA), Le (Option.map stringslite_HasPrefix_out (l7 fu x71 x72 x73 b0)) (aw1 (List.map aG.enc x71) x72 x73 (aA.enc b0)) := by
 intro fu
 induction fu with
 | zero => intros; exact le_none
 | succ fu ih =>
  intro x71 x72 x73 b0
  refine Le.trans ?_ (le_of_eq ((aZ aql).trans (az5 ..)).symm)
  unfold l7
  refine lC ?_ ?_
  ·refine lG (by simp only [EN]) ?_
   refine lG (by simp only [EN]) ?_
   refine lD (by simp only [EN]) ?_ ?_
   ·exact aJ rfl
   ·exact ih x71 x72 (w6 (x73 + 1)) b0
  ·exact aJ rfl
theorem ah0 (b0 b1 : aA) : Le (Option.map stringslite_HasPrefix_out (vR b0 b1)) (axQ (aA.enc b0) (aA.enc b1)) := by
 refine Le.trans ?_ (le_of_eq ((aZ aql).trans (ayb ..)).symm)
 unfold vR
 (try simp only [EN]); exact ahO fuel b0.Props (List.length b0.Props : Int) 0 b1
theorem akx (p0 p1 : aA) : Le (Option.map stringslite_HasPrefix_out (wP p0 p1)) (bA SE 144 [aA.av p0, aA.av p1] [] []) := by
 refine aV aql rfl ?_
 refine Le.trans ?_ (le_of_eq (aEq ..).symm)
 unfold wP
 refine lC ?_ ?_
 ·exact aJ rfl
 ·refine lC ?_ ?_
  ·exact aJ rfl
  ·refine lC ?_ ?_
   ·exact aJ rfl
   ·refine lC ?_ ?_
    ·exact aJ rfl
    ·refine lC ?_ ?_
     ·exact aJ rfl
     ·refine lC ?_ ?_
      ·exact aJ rfl
      ·refine lC ?_ ?_
       ·exact aJ rfl
       ·refine lC ?_ ?_
        ·exact aJ rfl
        ·refine lD (by simp only [EN]) ?_ ?_
         ·exact aJ rfl
         ·exact ah0 p0 p1
section
variable (Γ : Fun) (γ144 : Gm (Bool)) (γ141 : Gm (Int)) (Λ2 J : Lam)
def C87 : aP := aY (aY (aQ Γ) 144 stringslite_HasPrefix_out γ144) 141 stringslite_IndexByte_out γ141
theorem T87 (p0 : aU) : bF SE (C87 Γ γ144 γ141) Λ2 J 87 [aU.av p0] [] [] =
 cond (!p0.Set) (
 cond (p0.Delay != 0) (
  (rI 28)) (
 γ144 [aA.av p0.Message, .agg [.d (.str []), .d (.str []), .d (.int .i64 0), .d (.bool false), .d (.int .i64 0), .d (.int .i64 0), .d (.str []), .d (.int .i64 0), .d (.sl aG.ks (List.map aG.enc []))]] [] [] fun r0 =>
 cond (!r0) (
  (rI 28)) (
 (rI 0)))) (
 cond (decide (p0.Delay < 0)) (
 (rI 1)) (
 cond (decide (p0.Delay > 1099511627776)) (
 (rI 1)) (
 γ141 [aA.av p0.Message] [] [] fun r1 =>
 (rI r1)))) := by kernel_rfl
end
abbrev X87 : aP := C87 gG (cT 144 stringslite_HasPrefix_out) (cT 141 stringslite_IndexByte_out)
theorem aD5 : X87 = aQ gG := by unfold X87 C87; repeat rw [bC fun _ h => h]
theorem amX (p0 : aU) : Le (Option.map stringslite_IndexByte_out (zS p0)) (bA SE 87 [aU.av p0] [] []) := by
 refine aV aD5 rfl ?_
 refine Le.trans ?_ (le_of_eq (T87 ..).symm)
 unfold zS
 refine lC ?_ ?_
 ·refine lC ?_ ?_
  ·exact aJ rfl
  ·refine lQ eX stringslite_HasPrefix_inj (by (try simp only [EN]); exact akx p0.Message ((aA.mk [] [] 0 false 0 0 [] 0 []))) fun r0 _ => ?_
   refine lC ?_ ?_
   ·exact aJ rfl
   ·exact aJ rfl
 ·refine lC ?_ ?_
  ·exact aJ rfl
  ·refine lC ?_ ?_
   ·exact aJ rfl
   ·refine lQ eX stringslite_IndexByte_inj (uS _) fun r1 _ => ?_
    exact aJ rfl
section
variable (Γ : Fun) (γ83 γ84 γ85 γ86 γ87 : Gm (Int)) (Λ2 J : Lam)
def C33 : aP := aY (aY (aY (aY (aY (aQ Γ) 83 stringslite_IndexByte_out γ83) 84 stringslite_IndexByte_out γ84) 85 stringslite_IndexByte_out γ85) 86 stringslite_IndexByte_out γ86) 87 stringslite_IndexByte_out γ87
theorem T33 (p0 : aB) : bF SE (C33 Γ γ83 γ84 γ85 γ86 γ87) Λ2 J 33 [aB.av p0] [] [] =
 γ83 [aB.av p0] [] [] fun r0 =>
 cond (r0 != 0) (
 (rI r0)) (
 γ84 [aB.av p0] [] [] fun r1 =>
 cond (r1 != 0) (
 (rI r1)) (
 γ85 [aI.av p0.Out] [] [] fun r2 =>
 cond (r2 != 0) (
 (rI r2)) (
 γ86 [bE.av p0.In] [] [] fun r3 =>
 cond (r3 != 0) (
 (rI r3)) (
 γ87 [aU.av p0.Will] [] [] fun r4 =>
 (rI r4))))) := by kernel_rfl
end
abbrev X33 : aP := C33 gG (cT 83 stringslite_IndexByte_out) (cT 84 stringslite_IndexByte_out) (cT 85 stringslite_IndexByte_out) (cT 86 stringslite_IndexByte_out) (cT 87 stringslite_IndexByte_out)
theorem aF7 : X33 = aQ gG := by unfold X33 C33; repeat rw [bC fun _ h => h]
theorem nX (p0 : aB) : Le (Option.map stringslite_IndexByte_out (hY p0)) (bA SE 33 [aB.av p0] [] []) := by
 refine aV aF7 rfl ?_
 refine Le.trans ?_ (le_of_eq (T33 ..).symm)
 unfold hY
 refine lQ eX stringslite_IndexByte_inj (afO _) fun r0 _ => ?_
 refine lC ?_ ?_
 ·exact aJ rfl
 ·refine lQ eX stringslite_IndexByte_inj (afE _) fun r1 _ => ?_
  refine lC ?_ ?_
  ·exact aJ rfl
  ·refine lQ eX stringslite_IndexByte_inj (aiU _) fun r2 _ => ?_
   refine lC ?_ ?_
   ·exact aJ rfl
   ·refine lQ eX stringslite_IndexByte_inj (ajD _) fun r3 _ => ?_
    refine lC ?_ ?_
    ·exact aJ rfl
    ·refine lQ eX stringslite_IndexByte_inj (amX _) fun r4 _ => ?_
     exact aJ rfl
def azB (C : aP) (Λ2 J : Lam) (a0 : Int) (a1 : List D) : Res := lab SE C Λ2 J 7 0 [1, 1, 0] (aW [(1, .d (.int .i64 a0)), (2, .ptr 1000000000 0)] [⟨49, (List.map AV.d a1)⟩] [] [] [])
section
variable (Γ : Fun) (γ14 : Gm (Bool)) (γ30 : Gm (Int)) (γ31 γ32 : Gm (aB)) (γ17 : Gm (Bool)) (γ33 : Gm (Int)) (Λ2 J : Lam)
def C7 : aP := aY (aY (aY (aY (aY (aY (aQ Γ) 14 stringslite_HasPrefix_out γ14) 30 stringslite_IndexByte_out γ30) 31 cB γ31) 32 kG γ32) 17 stringslite_HasPrefix_out γ17) 33 stringslite_IndexByte_out γ33
theorem T7 (p0 : aC) (p1 : Int) : bF SE (C7 Γ γ14 γ30 γ31 γ32 γ17 γ33) Λ2 J 7 [aC.av p0, .d (.int .i64 p1)] [] [] =
 cond (p0.Kind != 1) (
 γ14 [] [] [] fun r0 =>
 (rB r0)) (
 γ30 [aC.av p0] [] [] fun r1 =>
 cond (r1 != 0) (
 γ14 [] [] [] fun r2 =>
 (rB r2)) (
 azB (C7 Γ γ14 γ30 γ31 γ32 γ17 γ33) Λ2 J p1 (aC.enc p0))) := by kernel_rfl
theorem aE7 (x1 : Int) (b0 : aC) : bT SE (C7 Γ γ14 γ30 γ31 γ32 γ17 γ33) Λ2 J 7 0 [1, 1, 0] (aW [(1, .d (.int .i64 x1)), (2, .ptr 1000000000 0)] [⟨49, (List.map AV.d (aC.enc b0))⟩] [] [] []) =
 γ31 [aC.av b0, .d (.int .i64 x1)] [] [] fun r3 =>
 γ14 [] [] [] fun r4 =>
 cond r4 (
 γ32 [aC.av b0, .d (.int .i64 x1)] [] [] fun r5 =>
 γ17 [aB.av r3, aB.av r5] [] [] fun r6 =>
 cond r6 (
  γ33 [aB.av r3] [] [] fun r7 =>
  (rB (r7 == 0))) (
 (rB false))) (
 (rB false)) := by kernel_rfl
end
abbrev X7 : aP := C7 gG (cT 14 stringslite_HasPrefix_out) (cT 30 stringslite_IndexByte_out) (cT 31 cB) (cT 32 kG) (cT 17 stringslite_HasPrefix_out) (cT 33 stringslite_IndexByte_out)
theorem Cr7 : X7 = aQ gG := by unfold X7 C7; repeat rw [bC fun _ h => h]
abbrev aFF := azB X7 (bP SE gG (SE.hl 7) (SE.hr 7)) (J0 SE X7)
theorem aaQ (x1 : Int) (b0 : aC) : Le (Option.map stringslite_HasPrefix_out (lO x1 b0)) (aFF x1 (aC.enc b0)) := by
 refine Le.trans ?_ (le_of_eq ((aZ Cr7).trans (aE7 ..)).symm)
 unfold lO
 refine lQ eX gA (aaV _ _) fun r3 _ => ?_
 refine lQ eX stringslite_HasPrefix_inj (bZ) fun r4 _ => ?_
 refine lC ?_ ?_
 ·refine lQ eX aha (ahq _ _) fun r5 _ => ?_
  refine lQ eX stringslite_HasPrefix_inj (gJ _ _) fun r6 _ => ?_
  refine lC ?_ ?_
  ·refine lQ eX stringslite_IndexByte_inj (nX _) fun r7 _ => ?_
   exact aJ rfl
  ·exact aJ rfl
 ·exact aJ rfl
theorem ace (p0 : aC) (p1 : Int) : Le (Option.map stringslite_HasPrefix_out (oA p0 p1)) (bA SE 7 [aC.av p0, .d (.int .i64 p1)] [] []) := by
 refine aV Cr7 rfl ?_
 refine Le.trans ?_ (le_of_eq (T7 ..).symm)
 unfold oA
 refine lC ?_ ?_
 ·refine lQ eX stringslite_HasPrefix_inj (bZ) fun r0 _ => ?_
  exact aJ rfl
 ·refine lQ eX stringslite_IndexByte_inj (aaj _) fun r1 _ => ?_
  refine lC ?_ ?_
  ·refine lQ eX stringslite_HasPrefix_inj (bZ) fun r2 _ => ?_
   exact aJ rfl
  ·exact aaQ p1 p0
end Te
end PX
