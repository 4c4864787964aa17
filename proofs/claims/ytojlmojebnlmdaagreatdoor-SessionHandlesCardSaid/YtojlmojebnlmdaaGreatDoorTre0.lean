import Derived.Test.YtojlmojebnlmdaaGreatDoorTab
set_option linter.unusedVariables false
set_option linter.unusedSimpArgs false
set_option maxRecDepth 100000
noncomputable section
namespace PX
open Go
open Md
namespace Te
abbrev cE {α : Type} (f : α → List D) (l : List α) (i : Int) (k : Nat) : D := cellAt (elemAt (List.map f l) (Int.toNat i)) k
abbrev lM {α : Type} (f : α → List D) (l : List α) : Nat := List.length (List.map f l)
abbrev iB (i n : Int) : Bool := decide (0 ≤ i) && decide (i < n)
abbrev w6 (x : Int) : Int := IntKind.wrap .i64 x
abbrev eI : Int → List D := encI .i64
abbrev rB (b : Bool) : Res := some (.ret [.d (.bool b)] [] [])
abbrev rI (n : Int) : Res := some (.ret [.d (.int .i64 n)] [] [])
theorem lQ {g : FuncId} {R S : Type} {out : R → Out} {e : S → Out} {x : Option R} {M : R → Option S} {a : List AV} {b : List Bx} {r : List Rw} {κ : R → Res} (hg : ∀ y, good g (out y)) (hi : ∀ y z, out y = out z → y = z) (h : Le (x.map out) (bA SE g a b r)) (hk : ∀ y, x = some y → Le ((M y).map e) (κ y)) : Le ((x.bind M).map e) (aiA SE good g out a b r κ) := av5 (good := good) hg hi h hk
section
variable (Γ : Fun)  (Λ2 J : Lam)
def axl : aP := aQ Γ
theorem aEw (p0 : Int) : bF SE (axl Γ) Λ2 J 100 [.d (.int .u8 p0)] [] [] =
 cond (decide (p0 ≥ 97)) (
 (rB (decide (p0 ≤ 122)))) (
 (rB false)) := by kernel_rfl
end
abbrev aEJ : aP := axl gG
theorem aBX : aEJ = aQ gG := rfl
theorem zQ (p0 : Int) : Le (Option.map aE (mV p0)) (bA SE 100 [.d (.int .u8 p0)] [] []) := by
 refine aV aBX rfl ?_
 refine Le.trans ?_ (le_of_eq (aEw ..).symm)
 unfold mV
 refine lC ?_ ?_
 ·exact aJ rfl
 ·exact aJ rfl
section
variable (Γ : Fun)  (Λ2 J : Lam)
def azA : aP := aQ Γ
theorem aES (p0 : Int) : bF SE (azA Γ) Λ2 J 101 [.d (.int .u8 p0)] [] [] =
 cond (decide (p0 ≥ 48)) (
 (rB (decide (p0 ≤ 57)))) (
 (rB false)) := by kernel_rfl
end
abbrev aEA : aP := azA gG
theorem aC8 : aEA = aQ gG := rfl
theorem af5 (p0 : Int) : Le (Option.map aE (pJ p0)) (bA SE 101 [.d (.int .u8 p0)] [] []) := by
 refine aV aC8 rfl ?_
 refine Le.trans ?_ (le_of_eq (aES ..).symm)
 unfold pJ
 refine lC ?_ ?_
 ·exact aJ rfl
 ·exact aJ rfl
def akB (C : aP) (Λ2 J : Lam) (a0 : Str) (a1 : Int) : Res := lab SE C Λ2 J 48 0 [1, 1, 0, 1, 0] (aW [(0, .d (.str a0)), (3, .d (.int .i64 a1))] [] [] [] [])
def avL (C : aP) (Λ2 J : Lam) (a0 : Str) : Res := lab SE C Λ2 J 48 0 [1, 1, 0, 0] (aW [(0, .d (.str a0))] [] [] [] [])
section
variable (Γ : Fun) (γ100 γ101 : Gm (Bool)) (Λ2 J : Lam)
def C48 : aP := aY (aY (aQ Γ) 100 aE γ100) 101 aE γ101
theorem T48 (p0 : Str) : bF SE (C48 Γ γ100 γ101) Λ2 J 48 [.d (.str p0)] [] [] =
 cond (decide ((List.length p0 : Int) < 1)) (
 (rB false)) (
 cond (decide ((List.length p0 : Int) > 16)) (
 (rB false)) (
 cond (decide (0 ≤ 0) && decide (0 < (List.length p0 : Int))) (
 γ100 [.d (.int .u8 (UInt8.toNat (List.getD p0 (Int.toNat 0) 0) : Int))] [] [] fun r0 =>
 cond (!r0) (
  (rB false)) (
 avL (C48 Γ γ100 γ101) Λ2 J p0)) none)) := by kernel_rfl
theorem aCI (x0 : Str) (x3 : Int) : bT SE (C48 Γ γ100 γ101) Λ2 J 48 0 [1, 1, 0, 1, 0] (aW [(0, .d (.str x0)), (3, .d (.int .i64 x3))] [] [] [] []) =
 cond (decide (x3 < (List.length x0 : Int))) (
 cond (iB x3 (List.length x0 : Int)) (
  γ100 [.d (.int .u8 (UInt8.toNat (List.getD x0 (Int.toNat x3) 0) : Int))] [] [] fun r1 =>
  cond (!r1) (
  cond (iB x3 (List.length x0 : Int)) (
   γ101 [.d (.int .u8 (UInt8.toNat (List.getD x0 (Int.toNat x3) 0) : Int))] [] [] fun r2 =>
   cond (!r2) (
   cond (iB x3 (List.length x0 : Int)) (
    cond ((UInt8.toNat (List.getD x0 (Int.toNat x3) 0) : Int) != 45) (
    (rB false)) (
    akB (C48 Γ γ100 γ101) Λ2 J x0 (w6 (x3 + 1)))) none) (
   akB (C48 Γ γ100 γ101) Λ2 J x0 (w6 (x3 + 1)))) none) (
  akB (C48 Γ γ100 γ101) Λ2 J x0 (w6 (x3 + 1)))) none) (
 (rB true)) := by kernel_rfl
theorem aA7 (x0 : Str) : bT SE (C48 Γ γ100 γ101) Λ2 J 48 0 [1, 1, 0, 0] (aW [(0, .d (.str x0))] [] [] [] []) =
 akB (C48 Γ γ100 γ101) Λ2 J x0 0 := by kernel_rfl
end
abbrev X48 : aP := C48 gG (cT 100 aE) (cT 101 aE)
theorem as4 : X48 = aQ gG := by unfold X48 C48; repeat rw [bC fun _ h => h]
abbrev aBx := akB X48 (bP SE gG (SE.hl 48) (SE.hr 48)) (J0 SE X48)
abbrev aBG := avL X48 (bP SE gG (SE.hl 48) (SE.hr 48)) (J0 SE X48)
theorem aez : ∀ (fu : Nat) (x0 : Str) (x3 : Int), Le (Option.map aE (fJ fu x0 x3)) (aBx x0 x3) := by
 intro fu
 induction fu with
 | zero => intros; exact le_none
 | succ fu ih =>
  intro x0 x3
  refine Le.trans ?_ (le_of_eq ((aZ as4).trans (aCI ..)).symm)
  unfold fJ
  refine lC ?_ ?_
  ·refine lF ?_
   refine lQ eX aK (zQ _) fun r1 _ => ?_
   refine lC ?_ ?_
   ·refine lF ?_
    refine lQ eX aK (af5 _) fun r2 _ => ?_
    refine lC ?_ ?_
    ·refine lF ?_
     refine lC ?_ ?_
     ·exact aJ rfl
     ·exact ih x0 (w6 (x3 + 1))
    ·exact ih x0 (w6 (x3 + 1))
   ·exact ih x0 (w6 (x3 + 1))
  ·exact aJ rfl
theorem aeL (x0 : Str) : Le (Option.map aE (rR x0)) (aBG x0) := by
 refine Le.trans ?_ (le_of_eq ((aZ as4).trans (aA7 ..)).symm)
 unfold rR
 exact aez fuel x0 0
theorem kI (p0 : Str) : Le (Option.map aE (gD p0)) (bA SE 48 [.d (.str p0)] [] []) := by
 refine aV as4 rfl ?_
 refine Le.trans ?_ (le_of_eq (T48 ..).symm)
 unfold gD
 refine lC ?_ ?_
 ·exact aJ rfl
 ·refine lC ?_ ?_
  ·exact aJ rfl
  ·refine lF ?_
   refine lQ eX aK (zQ _) fun r0 _ => ?_
   refine lC ?_ ?_
   ·exact aJ rfl
   ·exact aeL p0
section
variable (Γ : Fun)  (Λ2 J : Lam)
def C94 : aP := aQ Γ
theorem T94 (p0 p1 : Int) : bF SE (C94 Γ) Λ2 J 94 [.d (.int .i64 p0), .d (.int .i64 p1)] [] [] =
 cond (decide (p0 ≥ 0)) (
 (rB (decide (p0 ≤ p1)))) (
 (rB false)) := by kernel_rfl
end
abbrev X94 : aP := C94 gG
theorem aDX : X94 = aQ gG := rfl
theorem xP (p0 p1 : Int) : Le (Option.map aE (nW p0 p1)) (bA SE 94 [.d (.int .i64 p0), .d (.int .i64 p1)] [] []) := by
 refine aV aDX rfl ?_
 refine Le.trans ?_ (le_of_eq (T94 ..).symm)
 unfold nW
 refine lC ?_ ?_
 ·exact aJ rfl
 ·exact aJ rfl
def aj6 (C : aP) (Λ2 J : Lam) (a0 : List D) : Res := lab SE C Λ2 J 41 0 [1, 1, 1, 0, 0] (aW [(1, .ptr 1000000000 0)] [⟨38, (List.map AV.d a0)⟩] [] [] [])
def aqL (C : aP) (Λ2 J : Lam) (a0 : List D) : Res := lab SE C Λ2 J 41 0 [1, 1, 0, 0] (aW [(1, .ptr 1000000000 0)] [⟨38, (List.map AV.d a0)⟩] [] [] [])
section
variable (Γ : Fun) (γ48 γ94 : Gm (Bool)) (Λ2 J : Lam)
def C41 : aP := aY (aY (aQ Γ) 48 aE γ48) 94 aE γ94
theorem T41 (p0 : aB) : bF SE (C41 Γ γ48 γ94) Λ2 J 41 [aB.av p0] [] [] =
 γ48 [.d (.str p0.Client)] [] [] fun r0 =>
 cond (!r0) (
 (rI 11)) (
 cond (!(p0.User == ([] : Str))) (
 γ48 [.d (.str p0.User)] [] [] fun r1 =>
 cond (!r1) (
  (rI 11)) (
 aqL (C41 Γ γ48 γ94) Λ2 J (aB.enc p0))) (
 aqL (C41 Γ γ48 γ94) Λ2 J (aB.enc p0))) := by kernel_rfl
theorem aCt (b0 : aB) : bT SE (C41 Γ γ48 γ94) Λ2 J 41 0 [1, 1, 1, 0, 0] (aW [(1, .ptr 1000000000 0)] [⟨38, (List.map AV.d (aB.enc b0))⟩] [] [] []) =
 γ94 [.d (.int .i64 b0.Expiry), .d (.int .i64 1099511627776)] [] [] fun r2 =>
 cond (!r2) (
 (rI 1)) (
 γ94 [.d (.int .i64 b0.Until), .d (.int .i64 1099511627776)] [] [] fun r3 =>
 cond (!r3) (
 (rI 1)) (
 γ94 [.d (.int .i64 b0.Dropped), .d (.int .i64 1099511627776)] [] [] fun r4 =>
 cond (!r4) (
 (rI 1)) (
 (rI 0)))) := by kernel_rfl
theorem aB9 (b0 : aB) : bT SE (C41 Γ γ48 γ94) Λ2 J 41 0 [1, 1, 0, 0] (aW [(1, .ptr 1000000000 0)] [⟨38, (List.map AV.d (aB.enc b0))⟩] [] [] []) =
 cond (!b0.Online) (
 cond (b0.Conn != 0) (
  (rI 9)) (
 cond b0.Online (
  cond (b0.Until != 0) (
  (rI 9)) (
  aj6 (C41 Γ γ48 γ94) Λ2 J (aB.enc b0))) (
 aj6 (C41 Γ γ48 γ94) Λ2 J (aB.enc b0)))) (
 cond b0.Online (
 cond (b0.Until != 0) (
  (rI 9)) (
 aj6 (C41 Γ γ48 γ94) Λ2 J (aB.enc b0))) (
 aj6 (C41 Γ γ48 γ94) Λ2 J (aB.enc b0))) := by kernel_rfl
end
abbrev X41 : aP := C41 gG (cT 48 aE) (cT 94 aE)
theorem auJ : X41 = aQ gG := by unfold X41 C41; repeat rw [bC fun _ h => h]
abbrev aCB := aj6 X41 (bP SE gG (SE.hl 41) (SE.hr 41)) (J0 SE X41)
abbrev aBZ := aqL X41 (bP SE gG (SE.hl 41) (SE.hr 41)) (J0 SE X41)
theorem n4 (b0 : aB) : Le (Option.map aH (iT b0)) (aCB (aB.enc b0)) := by
 refine Le.trans ?_ (le_of_eq ((aZ auJ).trans (aCt ..)).symm)
 unfold iT
 refine lQ eX aK (xP _ _) fun r2 _ => ?_
 refine lC ?_ ?_
 ·exact aJ rfl
 ·refine lQ eX aK (xP _ _) fun r3 _ => ?_
  refine lC ?_ ?_
  ·exact aJ rfl
  ·refine lQ eX aK (xP _ _) fun r4 _ => ?_
   refine lC ?_ ?_
   ·exact aJ rfl
   ·exact aJ rfl
theorem xW (b0 : aB) : Le (Option.map aH (nB b0)) (aBZ (aB.enc b0)) := by
 refine Le.trans ?_ (le_of_eq ((aZ auJ).trans (aB9 ..)).symm)
 unfold nB
 refine lC ?_ ?_
 ·refine lC ?_ ?_
  ·exact aJ rfl
  ·refine lC ?_ ?_
   ·refine lC ?_ ?_
    ·exact aJ rfl
    ·exact n4 b0
   ·exact n4 b0
 ·refine lC ?_ ?_
  ·refine lC ?_ ?_
   ·exact aJ rfl
   ·exact n4 b0
  ·exact n4 b0
theorem ag5 (p0 : aB) : Le (Option.map aH (qT p0)) (bA SE 41 [aB.av p0] [] []) := by
 refine aV auJ rfl ?_
 refine Le.trans ?_ (le_of_eq (T41 ..).symm)
 unfold qT
 refine lQ eX aK (kI _) fun r0 _ => ?_
 refine lC ?_ ?_
 ·exact aJ rfl
 ·refine lC ?_ ?_
  ·refine lQ eX aK (kI _) fun r1 _ => ?_
   refine lC ?_ ?_
   ·exact aJ rfl
   ·exact xW p0
  ·exact xW p0
section
variable (Γ : Fun)  (Λ2 J : Lam)
def azS : aP := aQ Γ
theorem aEM (p0 p1 : Str) : bF SE (azS Γ) Λ2 J 168 [.d (.str p0), .d (.str p1)] [] [] =
 cond (decide ((List.length p0 : Int) ≥ (List.length p1 : Int))) (
 cond (decide (0 ≤ (List.length p1 : Int)) && decide ((List.length p1 : Int) ≤ ((List.length p0) : Int))) (
  (rB ((bR p0 none (some (List.length p1 : Int))) == p1))) none) (
 (rB false)) := by kernel_rfl
end
abbrev aFd : aP := azS gG
theorem aDf : aFd = aQ gG := rfl
theorem tN (p0 p1 : Str) : Le (Option.map aE (k8 p0 p1)) (bA SE 168 [.d (.str p0), .d (.str p1)] [] []) := by
 refine aV aDf rfl ?_
 refine Le.trans ?_ (le_of_eq (aEM ..).symm)
 unfold k8
 refine lC ?_ ?_
 ·refine lF ?_
  exact aJ rfl
 ·exact aJ rfl
def arf (C : aP) (Λ2 J : Lam) (a0 : Str) (a1 a2 : Int) : Res := lab SE C Λ2 J 99 0 [1, 0, 1, 0] (aW [(0, .d (.str a0)), (1, .d (.int .u8 a1)), (5, .d (.int .i64 a2))] [] [] [] [])
section
variable (Γ : Fun)  (Λ2 J : Lam)
def C99 : aP := aQ Γ
theorem T99 (p0 : Str) (p1 : Int) : bF SE (C99 Γ) Λ2 J 99 [.d (.str p0), .d (.int .u8 p1)] [] [] =
 arf (C99 Γ) Λ2 J p0 p1 0 := by kernel_rfl
theorem aAP (x0 : Str) (x1 x5 : Int) : bT SE (C99 Γ) Λ2 J 99 0 [1, 0, 1, 0] (aW [(0, .d (.str x0)), (1, .d (.int .u8 x1)), (5, .d (.int .i64 x5))] [] [] [] []) =
 cond (decide (x5 < (List.length x0 : Int))) (
 cond (iB x5 (List.length x0 : Int)) (
  cond ((UInt8.toNat (List.getD x0 (Int.toNat x5) 0) : Int) == x1) (
  (rB true)) (
  arf (C99 Γ) Λ2 J x0 x1 (w6 (x5 + 1)))) none) (
 (rB false)) := by kernel_rfl
end
abbrev X99 : aP := C99 gG
theorem awE : X99 = aQ gG := rfl
abbrev aDg := arf X99 (bP SE gG (SE.hl 99) (SE.hr 99)) (J0 SE X99)
theorem ae7 : ∀ (fu : Nat) (x0 : Str) (x1 x5 : Int), Le (Option.map aE (jN fu x0 x1 x5)) (aDg x0 x1 x5) := by
 intro fu
 induction fu with
 | zero => intros; exact le_none
 | succ fu ih =>
  intro x0 x1 x5
  refine Le.trans ?_ (le_of_eq ((aZ awE).trans (aAP ..)).symm)
  unfold jN
  refine lC ?_ ?_
  ·refine lF ?_
   refine lC ?_ ?_
   ·exact aJ rfl
   ·exact ih x0 x1 (w6 (x5 + 1))
  ·exact aJ rfl
theorem oL (p0 : Str) (p1 : Int) : Le (Option.map aE (iZ p0 p1)) (bA SE 99 [.d (.str p0), .d (.int .u8 p1)] [] []) := by
 refine aV awE rfl ?_
 refine Le.trans ?_ (le_of_eq (T99 ..).symm)
 unfold iZ
 exact ae7 fuel p0 p1 0
def akq (C : aP) (Λ2 J : Lam) (a0 : Str) (a1 a2 : Int) (a3 : List (List D)) : Res := lab SE C Λ2 J 150 0 [1, 1, 1, 0, 1, 0] (aW [(0, .d (.str a0)), (3, .row 3003), (4, .d (.int .i64 a1)), (5, .d (.int .i64 a2))] [] [] [] [(3003, ⟨[.str], 9, 16, a3⟩)])
section
variable (Γ : Fun)  (Λ2 J : Lam)
def alI : aP := aQ Γ
theorem aFv (p0 : Str) : bF SE (alI Γ) Λ2 J 150 [.d (.str p0)] [] [] =
 akq (alI Γ) Λ2 J p0 0 0 (List.map bL []) := by kernel_rfl
theorem awY (x0 : Str) (x4 x5 : Int) (w3003 : List Str) : bT SE (alI Γ) Λ2 J 150 0 [1, 1, 1, 0, 1, 0] (aW [(0, .d (.str x0)), (3, .row 3003), (4, .d (.int .i64 x4)), (5, .d (.int .i64 x5))] [] [] [] [(3003, ⟨[.str], 9, 16, (List.map bL w3003)⟩)]) =
 cond (decide (x5 < (List.length x0 : Int))) (
 cond (iB x5 (List.length x0 : Int)) (
  cond ((UInt8.toNat (List.getD x0 (Int.toNat x5) 0) : Int) == 47) (
  cond (decide (0 ≤ x5) && decide (x5 ≤ ((List.length x0) : Int))) (
   cond (decide (0 ≤ x4) && decide (x4 ≤ x5)) (
   cond (decide ((lM bL w3003 + lM bL [(bR x0 (some x4) (some x5))]) * 16 ≤ 140737488355328)) (
    akq (alI Γ) Λ2 J x0 (w6 (x5 + 1)) (w6 (x5 + 1)) (((List.map bL w3003) ++ (List.map bL [(bR x0 (some x4) (some x5))])))) none) none) none) (
  akq (alI Γ) Λ2 J x0 x4 (w6 (x5 + 1)) (List.map bL w3003))) none) (
 cond (decide (0 ≤ x4) && decide (x4 ≤ ((List.length x0) : Int))) (
 cond (decide ((lM bL w3003 + lM bL [(bR x0 (some x4) none)]) * 16 ≤ 140737488355328)) (
  (some (.ret [.row 0] [] [⟨[.str], 9, 16, ((List.map bL w3003) ++ (List.map bL [(bR x0 (some x4) none)]))⟩]))) none) none) := by kernel_rfl
end
abbrev atu : aP := alI gG
theorem avH : atu = aQ gG := rfl
abbrev axe := akq atu (bP SE gG (SE.hl 150) (SE.hr 150)) (J0 SE atu)
theorem acH : ∀ (fu : Nat) (x0 : Str) (x4 x5 : Int) (w3003 : List Str), Le (Option.map dN (fK fu x0 x4 x5 w3003)) (axe x0 x4 x5 (List.map bL w3003)) := by
 intro fu
 induction fu with
 | zero => intros; exact le_none
 | succ fu ih =>
  intro x0 x4 x5 w3003
  refine Le.trans ?_ (le_of_eq ((aZ avH).trans (awY ..)).symm)
  unfold fK
  refine lC ?_ ?_
  ·refine lF ?_
   refine lC ?_ ?_
   ·refine lF ?_
    refine lF ?_
    refine lG (by simp only [EN]) ?_
    (try simp only [EN]); exact ih x0 (w6 (x5 + 1)) (w6 (x5 + 1)) ((w3003 ++ [(bR x0 (some x4) (some x5))]))
   ·exact ih x0 x4 (w6 (x5 + 1)) w3003
  ·refine lF ?_
   refine lG (by simp only [EN]) ?_
   exact aJ (by first | rfl | simp only [EN, dN] <;> rfl)
theorem zC (p0 : Str) : Le (Option.map dN (oI p0)) (bA SE 150 [.d (.str p0)] [] []) := by
 refine aV avH rfl ?_
 refine Le.trans ?_ (le_of_eq (aFv ..).symm)
 unfold oI
 (try simp only [EN]); exact acH fuel p0 0 0 []
section
variable (Γ : Fun) (γ99 : Gm (Bool)) (γ150 : Gm ((List Str))) (Λ2 J : Lam)
def C98 : aP := aY (aY (aQ Γ) 99 aE γ99) 150 dN γ150
theorem T98 (p0 : Str) : bF SE (C98 Γ γ99 γ150) Λ2 J 98 [.d (.str p0)] [] [] =
 cond (decide ((List.length p0 : Int) ≥ 1)) (
 cond (decide ((List.length p0 : Int) ≤ 64)) (
  γ99 [.d (.str p0), .d (.int .u8 0)] [] [] fun r0 =>
  cond (!r0) (
  γ150 [.d (.str p0)] [] [] fun r1 =>
  (rB (decide ((lM bL r1 : Int) ≤ 8)))) (
  (rB false))) (
 (rB false))) (
 (rB false)) := by kernel_rfl
end
abbrev X98 : aP := C98 gG (cT 99 aE) (cT 150 dN)
theorem aFg : X98 = aQ gG := by unfold X98 C98; repeat rw [bC fun _ h => h]
theorem aay (p0 : Str) : Le (Option.map aE (mW p0)) (bA SE 98 [.d (.str p0)] [] []) := by
 refine aV aFg rfl ?_
 refine Le.trans ?_ (le_of_eq (T98 ..).symm)
 unfold mW
 refine lC ?_ ?_
 ·refine lC ?_ ?_
  ·refine lQ eX aK (oL _ _) fun r0 _ => ?_
   refine lC ?_ ?_
   ·refine lQ eX yB (zC _) fun r1 _ => ?_
    exact aJ (by first | rfl | simp only [EN, aE] <;> rfl)
   ·exact aJ rfl
  ·exact aJ rfl
 ·exact aJ rfl
def aoT (C : aP) (Λ2 J : Lam) (a0 : Int) (a1 : List (List D)) : Res := lab SE C Λ2 J 167 0 [1, 1, 1, 0, 1, 0, 0, 1, 0, 0, 1, 0] (aW [(3, .row 3003), (4, .d (.int .i64 a0))] [] [] [] [(3003, ⟨[.str], 9, 16, a1⟩)])
def aka (C : aP) (Λ2 J : Lam) (a0 : Int) (a1 : List (List D)) : Res := lab SE C Λ2 J 167 0 [1, 1, 1, 0, 1, 0] (aW [(3, .row 3003), (4, .d (.int .i64 a0))] [] [] [] [(3003, ⟨[.str], 9, 16, a1⟩)])
section
variable (Γ : Fun) (γ98 : Gm (Bool)) (γ150 : Gm ((List Str))) (γ99 : Gm (Bool)) (Λ2 J : Lam)
def aeQ : aP := aY (aY (aY (aQ Γ) 98 aE γ98) 150 dN γ150) 99 aE γ99
theorem aDR (p0 : Str) : bF SE (aeQ Γ γ98 γ150 γ99) Λ2 J 167 [.d (.str p0)] [] [] =
 γ98 [.d (.str p0)] [] [] fun r0 =>
 cond (!r0) (
 (rB false)) (
 γ150 [.d (.str p0)] [] [] fun r1 =>
 aka (aeQ Γ γ98 γ150 γ99) Λ2 J 0 (List.map bL r1)) := by kernel_rfl
theorem awW (x4 : Int) (w3003 : List Str) : bT SE (aeQ Γ γ98 γ150 γ99) Λ2 J 167 0 [1, 1, 1, 0, 1, 0, 0, 1, 0, 0, 1, 0] (aW [(3, .row 3003), (4, .d (.int .i64 x4))] [] [] [] [(3003, ⟨[.str], 9, 16, (List.map bL w3003)⟩)]) =
 cond (iB x4 (lM bL w3003 : Int)) (
 γ99 [.d (.str (bD (cE bL w3003 x4 0))), .d (.int .u8 35)] [] [] fun r3 =>
 cond r3 (
  cond (iB x4 (lM bL w3003 : Int)) (
  cond (!((bD (cE bL w3003 x4 0)) == ([35] : Str))) (
   (rB false)) (
  cond (x4 != (w6 ((lM bL w3003 : Int) - 1))) (
   (rB false)) (
  aka (aeQ Γ γ98 γ150 γ99) Λ2 J (w6 (x4 + 1)) (List.map bL w3003)))) none) (
 aka (aeQ Γ γ98 γ150 γ99) Λ2 J (w6 (x4 + 1)) (List.map bL w3003))) none := by kernel_rfl
theorem azO (x4 : Int) (w3003 : List Str) : bT SE (aeQ Γ γ98 γ150 γ99) Λ2 J 167 0 [1, 1, 1, 0, 1, 0] (aW [(3, .row 3003), (4, .d (.int .i64 x4))] [] [] [] [(3003, ⟨[.str], 9, 16, (List.map bL w3003)⟩)]) =
 cond (decide (x4 < (lM bL w3003 : Int))) (
 cond (iB x4 (lM bL w3003 : Int)) (
  γ99 [.d (.str (bD (cE bL w3003 x4 0))), .d (.int .u8 43)] [] [] fun r2 =>
  cond r2 (
  cond (iB x4 (lM bL w3003 : Int)) (
   cond (!((bD (cE bL w3003 x4 0)) == ([43] : Str))) (
   (rB false)) (
   aoT (aeQ Γ γ98 γ150 γ99) Λ2 J x4 (List.map bL w3003))) none) (
  aoT (aeQ Γ γ98 γ150 γ99) Λ2 J x4 (List.map bL w3003))) none) (
 (rB true)) := by kernel_rfl
end
abbrev als : aP := aeQ gG (cT 98 aE) (cT 150 dN) (cT 99 aE)
theorem aqq : als = aQ gG := by unfold als aeQ; repeat rw [bC fun _ h => h]
abbrev axm := aoT als (bP SE gG (SE.hl 167) (SE.hr 167)) (J0 SE als)
abbrev asf := aka als (bP SE gG (SE.hl 167) (SE.hr 167)) (J0 SE als)
theorem wC (k5 : Int → (List Str) → Option (Bool)) (hk5 : ∀ (x4 : Int) (w3003 : List Str), Le (Option.map aE (k5 x4 w3003)) (asf x4 (List.map bL w3003))) (x4 : Int) (w3003 : List Str) : Le (Option.map aE (jB k5 x4 w3003)) (axm x4 (List.map bL w3003)) := by
 refine Le.trans ?_ (le_of_eq ((aZ aqq).trans (awW ..)).symm)
 unfold jB
 refine lG (by simp only [EN]) ?_
 refine lQ eX aK (by (try simp only [EN]); exact oL (List.getD w3003 (Int.toNat x4) default) 35) fun r3 _ => ?_
 refine lC ?_ ?_
 ·refine lG (by simp only [EN]) ?_
  refine lD (by simp only [EN]) ?_ ?_
  ·exact aJ rfl
  ·refine lD (by simp only [EN]) ?_ ?_
   ·exact aJ rfl
   ·exact hk5 (w6 (x4 + 1)) w3003
 ·exact hk5 (w6 (x4 + 1)) w3003
theorem ac0 : ∀ (fu : Nat) (x4 : Int) (w3003 : List Str), Le (Option.map aE (fM fu x4 w3003)) (asf x4 (List.map bL w3003)) := by
 intro fu
 induction fu with
 | zero => intros; exact le_none
 | succ fu ih =>
  intro x4 w3003
  refine Le.trans ?_ (le_of_eq ((aZ aqq).trans (azO ..)).symm)
  unfold fM
  refine lD (by simp only [EN]) ?_ ?_
  ·refine lG (by simp only [EN]) ?_
   refine lQ eX aK (by (try simp only [EN]); exact oL (List.getD w3003 (Int.toNat x4) default) 43) fun r2 _ => ?_
   refine lC ?_ ?_
   ·refine lG (by simp only [EN]) ?_
    refine lD (by simp only [EN]) ?_ ?_
    ·exact aJ rfl
    ·exact wC _ (ih) x4 w3003
   ·exact wC _ (ih) x4 w3003
  ·exact aJ rfl
theorem yW (p0 : Str) : Le (Option.map aE (lA p0)) (bA SE 167 [.d (.str p0)] [] []) := by
 refine aV aqq rfl ?_
 refine Le.trans ?_ (le_of_eq (aDR ..).symm)
 unfold lA
 refine lQ eX aK (aay _) fun r0 _ => ?_
 refine lC ?_ ?_
 ·exact aJ rfl
 ·refine lQ eX yB (zC _) fun r1 _ => ?_
  exact ac0 fuel 0 r1
def asJ (C : aP) (Λ2 J : Lam) (a0 : Str) (a1 : Int) : Res := lab SE C Λ2 J 166 0 [1, 1, 1, 1, 1, 1, 0] (aW [(5, .d (.str a0)), (6, .d (.int .i64 a1))] [] [] [] [])
def aou (C : aP) (Λ2 J : Lam) (a0 : Str) (a1 : Int) : Res := lab SE C Λ2 J 166 0 [1, 1, 1, 1, 1, 0, 0] (aW [(5, .d (.str a0)), (6, .d (.int .i64 a1))] [] [] [] [])
def ao3 (C : aP) (Λ2 J : Lam) (a0 : Str) (a1 : Int) : Res := lab SE C Λ2 J 166 0 [1, 1, 1, 1, 0, 0] (aW [(5, .d (.str a0)), (6, .d (.int .i64 a1))] [] [] [] [])
section
variable (Γ : Fun) (γ168 γ48 γ167 : Gm (Bool)) (Λ2 J : Lam)
def adr : aP := aY (aY (aY (aQ Γ) 168 aE γ168) 48 aE γ48) 167 aE γ167
theorem aFE (p0 : Str) : bF SE (adr Γ γ168 γ48 γ167) Λ2 J 166 [.d (.str p0)] [] [] =
 γ168 [.d (.str p0), .d (.str ([36, 115, 104, 97, 114, 101, 47] : Str))] [] [] fun r0 =>
 cond (!r0) (
 (some (.ret [.d (.str []), .d (.str []), .d (.bool false)] [] []))) (
 cond (decide (0 ≤ 7) && decide (7 ≤ ((List.length p0) : Int))) (
 ao3 (adr Γ γ168 γ48 γ167) Λ2 J (bR p0 (some 7) none) 0) none) := by kernel_rfl
theorem axO (x5 : Str) (x6 : Int) : bT SE (adr Γ γ168 γ48 γ167) Λ2 J 166 0 [1, 1, 1, 1, 1, 1, 0] (aW [(5, .d (.str x5)), (6, .d (.int .i64 x6))] [] [] [] []) =
 cond (decide (0 ≤ x6) && decide (x6 ≤ ((List.length x5) : Int))) (
 cond (decide (0 ≤ (w6 (x6 + 1))) && decide ((w6 (x6 + 1)) ≤ ((List.length x5) : Int))) (
  (some (.ret [.d (.str (bR x5 none (some x6))), .d (.str (bR x5 (some (w6 (x6 + 1))) none)), .d (.bool true)] [] []))) none) none := by kernel_rfl
theorem ax2 (x5 : Str) (x6 : Int) : bT SE (adr Γ γ168 γ48 γ167) Λ2 J 166 0 [1, 1, 1, 1, 1, 0, 0] (aW [(5, .d (.str x5)), (6, .d (.int .i64 x6))] [] [] [] []) =
 cond (x6 == (List.length x5 : Int)) (
 (some (.ret [.d (.str []), .d (.str []), .d (.bool false)] [] []))) (
 cond (decide (0 ≤ x6) && decide (x6 ≤ ((List.length x5) : Int))) (
 γ48 [.d (.str (bR x5 none (some x6)))] [] [] fun r1 =>
 cond (!r1) (
  (some (.ret [.d (.str []), .d (.str []), .d (.bool false)] [] []))) (
 cond (decide (0 ≤ (w6 (x6 + 1))) && decide ((w6 (x6 + 1)) ≤ ((List.length x5) : Int))) (
  γ167 [.d (.str (bR x5 (some (w6 (x6 + 1))) none))] [] [] fun r2 =>
  cond (!r2) (
  (some (.ret [.d (.str []), .d (.str []), .d (.bool false)] [] []))) (
  cond (decide (0 ≤ (w6 (x6 + 1))) && decide ((w6 (x6 + 1)) ≤ ((List.length x5) : Int))) (
  γ168 [.d (.str (bR x5 (some (w6 (x6 + 1))) none)), .d (.str ([36, 115, 104, 97, 114, 101, 47] : Str))] [] [] fun r3 =>
  cond r3 (
   (some (.ret [.d (.str []), .d (.str []), .d (.bool false)] [] []))) (
  asJ (adr Γ γ168 γ48 γ167) Λ2 J x5 x6)) none)) none)) none) := by kernel_rfl
theorem ayF (x5 : Str) (x6 : Int) : bT SE (adr Γ γ168 γ48 γ167) Λ2 J 166 0 [1, 1, 1, 1, 0, 0] (aW [(5, .d (.str x5)), (6, .d (.int .i64 x6))] [] [] [] []) =
 cond (decide (x6 < (List.length x5 : Int))) (
 cond (iB x6 (List.length x5 : Int)) (
  cond ((UInt8.toNat (List.getD x5 (Int.toNat x6) 0) : Int) != 47) (
  ao3 (adr Γ γ168 γ48 γ167) Λ2 J x5 (w6 (x6 + 1))) (
  aou (adr Γ γ168 γ48 γ167) Λ2 J x5 x6)) none) (
 aou (adr Γ γ168 γ48 γ167) Λ2 J x5 x6) := by kernel_rfl
end
abbrev ahk : aP := adr gG (cT 168 aE) (cT 48 aE) (cT 167 aE)
theorem anf : ahk = aQ gG := by unfold ahk adr; repeat rw [bC fun _ h => h]
abbrev ayD := asJ ahk (bP SE gG (SE.hl 166) (SE.hr 166)) (J0 SE ahk)
abbrev aAq := aou ahk (bP SE gG (SE.hl 166) (SE.hr 166)) (J0 SE ahk)
abbrev azy := ao3 ahk (bP SE gG (SE.hl 166) (SE.hr 166)) (J0 SE ahk)
theorem ac9 (x5 : Str) (x6 : Int) : Le (Option.map bO (oZ x5 x6)) (ayD x5 x6) := by
 refine Le.trans ?_ (le_of_eq ((aZ anf).trans (axO ..)).symm)
 unfold oZ
 refine lF ?_
 refine lF ?_
 exact aJ rfl
theorem wQ (x5 : Str) (x6 : Int) : Le (Option.map bO (jC x5 x6)) (aAq x5 x6) := by
 refine Le.trans ?_ (le_of_eq ((aZ anf).trans (ax2 ..)).symm)
 unfold jC
 refine lC ?_ ?_
 ·exact aJ rfl
 ·refine lF ?_
  refine lQ eX aK (kI _) fun r1 _ => ?_
  refine lC ?_ ?_
  ·exact aJ rfl
  ·refine lF ?_
   refine lQ eX aK (yW _) fun r2 _ => ?_
   refine lC ?_ ?_
   ·exact aJ rfl
   ·refine lF ?_
    refine lQ eX aK (tN _ _) fun r3 _ => ?_
    refine lC ?_ ?_
    ·exact aJ rfl
    ·exact ac9 x5 x6
theorem adj : ∀ (fu : Nat) (x5 : Str) (x6 : Int), Le (Option.map bO (gR fu x5 x6)) (azy x5 x6) := by
 intro fu
 induction fu with
 | zero => intros; exact le_none
 | succ fu ih =>
  intro x5 x6
  refine Le.trans ?_ (le_of_eq ((aZ anf).trans (ayF ..)).symm)
  unfold gR
  refine lC ?_ ?_
  ·refine lF ?_
   refine lC ?_ ?_
   ·exact ih x5 (w6 (x6 + 1))
   ·exact wQ x5 x6
  ·exact wQ x5 x6
theorem tL (p0 : Str) : Le (Option.map bO (jQ p0)) (bA SE 166 [.d (.str p0)] [] []) := by
 refine aV anf rfl ?_
 refine Le.trans ?_ (le_of_eq (aFE ..).symm)
 unfold jQ
 refine lQ eX aK (tN _ _) fun r0 _ => ?_
 refine lC ?_ ?_
 ·exact aJ rfl
 ·refine lF ?_
  exact adj fuel (bR p0 (some 7) none) 0
section
variable (Γ : Fun) (γ166 : Gm (Str × Str × Bool)) (γ167 γ168 : Gm (Bool)) (Λ2 J : Lam)
def as9 : aP := aY (aY (aY (aQ Γ) 166 bO γ166) 167 aE γ167) 168 aE γ168
theorem aFn (p0 : Str) : bF SE (as9 Γ γ166 γ167 γ168) Λ2 J 133 [.d (.str p0)] [] [] =
 γ166 [.d (.str p0)] [] [] fun r0 =>
 cond r0.2.2 (
 (rB true)) (
 γ167 [.d (.str p0)] [] [] fun r1 =>
 cond r1 (
 γ168 [.d (.str p0), .d (.str ([36, 115, 104, 97, 114, 101, 47] : Str))] [] [] fun r2 =>
 (rB (!r2))) (
 (rB false))) := by kernel_rfl
end
abbrev aw4 : aP := as9 gG (cT 166 bO) (cT 167 aE) (cT 168 aE)
theorem aBH : aw4 = aQ gG := by unfold aw4 as9; repeat rw [bC fun _ h => h]
theorem tI (p0 : Str) : Le (Option.map aE (jL p0)) (bA SE 133 [.d (.str p0)] [] []) := by
 refine aV aBH rfl ?_
 refine Le.trans ?_ (le_of_eq (aFn ..).symm)
 unfold jL
 refine lQ eX iC (tL _) fun r0 _ => ?_
 refine lC ?_ ?_
 ·exact aJ rfl
 ·refine lQ eX aK (yW _) fun r1 _ => ?_
  refine lC ?_ ?_
  ·refine lQ eX aK (tN _ _) fun r2 _ => ?_
   exact aJ rfl
  ·exact aJ rfl
section
variable (Γ : Fun)  (Λ2 J : Lam)
def axB : aP := aQ Γ
theorem aEn (p0 : Int) : bF SE (axB Γ) Λ2 J 134 [.d (.int .i64 p0)] [] [] =
 cond (p0 == 0) (
 (rB true)) (
 cond (p0 == 1) (
 (rB true)) (
 (rB (p0 == 2)))) := by kernel_rfl
end
abbrev aE8 : aP := axB gG
theorem aBV : aE8 = aQ gG := rfl
theorem af3 (p0 : Int) : Le (Option.map aE (pF p0)) (bA SE 134 [.d (.int .i64 p0)] [] []) := by
 refine aV aBV rfl ?_
 refine Le.trans ?_ (le_of_eq (aEn ..).symm)
 unfold pF
 refine lC ?_ ?_
 ·exact aJ rfl
 ·refine lC ?_ ?_
  ·exact aJ rfl
  ·exact aJ rfl
section
variable (Γ : Fun) (γ166 : Gm (Str × Str × Bool)) (Λ2 J : Lam)
def at4 : aP := aY (aQ Γ) 166 bO γ166
theorem aDP (p0 : Str) : bF SE (at4 Γ γ166) Λ2 J 135 [.d (.str p0)] [] [] =
 γ166 [.d (.str p0)] [] [] fun r0 =>
 (rB r0.2.2) := by kernel_rfl
end
abbrev azT : aP := at4 gG (cT 166 bO)
theorem aBu : azT = aQ gG := by unfold azT at4; rw [bC fun _ h => h]
theorem afA (p0 : Str) : Le (Option.map aE (sU p0)) (bA SE 135 [.d (.str p0)] [] []) := by
 refine aV aBu rfl ?_
 refine Le.trans ?_ (le_of_eq (aDP ..).symm)
 unfold sU
 refine lQ eX iC (tL _) fun r0 _ => ?_
 exact aJ rfl
section
variable (Γ : Fun) (γ133 γ134 γ135 : Gm (Bool)) (Λ2 J : Lam)
def C69 : aP := aY (aY (aY (aQ Γ) 133 aE γ133) 134 aE γ134) 135 aE γ135
theorem T69 (p0 : aF) : bF SE (C69 Γ γ133 γ134 γ135) Λ2 J 69 [aF.av p0] [] [] =
 γ133 [.d (.str p0.Filter)] [] [] fun r0 =>
 cond (!r0) (
 (rI 13)) (
 γ134 [.d (.int .i64 p0.Level)] [] [] fun r1 =>
 cond (!r1) (
 (rI 14)) (
 cond p0.NoLocal (
 γ135 [.d (.str p0.Filter)] [] [] fun r2 =>
 cond r2 (
  (rI 28)) (
 (rI 0))) (
 (rI 0)))) := by kernel_rfl
end
abbrev X69 : aP := C69 gG (cT 133 aE) (cT 134 aE) (cT 135 aE)
theorem aDO : X69 = aQ gG := by unfold X69 C69; repeat rw [bC fun _ h => h]
theorem abu (p0 : aF) : Le (Option.map aH (oW p0)) (bA SE 69 [aF.av p0] [] []) := by
 refine aV aDO rfl ?_
 refine Le.trans ?_ (le_of_eq (T69 ..).symm)
 unfold oW
 refine lQ eX aK (tI _) fun r0 _ => ?_
 refine lC ?_ ?_
 ·exact aJ rfl
 ·refine lQ eX aK (af3 _) fun r1 _ => ?_
  refine lC ?_ ?_
  ·exact aJ rfl
  ·refine lC ?_ ?_
   ·refine lQ eX aK (afA _) fun r2 _ => ?_
    refine lC ?_ ?_
    ·exact aJ rfl
    ·exact aJ rfl
   ·exact aJ rfl
def am9 (C : aP) (Λ2 J : Lam) (a0 : List (List D)) (a1 : Int) : Res := lab SE C Λ2 J 42 0 [1, 1, 0, 1, 0] (aW [(0, .d (.sl aF.ks a0)), (3, .d (.int .i64 a1))] [] [] [] [])
section
variable (Γ : Fun) (γ69 : Gm (Int)) (Λ2 J : Lam)
def C42 : aP := aY (aQ Γ) 69 aH γ69
theorem T42 (p0 : List aF) : bF SE (C42 Γ γ69) Λ2 J 42 [.d (.sl aF.ks (List.map aF.enc p0))] [] [] =
 cond (decide ((lM aF.enc p0 : Int) > 32)) (
 (rI 5)) (
 am9 (C42 Γ γ69) Λ2 J (List.map aF.enc p0) 0) := by kernel_rfl
theorem aDj (x0 : List aF) (x3 : Int) : bT SE (C42 Γ γ69) Λ2 J 42 0 [1, 1, 0, 1, 0] (aW [(0, .d (.sl aF.ks (List.map aF.enc x0))), (3, .d (.int .i64 x3))] [] [] [] []) =
 cond (decide (x3 < (lM aF.enc x0 : Int))) (
 cond (iB x3 (lM aF.enc x0 : Int)) (
  γ69 [.agg [.d (.str (bD (cE aF.enc x0 x3 0))), .d (.int .i64 (aR (cE aF.enc x0 x3 1))), .d (.bool (bN (cE aF.enc x0 x3 2)))]] [] [] fun r0 =>
  cond (r0 != 0) (
  (rI r0)) (
  cond (decide (x3 > 0)) (
  cond (iB x3 (lM aF.enc x0 : Int)) (
   cond (iB (w6 (x3 - 1)) (lM aF.enc x0 : Int)) (
   cond (Op.bytesLess (bD (cE aF.enc x0 x3 0)) (bD (cE aF.enc x0 (w6 (x3 - 1)) 0)) || (bD (cE aF.enc x0 x3 0)) == (bD (cE aF.enc x0 (w6 (x3 - 1)) 0))) (
    (rI 22)) (
   am9 (C42 Γ γ69) Λ2 J (List.map aF.enc x0) (w6 (x3 + 1)))) none) none) (
  am9 (C42 Γ γ69) Λ2 J (List.map aF.enc x0) (w6 (x3 + 1))))) none) (
 (rI 0)) := by kernel_rfl
end
abbrev X42 : aP := C42 gG (cT 69 aH)
theorem ayl : X42 = aQ gG := by unfold X42 C42; rw [bC fun _ h => h]
abbrev aCq := am9 X42 (bP SE gG (SE.hl 42) (SE.hr 42)) (J0 SE X42)
theorem aeK : ∀ (fu : Nat) (x0 : List aF) (x3 : Int), Le (Option.map aH (gL fu x0 x3)) (aCq (List.map aF.enc x0) x3) := by
 intro fu
 induction fu with
 | zero => intros; exact le_none
 | succ fu ih =>
  intro x0 x3
  refine Le.trans ?_ (le_of_eq ((aZ ayl).trans (aDj ..)).symm)
  unfold gL
  refine lD (by simp only [EN]) ?_ ?_
  ·refine lG (by simp only [EN]) ?_
   refine lQ eX aS (by (try simp only [EN]); exact abu (List.getD x0 (Int.toNat x3) default)) fun r0 _ => ?_
   refine lC ?_ ?_
   ·exact aJ rfl
   ·refine lC ?_ ?_
    ·refine lG (by simp only [EN]) ?_
     refine lG (by simp only [EN]) ?_
     refine lD (by simp only [EN]) ?_ ?_
     ·exact aJ rfl
     ·exact ih x0 (w6 (x3 + 1))
    ·exact ih x0 (w6 (x3 + 1))
  ·exact aJ rfl
theorem agT (p0 : List aF) : Le (Option.map aH (qU p0)) (bA SE 42 [.d (.sl aF.ks (List.map aF.enc p0))] [] []) := by
 refine aV ayl rfl ?_
 refine Le.trans ?_ (le_of_eq (T42 ..).symm)
 unfold qU
 refine lD (by simp only [EN]) ?_ ?_
 ·exact aJ rfl
 ·exact aeK fuel p0 0
section
variable (Γ : Fun) (γ98 γ99 : Gm (Bool)) (Λ2 J : Lam)
def C47 : aP := aY (aY (aQ Γ) 98 aE γ98) 99 aE γ99
theorem T47 (p0 : Str) : bF SE (C47 Γ γ98 γ99) Λ2 J 47 [.d (.str p0)] [] [] =
 γ98 [.d (.str p0)] [] [] fun r0 =>
 cond r0 (
 γ99 [.d (.str p0), .d (.int .u8 43)] [] [] fun r1 =>
 cond (!r1) (
  γ99 [.d (.str p0), .d (.int .u8 35)] [] [] fun r2 =>
  (rB (!r2))) (
 (rB false))) (
 (rB false)) := by kernel_rfl
end
abbrev X47 : aP := C47 gG (cT 98 aE) (cT 99 aE)
theorem aFm : X47 = aQ gG := by unfold X47 C47; repeat rw [bC fun _ h => h]
theorem afT (p0 : Str) : Le (Option.map aE (pO p0)) (bA SE 47 [.d (.str p0)] [] []) := by
 refine aV aFm rfl ?_
 refine Le.trans ?_ (le_of_eq (T47 ..).symm)
 unfold pO
 refine lQ eX aK (aay _) fun r0 _ => ?_
 refine lC ?_ ?_
 ·refine lQ eX aK (oL _ _) fun r1 _ => ?_
  refine lC ?_ ?_
  ·refine lQ eX aK (oL _ _) fun r2 _ => ?_
   exact aJ rfl
  ·exact aJ rfl
 ·exact aJ rfl
def aad (C : aP) (Λ2 J : Lam) (a0 : Str) (a1 : Int) : Res := lab SE C Λ2 J 102 0 [1, 1, 0, 1, 0] (aW [(0, .d (.str a0)), (3, .d (.int .i64 a1))] [] [] [] [])
def ar7 (C : aP) (Λ2 J : Lam) (a0 : Str) : Res := lab SE C Λ2 J 102 0 [1, 1, 0, 0] (aW [(0, .d (.str a0))] [] [] [] [])
section
variable (Γ : Fun)  (Λ2 J : Lam)
def abf : aP := aQ Γ
theorem aEd (p0 : Str) : bF SE (abf Γ) Λ2 J 102 [.d (.str p0)] [] [] =
 cond (decide ((List.length p0 : Int) < 1)) (
 (rB false)) (
 cond (decide ((List.length p0 : Int) > 16)) (
 (rB false)) (
 ar7 (abf Γ) Λ2 J p0)) := by kernel_rfl
theorem aw2 (x0 : Str) (x3 : Int) : bT SE (abf Γ) Λ2 J 102 0 [1, 1, 0, 1, 0] (aW [(0, .d (.str x0)), (3, .d (.int .i64 x3))] [] [] [] []) =
 cond (decide (x3 < (List.length x0 : Int))) (
 cond (iB x3 (List.length x0 : Int)) (
  cond (decide ((UInt8.toNat (List.getD x0 (Int.toNat x3) 0) : Int) ≥ 97)) (
  cond (!(decide ((UInt8.toNat (List.getD x0 (Int.toNat x3) 0) : Int) ≤ 122))) (
   cond (decide ((UInt8.toNat (List.getD x0 (Int.toNat x3) 0) : Int) ≥ 48)) (
   cond (!(decide ((UInt8.toNat (List.getD x0 (Int.toNat x3) 0) : Int) ≤ 57))) (
    cond ((UInt8.toNat (List.getD x0 (Int.toNat x3) 0) : Int) != 45) (
    (rB false)) (
    aad (abf Γ) Λ2 J x0 (w6 (x3 + 1)))) (
   aad (abf Γ) Λ2 J x0 (w6 (x3 + 1)))) (
   cond ((UInt8.toNat (List.getD x0 (Int.toNat x3) 0) : Int) != 45) (
   (rB false)) (
   aad (abf Γ) Λ2 J x0 (w6 (x3 + 1))))) (
  aad (abf Γ) Λ2 J x0 (w6 (x3 + 1)))) (
  cond (decide ((UInt8.toNat (List.getD x0 (Int.toNat x3) 0) : Int) ≥ 48)) (
  cond (!(decide ((UInt8.toNat (List.getD x0 (Int.toNat x3) 0) : Int) ≤ 57))) (
   cond ((UInt8.toNat (List.getD x0 (Int.toNat x3) 0) : Int) != 45) (
   (rB false)) (
   aad (abf Γ) Λ2 J x0 (w6 (x3 + 1)))) (
  aad (abf Γ) Λ2 J x0 (w6 (x3 + 1)))) (
  cond ((UInt8.toNat (List.getD x0 (Int.toNat x3) 0) : Int) != 45) (
  (rB false)) (
  aad (abf Γ) Λ2 J x0 (w6 (x3 + 1)))))) none) (
 (rB true)) := by kernel_rfl
theorem axU (x0 : Str) : bT SE (abf Γ) Λ2 J 102 0 [1, 1, 0, 0] (aW [(0, .d (.str x0))] [] [] [] []) =
 aad (abf Γ) Λ2 J x0 0 := by kernel_rfl
end
abbrev aoo : aP := abf gG
theorem aqH : aoo = aQ gG := rfl
abbrev aAw := aad aoo (bP SE gG (SE.hl 102) (SE.hr 102)) (J0 SE aoo)
abbrev ayV := ar7 aoo (bP SE gG (SE.hl 102) (SE.hr 102)) (J0 SE aoo)
theorem afj : ∀ (fu : Nat) (x0 : Str) (x3 : Int), Le (Option.map aE (dF fu x0 x3)) (aAw x0 x3) := by
 intro fu
 induction fu with
 | zero => intros; exact le_none
 | succ fu ih =>
  intro x0 x3
  refine Le.trans ?_ (le_of_eq ((aZ aqH).trans (aw2 ..)).symm)
  unfold dF
  refine lC ?_ ?_
  ·refine lF ?_
   refine lC ?_ ?_
   ·refine lC ?_ ?_
    ·refine lC ?_ ?_
     ·refine lC ?_ ?_
      ·refine lC ?_ ?_
       ·exact aJ rfl
       ·exact ih x0 (w6 (x3 + 1))
      ·exact ih x0 (w6 (x3 + 1))
     ·refine lC ?_ ?_
      ·exact aJ rfl
      ·exact ih x0 (w6 (x3 + 1))
    ·exact ih x0 (w6 (x3 + 1))
   ·refine lC ?_ ?_
    ·refine lC ?_ ?_
     ·refine lC ?_ ?_
      ·exact aJ rfl
      ·exact ih x0 (w6 (x3 + 1))
     ·exact ih x0 (w6 (x3 + 1))
    ·refine lC ?_ ?_
     ·exact aJ rfl
     ·exact ih x0 (w6 (x3 + 1))
  ·exact aJ rfl
theorem afa (x0 : Str) : Le (Option.map aE (sK x0)) (ayV x0) := by
 refine Le.trans ?_ (le_of_eq ((aZ aqH).trans (axU ..)).symm)
 unfold sK
 exact afj fuel x0 0
theorem ahr (p0 : Str) : Le (Option.map aE (sV p0)) (bA SE 102 [.d (.str p0)] [] []) := by
 refine aV aqH rfl ?_
 refine Le.trans ?_ (le_of_eq (aEd ..).symm)
 unfold sV
 refine lC ?_ ?_
 ·exact aJ rfl
 ·refine lC ?_ ?_
  ·exact aJ rfl
  ·exact afa p0
def am2 (C : aP) (Λ2 J : Lam) (a0 : List (List D)) (a1 : Int) : Res := lab SE C Λ2 J 49 0 [1, 1, 0, 1, 0] (aW [(0, .d (.sl aG.ks a0)), (3, .d (.int .i64 a1))] [] [] [] [])
section
variable (Γ : Fun) (γ102 : Gm (Bool)) (Λ2 J : Lam)
def C49 : aP := aY (aQ Γ) 102 aE γ102
theorem T49 (p0 : List aG) : bF SE (C49 Γ γ102) Λ2 J 49 [.d (.sl aG.ks (List.map aG.enc p0))] [] [] =
 cond (decide ((lM aG.enc p0 : Int) > 8)) (
 (rI 5)) (
 am2 (C49 Γ γ102) Λ2 J (List.map aG.enc p0) 0) := by kernel_rfl
theorem aDc (x0 : List aG) (x3 : Int) : bT SE (C49 Γ γ102) Λ2 J 49 0 [1, 1, 0, 1, 0] (aW [(0, .d (.sl aG.ks (List.map aG.enc x0))), (3, .d (.int .i64 x3))] [] [] [] []) =
 cond (decide (x3 < (lM aG.enc x0 : Int))) (
 cond (iB x3 (lM aG.enc x0 : Int)) (
  γ102 [.d (.str (bD (cE aG.enc x0 x3 0)))] [] [] fun r0 =>
  cond (!r0) (
  (rI 16)) (
  cond (iB x3 (lM aG.enc x0 : Int)) (
  cond (decide ((List.length (bD (cE aG.enc x0 x3 1)) : Int) > 160)) (
   (rI 5)) (
  cond (decide (x3 > 0)) (
   cond (iB x3 (lM aG.enc x0 : Int)) (
   cond (iB (w6 (x3 - 1)) (lM aG.enc x0 : Int)) (
    cond (Op.bytesLess (bD (cE aG.enc x0 x3 0)) (bD (cE aG.enc x0 (w6 (x3 - 1)) 0)) || (bD (cE aG.enc x0 x3 0)) == (bD (cE aG.enc x0 (w6 (x3 - 1)) 0))) (
    (rI 16)) (
    am2 (C49 Γ γ102) Λ2 J (List.map aG.enc x0) (w6 (x3 + 1)))) none) none) (
  am2 (C49 Γ γ102) Λ2 J (List.map aG.enc x0) (w6 (x3 + 1))))) none)) none) (
 (rI 0)) := by kernel_rfl
end
abbrev X49 : aP := C49 gG (cT 102 aE)
theorem aye : X49 = aQ gG := by unfold X49 C49; rw [bC fun _ h => h]
abbrev aCP := am2 X49 (bP SE gG (SE.hl 49) (SE.hr 49)) (J0 SE X49)
theorem adA : ∀ (fu : Nat) (x0 : List aG) (x3 : Int), Le (Option.map aH (fZ fu x0 x3)) (aCP (List.map aG.enc x0) x3) := by
 intro fu
 induction fu with
 | zero => intros; exact le_none
 | succ fu ih =>
  intro x0 x3
  refine Le.trans ?_ (le_of_eq ((aZ aye).trans (aDc ..)).symm)
  unfold fZ
  refine lD (by simp only [EN]) ?_ ?_
  ·refine lG (by simp only [EN]) ?_
   refine lQ eX aK (by (try simp only [EN]); exact ahr ((List.getD x0 (Int.toNat x3) default).Key)) fun r0 _ => ?_
   refine lC ?_ ?_
   ·exact aJ rfl
   ·refine lG (by simp only [EN]) ?_
    refine lD (by simp only [EN]) ?_ ?_
    ·exact aJ rfl
    ·refine lC ?_ ?_
     ·refine lG (by simp only [EN]) ?_
      refine lG (by simp only [EN]) ?_
      refine lD (by simp only [EN]) ?_ ?_
      ·exact aJ rfl
      ·exact ih x0 (w6 (x3 + 1))
     ·exact ih x0 (w6 (x3 + 1))
  ·exact aJ rfl
theorem agz (p0 : List aG) : Le (Option.map aH (pP p0)) (bA SE 49 [.d (.sl aG.ks (List.map aG.enc p0))] [] []) := by
 refine aV aye rfl ?_
 refine Le.trans ?_ (le_of_eq (T49 ..).symm)
 unfold pP
 refine lD (by simp only [EN]) ?_ ?_
 ·exact aJ rfl
 ·exact adA fuel p0 0
def aph (C : aP) (Λ2 J : Lam) (a0 : List D) : Res := lab SE C Λ2 J 13 0 [1, 1, 1, 1, 1, 1, 0, 0] (aW [(1, .ptr 1000000000 0)] [⟨34, (List.map AV.d a0)⟩] [] [] [])
def avh (C : aP) (Λ2 J : Lam) (a0 : List D) : Res := lab SE C Λ2 J 13 0 [1, 1, 1, 1, 1, 0, 0] (aW [(1, .ptr 1000000000 0)] [⟨34, (List.map AV.d a0)⟩] [] [] [])
def avl (C : aP) (Λ2 J : Lam) (a0 : List D) : Res := lab SE C Λ2 J 13 0 [1, 1, 1, 1, 0, 0] (aW [(1, .ptr 1000000000 0)] [⟨34, (List.map AV.d a0)⟩] [] [] [])
section
variable (Γ : Fun) (γ47 γ48 : Gm (Bool)) (γ49 : Gm (Int)) (Λ2 J : Lam)
def C13 : aP := aY (aY (aY (aQ Γ) 47 aE γ47) 48 aE γ48) 49 aH γ49
theorem T13 (p0 : aA) : bF SE (C13 Γ γ47 γ48 γ49) Λ2 J 13 [aA.av p0] [] [] =
 γ47 [.d (.str p0.Topic)] [] [] fun r0 =>
 cond (!r0) (
 (rI 12)) (
 cond (decide ((List.length p0.Payload : Int) > 256)) (
 (rI 5)) (
 cond (decide (p0.Level < 0)) (
 (rI 14)) (
 cond (decide (p0.Level > 2)) (
 (rI 14)) (
 avl (C13 Γ γ47 γ48 γ49) Λ2 J (aA.enc p0))))) := by kernel_rfl
theorem ax5 (b0 : aA) : bT SE (C13 Γ γ47 γ48 γ49) Λ2 J 13 0 [1, 1, 1, 1, 1, 1, 0, 0] (aW [(1, .ptr 1000000000 0)] [⟨34, (List.map AV.d (aA.enc b0))⟩] [] [] []) =
 cond (decide (b0.Seq < 0)) (
 (rI 1)) (
 cond (decide (b0.Seq > 1099511627776)) (
 (rI 1)) (
 γ49 [.d (.sl aG.ks (List.map aG.enc b0.Props))] [] [] fun r2 =>
 (rI r2))) := by kernel_rfl
theorem aCZ (b0 : aA) : bT SE (C13 Γ γ47 γ48 γ49) Λ2 J 13 0 [1, 1, 1, 1, 1, 0, 0] (aW [(1, .ptr 1000000000 0)] [⟨34, (List.map AV.d (aA.enc b0))⟩] [] [] []) =
 cond (!(b0.From == ([] : Str))) (
 γ48 [.d (.str b0.From)] [] [] fun r1 =>
 cond (!r1) (
  (rI 11)) (
 aph (C13 Γ γ47 γ48 γ49) Λ2 J (aA.enc b0))) (
 aph (C13 Γ γ47 γ48 γ49) Λ2 J (aA.enc b0)) := by kernel_rfl
theorem aBS (b0 : aA) : bT SE (C13 Γ γ47 γ48 γ49) Λ2 J 13 0 [1, 1, 1, 1, 0, 0] (aW [(1, .ptr 1000000000 0)] [⟨34, (List.map AV.d (aA.enc b0))⟩] [] [] []) =
 cond (decide (b0.Priority < 0)) (
 (rI 1)) (
 cond (decide (b0.Priority > 9)) (
 (rI 1)) (
 cond (decide (b0.Expires < 0)) (
 (rI 1)) (
 cond (decide (b0.Expires > 1099511627776)) (
 (rI 1)) (
 avh (C13 Γ γ47 γ48 γ49) Λ2 J (aA.enc b0))))) := by kernel_rfl
end
abbrev X13 : aP := C13 gG (cT 47 aE) (cT 48 aE) (cT 49 aH)
theorem aqO : X13 = aQ gG := by unfold X13 C13; repeat rw [bC fun _ h => h]
abbrev awC := aph X13 (bP SE gG (SE.hl 13) (SE.hr 13)) (J0 SE X13)
abbrev aBJ := avh X13 (bP SE gG (SE.hl 13) (SE.hr 13)) (J0 SE X13)
abbrev aDe := avl X13 (bP SE gG (SE.hl 13) (SE.hr 13)) (J0 SE X13)
theorem v8 (b0 : aA) : Le (Option.map aH (lK b0)) (awC (aA.enc b0)) := by
 refine Le.trans ?_ (le_of_eq ((aZ aqO).trans (ax5 ..)).symm)
 unfold lK
 refine lC ?_ ?_
 ·exact aJ rfl
 ·refine lC ?_ ?_
  ·exact aJ rfl
  ·refine lQ eX aS (agz _) fun r2 _ => ?_
   exact aJ rfl
theorem adB (b0 : aA) : Le (Option.map aH (pX b0)) (aBJ (aA.enc b0)) := by
 refine Le.trans ?_ (le_of_eq ((aZ aqO).trans (aCZ ..)).symm)
 unfold pX
 refine lC ?_ ?_
 ·refine lQ eX aK (kI _) fun r1 _ => ?_
  refine lC ?_ ?_
  ·exact aJ rfl
  ·exact v8 b0
 ·exact v8 b0
theorem ady (b0 : aA) : Le (Option.map aH (pZ b0)) (aDe (aA.enc b0)) := by
 refine Le.trans ?_ (le_of_eq ((aZ aqO).trans (aBS ..)).symm)
 unfold pZ
 refine lC ?_ ?_
 ·exact aJ rfl
 ·refine lC ?_ ?_
  ·exact aJ rfl
  ·refine lC ?_ ?_
   ·exact aJ rfl
   ·refine lC ?_ ?_
    ·exact aJ rfl
    ·exact adB b0
theorem gZ (p0 : aA) : Le (Option.map aH (eN p0)) (bA SE 13 [aA.av p0] [] []) := by
 refine aV aqO rfl ?_
 refine Le.trans ?_ (le_of_eq (T13 ..).symm)
 unfold eN
 refine lQ eX aK (afT _) fun r0 _ => ?_
 refine lC ?_ ?_
 ·exact aJ rfl
 ·refine lC ?_ ?_
  ·exact aJ rfl
  ·refine lC ?_ ?_
   ·exact aJ rfl
   ·refine lC ?_ ?_
    ·exact aJ rfl
    ·exact ady p0
def aqC (C : aP) (Λ2 J : Lam) (a0 : List (List D)) (a1 : Int) : Res := lab SE C Λ2 J 43 0 [1, 1, 0, 1, 0] (aW [(0, .d (.sl aA.ks a0)), (3, .d (.int .i64 a1))] [] [] [] [])
section
variable (Γ : Fun) (γ13 : Gm (Int)) (Λ2 J : Lam)
def C43 : aP := aY (aQ Γ) 13 aH γ13
theorem T43 (p0 : List aA) : bF SE (C43 Γ γ13) Λ2 J 43 [.d (.sl aA.ks (List.map aA.enc p0))] [] [] =
 cond (decide ((lM aA.enc p0 : Int) > 256)) (
 (rI 5)) (
 aqC (C43 Γ γ13) Λ2 J (List.map aA.enc p0) 0) := by kernel_rfl
theorem aDn (x0 : List aA) (x3 : Int) : bT SE (C43 Γ γ13) Λ2 J 43 0 [1, 1, 0, 1, 0] (aW [(0, .d (.sl aA.ks (List.map aA.enc x0))), (3, .d (.int .i64 x3))] [] [] [] []) =
 cond (decide (x3 < (lM aA.enc x0 : Int))) (
 cond (iB x3 (lM aA.enc x0 : Int)) (
  γ13 [.agg [.d (.str (bD (cE aA.enc x0 x3 0))), .d (.str (bD (cE aA.enc x0 x3 1))), .d (.int .i64 (aR (cE aA.enc x0 x3 2))), .d (.bool (bN (cE aA.enc x0 x3 3))), .d (.int .i64 (aR (cE aA.enc x0 x3 4))), .d (.int .i64 (aR (cE aA.enc x0 x3 5))), .d (.str (bD (cE aA.enc x0 x3 6))), .d (.int .i64 (aR (cE aA.enc x0 x3 7))), .d (.sl aG.ks (dSl (cE aA.enc x0 x3 8)))]] [] [] fun r0 =>
  cond (r0 != 0) (
  (rI r0)) (
  aqC (C43 Γ γ13) Λ2 J (List.map aA.enc x0) (w6 (x3 + 1)))) none) (
 (rI 0)) := by kernel_rfl
end
abbrev X43 : aP := C43 gG (cT 13 aH)
theorem aAs : X43 = aQ gG := by unfold X43 C43; rw [bC fun _ h => h]
abbrev aCO := aqC X43 (bP SE gG (SE.hl 43) (SE.hr 43)) (J0 SE X43)
theorem adH : ∀ (fu : Nat) (x0 : List aA) (x3 : Int), Le (Option.map aH (hH fu x0 x3)) (aCO (List.map aA.enc x0) x3) := by
 intro fu
 induction fu with
 | zero => intros; exact le_none
 | succ fu ih =>
  intro x0 x3
  refine Le.trans ?_ (le_of_eq ((aZ aAs).trans (aDn ..)).symm)
  unfold hH
  refine lD (by simp only [EN]) ?_ ?_
  ·refine lG (by simp only [EN]) ?_
   refine lQ eX aS (by (try simp only [EN]); exact gZ (List.getD x0 (Int.toNat x3) default)) fun r0 _ => ?_
   refine lC ?_ ?_
   ·exact aJ rfl
   ·exact ih x0 (w6 (x3 + 1))
  ·exact aJ rfl
theorem agc (p0 : List aA) : Le (Option.map aH (pS p0)) (bA SE 43 [.d (.sl aA.ks (List.map aA.enc p0))] [] []) := by
 refine aV aAs rfl ?_
 refine Le.trans ?_ (le_of_eq (T43 ..).symm)
 unfold pS
 refine lD (by simp only [EN]) ?_ ?_
 ·exact aJ rfl
 ·exact adH fuel p0 0
def anh (C : aP) (Λ2 J : Lam) (a0 : Int) (a1 : List D) : Res := lab SE C Λ2 J 95 0 [1, 1, 0, 1, 0] (aW [(1, .ptr 1000000000 0), (3, .d (.int .i64 a0))] [⟨27, (List.map AV.d a1)⟩] [] [] [])
section
variable (Γ : Fun)  (Λ2 J : Lam)
def C95 : aP := aQ Γ
theorem T95 (p0 : aO) : bF SE (C95 Γ) Λ2 J 95 [aO.av p0] [] [] =
 cond (decide ((lM eI p0.Used : Int) > 32)) (
 (rI 5)) (
 anh (C95 Γ) Λ2 J 0 (aO.enc p0)) := by kernel_rfl
theorem aAU (x3 : Int) (b0 : aO) : bT SE (C95 Γ) Λ2 J 95 0 [1, 1, 0, 1, 0] (aW [(1, .ptr 1000000000 0), (3, .d (.int .i64 x3))] [⟨27, (List.map AV.d (aO.enc b0))⟩] [] [] []) =
 cond (decide (x3 < (lM eI b0.Used : Int))) (
 cond (iB x3 (lM eI b0.Used : Int)) (
  cond (decide ((aR (cE eI b0.Used x3 0)) < 1)) (
  (rI 15)) (
  cond (iB x3 (lM eI b0.Used : Int)) (
  cond (decide ((aR (cE eI b0.Used x3 0)) > 65535)) (
   (rI 15)) (
  cond (decide (x3 > 0)) (
   cond (iB x3 (lM eI b0.Used : Int)) (
   cond (iB (w6 (x3 - 1)) (lM eI b0.Used : Int)) (
    cond (decide ((aR (cE eI b0.Used x3 0)) ≤ (aR (cE eI b0.Used (w6 (x3 - 1)) 0)))) (
    (rI 15)) (
    anh (C95 Γ) Λ2 J (w6 (x3 + 1)) (aO.enc b0))) none) none) (
  anh (C95 Γ) Λ2 J (w6 (x3 + 1)) (aO.enc b0)))) none)) none) (
 cond (decide (b0.Last < 0)) (
 (rI 1)) (
 cond (decide (b0.Last > 65535)) (
 (rI 1)) (
 (rI 0)))) := by kernel_rfl
end
abbrev X95 : aP := C95 gG
theorem aAl : X95 = aQ gG := rfl
abbrev aBp := anh X95 (bP SE gG (SE.hl 95) (SE.hr 95)) (J0 SE X95)
theorem adx : ∀ (fu : Nat) (x3 : Int) (b0 : aO), Le (Option.map aH (dO fu x3 b0)) (aBp x3 (aO.enc b0)) := by
 intro fu
 induction fu with
 | zero => intros; exact le_none
 | succ fu ih =>
  intro x3 b0
  refine Le.trans ?_ (le_of_eq ((aZ aAl).trans (aAU ..)).symm)
  unfold dO
  refine lD (by simp only [EN]) ?_ ?_
  ·refine lG (by simp only [EN]) ?_
   refine lD (by simp only [EN]) ?_ ?_
   ·exact aJ rfl
   ·refine lG (by simp only [EN]) ?_
    refine lD (by simp only [EN]) ?_ ?_
    ·exact aJ rfl
    ·refine lC ?_ ?_
     ·refine lG (by simp only [EN]) ?_
      refine lG (by simp only [EN]) ?_
      refine lD (by simp only [EN]) ?_ ?_
      ·exact aJ rfl
      ·exact ih (w6 (x3 + 1)) b0
     ·exact ih (w6 (x3 + 1)) b0
  ·refine lC ?_ ?_
   ·exact aJ rfl
   ·refine lC ?_ ?_
    ·exact aJ rfl
    ·exact aJ rfl
theorem zZ (p0 : aO) : Le (Option.map aH (iG p0)) (bA SE 95 [aO.av p0] [] []) := by
 refine aV aAl rfl ?_
 refine Le.trans ?_ (le_of_eq (T95 ..).symm)
 unfold iG
 refine lD (by simp only [EN]) ?_ ?_
 ·exact aJ rfl
 ·exact adx fuel 0 p0
def an1 (C : aP) (Λ2 J : Lam) (a0 a1 : Int) (a2 : List D) : Res := lab SE C Λ2 J 148 0 [1, 0, 1, 0] (aW [(1, .d (.int .i64 a0)), (2, .ptr 1000000000 0), (5, .d (.int .i64 a1))] [⟨27, (List.map AV.d a2)⟩] [] [] [])
section
variable (Γ : Fun)  (Λ2 J : Lam)
def anL : aP := aQ Γ
theorem aD0 (p0 : aO) (p1 : Int) : bF SE (anL Γ) Λ2 J 148 [aO.av p0, .d (.int .i64 p1)] [] [] =
 an1 (anL Γ) Λ2 J p1 0 (aO.enc p0) := by kernel_rfl
theorem ayv (x1 x5 : Int) (b0 : aO) : bT SE (anL Γ) Λ2 J 148 0 [1, 0, 1, 0] (aW [(1, .d (.int .i64 x1)), (2, .ptr 1000000000 0), (5, .d (.int .i64 x5))] [⟨27, (List.map AV.d (aO.enc b0))⟩] [] [] []) =
 cond (decide (x5 < (lM eI b0.Used : Int))) (
 cond (iB x5 (lM eI b0.Used : Int)) (
  cond ((aR (cE eI b0.Used x5 0)) == x1) (
  (rB true)) (
  an1 (anL Γ) Λ2 J x1 (w6 (x5 + 1)) (aO.enc b0))) none) (
 (rB false)) := by kernel_rfl
end
abbrev at0 : aP := anL gG
theorem avI : at0 = aQ gG := rfl
abbrev ax7 := an1 at0 (bP SE gG (SE.hl 148) (SE.hr 148)) (J0 SE at0)
theorem afq : ∀ (fu : Nat) (x1 x5 : Int) (b0 : aO), Le (Option.map aE (jJ fu x1 x5 b0)) (ax7 x1 x5 (aO.enc b0)) := by
 intro fu
 induction fu with
 | zero => intros; exact le_none
 | succ fu ih =>
  intro x1 x5 b0
  refine Le.trans ?_ (le_of_eq ((aZ avI).trans (ayv ..)).symm)
  unfold jJ
  refine lD (by simp only [EN]) ?_ ?_
  ·refine lG (by simp only [EN]) ?_
   refine lD (by simp only [EN]) ?_ ?_
   ·exact aJ rfl
   ·exact ih x1 (w6 (x5 + 1)) b0
  ·exact aJ rfl
theorem abN (p0 : aO) (p1 : Int) : Le (Option.map aE (aHg p0 p1)) (bA SE 148 [aO.av p0, .d (.int .i64 p1)] [] []) := by
 refine aV avI rfl ?_
 refine Le.trans ?_ (le_of_eq (aD0 ..).symm)
 unfold aHg
 exact afq fuel p1 0 p0
def aoc (C : aP) (Λ2 J : Lam) (a0 : List (List D)) (a1 a2 : Int) : Res := lab SE C Λ2 J 115 0 [1, 0, 1, 0] (aW [(0, .d (.sl aD.ks a0)), (1, .d (.int .i64 a1)), (5, .d (.int .i64 a2))] [] [] [] [])
section
variable (Γ : Fun)  (Λ2 J : Lam)
def anD : aP := aQ Γ
theorem aEl (p0 : List aD) (p1 : Int) : bF SE (anD Γ) Λ2 J 115 [.d (.sl aD.ks (List.map aD.enc p0)), .d (.int .i64 p1)] [] [] =
 aoc (anD Γ) Λ2 J (List.map aD.enc p0) p1 0 := by kernel_rfl
theorem axu (x0 : List aD) (x1 x5 : Int) : bT SE (anD Γ) Λ2 J 115 0 [1, 0, 1, 0] (aW [(0, .d (.sl aD.ks (List.map aD.enc x0))), (1, .d (.int .i64 x1)), (5, .d (.int .i64 x5))] [] [] [] []) =
 cond (decide (x5 < (lM aD.enc x0 : Int))) (
 cond (iB x5 (lM aD.enc x0 : Int)) (
  cond ((aR (cE aD.enc x0 x5 0)) == x1) (
  (rI x5)) (
  aoc (anD Γ) Λ2 J (List.map aD.enc x0) x1 (w6 (x5 + 1)))) none) (
 (rI (-1))) := by kernel_rfl
end
abbrev ata : aP := anD gG
theorem avn : ata = aQ gG := rfl
abbrev aAf := aoc ata (bP SE gG (SE.hl 115) (SE.hr 115)) (J0 SE ata)
theorem age : ∀ (fu : Nat) (x0 : List aD) (x1 x5 : Int), Le (Option.map aH (jY fu x0 x1 x5)) (aAf (List.map aD.enc x0) x1 x5) := by
 intro fu
 induction fu with
 | zero => intros; exact le_none
 | succ fu ih =>
  intro x0 x1 x5
  refine Le.trans ?_ (le_of_eq ((aZ avn).trans (axu ..)).symm)
  unfold jY
  refine lD (by simp only [EN]) ?_ ?_
  ·refine lG (by simp only [EN]) ?_
   refine lD (by simp only [EN]) ?_ ?_
   ·exact aJ rfl
   ·exact ih x0 x1 (w6 (x5 + 1))
  ·exact aJ rfl
theorem ab6 (p0 : List aD) (p1 : Int) : Le (Option.map aH (qI p0 p1)) (bA SE 115 [.d (.sl aD.ks (List.map aD.enc p0)), .d (.int .i64 p1)] [] []) := by
 refine aV avn rfl ?_
 refine Le.trans ?_ (le_of_eq (aEl ..).symm)
 unfold qI
 exact age fuel p0 p1 0
def au6 (C : aP) (Λ2 J : Lam) (a0 : List D) : Res := lab SE C Λ2 J 96 0 [1, 1, 1, 0] (aW [(5, .ptr 1000000000 0)] [⟨122, (List.map AV.d a0)⟩] [] [] [])
section
variable (Γ : Fun) (γ148 : Gm (Bool)) (γ115 γ13 : Gm (Int)) (Λ2 J : Lam)
def C96 : aP := aY (aY (aY (aQ Γ) 148 aE γ148) 115 aH γ115) 13 aH γ13
theorem T96 (p0 : aI) (p1 : Int) : bF SE (C96 Γ γ148 γ115 γ13) Λ2 J 96 [aI.av p0, .d (.int .i64 p1)] [] [] =
 cond (iB p1 (lM aD.enc p0.Items : Int)) (
 γ148 [aO.av p0.Pool, .d (.int .i64 (aR (cE aD.enc p0.Items p1 0)))] [] [] fun r0 =>
 cond (!r0) (
  (rI 15)) (
 γ115 [.d (.sl aD.ks (List.map aD.enc p0.Items)), .d (.int .i64 (aR (cE aD.enc p0.Items p1 0)))] [] [] fun r1 =>
 cond (decide (r1 < p1)) (
  (rI 15)) (
 au6 (C96 Γ γ148 γ115 γ13) Λ2 J [D.int .i64 (aR (cE aD.enc p0.Items p1 0)), D.int .i64 (aR (cE aD.enc p0.Items p1 1)), D.str (bD (cE aD.enc p0.Items p1 2)), D.str (bD (cE aD.enc p0.Items p1 3)), D.int .i64 (aR (cE aD.enc p0.Items p1 4)), D.bool (bN (cE aD.enc p0.Items p1 5)), D.int .i64 (aR (cE aD.enc p0.Items p1 6)), D.int .i64 (aR (cE aD.enc p0.Items p1 7)), D.str (bD (cE aD.enc p0.Items p1 8)), D.int .i64 (aR (cE aD.enc p0.Items p1 9)), D.sl aG.ks (dSl (cE aD.enc p0.Items p1 10))]))) none := by kernel_rfl
theorem aBC (b0 : aD) : bT SE (C96 Γ γ148 γ115 γ13) Λ2 J 96 0 [1, 1, 1, 0] (aW [(5, .ptr 1000000000 0)] [⟨122, (List.map AV.d (aD.enc b0))⟩] [] [] []) =
 γ13 [aA.av b0.Message] [] [] fun r2 =>
 cond (r2 != 0) (
 (rI r2)) (
 cond (b0.Message.Level == 0) (
 (rI 14)) (
 cond (b0.State != 1) (
 cond (b0.State != 2) (
  (rI 9)) (
 cond (b0.Message.Level == 1) (
  (rI 9)) (
 (rI 0)))) (
 (rI 0)))) := by kernel_rfl
end
abbrev X96 : aP := C96 gG (cT 148 aE) (cT 115 aH) (cT 13 aH)
theorem ay4 : X96 = aQ gG := by unfold X96 C96; repeat rw [bC fun _ h => h]
abbrev aBL := au6 X96 (bP SE gG (SE.hl 96) (SE.hr 96)) (J0 SE X96)
theorem aeq (b0 : aD) : Le (Option.map aH (rO b0)) (aBL (aD.enc b0)) := by
 refine Le.trans ?_ (le_of_eq ((aZ ay4).trans (aBC ..)).symm)
 unfold rO
 refine lQ eX aS (gZ _) fun r2 _ => ?_
 refine lC ?_ ?_
 ·exact aJ rfl
 ·refine lC ?_ ?_
  ·exact aJ rfl
  ·refine lC ?_ ?_
   ·refine lC ?_ ?_
    ·exact aJ rfl
    ·refine lC ?_ ?_
     ·exact aJ rfl
     ·exact aJ rfl
   ·exact aJ rfl
theorem agX (p0 : aI) (p1 : Int) : Le (Option.map aH (rC p0 p1)) (bA SE 96 [aI.av p0, .d (.int .i64 p1)] [] []) := by
 refine aV ay4 rfl ?_
 refine Le.trans ?_ (le_of_eq (T96 ..).symm)
 unfold rC
 refine lG (by simp only [EN]) ?_
 refine lQ eX aK (by (try simp only [EN]); exact abN p0.Pool ((List.getD p0.Items (Int.toNat p1) default).ID)) fun r0 _ => ?_
 refine lC ?_ ?_
 ·exact aJ rfl
 ·refine lQ eX aS (by (try simp only [EN]); exact ab6 p0.Items ((List.getD p0.Items (Int.toNat p1) default).ID)) fun r1 _ => ?_
  refine lC ?_ ?_
  ·exact aJ rfl
  ·(try simp only [EN]); exact aeq (List.getD p0.Items (Int.toNat p1) default)
def aq1 (C : aP) (Λ2 J : Lam) (a0 : Int) (a1 : List D) : Res := lab SE C Λ2 J 44 0 [1, 1, 1, 1, 1, 0, 1, 0] (aW [(1, .ptr 1000000000 0), (4, .d (.int .i64 a0))] [⟨29, (List.map AV.d a1)⟩] [] [] [])
def avv (C : aP) (Λ2 J : Lam) (a0 : List D) : Res := lab SE C Λ2 J 44 0 [1, 1, 0] (aW [(1, .ptr 1000000000 0)] [⟨29, (List.map AV.d a0)⟩] [] [] [])
section
variable (Γ : Fun) (γ95 γ96 : Gm (Int)) (Λ2 J : Lam)
def C44 : aP := aY (aY (aQ Γ) 95 aH γ95) 96 aH γ96
theorem T44 (p0 : aI) : bF SE (C44 Γ γ95 γ96) Λ2 J 44 [aI.av p0] [] [] =
 cond (decide (p0.Limit < 0)) (
 (rI 1)) (
 cond (decide (p0.Limit > 32)) (
 (rI 1)) (
 avv (C44 Γ γ95 γ96) Λ2 J (aI.enc p0))) := by kernel_rfl
theorem aB1 (x4 : Int) (b0 : aI) : bT SE (C44 Γ γ95 γ96) Λ2 J 44 0 [1, 1, 1, 1, 1, 0, 1, 0] (aW [(1, .ptr 1000000000 0), (4, .d (.int .i64 x4))] [⟨29, (List.map AV.d (aI.enc b0))⟩] [] [] []) =
 cond (decide (x4 < (lM aD.enc b0.Items : Int))) (
 γ96 [aI.av b0, .d (.int .i64 x4)] [] [] fun r1 =>
 cond (r1 != 0) (
  (rI r1)) (
 aq1 (C44 Γ γ95 γ96) Λ2 J (w6 (x4 + 1)) (aI.enc b0))) (
 cond (decide ((lM aD.enc b0.Items : Int) < (lM eI b0.Pool.Used : Int))) (
 (rI 15)) (
 (rI 0))) := by kernel_rfl
theorem aCp (b0 : aI) : bT SE (C44 Γ γ95 γ96) Λ2 J 44 0 [1, 1, 0] (aW [(1, .ptr 1000000000 0)] [⟨29, (List.map AV.d (aI.enc b0))⟩] [] [] []) =
 γ95 [aO.av b0.Pool] [] [] fun r0 =>
 cond (r0 != 0) (
 (rI r0)) (
 cond (decide ((lM aD.enc b0.Items : Int) > 32)) (
 (rI 5)) (
 aq1 (C44 Γ γ95 γ96) Λ2 J 0 (aI.enc b0))) := by kernel_rfl
end
abbrev X44 : aP := C44 gG (cT 95 aH) (cT 96 aH)
theorem atb : X44 = aQ gG := by unfold X44 C44; repeat rw [bC fun _ h => h]
abbrev aCe := aq1 X44 (bP SE gG (SE.hl 44) (SE.hr 44)) (J0 SE X44)
abbrev aBW := avv X44 (bP SE gG (SE.hl 44) (SE.hr 44)) (J0 SE X44)
theorem adI : ∀ (fu : Nat) (x4 : Int) (b0 : aI), Le (Option.map aH (hJ fu x4 b0)) (aCe x4 (aI.enc b0)) := by
 intro fu
 induction fu with
 | zero => intros; exact le_none
 | succ fu ih =>
  intro x4 b0
  refine Le.trans ?_ (le_of_eq ((aZ atb).trans (aB1 ..)).symm)
  unfold hJ
  refine lD (by simp only [EN]) ?_ ?_
  ·refine lQ eX aS (agX _ _) fun r1 _ => ?_
   refine lC ?_ ?_
   ·exact aJ rfl
   ·exact ih (w6 (x4 + 1)) b0
  ·refine lD (by simp only [EN]) ?_ ?_
   ·exact aJ rfl
   ·exact aJ rfl
theorem adD (b0 : aI) : Le (Option.map aH (p9 b0)) (aBW (aI.enc b0)) := by
 refine Le.trans ?_ (le_of_eq ((aZ atb).trans (aCp ..)).symm)
 unfold p9
 refine lQ eX aS (zZ _) fun r0 _ => ?_
 refine lC ?_ ?_
 ·exact aJ rfl
 ·refine lD (by simp only [EN]) ?_ ?_
  ·exact aJ rfl
  ·exact adI fuel 0 b0
theorem afY (p0 : aI) : Le (Option.map aH (pI p0)) (bA SE 44 [aI.av p0] [] []) := by
 refine aV atb rfl ?_
 refine Le.trans ?_ (le_of_eq (T44 ..).symm)
 unfold pI
 refine lC ?_ ?_
 ·exact aJ rfl
 ·refine lC ?_ ?_
  ·exact aJ rfl
  ·exact adD p0
section
variable (Γ : Fun) (γ95 : Gm (Int)) (Λ2 J : Lam)
def C45 : aP := aY (aQ Γ) 95 aH γ95
theorem T45 (p0 : bE) : bF SE (C45 Γ γ95) Λ2 J 45 [bE.av p0] [] [] =
 γ95 [aO.av (aO.mk p0.IDs 0)] [] [] fun r0 =>
 (rI r0) := by kernel_rfl
end
abbrev X45 : aP := C45 gG (cT 95 aH)
theorem aGf : X45 = aQ gG := by unfold X45 C45; rw [bC fun _ h => h]
theorem afW (p0 : bE) : Le (Option.map aH (pG p0)) (bA SE 45 [bE.av p0] [] []) := by
 refine aV aGf rfl ?_
 refine Le.trans ?_ (le_of_eq (T45 ..).symm)
 unfold pG
 refine lQ eX aS (zZ _) fun r0 _ => ?_
 exact aJ rfl
def aoC (C : aP) (Λ2 J : Lam) (a0 a1 : List (List D)) (a2 : Int) : Res := lab SE C Λ2 J 149 0 [1, 1, 0, 1, 0] (aW [(0, .d (.sl aG.ks a0)), (1, .d (.sl aG.ks a1)), (5, .d (.int .i64 a2))] [] [] [] [])
section
variable (Γ : Fun)  (Λ2 J : Lam)
def aoj : aP := aQ Γ
theorem aDL (p0 p1 : List aG) : bF SE (aoj Γ) Λ2 J 149 [.d (.sl aG.ks (List.map aG.enc p0)), .d (.sl aG.ks (List.map aG.enc p1))] [] [] =
 cond ((lM aG.enc p0 : Int) != (lM aG.enc p1 : Int)) (
 (rB false)) (
 aoC (aoj Γ) Λ2 J (List.map aG.enc p0) (List.map aG.enc p1) 0) := by kernel_rfl
theorem ayg (x0 x1 : List aG) (x5 : Int) : bT SE (aoj Γ) Λ2 J 149 0 [1, 1, 0, 1, 0] (aW [(0, .d (.sl aG.ks (List.map aG.enc x0))), (1, .d (.sl aG.ks (List.map aG.enc x1))), (5, .d (.int .i64 x5))] [] [] [] []) =
 cond (decide (x5 < (lM aG.enc x0 : Int))) (
 cond (iB x5 (lM aG.enc x0 : Int)) (
  cond (iB x5 (lM aG.enc x1 : Int)) (
  cond (!(((bD (cE aG.enc x0 x5 0)) == (bD (cE aG.enc x1 x5 0))) && (((bD (cE aG.enc x0 x5 1)) == (bD (cE aG.enc x1 x5 1))) && true))) (
   (rB false)) (
  aoC (aoj Γ) Λ2 J (List.map aG.enc x0) (List.map aG.enc x1) (w6 (x5 + 1)))) none) none) (
 (rB true)) := by kernel_rfl
end
abbrev auW : aP := aoj gG
theorem ave : auW = aQ gG := rfl
abbrev azi := aoC auW (bP SE gG (SE.hl 149) (SE.hr 149)) (J0 SE auW)
theorem abE : ∀ (fu : Nat) (x0 x1 : List aG) (x5 : Int), Le (Option.map aE (e9 fu x0 x1 x5)) (azi (List.map aG.enc x0) (List.map aG.enc x1) x5) := by
 intro fu
 induction fu with
 | zero => intros; exact le_none
 | succ fu ih =>
  intro x0 x1 x5
  refine Le.trans ?_ (le_of_eq ((aZ ave).trans (ayg ..)).symm)
  unfold e9
  refine lD (by simp only [EN]) ?_ ?_
  ·refine lG (by simp only [EN]) ?_
   refine lG (by simp only [EN]) ?_
   refine lD (by simp only [EN]) ?_ ?_
   ·exact aJ rfl
   ·exact ih x0 x1 (w6 (x5 + 1))
  ·exact aJ rfl
theorem ada (p0 p1 : List aG) : Le (Option.map aE (lE p0 p1)) (bA SE 149 [.d (.sl aG.ks (List.map aG.enc p0)), .d (.sl aG.ks (List.map aG.enc p1))] [] []) := by
 refine aV ave rfl ?_
 refine Le.trans ?_ (le_of_eq (aDL ..).symm)
 unfold lE
 refine lD (by simp only [EN]) ?_ ?_
 ·exact aJ rfl
 ·exact abE fuel p0 p1 0
section
variable (Γ : Fun) (γ149 : Gm (Bool)) (Λ2 J : Lam)
def C97 : aP := aY (aQ Γ) 149 aE γ149
theorem T97 (p0 p1 : aA) : bF SE (C97 Γ γ149) Λ2 J 97 [aA.av p0, aA.av p1] [] [] =
 cond (p0.Topic == p1.Topic) (
 cond (p0.Payload == p1.Payload) (
  cond (p0.Level == p1.Level) (
  cond (p0.Retain == p1.Retain) (
   cond (p0.Priority == p1.Priority) (
   cond (p0.Expires == p1.Expires) (
    cond (p0.From == p1.From) (
    cond (p0.Seq == p1.Seq) (
     γ149 [.d (.sl aG.ks (List.map aG.enc p0.Props)), .d (.sl aG.ks (List.map aG.enc p1.Props))] [] [] fun r0 =>
     (rB r0)) (
    (rB false))) (
    (rB false))) (
   (rB false))) (
   (rB false))) (
  (rB false))) (
  (rB false))) (
 (rB false))) (
 (rB false)) := by kernel_rfl
end
abbrev X97 : aP := C97 gG (cT 149 aE)
theorem aET : X97 = aQ gG := by unfold X97 C97; rw [bC fun _ h => h]
theorem iL (p0 p1 : aA) : Le (Option.map aE (fA p0 p1)) (bA SE 97 [aA.av p0, aA.av p1] [] []) := by
 refine aV aET rfl ?_
 refine Le.trans ?_ (le_of_eq (T97 ..).symm)
 unfold fA
 refine lC ?_ ?_
 ·refine lC ?_ ?_
  ·refine lC ?_ ?_
   ·refine lC ?_ ?_
    ·refine lC ?_ ?_
     ·refine lC ?_ ?_
      ·refine lC ?_ ?_
       ·refine lC ?_ ?_
        ·refine lQ eX aK (ada _ _) fun r0 _ => ?_
         exact aJ rfl
        ·exact aJ rfl
       ·exact aJ rfl
      ·exact aJ rfl
     ·exact aJ rfl
    ·exact aJ rfl
   ·exact aJ rfl
  ·exact aJ rfl
 ·exact aJ rfl
section
variable (Γ : Fun) (γ97 : Gm (Bool)) (γ13 : Gm (Int)) (Λ2 J : Lam)
def C46 : aP := aY (aY (aQ Γ) 97 aE γ97) 13 aH γ13
theorem T46 (p0 : aU) : bF SE (C46 Γ γ97 γ13) Λ2 J 46 [aU.av p0] [] [] =
 cond (!p0.Set) (
 cond (p0.Delay != 0) (
  (rI 28)) (
 γ97 [aA.av p0.Message, .agg [.d (.str []), .d (.str []), .d (.int .i64 0), .d (.bool false), .d (.int .i64 0), .d (.int .i64 0), .d (.str []), .d (.int .i64 0), .d (.sl aG.ks (List.map aG.enc []))]] [] [] fun r0 =>
 cond (!r0) (
  (rI 28)) (
 (rI 0)))) (
 cond (decide (p0.Delay < 0)) (
 (rI 1)) (
 cond (decide (p0.Delay > 1099511627776)) (
 (rI 1)) (
 γ13 [aA.av p0.Message] [] [] fun r1 =>
 (rI r1)))) := by kernel_rfl
end
abbrev X46 : aP := C46 gG (cT 97 aE) (cT 13 aH)
theorem aFt : X46 = aQ gG := by unfold X46 C46; repeat rw [bC fun _ h => h]
theorem agf (p0 : aU) : Le (Option.map aH (pH p0)) (bA SE 46 [aU.av p0] [] []) := by
 refine aV aFt rfl ?_
 refine Le.trans ?_ (le_of_eq (T46 ..).symm)
 unfold pH
 refine lC ?_ ?_
 ·refine lC ?_ ?_
  ·exact aJ rfl
  ·refine lQ eX aK (by (try simp only [EN]); exact iL p0.Message ((aA.mk [] [] 0 false 0 0 [] 0 []))) fun r0 _ => ?_
   refine lC ?_ ?_
   ·exact aJ rfl
   ·exact aJ rfl
 ·refine lC ?_ ?_
  ·exact aJ rfl
  ·refine lC ?_ ?_
   ·exact aJ rfl
   ·refine lQ eX aS (gZ _) fun r1 _ => ?_
    exact aJ rfl
def aqr (C : aP) (Λ2 J : Lam) (a0 : List (List D)) (a1 : Int) : Res := lab SE C Λ2 J 40 0 [1, 0, 1, 0] (aW [(0, .d (.sl [.int .i64] a0)), (3, .d (.int .i64 a1))] [] [] [] [])
section
variable (Γ : Fun)  (Λ2 J : Lam)
def C40 : aP := aQ Γ
theorem T40 (p0 : List Int) : bF SE (C40 Γ) Λ2 J 40 [.d (.sl [.int .i64] (List.map eI p0))] [] [] =
 aqr (C40 Γ) Λ2 J (List.map eI p0) 0 := by kernel_rfl
theorem aBq (x0 : List Int) (x3 : Int) : bT SE (C40 Γ) Λ2 J 40 0 [1, 0, 1, 0] (aW [(0, .d (.sl [.int .i64] (List.map eI x0))), (3, .d (.int .i64 x3))] [] [] [] []) =
 cond (decide (x3 < (lM eI x0 : Int))) (
 cond (iB x3 (lM eI x0 : Int)) (
  cond ((aR (cE eI x0 x3 0)) != 0) (
  cond (iB x3 (lM eI x0 : Int)) (
   (rI (aR (cE eI x0 x3 0)))) none) (
  aqr (C40 Γ) Λ2 J (List.map eI x0) (w6 (x3 + 1)))) none) (
 (rI 0)) := by kernel_rfl
end
abbrev X40 : aP := C40 gG
theorem az6 : X40 = aQ gG := rfl
abbrev aDl := aqr X40 (bP SE gG (SE.hl 40) (SE.hr 40)) (J0 SE X40)
theorem adw : ∀ (fu : Nat) (x0 : List Int) (x3 : Int), Le (Option.map aH (g6 fu x0 x3)) (aDl (List.map eI x0) x3) := by
 intro fu
 induction fu with
 | zero => intros; exact le_none
 | succ fu ih =>
  intro x0 x3
  refine Le.trans ?_ (le_of_eq ((aZ az6).trans (aBq ..)).symm)
  unfold g6
  refine lD (by simp only [EN]) ?_ ?_
  ·refine lG (by simp only [EN]) ?_
   refine lD (by simp only [EN]) ?_ ?_
   ·refine lG (by simp only [EN]) ?_
    exact aJ (by first | rfl | simp only [EN, aH] <;> rfl)
   ·exact ih x0 (w6 (x3 + 1))
  ·exact aJ rfl
theorem aga (p0 : List Int) : Le (Option.map aH (pE p0)) (bA SE 40 [.d (.sl [.int .i64] (List.map eI p0))] [] []) := by
 refine aV az6 rfl ?_
 refine Le.trans ?_ (le_of_eq (T40 ..).symm)
 unfold pE
 exact adw fuel p0 0
section
variable (Γ : Fun) (γ41 γ42 γ43 γ44 γ45 γ46 γ40 : Gm (Int)) (Λ2 J : Lam)
def C12 : aP := aY (aY (aY (aY (aY (aY (aY (aQ Γ) 41 aH γ41) 42 aH γ42) 43 aH γ43) 44 aH γ44) 45 aH γ45) 46 aH γ46) 40 aH γ40
theorem T12 (p0 : aB) : bF SE (C12 Γ γ41 γ42 γ43 γ44 γ45 γ46 γ40) Λ2 J 12 [aB.av p0] [] [] =
 γ41 [aB.av p0] [] [] fun r0 =>
 γ42 [.d (.sl aF.ks (List.map aF.enc p0.Subs))] [] [] fun r1 =>
 γ43 [.d (.sl aA.ks (List.map aA.enc p0.Queue))] [] [] fun r2 =>
 γ44 [aI.av p0.Out] [] [] fun r3 =>
 γ45 [bE.av p0.In] [] [] fun r4 =>
 γ46 [aU.av p0.Will] [] [] fun r5 =>
 γ40 [.d (.sl [.int .i64] (List.map eI [r0, r1, r2, r3, r4, r5]))] [] [] fun r6 =>
 (rI r6) := by kernel_rfl
end
abbrev X12 : aP := C12 gG (cT 41 aH) (cT 42 aH) (cT 43 aH) (cT 44 aH) (cT 45 aH) (cT 46 aH) (cT 40 aH)
theorem aEQ : X12 = aQ gG := by unfold X12 C12; repeat rw [bC fun _ h => h]
theorem pT (p0 : aB) : Le (Option.map aH (iI p0)) (bA SE 12 [aB.av p0] [] []) := by
 refine aV aEQ rfl ?_
 refine Le.trans ?_ (le_of_eq (T12 ..).symm)
 unfold iI
 refine lQ eX aS (ag5 _) fun r0 _ => ?_
 refine lQ eX aS (agT _) fun r1 _ => ?_
 refine lQ eX aS (agc _) fun r2 _ => ?_
 refine lQ eX aS (afY _) fun r3 _ => ?_
 refine lQ eX aS (afW _) fun r4 _ => ?_
 refine lQ eX aS (agf _) fun r5 _ => ?_
 refine lQ eX aS (aga _) fun r6 _ => ?_
 exact aJ rfl
section
variable (Γ : Fun)  (Λ2 J : Lam)
def C22 : aP := aQ Γ
theorem T22 (p0 : Int) : bF SE (C22 Γ) Λ2 J 22 [.d (.int .i64 p0)] [] [] =
 cond (decide (p0 ≥ 0)) (
 (rB (decide (p0 ≤ 1099511627776)))) (
 (rB false)) := by kernel_rfl
end
abbrev X22 : aP := C22 gG
theorem aDC : X22 = aQ gG := rfl
theorem xX (p0 : Int) : Le (Option.map aE (kD p0)) (bA SE 22 [.d (.int .i64 p0)] [] []) := by
 refine aV aDC rfl ?_
 refine Le.trans ?_ (le_of_eq (T22 ..).symm)
 unfold kD
 refine lC ?_ ?_
 ·exact aJ rfl
 ·exact aJ rfl
section
variable (Γ : Fun) (γ12 : Gm (Int)) (γ22 : Gm (Bool)) (Λ2 J : Lam)
def C18 : aP := aY (aY (aQ Γ) 12 aH γ12) 22 aE γ22
theorem T18 (p0 : aB) (p1 : Int) : bF SE (C18 Γ γ12 γ22) Λ2 J 18 [aB.av p0, .d (.int .i64 p1)] [] [] =
 γ12 [aB.av p0] [] [] fun r0 =>
 cond (r0 == 0) (
 γ22 [.d (.int .i64 p1)] [] [] fun r1 =>
 (rB r1)) (
 (rB false)) := by kernel_rfl
end
abbrev X18 : aP := C18 gG (cT 12 aH) (cT 22 aE)
theorem aEi : X18 = aQ gG := by unfold X18 C18; repeat rw [bC fun _ h => h]
theorem qD (p0 : aB) (p1 : Int) : Le (Option.map aE (iH p0 p1)) (bA SE 18 [aB.av p0, .d (.int .i64 p1)] [] []) := by
 refine aV aEi rfl ?_
 refine Le.trans ?_ (le_of_eq (T18 ..).symm)
 unfold iH
 refine lQ eX aS (pT _) fun r0 _ => ?_
 refine lC ?_ ?_
 ·refine lQ eX aK (xX _) fun r1 _ => ?_
  exact aJ rfl
 ·exact aJ rfl
section
variable (Γ : Fun)  (Λ2 J : Lam)
def axd : aP := aQ Γ
theorem aFl (p0 : List aG) : bF SE (axd Γ) Λ2 J 138 [.d (.sl aG.ks (List.map aG.enc p0))] [] [] =
 cond (List.isEmpty (List.map aG.enc p0)) (
 abl (
  (some (.ret [.row 0] [] [⟨aG.ks, 130, 32, []⟩]))) (
  cond (decide ((lM aG.enc [] + lM aG.enc p0) * 32 ≤ 140737488355328)) (
  (some (.ret [.row 0] [] [⟨aG.ks, 130, 32, ((List.map aG.enc []) ++ (List.map aG.enc p0))⟩]))) none)) (
 cond (decide ((lM aG.enc [] + lM aG.enc p0) * 32 ≤ 140737488355328)) (
 (some (.ret [.row 0] [] [⟨aG.ks, 130, 32, ((List.map aG.enc []) ++ (List.map aG.enc p0))⟩]))) none) := by kernel_rfl
end
abbrev aEc : aP := axd gG
theorem aBf : aEc = aQ gG := rfl
theorem oO (p0 : List aG) : Le (Option.map cN (dW p0)) (bA SE 138 [.d (.sl aG.ks (List.map aG.enc p0))] [] []) := by
 refine aV aBf rfl ?_
 refine Le.trans ?_ (le_of_eq (aFl ..).symm)
 unfold dW
 refine lD (by simp only [EN]) ?_ ?_
 ·refine alo ?_ ?_
  ·exact aJ rfl
  ·refine lG (by simp only [EN]) ?_
   exact aJ rfl
 ·refine lG (by simp only [EN]) ?_
  exact aJ rfl
section
variable (Γ : Fun) (γ138 : Gm ((List aG))) (Λ2 J : Lam)
def C80 : aP := aY (aQ Γ) 138 cN γ138
theorem T80 (p0 : aA) : bF SE (C80 Γ γ138) Λ2 J 80 [aA.av p0] [] [] =
 γ138 [.d (.sl aG.ks (List.map aG.enc p0.Props))] [] [] fun r0 =>
 (some (.ret [.agg [.d (.str p0.Topic), .d (.str p0.Payload), .d (.int .i64 p0.Level), .d (.bool p0.Retain), .d (.int .i64 p0.Priority), .d (.int .i64 p0.Expires), .d (.str p0.From), .d (.int .i64 p0.Seq), .row 0]] [] [⟨aG.ks, 130, 32, (List.map aG.enc r0)⟩])) := by kernel_rfl
end
abbrev X80 : aP := C80 gG (cT 138 cN)
theorem aEU : X80 = aQ gG := by unfold X80 C80; rw [bC fun _ h => h]
theorem mM (p0 : aA) : Le (Option.map bX (iF p0)) (bA SE 80 [aA.av p0] [] []) := by
 refine aV aEU rfl ?_
 refine Le.trans ?_ (le_of_eq (T80 ..).symm)
 unfold iF
 refine lQ eX n3 (oO _) fun r0 _ => ?_
 exact aJ rfl
section
variable (Γ : Fun)  (Λ2 J : Lam)
def C81 : aP := aQ Γ
theorem T81 (p0 : Int) : bF SE (C81 Γ) Λ2 J 81 [.d (.int .i64 p0)] [] [] =
 cond (decide (p0 < 0)) (
 (some (.ret [.agg [.d (.int .i64 (if 32 < 0 then 32 else 0)), .row 0, .row 1, .d (.int .i64 0)]] [] [⟨aD.ks, 122, 128, (List.map aD.enc [])⟩, ⟨[.int .i64], 3, 8, (List.map eI [])⟩]))) (
 (some (.ret [.agg [.d (.int .i64 (if 32 < p0 then 32 else p0)), .row 0, .row 1, .d (.int .i64 0)]] [] [⟨aD.ks, 122, 128, (List.map aD.enc [])⟩, ⟨[.int .i64], 3, 8, (List.map eI [])⟩]))) := by kernel_rfl
end
abbrev X81 : aP := C81 gG
theorem aFI : X81 = aQ gG := rfl
theorem ald (p0 : Int) : Le (Option.map bY (zR p0)) (bA SE 81 [.d (.int .i64 p0)] [] []) := by
 refine aV aFI rfl ?_
 refine Le.trans ?_ (le_of_eq (T81 ..).symm)
 unfold zR
 refine lC ?_ ?_
 ·exact aJ rfl
 ·exact aJ rfl
section
variable (Γ : Fun) (γ80 : Gm (aA)) (γ81 : Gm (aI)) (Λ2 J : Lam)
def C31 : aP := aY (aY (aQ Γ) 80 bX γ80) 81 bY γ81
theorem T31 (p0 : aC) (p1 : Int) : bF SE (C31 Γ γ80 γ81) Λ2 J 31 [aC.av p0, .d (.int .i64 p1)] [] [] =
 γ80 [aA.av p0.Will.Message] [] [] fun r0 =>
 γ81 [.d (.int .i64 p0.Window)] [] [] fun r1 =>
 (some (.ret [.agg [.d (.str p0.Client), .d (.str p0.User), .d (.bool true), .d (.int .i64 p1), .d (.int .i64 p0.Expiry), .d (.int .i64 0), .d (.int .i64 0), .row 0, .row 1, .d (.int .i64 r1.Limit), .row 2, .row 3, .d (.int .i64 r1.Pool.Last), .row 4, .d (.bool p0.Will.Set), .d (.int .i64 p0.Will.Delay), .d (.str r0.Topic), .d (.str r0.Payload), .d (.int .i64 r0.Level), .d (.bool r0.Retain), .d (.int .i64 r0.Priority), .d (.int .i64 r0.Expires), .d (.str r0.From), .d (.int .i64 r0.Seq), .row 5]] [] [⟨aF.ks, 60, 32, (List.map aF.enc [])⟩, ⟨aA.ks, 34, 112, (List.map aA.enc [])⟩, ⟨aD.ks, 122, 128, (List.map aD.enc r1.Items)⟩, ⟨[.int .i64], 3, 8, (List.map eI r1.Pool.Used)⟩, ⟨[.int .i64], 3, 8, (List.map eI [])⟩, ⟨aG.ks, 130, 32, (List.map aG.enc r0.Props)⟩])) := by kernel_rfl
end
abbrev X31 : aP := C31 gG (cT 80 bX) (cT 81 bY)
theorem aDH : X31 = aQ gG := by unfold X31 C31; repeat rw [bC fun _ h => h]
theorem aaV (p0 : aC) (p1 : Int) : Le (Option.map cB (aHh p0 p1)) (bA SE 31 [aC.av p0, .d (.int .i64 p1)] [] []) := by
 refine aV aDH rfl ?_
 refine Le.trans ?_ (le_of_eq (T31 ..).symm)
 unfold aHh
 refine lQ eX c8 (mM _) fun r0 _ => ?_
 refine lQ eX fC (ald _) fun r1 _ => ?_
 exact aJ rfl
section
variable (Γ : Fun)  (Λ2 J : Lam)
def axw : aP := aQ Γ
theorem aD9 (p0 p1 : Str) : bF SE (axw Γ) Λ2 J 163 [.d (.str p0), .d (.str p1)] [] [] =
 cond (decide ((List.length p0 : Int) ≥ (List.length p1 : Int))) (
 cond (decide (0 ≤ (List.length p1 : Int)) && decide ((List.length p1 : Int) ≤ ((List.length p0) : Int))) (
  (rB ((bR p0 none (some (List.length p1 : Int))) == p1))) none) (
 (rB false)) := by kernel_rfl
end
abbrev aDT : aP := axw gG
theorem aAW : aDT = aQ gG := rfl
theorem vZ (p0 p1 : Str) : Le (Option.map aE (jD p0 p1)) (bA SE 163 [.d (.str p0), .d (.str p1)] [] []) := by
 refine aV aAW rfl ?_
 refine Le.trans ?_ (le_of_eq (aD9 ..).symm)
 unfold jD
 refine lC ?_ ?_
 ·refine lF ?_
  exact aJ rfl
 ·exact aJ rfl
section
variable (Γ : Fun) (γ163 : Gm (Bool)) (Λ2 J : Lam)
def as3 : aP := aY (aQ Γ) 163 aE γ163
theorem aF2 (p0 p1 : Str) : bF SE (as3 Γ γ163) Λ2 J 179 [.d (.str p0), .d (.str p1)] [] [] =
 γ163 [.d (.str p0), .d (.str p1)] [] [] fun r0 =>
 cond (!r0) (
 (some (.ret [.d (.str p0), .d (.bool false)] [] []))) (
 cond (decide (0 ≤ (List.length p1 : Int)) && decide ((List.length p1 : Int) ≤ ((List.length p0) : Int))) (
 (some (.ret [.d (.str (bR p0 (some (List.length p1 : Int)) none)), .d (.bool true)] [] []))) none) := by kernel_rfl
end
abbrev axN : aP := as3 gG (cT 163 aE)
theorem aCV : axN = aQ gG := by unfold axN as3; rw [bC fun _ h => h]
theorem acW (p0 p1 : Str) : Le (Option.map c7 (oQ p0 p1)) (bA SE 179 [.d (.str p0), .d (.str p1)] [] []) := by
 refine aV aCV rfl ?_
 refine Le.trans ?_ (le_of_eq (aF2 ..).symm)
 unfold oQ
 refine lQ eX aK (vZ _ _) fun r0 _ => ?_
 refine lC ?_ ?_
 ·exact aJ rfl
 ·refine lF ?_
  exact aJ rfl
section
variable (Γ : Fun) (γ179 : Gm (Str × Bool)) (Λ2 J : Lam)
def aun : aP := aY (aQ Γ) 179 c7 γ179
theorem aFf (p0 p1 : Str) : bF SE (aun Γ γ179) Λ2 J 159 [.d (.str p0), .d (.str p1)] [] [] =
 γ179 [.d (.str p0), .d (.str p1)] [] [] fun r0 =>
 (some (.ret [.d (.str r0.1), .d (.bool r0.2)] [] [])) := by kernel_rfl
end
abbrev axg : aP := aun gG (cT 179 c7)
theorem aC5 : axg = aQ gG := by unfold axg aun; rw [bC fun _ h => h]
theorem agv (p0 p1 : Str) : Le (Option.map c7 (pK p0 p1)) (bA SE 159 [.d (.str p0), .d (.str p1)] [] []) := by
 refine aV aC5 rfl ?_
 refine Le.trans ?_ (le_of_eq (aFf ..).symm)
 unfold pK
 refine lQ eX vW (acW _ _) fun r0 _ => ?_
 exact aJ rfl
section
variable (Γ : Fun)  (Λ2 J : Lam)
def ayT : aP := aQ Γ
theorem aDW (p0 : Str) (p1 : Int) : bF SE (ayT Γ) Λ2 J 193 [.d (.str p0), .d (.int .u8 p1)] [] [] =
 (rI (Lib.indexByte p0 (UInt8.ofNat (Int.toNat p1)) : Int)) := by kernel_rfl
end
abbrev aEv : aP := ayT gG
theorem aCr : aEv = aQ gG := rfl
theorem adk (p0 : Str) (p1 : Int) : Le (Option.map aH (tP p0 p1)) (bA SE 193 [.d (.str p0), .d (.int .u8 p1)] [] []) := by
 refine aV aCr rfl ?_
 refine Le.trans ?_ (le_of_eq (aDW ..).symm)
 unfold tP
 exact aJ rfl
section
variable (Γ : Fun) (γ193 : Gm (Int)) (Λ2 J : Lam)
def atc : aP := aY (aQ Γ) 193 aH γ193
theorem aDB (p0 p1 : Str) : bF SE (atc Γ γ193) Λ2 J 189 [.d (.str p0), .d (.str p1)] [] [] =
 cond ((List.length p1 : Int) == 0) (
 (rI 0)) (
 cond (p1 == p0) (
 (rI 0)) (
 cond ((List.length p1 : Int) == 1) (
 cond (decide (0 ≤ 0) && decide (0 < (List.length p1 : Int))) (
  γ193 [.d (.str p0), .d (.int .u8 (UInt8.toNat (List.getD p1 (Int.toNat 0) 0) : Int))] [] [] fun r0 =>
  (rI r0)) none) (
 cond (decide ((List.length p1 : Int) ≥ (List.length p0 : Int))) (
 (rI (-1))) none))) := by kernel_rfl
end
abbrev ax3 : aP := atc gG (cT 193 aH)
theorem aCb : ax3 = aQ gG := by unfold ax3 atc; rw [bC fun _ h => h]
theorem aae (p0 p1 : Str) : Le (Option.map aH (j3 p0 p1)) (bA SE 189 [.d (.str p0), .d (.str p1)] [] []) := by
 refine aV aCb rfl ?_
 refine Le.trans ?_ (le_of_eq (aDB ..).symm)
 unfold j3
 refine lC ?_ ?_
 ·exact aJ rfl
 ·refine lC ?_ ?_
  ·exact aJ rfl
  ·refine lC ?_ ?_
   ·refine lF ?_
    refine lQ eX aS (adk _ _) fun r0 _ => ?_
    exact aJ rfl
   ·refine lF ?_
    exact aJ rfl
section
variable (Γ : Fun) (γ189 : Gm (Int)) (Λ2 J : Lam)
def auH : aP := aY (aQ Γ) 189 aH γ189
theorem aFG (p0 p1 : Str) : bF SE (auH Γ γ189) Λ2 J 180 [.d (.str p0), .d (.str p1)] [] [] =
 γ189 [.d (.str p0), .d (.str p1)] [] [] fun r0 =>
 cond (decide (r0 ≥ 0)) (
 cond (decide (0 ≤ r0) && decide (r0 ≤ ((List.length p0) : Int))) (
  cond (decide (0 ≤ (w6 (r0 + (List.length p1 : Int)))) && decide ((w6 (r0 + (List.length p1 : Int))) ≤ ((List.length p0) : Int))) (
  (some (.ret [.d (.str (bR p0 none (some r0))), .d (.str (bR p0 (some (w6 (r0 + (List.length p1 : Int)))) none)), .d (.bool true)] [] []))) none) none) (
 (some (.ret [.d (.str p0), .d (.str []), .d (.bool false)] [] []))) := by kernel_rfl
end
abbrev azn : aP := auH gG (cT 189 aH)
theorem aCA : azn = aQ gG := by unfold azn auH; rw [bC fun _ h => h]
theorem aip (p0 p1 : Str) : Le (Option.map bO (vY p0 p1)) (bA SE 180 [.d (.str p0), .d (.str p1)] [] []) := by
 refine aV aCA rfl ?_
 refine Le.trans ?_ (le_of_eq (aFG ..).symm)
 unfold vY
 refine lQ eX aS (aae _ _) fun r0 _ => ?_
 refine lC ?_ ?_
 ·refine lF ?_
  refine lF ?_
  exact aJ rfl
 ·exact aJ rfl
section
variable (Γ : Fun) (γ180 : Gm (Str × Str × Bool)) (Λ2 J : Lam)
def at6 : aP := aY (aQ Γ) 180 bO γ180
theorem aE1 (p0 p1 : Str) : bF SE (at6 Γ γ180) Λ2 J 160 [.d (.str p0), .d (.str p1)] [] [] =
 γ180 [.d (.str p0), .d (.str p1)] [] [] fun r0 =>
 (some (.ret [.d (.str r0.1), .d (.str r0.2.1), .d (.bool r0.2.2)] [] [])) := by kernel_rfl
end
abbrev awL : aP := at6 gG (cT 180 bO)
theorem aAX : awL = aQ gG := by unfold awL at6; rw [bC fun _ h => h]
theorem al0 (p0 p1 : Str) : Le (Option.map bO (yE p0 p1)) (bA SE 160 [.d (.str p0), .d (.str p1)] [] []) := by
 refine aV aAX rfl ?_
 refine Le.trans ?_ (le_of_eq (aE1 ..).symm)
 unfold yE
 refine lQ eX iC (aip _ _) fun r0 _ => ?_
 exact aJ rfl
def apj (C : aP) (Λ2 J : Lam) (a0 a1 : Int) (a2 : Bool) (a3 : Str) (a4 : Nat) : Res := lab SE C Λ2 J 139 0 [1, 1, 0, 1, 0, 0, 1, 1, 0, 1, 1, 0] (aW [(3, .d (.int .i64 a0)), (4, .d (.int .i32 a1)), (5, .d (.bool a2)), (15, .it 4000)] [] [] [(4000, (a3, a4))] [])
def ahw (C : aP) (Λ2 J : Lam) (a0 : Str) (a1 : Nat) : Res := lab SE C Λ2 J 139 0 [1, 1, 0, 1, 0] (aW [(15, .it 4000)] [] [] [(4000, (a0, a1))] [])
def arT (C : aP) (Λ2 J : Lam) (a0 : Str) : Res := lab SE C Λ2 J 139 0 [1, 1, 0, 0] (aW [(0, .d (.str a0))] [] [] [] [])
section
variable (Γ : Fun)  (Λ2 J : Lam)
def abW : aP := aQ Γ
theorem aE3 (p0 : Str) : bF SE (abW Γ) Λ2 J 139 [.d (.str p0)] [] [] =
 cond (decide ((List.length p0 : Int) < 1)) (
 (rB false)) (
 cond (decide ((List.length p0 : Int) > 16)) (
 (rB false)) (
 arT (abW Γ) Λ2 J p0)) := by kernel_rfl
theorem ayp (x3 x4 : Int) (x5 : Bool) (s4000 : Str) (i4000 : Nat) : bT SE (abW Γ) Λ2 J 139 0 [1, 1, 0, 1, 0, 0, 1, 1, 0, 1, 1, 0] (aW [(3, .d (.int .i64 x3)), (4, .d (.int .i32 x4)), (5, .d (.bool x5)), (15, .it 4000)] [] [] [(4000, (s4000, i4000))] []) =
 cond (!x5) (
 cond (x3 == 0) (
  (rB false)) (
 cond (x4 != 45) (
  cond (decide (x4 < 48)) (
  (rB false)) (
  cond (decide (x4 > 57)) (
  (rB false)) (
  ahw (abW Γ) Λ2 J s4000 i4000))) (
 ahw (abW Γ) Λ2 J s4000 i4000))) (
 ahw (abW Γ) Λ2 J s4000 i4000) := by kernel_rfl
theorem az7 (s4000 : Str) (i4000 : Nat) : bT SE (abW Γ) Λ2 J 139 0 [1, 1, 0, 1, 0] (aW [(15, .it 4000)] [] [] [(4000, (s4000, i4000))] []) =
 cond (decide (i4000 < List.length s4000)) (
 cond (decide (((dec s4000 i4000).1 : Int) ≥ 97)) (
  apj (abW Γ) Λ2 J (i4000 : Int) ((dec s4000 i4000).1 : Int) (decide (((dec s4000 i4000).1 : Int) ≤ 122)) s4000 (i4000 + (dec s4000 i4000).2)) (
 apj (abW Γ) Λ2 J (i4000 : Int) ((dec s4000 i4000).1 : Int) false s4000 (i4000 + (dec s4000 i4000).2))) (
 (rB true)) := by kernel_rfl
theorem azH (x0 : Str) : bT SE (abW Γ) Λ2 J 139 0 [1, 1, 0, 0] (aW [(0, .d (.str x0))] [] [] [] []) =
 ahw (abW Γ) Λ2 J x0 0 := by kernel_rfl
end
abbrev ajB : aP := abW gG
theorem ano : ajB = aQ gG := rfl
abbrev ax8 := apj ajB (bP SE gG (SE.hl 139) (SE.hr 139)) (J0 SE ajB)
abbrev asY := ahw ajB (bP SE gG (SE.hl 139) (SE.hr 139)) (J0 SE ajB)
abbrev azk := arT ajB (bP SE gG (SE.hl 139) (SE.hr 139)) (J0 SE ajB)
theorem ade (k4 : Str → Nat → Option (Bool)) (hk4 : ∀ (s4000 : Str) (i4000 : Nat), Le (Option.map aE (k4 s4000 i4000)) (asY s4000 i4000)) (x3 x4 : Int) (x5 : Bool) (s4000 : Str) (i4000 : Nat) : Le (Option.map aE (o6 k4 x3 x4 x5 s4000 i4000)) (ax8 x3 x4 x5 s4000 i4000) := by
 refine Le.trans ?_ (le_of_eq ((aZ ano).trans (ayp ..)).symm)
 unfold o6
 refine lC ?_ ?_
 ·refine lC ?_ ?_
  ·exact aJ rfl
  ·refine lC ?_ ?_
   ·refine lC ?_ ?_
    ·exact aJ rfl
    ·refine lC ?_ ?_
     ·exact aJ rfl
     ·exact hk4 s4000 i4000
   ·exact hk4 s4000 i4000
 ·exact hk4 s4000 i4000
theorem ajr : ∀ (fu : Nat) (s4000 : Str) (i4000 : Nat), Le (Option.map aE (kQ fu s4000 i4000)) (asY s4000 i4000) := by
 intro fu
 induction fu with
 | zero => intros; exact le_none
 | succ fu ih =>
  intro s4000 i4000
  refine Le.trans ?_ (le_of_eq ((aZ ano).trans (az7 ..)).symm)
  unfold kQ
  refine lC ?_ ?_
  ·refine lC ?_ ?_
   ·exact ade _ (ih) (i4000 : Int) ((dec s4000 i4000).1 : Int) (decide (((dec s4000 i4000).1 : Int) ≤ 122)) s4000 (i4000 + (dec s4000 i4000).2)
   ·exact ade _ (ih) (i4000 : Int) ((dec s4000 i4000).1 : Int) false s4000 (i4000 + (dec s4000 i4000).2)
  ·exact aJ rfl
theorem ajF (x0 : Str) : Le (Option.map aE (yN x0)) (azk x0) := by
 refine Le.trans ?_ (le_of_eq ((aZ ano).trans (azH ..)).symm)
 unfold yN
 exact ajr fuel x0 0
theorem yM (p0 : Str) : Le (Option.map aE (sO p0)) (bA SE 139 [.d (.str p0)] [] []) := by
 refine aV ano rfl ?_
 refine Le.trans ?_ (le_of_eq (aE3 ..).symm)
 unfold sO
 refine lC ?_ ?_
 ·exact aJ rfl
 ·refine lC ?_ ?_
  ·exact aJ rfl
  ·exact ajF p0
def akk (C : aP) (Λ2 J : Lam) (a0 : Int) (a1 : Str) (a2 : Nat) : Res := lab SE C Λ2 J 161 0 [1, 1, 1, 0, 1, 0] (aW [(3, .d (.int .i64 a0)), (15, .it 4000)] [] [] [(4000, (a1, a2))] [])
def asG (C : aP) (Λ2 J : Lam) (a0 : Str) : Res := lab SE C Λ2 J 161 0 [1, 1, 0] (aW [(0, .d (.str a0))] [] [] [] [])
section
variable (Γ : Fun)  (Λ2 J : Lam)
def aic : aP := aQ Γ
theorem aF1 (p0 : Str) : bF SE (aic Γ) Λ2 J 161 [.d (.str p0)] [] [] =
 cond (decide ((List.length p0 : Int) < 1)) (
 (rB false)) (
 cond (decide ((List.length p0 : Int) > 64)) (
 (rB false)) (
 asG (aic Γ) Λ2 J p0)) := by kernel_rfl
theorem az9 (x3 : Int) (s4000 : Str) (i4000 : Nat) : bT SE (aic Γ) Λ2 J 161 0 [1, 1, 1, 0, 1, 0] (aW [(3, .d (.int .i64 x3)), (15, .it 4000)] [] [] [(4000, (s4000, i4000))] []) =
 cond (decide (i4000 < List.length s4000)) (
 cond (((dec s4000 i4000).1 : Int) == 0) (
  (rB false)) (
 cond (((dec s4000 i4000).1 : Int) == 47) (
  akk (aic Γ) Λ2 J (w6 (x3 + 1)) s4000 (i4000 + (dec s4000 i4000).2)) (
 akk (aic Γ) Λ2 J x3 s4000 (i4000 + (dec s4000 i4000).2)))) (
 (rB (decide (x3 ≤ 8)))) := by kernel_rfl
theorem aw9 (x0 : Str) : bT SE (aic Γ) Λ2 J 161 0 [1, 1, 0] (aW [(0, .d (.str x0))] [] [] [] []) =
 akk (aic Γ) Λ2 J 1 x0 0 := by kernel_rfl
end
abbrev apw : aP := aic gG
theorem aro : apw = aQ gG := rfl
abbrev ayn := akk apw (bP SE gG (SE.hl 161) (SE.hr 161)) (J0 SE apw)
abbrev aAa := asG apw (bP SE gG (SE.hl 161) (SE.hr 161)) (J0 SE apw)
theorem aiV : ∀ (fu : Nat) (x3 : Int) (s4000 : Str) (i4000 : Nat), Le (Option.map aE (jU fu x3 s4000 i4000)) (ayn x3 s4000 i4000) := by
 intro fu
 induction fu with
 | zero => intros; exact le_none
 | succ fu ih =>
  intro x3 s4000 i4000
  refine Le.trans ?_ (le_of_eq ((aZ aro).trans (az9 ..)).symm)
  unfold jU
  refine lC ?_ ?_
  ·refine lC ?_ ?_
   ·exact aJ rfl
   ·refine lC ?_ ?_
    ·exact ih (w6 (x3 + 1)) s4000 (i4000 + (dec s4000 i4000).2)
    ·exact ih x3 s4000 (i4000 + (dec s4000 i4000).2)
  ·exact aJ rfl
theorem aiQ (x0 : Str) : Le (Option.map aE (w8 x0)) (aAa x0) := by
 refine Le.trans ?_ (le_of_eq ((aZ aro).trans (aw9 ..)).symm)
 unfold w8
 exact aiV fuel 1 x0 0
theorem afG (p0 : Str) : Le (Option.map aE (vI p0)) (bA SE 161 [.d (.str p0)] [] []) := by
 refine aV aro rfl ?_
 refine Le.trans ?_ (le_of_eq (aF1 ..).symm)
 unfold vI
 refine lC ?_ ?_
 ·exact aJ rfl
 ·refine lC ?_ ?_
  ·exact aJ rfl
  ·exact aiQ p0
section
variable (Γ : Fun) (γ189 : Gm (Int)) (Λ2 J : Lam)
def auw : aP := aY (aQ Γ) 189 aH γ189
theorem aFe (p0 p1 : Str) : bF SE (auw Γ γ189) Λ2 J 199 [.d (.str p0), .d (.str p1)] [] [] =
 γ189 [.d (.str p0), .d (.str p1)] [] [] fun r0 =>
 (rI r0) := by kernel_rfl
end
abbrev axt : aP := auw gG (cT 189 aH)
theorem aBe : axt = aQ gG := by unfold axt auw; rw [bC fun _ h => h]
theorem acY (p0 p1 : Str) : Le (Option.map aH (m5 p0 p1)) (bA SE 199 [.d (.str p0), .d (.str p1)] [] []) := by
 refine aV aBe rfl ?_
 refine Le.trans ?_ (le_of_eq (aFe ..).symm)
 unfold m5
 refine lQ eX aS (aae _ _) fun r0 _ => ?_
 exact aJ rfl
def anZ (C : aP) (Λ2 J : Lam) (a0 a1 : Str) (a2 : Int) : Res := lab SE C Λ2 J 198 0 [1, 1, 1, 1, 0] (aW [(0, .d (.str a0)), (1, .d (.str a1)), (5, .d (.int .i64 a2))] [] [] [] [])
section
variable (Γ : Fun) (γ199 : Gm (Int)) (Λ2 J : Lam)
def al5 : aP := aY (aQ Γ) 199 aH γ199
theorem aD2 (p0 p1 : Str) : bF SE (al5 Γ γ199) Λ2 J 198 [.d (.str p0), .d (.str p1)] [] [] =
 cond ((List.length p1 : Int) == 0) (
 none) (
 cond ((List.length p1 : Int) == 1) (
 cond (decide (0 ≤ 0) && decide (0 < (List.length p1 : Int))) (
  (rI (Lib.countByte p0 (UInt8.ofNat (Int.toNat (UInt8.toNat (List.getD p1 (Int.toNat 0) 0) : Int))) : Int))) none) (
 anZ (al5 Γ γ199) Λ2 J p0 p1 0)) := by kernel_rfl
theorem axI (x0 x1 : Str) (x5 : Int) : bT SE (al5 Γ γ199) Λ2 J 198 0 [1, 1, 1, 1, 0] (aW [(0, .d (.str x0)), (1, .d (.str x1)), (5, .d (.int .i64 x5))] [] [] [] []) =
 γ199 [.d (.str x0), .d (.str x1)] [] [] fun r0 =>
 cond (r0 == (-1)) (
 (rI x5)) (
 cond (decide (0 ≤ (w6 (r0 + (List.length x1 : Int)))) && decide ((w6 (r0 + (List.length x1 : Int))) ≤ ((List.length x0) : Int))) (
 anZ (al5 Γ γ199) Λ2 J (bR x0 (some (w6 (r0 + (List.length x1 : Int)))) none) x1 (w6 (x5 + 1))) none) := by kernel_rfl
end
abbrev are : aP := al5 gG (cT 199 aH)
theorem avJ : are = aQ gG := by unfold are al5; rw [bC fun _ h => h]
abbrev az3 := anZ are (bP SE gG (SE.hl 198) (SE.hr 198)) (J0 SE are)
theorem ag9 : ∀ (fu : Nat) (x0 x1 : Str) (x5 : Int), Le (Option.map aH (uL fu x0 x1 x5)) (az3 x0 x1 x5) := by
 intro fu
 induction fu with
 | zero => intros; exact le_none
 | succ fu ih =>
  intro x0 x1 x5
  refine Le.trans ?_ (le_of_eq ((aZ avJ).trans (axI ..)).symm)
  unfold uL
  refine lQ eX aS (acY _ _) fun r0 _ => ?_
  refine lC ?_ ?_
  ·exact aJ rfl
  ·refine lF ?_
   exact ih (bR x0 (some (w6 (r0 + (List.length x1 : Int)))) none) x1 (w6 (x5 + 1))
theorem ajT (p0 p1 : Str) : Le (Option.map aH (vC p0 p1)) (bA SE 198 [.d (.str p0), .d (.str p1)] [] []) := by
 refine aV avJ rfl ?_
 refine Le.trans ?_ (le_of_eq (aD2 ..).symm)
 unfold vC
 refine lC ?_ ?_
 ·exact le_none
 ·refine lC ?_ ?_
  ·refine lF ?_
   exact aJ rfl
  ·exact ag9 fuel p0 p1 0
def alT (C : aP) (Λ2 J : Lam) (a0 : Str) (a1 : Int) (a2 : List (List D)) : Res := lab SE C Λ2 J 190 0 [1, 1, 1, 1, 1, 1, 1, 1, 1, 0] (aW [(0, .d (.str a0)), (9, .row 3009), (10, .d (.int .i64 a1))] [] [] [] [(3009, ⟨[.str], 9, 16, a2⟩)])
def alK (C : aP) (Λ2 J : Lam) (a0 a1 : Str) (a2 a3 a4 : Int) (a5 : List (List D)) : Res := lab SE C Λ2 J 190 0 [1, 1, 1, 1, 1, 1, 1, 1, 0, 0] (aW [(0, .d (.str a0)), (1, .d (.str a1)), (2, .d (.int .i64 a2)), (3, .d (.int .i64 a3)), (9, .row 3009), (10, .d (.int .i64 a4))] [] [] [] [(3009, ⟨[.str], 9, 16, a5⟩)])
def anP (C : aP) (Λ2 J : Lam) (a0 a1 : Str) (a2 a3 : Int) : Res := lab SE C Λ2 J 190 0 [1, 1, 1, 1, 0] (aW [(0, .d (.str a0)), (1, .d (.str a1)), (2, .d (.int .i64 a2)), (3, .d (.int .i64 a3))] [] [] [] [])
section
variable (Γ : Fun) (γ198 γ199 : Gm (Int)) (Λ2 J : Lam)
def abT : aP := aY (aY (aQ Γ) 198 aH γ198) 199 aH γ199
theorem aFQ (p0 p1 : Str) (p2 p3 : Int) : bF SE (abT Γ γ198 γ199) Λ2 J 190 [.d (.str p0), .d (.str p1), .d (.int .i64 p2), .d (.int .i64 p3)] [] [] =
 cond (p3 == 0) (
 (some (.ret [.d (.sl [.str] (List.map bL []))] [] []))) (
 cond (p1 == ([] : Str)) (
 none) (
 cond (decide (p3 < 0)) (
 γ198 [.d (.str p0), .d (.str p1)] [] [] fun r0 =>
 anP (abT Γ γ198 γ199) Λ2 J p0 p1 p2 (w6 (r0 + 1))) (
 anP (abT Γ γ198 γ199) Λ2 J p0 p1 p2 p3))) := by kernel_rfl
theorem awm (x0 : Str) (x10 : Int) (w3009 : List Str) : bT SE (abT Γ γ198 γ199) Λ2 J 190 0 [1, 1, 1, 1, 1, 1, 1, 1, 1, 0] (aW [(0, .d (.str x0)), (9, .row 3009), (10, .d (.int .i64 x10))] [] [] [] [(3009, ⟨[.str], 9, 16, (List.map bL w3009)⟩)]) =
 cond (iB x10 (lM bL w3009 : Int)) (
 cond (decide (0 ≤ (w6 (x10 + 1))) && decide ((w6 (x10 + 1)) ≤ ((List.length (m7 (List.map bL w3009) (Int.toNat x10) 0 [D.str x0])) : Int))) (
  (some (.ret [.d (.sl [.str] (List.take ((Int.toNat (w6 (x10 + 1))) - 0) (List.drop 0 (m7 (List.map bL w3009) (Int.toNat x10) 0 [D.str x0]))))] [] []))) none) none := by kernel_rfl
theorem av8 (x0 x1 : Str) (x2 x3 x10 : Int) (w3009 : List Str) : bT SE (abT Γ γ198 γ199) Λ2 J 190 0 [1, 1, 1, 1, 1, 1, 1, 1, 0, 0] (aW [(0, .d (.str x0)), (1, .d (.str x1)), (2, .d (.int .i64 x2)), (3, .d (.int .i64 x3)), (9, .row 3009), (10, .d (.int .i64 x10))] [] [] [] [(3009, ⟨[.str], 9, 16, (List.map bL w3009)⟩)]) =
 cond (decide (x10 < x3)) (
 γ199 [.d (.str x0), .d (.str x1)] [] [] fun r1 =>
 cond (decide (r1 < 0)) (
  alT (abT Γ γ198 γ199) Λ2 J x0 x10 (List.map bL w3009)) (
 cond (decide (0 ≤ (w6 (r1 + x2))) && decide ((w6 (r1 + x2)) ≤ ((List.length x0) : Int))) (
  cond (iB x10 (lM bL w3009 : Int)) (
  cond (decide (0 ≤ (w6 (r1 + (List.length x1 : Int)))) && decide ((w6 (r1 + (List.length x1 : Int))) ≤ ((List.length x0) : Int))) (
   alK (abT Γ γ198 γ199) Λ2 J (bR x0 (some (w6 (r1 + (List.length x1 : Int)))) none) x1 x2 x3 (w6 (x10 + 1)) ((m7 (List.map bL w3009) (Int.toNat x10) 0 [D.str (bR x0 none (some (w6 (r1 + x2))))]))) none) none) none)) (
 alT (abT Γ γ198 γ199) Λ2 J x0 x10 (List.map bL w3009)) := by kernel_rfl
theorem ax9 (x0 x1 : Str) (x2 x3 : Int) : bT SE (abT Γ γ198 γ199) Λ2 J 190 0 [1, 1, 1, 1, 0] (aW [(0, .d (.str x0)), (1, .d (.str x1)), (2, .d (.int .i64 x2)), (3, .d (.int .i64 x3))] [] [] [] []) =
 cond (decide (0 ≤ (if (w6 ((List.length x0 : Int) + 1)) < x3 then (w6 ((List.length x0 : Int) + 1)) else x3)) && decide ((if (w6 ((List.length x0 : Int) + 1)) < x3 then (w6 ((List.length x0 : Int) + 1)) else x3) ≤ (if (w6 ((List.length x0 : Int) + 1)) < x3 then (w6 ((List.length x0 : Int) + 1)) else x3)) && decide ((if (w6 ((List.length x0 : Int) + 1)) < x3 then (w6 ((List.length x0 : Int) + 1)) else x3) * 16 ≤ 281474976710656)) (
 alK (abT Γ γ198 γ199) Λ2 J x0 x1 x2 ((w6 ((if (w6 ((List.length x0 : Int) + 1)) < x3 then (w6 ((List.length x0 : Int) + 1)) else x3) - 1))) 0 ((List.replicate (Int.toNat (if (w6 ((List.length x0 : Int) + 1)) < x3 then (w6 ((List.length x0 : Int) + 1)) else x3)) [D.str []]))) none := by kernel_rfl
end
abbrev ahi : aP := abT gG (cT 198 aH) (cT 199 aH)
theorem ank : ahi = aQ gG := by unfold ahi abT; repeat rw [bC fun _ h => h]
abbrev avU := alT ahi (bP SE gG (SE.hl 190) (SE.hr 190)) (J0 SE ahi)
abbrev avV := alK ahi (bP SE gG (SE.hl 190) (SE.hr 190)) (J0 SE ahi)
abbrev azP := anP ahi (bP SE gG (SE.hl 190) (SE.hr 190)) (J0 SE ahi)
theorem xH (x0 : Str) (x10 : Int) (w3009 : List Str) : Le (Option.map cD (l9 x0 x10 w3009)) (avU x0 x10 (List.map bL w3009)) := by
 refine Le.trans ?_ (le_of_eq ((aZ ank).trans (awm ..)).symm)
 unfold l9
 refine lG (by simp only [EN]) ?_
 refine lG (by simp only [EN]) ?_
 exact aJ (by first | rfl | simp only [EN, cD] <;> rfl)
theorem adv : ∀ (fu : Nat) (x0 x1 : Str) (x2 x3 x10 : Int) (w3009 : List Str), Le (Option.map cD (hI fu x0 x1 x2 x3 x10 w3009)) (avV x0 x1 x2 x3 x10 (List.map bL w3009)) := by
 intro fu
 induction fu with
 | zero => intros; exact le_none
 | succ fu ih =>
  intro x0 x1 x2 x3 x10 w3009
  refine Le.trans ?_ (le_of_eq ((aZ ank).trans (av8 ..)).symm)
  unfold hI
  refine lC ?_ ?_
  ·refine lQ eX aS (acY _ _) fun r1 _ => ?_
   refine lC ?_ ?_
   ·exact xH x0 x10 w3009
   ·refine lF ?_
    refine lG (by simp only [EN]) ?_
    refine lF ?_
    (try simp only [EN]); exact ih (bR x0 (some (w6 (r1 + (List.length x1 : Int)))) none) x1 x2 x3 (w6 (x10 + 1)) ((List.set w3009 (Int.toNat x10) (bR x0 none (some (w6 (r1 + x2))))))
  ·exact xH x0 x10 w3009
theorem yA (x0 x1 : Str) (x2 x3 : Int) : Le (Option.map cD (nC x0 x1 x2 x3)) (azP x0 x1 x2 x3) := by
 refine Le.trans ?_ (le_of_eq ((aZ ank).trans (ax9 ..)).symm)
 unfold nC
 refine lF ?_
 (try simp only [EN]); exact adv fuel x0 x1 x2 ((w6 ((if (w6 ((List.length x0 : Int) + 1)) < x3 then (w6 ((List.length x0 : Int) + 1)) else x3) - 1))) 0 ((List.replicate (Int.toNat (if (w6 ((List.length x0 : Int) + 1)) < x3 then (w6 ((List.length x0 : Int) + 1)) else x3)) (default : Str)))
theorem ag2 (p0 p1 : Str) (p2 p3 : Int) : Le (Option.map cD (uH p0 p1 p2 p3)) (bA SE 190 [.d (.str p0), .d (.str p1), .d (.int .i64 p2), .d (.int .i64 p3)] [] []) := by
 refine aV ank rfl ?_
 refine Le.trans ?_ (le_of_eq (aFQ ..).symm)
 unfold uH
 refine lC ?_ ?_
 ·exact aJ rfl
 ·refine lC ?_ ?_
  ·exact le_none
  ·refine lC ?_ ?_
   ·refine lQ eX aS (ajT _ _) fun r0 _ => ?_
    exact yA p0 p1 p2 (w6 (r0 + 1))
   ·exact yA p0 p1 p2 p3
section
variable (Γ : Fun) (γ190 : Gm ((List Str))) (Λ2 J : Lam)
def auQ : aP := aY (aQ Γ) 190 cD γ190
theorem aFX (p0 p1 : Str) : bF SE (auQ Γ γ190) Λ2 J 181 [.d (.str p0), .d (.str p1)] [] [] =
 γ190 [.d (.str p0), .d (.str p1), .d (.int .i64 0), .d (.int .i64 (-1))] [] [] fun r0 =>
 (some (.ret [.d (.sl [.str] (List.map bL r0))] [] [])) := by kernel_rfl
end
abbrev axj : aP := auQ gG (cT 190 cD)
theorem aBl : axj = aQ gG := by unfold axj auQ; rw [bC fun _ h => h]
theorem ajn (p0 p1 : Str) : Le (Option.map cD (uZ p0 p1)) (bA SE 181 [.d (.str p0), .d (.str p1)] [] []) := by
 refine aV aBl rfl ?_
 refine Le.trans ?_ (le_of_eq (aFX ..).symm)
 unfold uZ
 refine lQ eX uI (ag2 _ _ _ _) fun r0 _ => ?_
 exact aJ rfl
section
variable (Γ : Fun) (γ181 : Gm ((List Str))) (Λ2 J : Lam)
def att : aP := aY (aQ Γ) 181 cD γ181
theorem aEt (p0 : Str) : bF SE (att Γ γ181) Λ2 J 162 [.d (.str p0)] [] [] =
 γ181 [.d (.str p0), .d (.str ([47] : Str))] [] [] fun r0 =>
 (some (.ret [.d (.sl [.str] (List.map bL r0))] [] [])) := by kernel_rfl
end
abbrev ayU : aP := att gG (cT 181 cD)
theorem aC7 : ayU = aQ gG := by unfold ayU att; rw [bC fun _ h => h]
theorem ak1 (p0 : Str) : Le (Option.map cD (wH p0)) (bA SE 162 [.d (.str p0)] [] []) := by
 refine aV aC7 rfl ?_
 refine Le.trans ?_ (le_of_eq (aEt ..).symm)
 unfold wH
 refine lQ eX uI (ajn _ _) fun r0 _ => ?_
 exact aJ rfl
def afr (C : aP) (Λ2 J : Lam) (a0 : List (List D)) (a1 : Bool) (a2 : Int) (a3 : Str) (a4 : List (List D)) (a5 a6 : Int) (a7 : Str) (a8 : Nat) : Res := lab SE C Λ2 J 126 0 [1, 0, 1, 1, 1, 1, 0, 1, 0, 0, 1, 1, 0, 0, 1, 1, 0] (aW [(3, .d (.sl [.str] a0)), (4, .d (.bool a1)), (5, .d (.int .i64 a2)), (6, .d (.str a3)), (15, .d (.sl [.str] a4)), (16, .d (.int .i64 a5)), (17, .d (.int .i64 a6)), (23, .it 4000)] [] [] [(4000, (a7, a8))] [])
def aoa (C : aP) (Λ2 J : Lam) (a0 : List (List D)) (a1 : Bool) (a2 : List (List D)) (a3 a4 : Int) : Res := lab SE C Λ2 J 126 0 [1, 0, 1, 1, 1, 1, 0, 1, 0] (aW [(3, .d (.sl [.str] a0)), (4, .d (.bool a1)), (15, .d (.sl [.str] a2)), (16, .d (.int .i64 a3)), (17, .d (.int .i64 a4))] [] [] [] [])
section
variable (Γ : Fun) (γ161 : Gm (Bool)) (γ162 : Gm ((List Str))) (Λ2 J : Lam)
def abR : aP := aY (aY (aQ Γ) 161 aE γ161) 162 cD γ162
theorem aFN (p0 : Str) : bF SE (abR Γ γ161 γ162) Λ2 J 126 [.d (.str p0)] [] [] =
 γ161 [.d (.str p0)] [] [] fun r0 =>
 cond (!r0) (
 (rB false)) (
 γ162 [.d (.str p0)] [] [] fun r1 =>
 aoa (abR Γ γ161 γ162) Λ2 J (List.map bL r1) true (List.map bL r1) (lM bL r1 : Int) 0) := by kernel_rfl
theorem axW (x3 : List Str) (x4 : Bool) (x5 : Int) (x6 : Str) (x15 : List Str) (x16 x17 : Int) (s4000 : Str) (i4000 : Nat) : bT SE (abR Γ γ161 γ162) Λ2 J 126 0 [1, 0, 1, 1, 1, 1, 0, 1, 0, 0, 1, 1, 0, 0, 1, 1, 0] (aW [(3, .d (.sl [.str] (List.map bL x3))), (4, .d (.bool x4)), (5, .d (.int .i64 x5)), (6, .d (.str x6)), (15, .d (.sl [.str] (List.map bL x15))), (16, .d (.int .i64 x16)), (17, .d (.int .i64 x17)), (23, .it 4000)] [] [] [(4000, (s4000, i4000))] []) =
 cond (decide (i4000 < List.length s4000)) (
 cond (((dec s4000 i4000).1 : Int) == 43) (
  cond (!((List.length x6 : Int) == 1)) (
  (rB false)) (
  cond (((dec s4000 i4000).1 : Int) == 35) (
  cond (!((List.length x6 : Int) == 1)) (
   (rB false)) (
  cond (decide (x5 < (w6 ((lM bL x3 : Int) - 1)))) (
   (rB false)) (
  afr (abR Γ γ161 γ162) Λ2 J (List.map bL x3) x4 x5 x6 (List.map bL x15) x16 x17 s4000 (i4000 + (dec s4000 i4000).2)))) (
  afr (abR Γ γ161 γ162) Λ2 J (List.map bL x3) x4 x5 x6 (List.map bL x15) x16 x17 s4000 (i4000 + (dec s4000 i4000).2)))) (
 cond (((dec s4000 i4000).1 : Int) == 35) (
  cond (!((List.length x6 : Int) == 1)) (
  (rB false)) (
  cond (decide (x5 < (w6 ((lM bL x3 : Int) - 1)))) (
  (rB false)) (
  afr (abR Γ γ161 γ162) Λ2 J (List.map bL x3) x4 x5 x6 (List.map bL x15) x16 x17 s4000 (i4000 + (dec s4000 i4000).2)))) (
 afr (abR Γ γ161 γ162) Λ2 J (List.map bL x3) x4 x5 x6 (List.map bL x15) x16 x17 s4000 (i4000 + (dec s4000 i4000).2)))) (
 aoa (abR Γ γ161 γ162) Λ2 J (List.map bL x3) x4 (List.map bL x15) x16 (w6 (x17 + 1))) := by kernel_rfl
theorem ayo (x3 : List Str) (x4 : Bool) (x15 : List Str) (x16 x17 : Int) : bT SE (abR Γ γ161 γ162) Λ2 J 126 0 [1, 0, 1, 1, 1, 1, 0, 1, 0] (aW [(3, .d (.sl [.str] (List.map bL x3))), (4, .d (.bool x4)), (15, .d (.sl [.str] (List.map bL x15))), (16, .d (.int .i64 x16)), (17, .d (.int .i64 x17))] [] [] [] []) =
 cond (decide (x17 < x16)) (
 cond (iB x17 (lM bL x15 : Int)) (
  afr (abR Γ γ161 γ162) Λ2 J (List.map bL x3) x4 x17 ((bD (cE bL x15 x17 0))) (List.map bL x15) x16 x17 ((bD (cE bL x15 x17 0))) 0) none) (
 (rB x4)) := by kernel_rfl
end
abbrev alp : aP := abR gG (cT 161 aE) (cT 162 cD)
theorem aq7 : alp = aQ gG := by unfold alp abR; repeat rw [bC fun _ h => h]
abbrev axH := afr alp (bP SE gG (SE.hl 126) (SE.hr 126)) (J0 SE alp)
abbrev asa := aoa alp (bP SE gG (SE.hl 126) (SE.hr 126)) (J0 SE alp)
theorem ahP : ∀ (fu : Nat) (k6 : (List Str) → Bool → (List Str) → Int → Int → Option (Bool)) (hk6 : ∀ (x3 : List Str) (x4 : Bool) (x15 : List Str) (x16 x17 : Int), Le (Option.map aE (k6 x3 x4 x15 x16 x17)) (asa (List.map bL x3) x4 (List.map bL x15) x16 x17)) (x3 : List Str) (x4 : Bool) (x5 : Int) (x6 : Str) (x15 : List Str) (x16 x17 : Int) (s4000 : Str) (i4000 : Nat), Le (Option.map aE (gB fu k6 x3 x4 x5 x6 x15 x16 x17 s4000 i4000)) (axH (List.map bL x3) x4 x5 x6 (List.map bL x15) x16 x17 s4000 i4000) := by
 intro fu
 induction fu with
 | zero => intros; exact le_none
 | succ fu ih =>
  intro k6 hk6 x3 x4 x5 x6 x15 x16 x17 s4000 i4000
  refine Le.trans ?_ (le_of_eq ((aZ aq7).trans (axW ..)).symm)
  unfold gB
  refine lC ?_ ?_
  ·refine lC ?_ ?_
   ·refine lC ?_ ?_
    ·exact aJ rfl
    ·refine lC ?_ ?_
     ·refine lC ?_ ?_
      ·exact aJ rfl
      ·refine lD (by simp only [EN]) ?_ ?_
       ·exact aJ rfl
       ·exact ih _ hk6 x3 x4 x5 x6 x15 x16 x17 s4000 (i4000 + (dec s4000 i4000).2)
     ·exact ih _ hk6 x3 x4 x5 x6 x15 x16 x17 s4000 (i4000 + (dec s4000 i4000).2)
   ·refine lC ?_ ?_
    ·refine lC ?_ ?_
     ·exact aJ rfl
     ·refine lD (by simp only [EN]) ?_ ?_
      ·exact aJ rfl
      ·exact ih _ hk6 x3 x4 x5 x6 x15 x16 x17 s4000 (i4000 + (dec s4000 i4000).2)
    ·exact ih _ hk6 x3 x4 x5 x6 x15 x16 x17 s4000 (i4000 + (dec s4000 i4000).2)
  ·exact hk6 x3 x4 x15 x16 (w6 (x17 + 1))
theorem aiw : ∀ (fu : Nat) (x3 : List Str) (x4 : Bool) (x15 : List Str) (x16 x17 : Int), Le (Option.map aE (l3 fu x3 x4 x15 x16 x17)) (asa (List.map bL x3) x4 (List.map bL x15) x16 x17) := by
 intro fu
 induction fu with
 | zero => intros; exact le_none
 | succ fu ih =>
  intro x3 x4 x15 x16 x17
  refine Le.trans ?_ (le_of_eq ((aZ aq7).trans (ayo ..)).symm)
  unfold l3
  refine lC ?_ ?_
  ·refine lG (by simp only [EN]) ?_
   (try simp only [EN]); exact ahP fuel _ (ih) x3 x4 x17 (List.getD x15 (Int.toNat x17) default) x15 x16 x17 (List.getD x15 (Int.toNat x17) default) 0
  ·exact aJ rfl
theorem adT (p0 : Str) : Le (Option.map aE (tT p0)) (bA SE 126 [.d (.str p0)] [] []) := by
 refine aV aq7 rfl ?_
 refine Le.trans ?_ (le_of_eq (aFN ..).symm)
 unfold tT
 refine lQ eX aK (afG _) fun r0 _ => ?_
 refine lC ?_ ?_
 ·exact aJ rfl
 ·refine lQ eX uI (ak1 _) fun r1 _ => ?_
  (try simp only [EN]); exact aiw fuel r1 true r1 (List.length r1 : Int) 0
section
variable (Γ : Fun) (γ163 : Gm (Bool)) (Λ2 J : Lam)
def at5 : aP := aY (aQ Γ) 163 aE γ163
theorem aDS (p0 p1 : Str) : bF SE (at5 Γ γ163) Λ2 J 127 [.d (.str p0), .d (.str p1)] [] [] =
 γ163 [.d (.str p0), .d (.str p1)] [] [] fun r0 =>
 (rB r0) := by kernel_rfl
end
abbrev ayL : aP := at5 gG (cT 163 aE)
theorem aA1 : ayL = aQ gG := by unfold ayL at5; rw [bC fun _ h => h]
theorem aaA (p0 p1 : Str) : Le (Option.map aE (mN p0 p1)) (bA SE 127 [.d (.str p0), .d (.str p1)] [] []) := by
 refine aV aA1 rfl ?_
 refine Le.trans ?_ (le_of_eq (aDS ..).symm)
 unfold mN
 refine lQ eX aK (vZ _ _) fun r0 _ => ?_
 exact aJ rfl
section
variable (Γ : Fun) (γ159 : Gm (Str × Bool)) (γ160 : Gm (Str × Str × Bool)) (γ139 γ126 γ127 : Gm (Bool)) (Λ2 J : Lam)
def aum : aP := aY (aY (aY (aY (aY (aQ Γ) 159 c7 γ159) 160 bO γ160) 139 aE γ139) 126 aE γ126) 127 aE γ127
theorem aF3 (p0 : Str) : bF SE (aum Γ γ159 γ160 γ139 γ126 γ127) Λ2 J 124 [.d (.str p0)] [] [] =
 γ159 [.d (.str p0), .d (.str ([36, 115, 104, 97, 114, 101, 47] : Str))] [] [] fun r0 =>
 cond (!r0.2) (
 (some (.ret [.d (.str []), .d (.str []), .d (.bool false)] [] []))) (
 γ160 [.d (.str r0.1), .d (.str ([47] : Str))] [] [] fun r1 =>
 cond (!r1.2.2) (
 (some (.ret [.d (.str []), .d (.str []), .d (.bool false)] [] []))) (
 γ139 [.d (.str r1.1)] [] [] fun r2 =>
 cond (!r2) (
 (some (.ret [.d (.str []), .d (.str []), .d (.bool false)] [] []))) (
 γ126 [.d (.str r1.2.1)] [] [] fun r3 =>
 cond (!r3) (
 (some (.ret [.d (.str []), .d (.str []), .d (.bool false)] [] []))) (
 γ127 [.d (.str r1.2.1), .d (.str ([36, 115, 104, 97, 114, 101, 47] : Str))] [] [] fun r4 =>
 cond r4 (
 (some (.ret [.d (.str []), .d (.str []), .d (.bool false)] [] []))) (
 (some (.ret [.d (.str r1.1), .d (.str r1.2.1), .d (.bool true)] [] []))))))) := by kernel_rfl
end
abbrev axp : aP := aum gG (cT 159 c7) (cT 160 bO) (cT 139 aE) (cT 126 aE) (cT 127 aE)
theorem aBr : axp = aQ gG := by unfold axp aum; repeat rw [bC fun _ h => h]
theorem akE (p0 : Str) : Le (Option.map bO (v5 p0)) (bA SE 124 [.d (.str p0)] [] []) := by
 refine aV aBr rfl ?_
 refine Le.trans ?_ (le_of_eq (aF3 ..).symm)
 unfold v5
 refine lQ eX vW (agv _ _) fun r0 _ => ?_
 refine lC ?_ ?_
 ·exact aJ rfl
 ·refine lQ eX iC (al0 _ _) fun r1 _ => ?_
  refine lC ?_ ?_
  ·exact aJ rfl
  ·refine lQ eX aK (yM _) fun r2 _ => ?_
   refine lC ?_ ?_
   ·exact aJ rfl
   ·refine lQ eX aK (adT _) fun r3 _ => ?_
    refine lC ?_ ?_
    ·exact aJ rfl
    ·refine lQ eX aK (aaA _ _) fun r4 _ => ?_
     refine lC ?_ ?_
     ·exact aJ rfl
     ·exact aJ rfl
section
variable (Γ : Fun) (γ126 γ127 : Gm (Bool)) (Λ2 J : Lam)
def atG : aP := aY (aY (aQ Γ) 126 aE γ126) 127 aE γ127
theorem aGa (p0 : aF) : bF SE (atG Γ γ126 γ127) Λ2 J 125 [.ptr 2000000000 0] [⟨60, (aF.avs p0)⟩] [] =
 γ126 [.d (.str p0.Filter)] [] [] fun r0 =>
 cond r0 (
 γ127 [.d (.str p0.Filter), .d (.str ([36, 115, 104, 97, 114, 101, 47] : Str))] [] [] fun r1 =>
 (some (.ret [.d (.bool (!r1))] [⟨60, (aF.avs p0)⟩] []))) (
 (some (.ret [.d (.bool false)] [⟨60, (aF.avs p0)⟩] []))) := by kernel_rfl
end
abbrev azQ : aP := atG gG (cT 126 aE) (cT 127 aE)
theorem aBt : azQ = aQ gG := by unfold azQ atG; repeat rw [bC fun _ h => h]
theorem afD (p0 : aF) : Le (Option.map iD (sP p0)) (bA SE 125 [.ptr 2000000000 0] [⟨60, (aF.avs p0)⟩] []) := by
 refine aV aBt rfl ?_
 refine Le.trans ?_ (le_of_eq (aGa ..).symm)
 unfold sP
 refine lQ eX aK (adT _) fun r0 _ => ?_
 refine lC ?_ ?_
 ·refine lQ eX aK (aaA _ _) fun r1 _ => ?_
  exact aJ rfl
 ·exact aJ rfl
section
variable (Γ : Fun) (γ124 : Gm (Str × Str × Bool)) (γ125 : Gm (Bool × aF)) (Λ2 J : Lam)
def C66 : aP := aY (aY (aQ Γ) 124 bO γ124) 125 iD γ125
theorem T66 (p0 : aF) : bF SE (C66 Γ γ124 γ125) Λ2 J 66 [aF.av p0] [] [] =
 γ124 [.d (.str p0.Filter)] [] [] fun r0 =>
 cond (!r0.2.2) (
 γ125 [.ptr 2000000000 0] [⟨60, (aF.avs p0)⟩] [] fun r1 =>
 cond (!r1.1) (
  (rI 13)) (
 cond (decide (r1.2.Level < 0)) (
  (rI 14)) (
 cond (decide (r1.2.Level > 2)) (
  (rI 14)) (
 cond r1.2.NoLocal (
  cond r0.2.2 (
  (rI 28)) (
  (rI 0))) (
 (rI 0)))))) (
 cond (decide (p0.Level < 0)) (
 (rI 14)) (
 cond (decide (p0.Level > 2)) (
 (rI 14)) (
 cond p0.NoLocal (
 cond r0.2.2 (
  (rI 28)) (
 (rI 0))) (
 (rI 0))))) := by kernel_rfl
end
abbrev X66 : aP := C66 gG (cT 124 bO) (cT 125 iD)
theorem aEO : X66 = aQ gG := by unfold X66 C66; repeat rw [bC fun _ h => h]
theorem aaP (p0 : aF) : Le (Option.map aH (nT p0)) (bA SE 66 [aF.av p0] [] []) := by
 refine aV aEO rfl ?_
 refine Le.trans ?_ (le_of_eq (T66 ..).symm)
 unfold nT
 refine lQ eX iC (akE _) fun r0 _ => ?_
 refine lC ?_ ?_
 ·refine lQ eX aei (afD _) fun r1 _ => ?_
  refine lC ?_ ?_
  ·exact aJ rfl
  ·refine lC ?_ ?_
   ·exact aJ rfl
   ·refine lC ?_ ?_
    ·exact aJ rfl
    ·refine lC ?_ ?_
     ·refine lC ?_ ?_
      ·exact aJ rfl
      ·exact aJ rfl
     ·exact aJ rfl
 ·refine lC ?_ ?_
  ·exact aJ rfl
  ·refine lC ?_ ?_
   ·exact aJ rfl
   ·refine lC ?_ ?_
    ·refine lC ?_ ?_
     ·exact aJ rfl
     ·exact aJ rfl
    ·exact aJ rfl
section
variable (Γ : Fun)  (Λ2 J : Lam)
def axb : aP := aQ Γ
theorem aEm (p0 p1 : Str) : bF SE (axb Γ) Λ2 J 164 [.d (.str p0), .d (.str p1)] [] [] =
 (rI (Lib.compareBytes p0 p1)) := by kernel_rfl
end
abbrev aFs : aP := axb gG
theorem aBi : aFs = aQ gG := rfl
theorem acI (p0 p1 : Str) : Le (Option.map aH (tQ p0 p1)) (bA SE 164 [.d (.str p0), .d (.str p1)] [] []) := by
 refine aV aBi rfl ?_
 refine Le.trans ?_ (le_of_eq (aEm ..).symm)
 unfold tQ
 exact aJ rfl
section
variable (Γ : Fun) (γ164 : Gm (Int)) (Λ2 J : Lam)
def auG : aP := aY (aQ Γ) 164 aH γ164
theorem aFR (p0 p1 : Str) : bF SE (auG Γ γ164) Λ2 J 130 [.d (.str p0), .d (.str p1)] [] [] =
 γ164 [.d (.str p0), .d (.str p1)] [] [] fun r0 =>
 (rI r0) := by kernel_rfl
end
abbrev awV : aP := auG gG (cT 164 aH)
theorem aCF : awV = aQ gG := by unfold awV auG; rw [bC fun _ h => h]
theorem ahG (p0 p1 : Str) : Le (Option.map aH (aar p0 p1)) (bA SE 130 [.d (.str p0), .d (.str p1)] [] []) := by
 refine aV aCF rfl ?_
 refine Le.trans ?_ (le_of_eq (aFR ..).symm)
 unfold aar
 refine lQ eX aS (acI _ _) fun r0 _ => ?_
 exact aJ rfl
section
variable (Γ : Fun) (γ130 : Gm (Int)) (Λ2 J : Lam)
def atk : aP := aY (aQ Γ) 130 aH γ130
theorem aE6 (p0 : aF) (p1 : Str) : bF SE (atk Γ γ130) Λ2 J 129 [aF.av p0, .d (.str p1)] [] [] =
 γ130 [.d (.str p0.Filter), .d (.str p1)] [] [] fun r0 =>
 (rI r0) := by kernel_rfl
end
abbrev ayC : aP := atk gG (cT 130 aH)
theorem aAN : ayC = aQ gG := by unfold ayC atk; rw [bC fun _ h => h]
theorem ab3 (p0 : aF) (p1 : Str) : Le (Option.map aH (tX p0 p1)) (bA SE 129 [aF.av p0, .d (.str p1)] [] []) := by
 refine aV aAN rfl ?_
 refine Le.trans ?_ (le_of_eq (aE6 ..).symm)
 unfold tX
 refine lQ eX aS (ahG _ _) fun r0 _ => ?_
 exact aJ rfl
end Te
end PX
