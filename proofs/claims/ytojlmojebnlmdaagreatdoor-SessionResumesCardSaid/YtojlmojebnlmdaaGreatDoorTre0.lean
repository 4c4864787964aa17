import Derived.Test.YtojlmojebnlmdaaGreatDoorTab
set_option linter.unusedVariables false
set_option linter.unusedSimpArgs false
set_option maxRecDepth 100000
noncomputable section
namespace PX
open Go
open Md
namespace Te
abbrev cE {α : Type} (f : α → List D) (l : List α) (i : Int) (k : Nat) : D := cellAt (elemAt (List.map f l) (Int.toNat i)) k
abbrev lM {α : Type} (f : α → List D) (l : List α) : Nat := List.length (List.map f l)
abbrev iB (i n : Int) : Bool := decide (0 ≤ i) && decide (i < n)
abbrev w6 (x : Int) : Int := IntKind.wrap .i64 x
abbrev eI : Int → List D := encI .i64
abbrev rB (b : Bool) : Res := some (.ret [.d (.bool b)] [] [])
abbrev rI (n : Int) : Res := some (.ret [.d (.int .i64 n)] [] [])
theorem lQ {g : FuncId} {R S : Type} {out : R → Out} {e : S → Out} {x : Option R} {M : R → Option S} {a : List AV} {b : List Bx} {r : List Rw} {κ : R → Res} (hg : ∀ y, good g (out y)) (hi : ∀ y z, out y = out z → y = z) (h : Le (x.map out) (bA SE g a b r)) (hk : ∀ y, x = some y → Le ((M y).map e) (κ y)) : Le ((x.bind M).map e) (aix SE good g out a b r κ) := avQ (good := good) hg hi h hk
section
variable (Γ : Fun)  (Λ2 J : Lam)
def awY : aP := aQ Γ
theorem aFB (p0 : Int) : bF SE (awY Γ) Λ2 J 100 [.d (.int .u8 p0)] [] [] =
 cond (decide (p0 ≥ 97)) (
 (rB (decide (p0 ≤ 122)))) (
 (rB false)) := by kernel_rfl
end
abbrev aFW : aP := awY gG
theorem aDz : aFW = aQ gG := rfl
theorem aau (p0 : Int) : Le (Option.map aE (mH p0)) (bA SE 100 [.d (.int .u8 p0)] [] []) := by
 refine aV aDz rfl ?_
 refine Le.trans ?_ (le_of_eq (aFB ..).symm)
 unfold mH
 refine lC ?_ ?_
 ·exact aJ rfl
 ·exact aJ rfl
section
variable (Γ : Fun)  (Λ2 J : Lam)
def ayx : aP := aQ Γ
theorem aGj (p0 : Int) : bF SE (ayx Γ) Λ2 J 101 [.d (.int .u8 p0)] [] [] =
 cond (decide (p0 ≥ 48)) (
 (rB (decide (p0 ≤ 57)))) (
 (rB false)) := by kernel_rfl
end
abbrev aF8 : aP := ayx gG
theorem aB7 : aF8 = aQ gG := rfl
theorem afO (p0 : Int) : Le (Option.map aE (o8 p0)) (bA SE 101 [.d (.int .u8 p0)] [] []) := by
 refine aV aB7 rfl ?_
 refine Le.trans ?_ (le_of_eq (aGj ..).symm)
 unfold o8
 refine lC ?_ ?_
 ·exact aJ rfl
 ·exact aJ rfl
def aj2 (C : aP) (Λ2 J : Lam) (a0 : Str) (a1 : Int) : Res := lab SE C Λ2 J 48 0 [1, 1, 0, 1, 0] (aW [(0, .d (.str a0)), (3, .d (.int .i64 a1))] [] [] [] [])
def avK (C : aP) (Λ2 J : Lam) (a0 : Str) : Res := lab SE C Λ2 J 48 0 [1, 1, 0, 0] (aW [(0, .d (.str a0))] [] [] [] [])
section
variable (Γ : Fun) (γ100 γ101 : Gm (Bool)) (Λ2 J : Lam)
def C48 : aP := aY (aY (aQ Γ) 100 aE γ100) 101 aE γ101
theorem T48 (p0 : Str) : bF SE (C48 Γ γ100 γ101) Λ2 J 48 [.d (.str p0)] [] [] =
 cond (decide ((List.length p0 : Int) < 1)) (
 (rB false)) (
 cond (decide ((List.length p0 : Int) > 16)) (
 (rB false)) (
 cond (decide (0 ≤ 0) && decide (0 < (List.length p0 : Int))) (
 γ100 [.d (.int .u8 (UInt8.toNat (List.getD p0 (Int.toNat 0) 0) : Int))] [] [] fun r0 =>
 cond (!r0) (
  (rB false)) (
 avK (C48 Γ γ100 γ101) Λ2 J p0)) none)) := by kernel_rfl
theorem aBo (x0 : Str) (x3 : Int) : bT SE (C48 Γ γ100 γ101) Λ2 J 48 0 [1, 1, 0, 1, 0] (aW [(0, .d (.str x0)), (3, .d (.int .i64 x3))] [] [] [] []) =
 cond (decide (x3 < (List.length x0 : Int))) (
 cond (iB x3 (List.length x0 : Int)) (
  γ100 [.d (.int .u8 (UInt8.toNat (List.getD x0 (Int.toNat x3) 0) : Int))] [] [] fun r1 =>
  cond (!r1) (
  cond (iB x3 (List.length x0 : Int)) (
   γ101 [.d (.int .u8 (UInt8.toNat (List.getD x0 (Int.toNat x3) 0) : Int))] [] [] fun r2 =>
   cond (!r2) (
   cond (iB x3 (List.length x0 : Int)) (
    cond ((UInt8.toNat (List.getD x0 (Int.toNat x3) 0) : Int) != 45) (
    (rB false)) (
    aj2 (C48 Γ γ100 γ101) Λ2 J x0 (w6 (x3 + 1)))) none) (
   aj2 (C48 Γ γ100 γ101) Λ2 J x0 (w6 (x3 + 1)))) none) (
  aj2 (C48 Γ γ100 γ101) Λ2 J x0 (w6 (x3 + 1)))) none) (
 (rB true)) := by kernel_rfl
theorem aBW (x0 : Str) : bT SE (C48 Γ γ100 γ101) Λ2 J 48 0 [1, 1, 0, 0] (aW [(0, .d (.str x0))] [] [] [] []) =
 aj2 (C48 Γ γ100 γ101) Λ2 J x0 0 := by kernel_rfl
end
abbrev X48 : aP := C48 gG (cT 100 aE) (cT 101 aE)
theorem at3 : X48 = aQ gG := by unfold X48 C48; repeat rw [bB fun _ h => h]
abbrev aCY := aj2 X48 (bP SE gG (SE.hl 48) (SE.hr 48)) (J0 SE X48)
abbrev aDB := avK X48 (bP SE gG (SE.hl 48) (SE.hr 48)) (J0 SE X48)
theorem aet : ∀ (fu : Nat) (x0 : Str) (x3 : Int), Le (Option.map aE (fJ fu x0 x3)) (aCY x0 x3) := by
 intro fu
 induction fu with
 | zero => intros; exact le_none
 | succ fu ih =>
  intro x0 x3
  refine Le.trans ?_ (le_of_eq ((aZ at3).trans (aBo ..)).symm)
  unfold fJ
  refine lC ?_ ?_
  ·refine lF ?_
   refine lQ eX aL (aau _) fun r1 _ => ?_
   refine lC ?_ ?_
   ·refine lF ?_
    refine lQ eX aL (afO _) fun r2 _ => ?_
    refine lC ?_ ?_
    ·refine lF ?_
     refine lC ?_ ?_
     ·exact aJ rfl
     ·exact ih x0 (w6 (x3 + 1))
    ·exact ih x0 (w6 (x3 + 1))
   ·exact ih x0 (w6 (x3 + 1))
  ·exact aJ rfl
theorem aeI (x0 : Str) : Le (Option.map aE (rG x0)) (aDB x0) := by
 refine Le.trans ?_ (le_of_eq ((aZ at3).trans (aBW ..)).symm)
 unfold rG
 exact aet fuel x0 0
theorem kC (p0 : Str) : Le (Option.map aE (gC p0)) (bA SE 48 [.d (.str p0)] [] []) := by
 refine aV at3 rfl ?_
 refine Le.trans ?_ (le_of_eq (T48 ..).symm)
 unfold gC
 refine lC ?_ ?_
 ·exact aJ rfl
 ·refine lC ?_ ?_
  ·exact aJ rfl
  ·refine lF ?_
   refine lQ eX aL (aau _) fun r0 _ => ?_
   refine lC ?_ ?_
   ·exact aJ rfl
   ·exact aeI p0
section
variable (Γ : Fun)  (Λ2 J : Lam)
def C94 : aP := aQ Γ
theorem T94 (p0 p1 : Int) : bF SE (C94 Γ) Λ2 J 94 [.d (.int .i64 p0), .d (.int .i64 p1)] [] [] =
 cond (decide (p0 ≥ 0)) (
 (rB (decide (p0 ≤ p1)))) (
 (rB false)) := by kernel_rfl
end
abbrev X94 : aP := C94 gG
theorem aD5 : X94 = aQ gG := rfl
theorem xR (p0 p1 : Int) : Le (Option.map aE (nI p0 p1)) (bA SE 94 [.d (.int .i64 p0), .d (.int .i64 p1)] [] []) := by
 refine aV aD5 rfl ?_
 refine Le.trans ?_ (le_of_eq (T94 ..).symm)
 unfold nI
 refine lC ?_ ?_
 ·exact aJ rfl
 ·exact aJ rfl
def akr (C : aP) (Λ2 J : Lam) (a0 : List D) : Res := lab SE C Λ2 J 41 0 [1, 1, 1, 0, 0] (aW [(1, .ptr 1000000000 0)] [⟨38, (List.map AV.d a0)⟩] [] [] [])
def aqP (C : aP) (Λ2 J : Lam) (a0 : List D) : Res := lab SE C Λ2 J 41 0 [1, 1, 0, 0] (aW [(1, .ptr 1000000000 0)] [⟨38, (List.map AV.d a0)⟩] [] [] [])
section
variable (Γ : Fun) (γ48 γ94 : Gm (Bool)) (Λ2 J : Lam)
def C41 : aP := aY (aY (aQ Γ) 48 aE γ48) 94 aE γ94
theorem T41 (p0 : aB) : bF SE (C41 Γ γ48 γ94) Λ2 J 41 [aB.av p0] [] [] =
 γ48 [.d (.str p0.Client)] [] [] fun r0 =>
 cond (!r0) (
 (rI 11)) (
 cond (!(p0.User == ([] : Str))) (
 γ48 [.d (.str p0.User)] [] [] fun r1 =>
 cond (!r1) (
  (rI 11)) (
 aqP (C41 Γ γ48 γ94) Λ2 J (aB.enc p0))) (
 aqP (C41 Γ γ48 γ94) Λ2 J (aB.enc p0))) := by kernel_rfl
theorem aBq (b0 : aB) : bT SE (C41 Γ γ48 γ94) Λ2 J 41 0 [1, 1, 1, 0, 0] (aW [(1, .ptr 1000000000 0)] [⟨38, (List.map AV.d (aB.enc b0))⟩] [] [] []) =
 γ94 [.d (.int .i64 b0.Expiry), .d (.int .i64 1099511627776)] [] [] fun r2 =>
 cond (!r2) (
 (rI 1)) (
 γ94 [.d (.int .i64 b0.Until), .d (.int .i64 1099511627776)] [] [] fun r3 =>
 cond (!r3) (
 (rI 1)) (
 γ94 [.d (.int .i64 b0.Dropped), .d (.int .i64 1099511627776)] [] [] fun r4 =>
 cond (!r4) (
 (rI 1)) (
 (rI 0)))) := by kernel_rfl
theorem aDq (b0 : aB) : bT SE (C41 Γ γ48 γ94) Λ2 J 41 0 [1, 1, 0, 0] (aW [(1, .ptr 1000000000 0)] [⟨38, (List.map AV.d (aB.enc b0))⟩] [] [] []) =
 cond (!b0.Online) (
 cond (b0.Conn != 0) (
  (rI 9)) (
 cond b0.Online (
  cond (b0.Until != 0) (
  (rI 9)) (
  akr (C41 Γ γ48 γ94) Λ2 J (aB.enc b0))) (
 akr (C41 Γ γ48 γ94) Λ2 J (aB.enc b0)))) (
 cond b0.Online (
 cond (b0.Until != 0) (
  (rI 9)) (
 akr (C41 Γ γ48 γ94) Λ2 J (aB.enc b0))) (
 akr (C41 Γ γ48 γ94) Λ2 J (aB.enc b0))) := by kernel_rfl
end
abbrev X41 : aP := C41 gG (cT 48 aE) (cT 94 aE)
theorem atG : X41 = aQ gG := by unfold X41 C41; repeat rw [bB fun _ h => h]
abbrev aAP := akr X41 (bP SE gG (SE.hl 41) (SE.hr 41)) (J0 SE X41)
abbrev aCt := aqP X41 (bP SE gG (SE.hl 41) (SE.hr 41)) (J0 SE X41)
theorem n3 (b0 : aB) : Le (Option.map aH (iM b0)) (aAP (aB.enc b0)) := by
 refine Le.trans ?_ (le_of_eq ((aZ atG).trans (aBq ..)).symm)
 unfold iM
 refine lQ eX aL (xR _ _) fun r2 _ => ?_
 refine lC ?_ ?_
 ·exact aJ rfl
 ·refine lQ eX aL (xR _ _) fun r3 _ => ?_
  refine lC ?_ ?_
  ·exact aJ rfl
  ·refine lQ eX aL (xR _ _) fun r4 _ => ?_
   refine lC ?_ ?_
   ·exact aJ rfl
   ·exact aJ rfl
theorem xY (b0 : aB) : Le (Option.map aH (m6 b0)) (aCt (aB.enc b0)) := by
 refine Le.trans ?_ (le_of_eq ((aZ atG).trans (aDq ..)).symm)
 unfold m6
 refine lC ?_ ?_
 ·refine lC ?_ ?_
  ·exact aJ rfl
  ·refine lC ?_ ?_
   ·refine lC ?_ ?_
    ·exact aJ rfl
    ·exact n3 b0
   ·exact n3 b0
 ·refine lC ?_ ?_
  ·refine lC ?_ ?_
   ·exact aJ rfl
   ·exact n3 b0
  ·exact n3 b0
theorem agM (p0 : aB) : Le (Option.map aH (qT p0)) (bA SE 41 [aB.av p0] [] []) := by
 refine aV atG rfl ?_
 refine Le.trans ?_ (le_of_eq (T41 ..).symm)
 unfold qT
 refine lQ eX aL (kC _) fun r0 _ => ?_
 refine lC ?_ ?_
 ·exact aJ rfl
 ·refine lC ?_ ?_
  ·refine lQ eX aL (kC _) fun r1 _ => ?_
   refine lC ?_ ?_
   ·exact aJ rfl
   ·exact xY p0
  ·exact xY p0
section
variable (Γ : Fun)  (Λ2 J : Lam)
def ayB : aP := aQ Γ
theorem aD2 (p0 p1 : Str) : bF SE (ayB Γ) Λ2 J 168 [.d (.str p0), .d (.str p1)] [] [] =
 cond (decide ((List.length p0 : Int) ≥ (List.length p1 : Int))) (
 cond (decide (0 ≤ (List.length p1 : Int)) && decide ((List.length p1 : Int) ≤ ((List.length p0) : Int))) (
  (rB ((bQ p0 none (some (List.length p1 : Int))) == p1))) none) (
 (rB false)) := by kernel_rfl
end
abbrev aEr : aP := ayB gG
theorem aCV : aEr = aQ gG := rfl
theorem tR (p0 p1 : Str) : Le (Option.map aE (kY p0 p1)) (bA SE 168 [.d (.str p0), .d (.str p1)] [] []) := by
 refine aV aCV rfl ?_
 refine Le.trans ?_ (le_of_eq (aD2 ..).symm)
 unfold kY
 refine lC ?_ ?_
 ·refine lF ?_
  exact aJ rfl
 ·exact aJ rfl
def arI (C : aP) (Λ2 J : Lam) (a0 : Str) (a1 a2 : Int) : Res := lab SE C Λ2 J 99 0 [1, 0, 1, 0] (aW [(0, .d (.str a0)), (1, .d (.int .u8 a1)), (5, .d (.int .i64 a2))] [] [] [] [])
section
variable (Γ : Fun)  (Λ2 J : Lam)
def C99 : aP := aQ Γ
theorem T99 (p0 : Str) (p1 : Int) : bF SE (C99 Γ) Λ2 J 99 [.d (.str p0), .d (.int .u8 p1)] [] [] =
 arI (C99 Γ) Λ2 J p0 p1 0 := by kernel_rfl
theorem aA3 (x0 : Str) (x1 x5 : Int) : bT SE (C99 Γ) Λ2 J 99 0 [1, 0, 1, 0] (aW [(0, .d (.str x0)), (1, .d (.int .u8 x1)), (5, .d (.int .i64 x5))] [] [] [] []) =
 cond (decide (x5 < (List.length x0 : Int))) (
 cond (iB x5 (List.length x0 : Int)) (
  cond ((UInt8.toNat (List.getD x0 (Int.toNat x5) 0) : Int) == x1) (
  (rB true)) (
  arI (C99 Γ) Λ2 J x0 x1 (w6 (x5 + 1)))) none) (
 (rB false)) := by kernel_rfl
end
abbrev X99 : aP := C99 gG
theorem aw5 : X99 = aQ gG := rfl
abbrev aBf := arI X99 (bP SE gG (SE.hl 99) (SE.hr 99)) (J0 SE X99)
theorem ae8 : ∀ (fu : Nat) (x0 : Str) (x1 x5 : Int), Le (Option.map aE (jJ fu x0 x1 x5)) (aBf x0 x1 x5) := by
 intro fu
 induction fu with
 | zero => intros; exact le_none
 | succ fu ih =>
  intro x0 x1 x5
  refine Le.trans ?_ (le_of_eq ((aZ aw5).trans (aA3 ..)).symm)
  unfold jJ
  refine lC ?_ ?_
  ·refine lF ?_
   refine lC ?_ ?_
   ·exact aJ rfl
   ·exact ih x0 x1 (w6 (x5 + 1))
  ·exact aJ rfl
theorem oA (p0 : Str) (p1 : Int) : Le (Option.map aE (iY p0 p1)) (bA SE 99 [.d (.str p0), .d (.int .u8 p1)] [] []) := by
 refine aV aw5 rfl ?_
 refine Le.trans ?_ (le_of_eq (T99 ..).symm)
 unfold iY
 exact ae8 fuel p0 p1 0
def aks (C : aP) (Λ2 J : Lam) (a0 : Str) (a1 a2 : Int) (a3 : List (List D)) : Res := lab SE C Λ2 J 150 0 [1, 1, 1, 0, 1, 0] (aW [(0, .d (.str a0)), (3, .row 3003), (4, .d (.int .i64 a1)), (5, .d (.int .i64 a2))] [] [] [] [(3003, ⟨[.str], 9, 16, a3⟩)])
section
variable (Γ : Fun)  (Λ2 J : Lam)
def alS : aP := aQ Γ
theorem aFs (p0 : Str) : bF SE (alS Γ) Λ2 J 150 [.d (.str p0)] [] [] =
 aks (alS Γ) Λ2 J p0 0 0 (List.map bL []) := by kernel_rfl
theorem ayu (x0 : Str) (x4 x5 : Int) (w3003 : List Str) : bT SE (alS Γ) Λ2 J 150 0 [1, 1, 1, 0, 1, 0] (aW [(0, .d (.str x0)), (3, .row 3003), (4, .d (.int .i64 x4)), (5, .d (.int .i64 x5))] [] [] [] [(3003, ⟨[.str], 9, 16, (List.map bL w3003)⟩)]) =
 cond (decide (x5 < (List.length x0 : Int))) (
 cond (iB x5 (List.length x0 : Int)) (
  cond ((UInt8.toNat (List.getD x0 (Int.toNat x5) 0) : Int) == 47) (
  cond (decide (0 ≤ x5) && decide (x5 ≤ ((List.length x0) : Int))) (
   cond (decide (0 ≤ x4) && decide (x4 ≤ x5)) (
   cond (decide ((lM bL w3003 + lM bL [(bQ x0 (some x4) (some x5))]) * 16 ≤ 140737488355328)) (
    aks (alS Γ) Λ2 J x0 (w6 (x5 + 1)) (w6 (x5 + 1)) (((List.map bL w3003) ++ (List.map bL [(bQ x0 (some x4) (some x5))])))) none) none) none) (
  aks (alS Γ) Λ2 J x0 x4 (w6 (x5 + 1)) (List.map bL w3003))) none) (
 cond (decide (0 ≤ x4) && decide (x4 ≤ ((List.length x0) : Int))) (
 cond (decide ((lM bL w3003 + lM bL [(bQ x0 (some x4) none)]) * 16 ≤ 140737488355328)) (
  (some (.ret [.row 0] [] [⟨[.str], 9, 16, ((List.map bL w3003) ++ (List.map bL [(bQ x0 (some x4) none)]))⟩]))) none) none) := by kernel_rfl
end
abbrev atw : aP := alS gG
theorem avn : atw = aQ gG := rfl
abbrev ayR := aks atw (bP SE gG (SE.hl 150) (SE.hr 150)) (J0 SE atw)
theorem acX : ∀ (fu : Nat) (x0 : Str) (x4 x5 : Int) (w3003 : List Str), Le (Option.map dO (fR fu x0 x4 x5 w3003)) (ayR x0 x4 x5 (List.map bL w3003)) := by
 intro fu
 induction fu with
 | zero => intros; exact le_none
 | succ fu ih =>
  intro x0 x4 x5 w3003
  refine Le.trans ?_ (le_of_eq ((aZ avn).trans (ayu ..)).symm)
  unfold fR
  refine lC ?_ ?_
  ·refine lF ?_
   refine lC ?_ ?_
   ·refine lF ?_
    refine lF ?_
    refine lG (by simp only [EN]) ?_
    (try simp only [EN]); exact ih x0 (w6 (x5 + 1)) (w6 (x5 + 1)) ((w3003 ++ [(bQ x0 (some x4) (some x5))]))
   ·exact ih x0 x4 (w6 (x5 + 1)) w3003
  ·refine lF ?_
   refine lG (by simp only [EN]) ?_
   exact aJ (by first | rfl | simp only [EN, dO] <;> rfl)
theorem y8 (p0 : Str) : Le (Option.map dO (n5 p0)) (bA SE 150 [.d (.str p0)] [] []) := by
 refine aV avn rfl ?_
 refine Le.trans ?_ (le_of_eq (aFs ..).symm)
 unfold n5
 (try simp only [EN]); exact acX fuel p0 0 0 []
section
variable (Γ : Fun) (γ99 : Gm (Bool)) (γ150 : Gm ((List Str))) (Λ2 J : Lam)
def C98 : aP := aY (aY (aQ Γ) 99 aE γ99) 150 dO γ150
theorem T98 (p0 : Str) : bF SE (C98 Γ γ99 γ150) Λ2 J 98 [.d (.str p0)] [] [] =
 cond (decide ((List.length p0 : Int) ≥ 1)) (
 cond (decide ((List.length p0 : Int) ≤ 64)) (
  γ99 [.d (.str p0), .d (.int .u8 0)] [] [] fun r0 =>
  cond (!r0) (
  γ150 [.d (.str p0)] [] [] fun r1 =>
  (rB (decide ((lM bL r1 : Int) ≤ 8)))) (
  (rB false))) (
 (rB false))) (
 (rB false)) := by kernel_rfl
end
abbrev X98 : aP := C98 gG (cT 99 aE) (cT 150 dO)
theorem aFX : X98 = aQ gG := by unfold X98 C98; repeat rw [bB fun _ h => h]
theorem aar (p0 : Str) : Le (Option.map aE (mK p0)) (bA SE 98 [.d (.str p0)] [] []) := by
 refine aV aFX rfl ?_
 refine Le.trans ?_ (le_of_eq (T98 ..).symm)
 unfold mK
 refine lC ?_ ?_
 ·refine lC ?_ ?_
  ·refine lQ eX aL (oA _ _) fun r0 _ => ?_
   refine lC ?_ ?_
   ·refine lQ eX yF (y8 _) fun r1 _ => ?_
    exact aJ (by first | rfl | simp only [EN, aE] <;> rfl)
   ·exact aJ rfl
  ·exact aJ rfl
 ·exact aJ rfl
def apn (C : aP) (Λ2 J : Lam) (a0 : Int) (a1 : List (List D)) : Res := lab SE C Λ2 J 167 0 [1, 1, 1, 0, 1, 0, 0, 1, 0, 0, 1, 0] (aW [(3, .row 3003), (4, .d (.int .i64 a0))] [] [] [] [(3003, ⟨[.str], 9, 16, a1⟩)])
def akm (C : aP) (Λ2 J : Lam) (a0 : Int) (a1 : List (List D)) : Res := lab SE C Λ2 J 167 0 [1, 1, 1, 0, 1, 0] (aW [(3, .row 3003), (4, .d (.int .i64 a0))] [] [] [] [(3003, ⟨[.str], 9, 16, a1⟩)])
section
variable (Γ : Fun) (γ98 : Gm (Bool)) (γ150 : Gm ((List Str))) (γ99 : Gm (Bool)) (Λ2 J : Lam)
def aeB : aP := aY (aY (aY (aQ Γ) 98 aE γ98) 150 dO γ150) 99 aE γ99
theorem aEu (p0 : Str) : bF SE (aeB Γ γ98 γ150 γ99) Λ2 J 167 [.d (.str p0)] [] [] =
 γ98 [.d (.str p0)] [] [] fun r0 =>
 cond (!r0) (
 (rB false)) (
 γ150 [.d (.str p0)] [] [] fun r1 =>
 akm (aeB Γ γ98 γ150 γ99) Λ2 J 0 (List.map bL r1)) := by kernel_rfl
theorem axY (x4 : Int) (w3003 : List Str) : bT SE (aeB Γ γ98 γ150 γ99) Λ2 J 167 0 [1, 1, 1, 0, 1, 0, 0, 1, 0, 0, 1, 0] (aW [(3, .row 3003), (4, .d (.int .i64 x4))] [] [] [] [(3003, ⟨[.str], 9, 16, (List.map bL w3003)⟩)]) =
 cond (iB x4 (lM bL w3003 : Int)) (
 γ99 [.d (.str (bC (cE bL w3003 x4 0))), .d (.int .u8 35)] [] [] fun r3 =>
 cond r3 (
  cond (iB x4 (lM bL w3003 : Int)) (
  cond (!((bC (cE bL w3003 x4 0)) == ([35] : Str))) (
   (rB false)) (
  cond (x4 != (w6 ((lM bL w3003 : Int) - 1))) (
   (rB false)) (
  akm (aeB Γ γ98 γ150 γ99) Λ2 J (w6 (x4 + 1)) (List.map bL w3003)))) none) (
 akm (aeB Γ γ98 γ150 γ99) Λ2 J (w6 (x4 + 1)) (List.map bL w3003))) none := by kernel_rfl
theorem azN (x4 : Int) (w3003 : List Str) : bT SE (aeB Γ γ98 γ150 γ99) Λ2 J 167 0 [1, 1, 1, 0, 1, 0] (aW [(3, .row 3003), (4, .d (.int .i64 x4))] [] [] [] [(3003, ⟨[.str], 9, 16, (List.map bL w3003)⟩)]) =
 cond (decide (x4 < (lM bL w3003 : Int))) (
 cond (iB x4 (lM bL w3003 : Int)) (
  γ99 [.d (.str (bC (cE bL w3003 x4 0))), .d (.int .u8 43)] [] [] fun r2 =>
  cond r2 (
  cond (iB x4 (lM bL w3003 : Int)) (
   cond (!((bC (cE bL w3003 x4 0)) == ([43] : Str))) (
   (rB false)) (
   apn (aeB Γ γ98 γ150 γ99) Λ2 J x4 (List.map bL w3003))) none) (
  apn (aeB Γ γ98 γ150 γ99) Λ2 J x4 (List.map bL w3003))) none) (
 (rB true)) := by kernel_rfl
end
abbrev alk : aP := aeB gG (cT 98 aE) (cT 150 dO) (cT 99 aE)
theorem arA : alk = aQ gG := by unfold alk aeB; repeat rw [bB fun _ h => h]
abbrev axk := apn alk (bP SE gG (SE.hl 167) (SE.hr 167)) (J0 SE alk)
abbrev arW := akm alk (bP SE gG (SE.hl 167) (SE.hr 167)) (J0 SE alk)
theorem wA (k5 : Int → (List Str) → Option (Bool)) (hk5 : ∀ (x4 : Int) (w3003 : List Str), Le (Option.map aE (k5 x4 w3003)) (arW x4 (List.map bL w3003))) (x4 : Int) (w3003 : List Str) : Le (Option.map aE (jC k5 x4 w3003)) (axk x4 (List.map bL w3003)) := by
 refine Le.trans ?_ (le_of_eq ((aZ arA).trans (axY ..)).symm)
 unfold jC
 refine lG (by simp only [EN]) ?_
 refine lQ eX aL (by (try simp only [EN]); exact oA (List.getD w3003 (Int.toNat x4) default) 35) fun r3 _ => ?_
 refine lC ?_ ?_
 ·refine lG (by simp only [EN]) ?_
  refine lD (by simp only [EN]) ?_ ?_
  ·exact aJ rfl
  ·refine lD (by simp only [EN]) ?_ ?_
   ·exact aJ rfl
   ·exact hk5 (w6 (x4 + 1)) w3003
 ·exact hk5 (w6 (x4 + 1)) w3003
theorem acT : ∀ (fu : Nat) (x4 : Int) (w3003 : List Str), Le (Option.map aE (fN fu x4 w3003)) (arW x4 (List.map bL w3003)) := by
 intro fu
 induction fu with
 | zero => intros; exact le_none
 | succ fu ih =>
  intro x4 w3003
  refine Le.trans ?_ (le_of_eq ((aZ arA).trans (azN ..)).symm)
  unfold fN
  refine lD (by simp only [EN]) ?_ ?_
  ·refine lG (by simp only [EN]) ?_
   refine lQ eX aL (by (try simp only [EN]); exact oA (List.getD w3003 (Int.toNat x4) default) 43) fun r2 _ => ?_
   refine lC ?_ ?_
   ·refine lG (by simp only [EN]) ?_
    refine lD (by simp only [EN]) ?_ ?_
    ·exact aJ rfl
    ·exact wA _ (ih) x4 w3003
   ·exact wA _ (ih) x4 w3003
  ·exact aJ rfl
theorem zE (p0 : Str) : Le (Option.map aE (kW p0)) (bA SE 167 [.d (.str p0)] [] []) := by
 refine aV arA rfl ?_
 refine Le.trans ?_ (le_of_eq (aEu ..).symm)
 unfold kW
 refine lQ eX aL (aar _) fun r0 _ => ?_
 refine lC ?_ ?_
 ·exact aJ rfl
 ·refine lQ eX yF (y8 _) fun r1 _ => ?_
  exact acT fuel 0 r1
def asY (C : aP) (Λ2 J : Lam) (a0 : Str) (a1 : Int) : Res := lab SE C Λ2 J 166 0 [1, 1, 1, 1, 1, 1, 0] (aW [(5, .d (.str a0)), (6, .d (.int .i64 a1))] [] [] [] [])
def aok (C : aP) (Λ2 J : Lam) (a0 : Str) (a1 : Int) : Res := lab SE C Λ2 J 166 0 [1, 1, 1, 1, 1, 0, 0] (aW [(5, .d (.str a0)), (6, .d (.int .i64 a1))] [] [] [] [])
def ao2 (C : aP) (Λ2 J : Lam) (a0 : Str) (a1 : Int) : Res := lab SE C Λ2 J 166 0 [1, 1, 1, 1, 0, 0] (aW [(5, .d (.str a0)), (6, .d (.int .i64 a1))] [] [] [] [])
section
variable (Γ : Fun) (γ168 γ48 γ167 : Gm (Bool)) (Λ2 J : Lam)
def ac8 : aP := aY (aY (aY (aQ Γ) 168 aE γ168) 48 aE γ48) 167 aE γ167
theorem aDS (p0 : Str) : bF SE (ac8 Γ γ168 γ48 γ167) Λ2 J 166 [.d (.str p0)] [] [] =
 γ168 [.d (.str p0), .d (.str ([36, 115, 104, 97, 114, 101, 47] : Str))] [] [] fun r0 =>
 cond (!r0) (
 (some (.ret [.d (.str []), .d (.str []), .d (.bool false)] [] []))) (
 cond (decide (0 ≤ 7) && decide (7 ≤ ((List.length p0) : Int))) (
 ao2 (ac8 Γ γ168 γ48 γ167) Λ2 J (bQ p0 (some 7) none) 0) none) := by kernel_rfl
theorem ayA (x5 : Str) (x6 : Int) : bT SE (ac8 Γ γ168 γ48 γ167) Λ2 J 166 0 [1, 1, 1, 1, 1, 1, 0] (aW [(5, .d (.str x5)), (6, .d (.int .i64 x6))] [] [] [] []) =
 cond (decide (0 ≤ x6) && decide (x6 ≤ ((List.length x5) : Int))) (
 cond (decide (0 ≤ (w6 (x6 + 1))) && decide ((w6 (x6 + 1)) ≤ ((List.length x5) : Int))) (
  (some (.ret [.d (.str (bQ x5 none (some x6))), .d (.str (bQ x5 (some (w6 (x6 + 1))) none)), .d (.bool true)] [] []))) none) none := by kernel_rfl
theorem azZ (x5 : Str) (x6 : Int) : bT SE (ac8 Γ γ168 γ48 γ167) Λ2 J 166 0 [1, 1, 1, 1, 1, 0, 0] (aW [(5, .d (.str x5)), (6, .d (.int .i64 x6))] [] [] [] []) =
 cond (x6 == (List.length x5 : Int)) (
 (some (.ret [.d (.str []), .d (.str []), .d (.bool false)] [] []))) (
 cond (decide (0 ≤ x6) && decide (x6 ≤ ((List.length x5) : Int))) (
 γ48 [.d (.str (bQ x5 none (some x6)))] [] [] fun r1 =>
 cond (!r1) (
  (some (.ret [.d (.str []), .d (.str []), .d (.bool false)] [] []))) (
 cond (decide (0 ≤ (w6 (x6 + 1))) && decide ((w6 (x6 + 1)) ≤ ((List.length x5) : Int))) (
  γ167 [.d (.str (bQ x5 (some (w6 (x6 + 1))) none))] [] [] fun r2 =>
  cond (!r2) (
  (some (.ret [.d (.str []), .d (.str []), .d (.bool false)] [] []))) (
  cond (decide (0 ≤ (w6 (x6 + 1))) && decide ((w6 (x6 + 1)) ≤ ((List.length x5) : Int))) (
  γ168 [.d (.str (bQ x5 (some (w6 (x6 + 1))) none)), .d (.str ([36, 115, 104, 97, 114, 101, 47] : Str))] [] [] fun r3 =>
  cond r3 (
   (some (.ret [.d (.str []), .d (.str []), .d (.bool false)] [] []))) (
  asY (ac8 Γ γ168 γ48 γ167) Λ2 J x5 x6)) none)) none)) none) := by kernel_rfl
theorem axZ (x5 : Str) (x6 : Int) : bT SE (ac8 Γ γ168 γ48 γ167) Λ2 J 166 0 [1, 1, 1, 1, 0, 0] (aW [(5, .d (.str x5)), (6, .d (.int .i64 x6))] [] [] [] []) =
 cond (decide (x6 < (List.length x5 : Int))) (
 cond (iB x6 (List.length x5 : Int)) (
  cond ((UInt8.toNat (List.getD x5 (Int.toNat x6) 0) : Int) != 47) (
  ao2 (ac8 Γ γ168 γ48 γ167) Λ2 J x5 (w6 (x6 + 1))) (
  aok (ac8 Γ γ168 γ48 γ167) Λ2 J x5 x6)) none) (
 aok (ac8 Γ γ168 γ48 γ167) Λ2 J x5 x6) := by kernel_rfl
end
abbrev ahd : aP := ac8 gG (cT 168 aE) (cT 48 aE) (cT 167 aE)
theorem ana : ahd = aQ gG := by unfold ahd ac8; repeat rw [bB fun _ h => h]
abbrev ayW := asY ahd (bP SE gG (SE.hl 166) (SE.hr 166)) (J0 SE ahd)
abbrev azC := aok ahd (bP SE gG (SE.hl 166) (SE.hr 166)) (J0 SE ahd)
abbrev axx := ao2 ahd (bP SE gG (SE.hl 166) (SE.hr 166)) (J0 SE ahd)
theorem acA (x5 : Str) (x6 : Int) : Le (Option.map bO (oL x5 x6)) (ayW x5 x6) := by
 refine Le.trans ?_ (le_of_eq ((aZ ana).trans (ayA ..)).symm)
 unfold oL
 refine lF ?_
 refine lF ?_
 exact aJ rfl
theorem v7 (x5 : Str) (x6 : Int) : Le (Option.map bO (jB x5 x6)) (azC x5 x6) := by
 refine Le.trans ?_ (le_of_eq ((aZ ana).trans (azZ ..)).symm)
 unfold jB
 refine lC ?_ ?_
 ·exact aJ rfl
 ·refine lF ?_
  refine lQ eX aL (kC _) fun r1 _ => ?_
  refine lC ?_ ?_
  ·exact aJ rfl
  ·refine lF ?_
   refine lQ eX aL (zE _) fun r2 _ => ?_
   refine lC ?_ ?_
   ·exact aJ rfl
   ·refine lF ?_
    refine lQ eX aL (tR _ _) fun r3 _ => ?_
    refine lC ?_ ?_
    ·exact aJ rfl
    ·exact acA x5 x6
theorem ac2 : ∀ (fu : Nat) (x5 : Str) (x6 : Int), Le (Option.map bO (gQ fu x5 x6)) (axx x5 x6) := by
 intro fu
 induction fu with
 | zero => intros; exact le_none
 | succ fu ih =>
  intro x5 x6
  refine Le.trans ?_ (le_of_eq ((aZ ana).trans (axZ ..)).symm)
  unfold gQ
  refine lC ?_ ?_
  ·refine lF ?_
   refine lC ?_ ?_
   ·exact ih x5 (w6 (x6 + 1))
   ·exact v7 x5 x6
  ·exact v7 x5 x6
theorem tJ (p0 : Str) : Le (Option.map bO (jL p0)) (bA SE 166 [.d (.str p0)] [] []) := by
 refine aV ana rfl ?_
 refine Le.trans ?_ (le_of_eq (aDS ..).symm)
 unfold jL
 refine lQ eX aL (tR _ _) fun r0 _ => ?_
 refine lC ?_ ?_
 ·exact aJ rfl
 ·refine lF ?_
  exact ac2 fuel (bQ p0 (some 7) none) 0
section
variable (Γ : Fun) (γ166 : Gm (Str × Str × Bool)) (γ167 γ168 : Gm (Bool)) (Λ2 J : Lam)
def atD : aP := aY (aY (aY (aQ Γ) 166 bO γ166) 167 aE γ167) 168 aE γ168
theorem aE1 (p0 : Str) : bF SE (atD Γ γ166 γ167 γ168) Λ2 J 133 [.d (.str p0)] [] [] =
 γ166 [.d (.str p0)] [] [] fun r0 =>
 cond r0.2.2 (
 (rB true)) (
 γ167 [.d (.str p0)] [] [] fun r1 =>
 cond r1 (
 γ168 [.d (.str p0), .d (.str ([36, 115, 104, 97, 114, 101, 47] : Str))] [] [] fun r2 =>
 (rB (!r2))) (
 (rB false))) := by kernel_rfl
end
abbrev axV : aP := atD gG (cT 166 bO) (cT 167 aE) (cT 168 aE)
theorem aBT : axV = aQ gG := by unfold axV atD; repeat rw [bB fun _ h => h]
theorem tC (p0 : Str) : Le (Option.map aE (jO p0)) (bA SE 133 [.d (.str p0)] [] []) := by
 refine aV aBT rfl ?_
 refine Le.trans ?_ (le_of_eq (aE1 ..).symm)
 unfold jO
 refine lQ eX iD (tJ _) fun r0 _ => ?_
 refine lC ?_ ?_
 ·exact aJ rfl
 ·refine lQ eX aL (zE _) fun r1 _ => ?_
  refine lC ?_ ?_
  ·refine lQ eX aL (tR _ _) fun r2 _ => ?_
   exact aJ rfl
  ·exact aJ rfl
section
variable (Γ : Fun)  (Λ2 J : Lam)
def aw3 : aP := aQ Γ
theorem aEB (p0 : Int) : bF SE (aw3 Γ) Λ2 J 134 [.d (.int .i64 p0)] [] [] =
 cond (p0 == 0) (
 (rB true)) (
 cond (p0 == 1) (
 (rB true)) (
 (rB (p0 == 2)))) := by kernel_rfl
end
abbrev aF3 : aP := aw3 gG
theorem aCW : aF3 = aQ gG := rfl
theorem agl (p0 : Int) : Le (Option.map aE (o6 p0)) (bA SE 134 [.d (.int .i64 p0)] [] []) := by
 refine aV aCW rfl ?_
 refine Le.trans ?_ (le_of_eq (aEB ..).symm)
 unfold o6
 refine lC ?_ ?_
 ·exact aJ rfl
 ·refine lC ?_ ?_
  ·exact aJ rfl
  ·exact aJ rfl
section
variable (Γ : Fun) (γ166 : Gm (Str × Str × Bool)) (Λ2 J : Lam)
def atg : aP := aY (aQ Γ) 166 bO γ166
theorem aEz (p0 : Str) : bF SE (atg Γ γ166) Λ2 J 135 [.d (.str p0)] [] [] =
 γ166 [.d (.str p0)] [] [] fun r0 =>
 (rB r0.2.2) := by kernel_rfl
end
abbrev aAa : aP := atg gG (cT 166 bO)
theorem aBM : aAa = aQ gG := by unfold aAa atg; rw [bB fun _ h => h]
theorem afc (p0 : Str) : Le (Option.map aE (rZ p0)) (bA SE 135 [.d (.str p0)] [] []) := by
 refine aV aBM rfl ?_
 refine Le.trans ?_ (le_of_eq (aEz ..).symm)
 unfold rZ
 refine lQ eX iD (tJ _) fun r0 _ => ?_
 exact aJ rfl
section
variable (Γ : Fun) (γ133 γ134 γ135 : Gm (Bool)) (Λ2 J : Lam)
def C69 : aP := aY (aY (aY (aQ Γ) 133 aE γ133) 134 aE γ134) 135 aE γ135
theorem T69 (p0 : aF) : bF SE (C69 Γ γ133 γ134 γ135) Λ2 J 69 [aF.av p0] [] [] =
 γ133 [.d (.str p0.Filter)] [] [] fun r0 =>
 cond (!r0) (
 (rI 13)) (
 γ134 [.d (.int .i64 p0.Level)] [] [] fun r1 =>
 cond (!r1) (
 (rI 14)) (
 cond p0.NoLocal (
 γ135 [.d (.str p0.Filter)] [] [] fun r2 =>
 cond r2 (
  (rI 28)) (
 (rI 0))) (
 (rI 0)))) := by kernel_rfl
end
abbrev X69 : aP := C69 gG (cT 133 aE) (cT 134 aE) (cT 135 aE)
theorem aFZ : X69 = aQ gG := by unfold X69 C69; repeat rw [bB fun _ h => h]
theorem abr (p0 : aF) : Le (Option.map aH (oK p0)) (bA SE 69 [aF.av p0] [] []) := by
 refine aV aFZ rfl ?_
 refine Le.trans ?_ (le_of_eq (T69 ..).symm)
 unfold oK
 refine lQ eX aL (tC _) fun r0 _ => ?_
 refine lC ?_ ?_
 ·exact aJ rfl
 ·refine lQ eX aL (agl _) fun r1 _ => ?_
  refine lC ?_ ?_
  ·exact aJ rfl
  ·refine lC ?_ ?_
   ·refine lQ eX aL (afc _) fun r2 _ => ?_
    refine lC ?_ ?_
    ·exact aJ rfl
    ·exact aJ rfl
   ·exact aJ rfl
def am4 (C : aP) (Λ2 J : Lam) (a0 : List (List D)) (a1 : Int) : Res := lab SE C Λ2 J 42 0 [1, 1, 0, 1, 0] (aW [(0, .d (.sl aF.ks a0)), (3, .d (.int .i64 a1))] [] [] [] [])
section
variable (Γ : Fun) (γ69 : Gm (Int)) (Λ2 J : Lam)
def C42 : aP := aY (aQ Γ) 69 aH γ69
theorem T42 (p0 : List aF) : bF SE (C42 Γ γ69) Λ2 J 42 [.d (.sl aF.ks (List.map aF.enc p0))] [] [] =
 cond (decide ((lM aF.enc p0 : Int) > 32)) (
 (rI 5)) (
 am4 (C42 Γ γ69) Λ2 J (List.map aF.enc p0) 0) := by kernel_rfl
theorem aBh (x0 : List aF) (x3 : Int) : bT SE (C42 Γ γ69) Λ2 J 42 0 [1, 1, 0, 1, 0] (aW [(0, .d (.sl aF.ks (List.map aF.enc x0))), (3, .d (.int .i64 x3))] [] [] [] []) =
 cond (decide (x3 < (lM aF.enc x0 : Int))) (
 cond (iB x3 (lM aF.enc x0 : Int)) (
  γ69 [.agg [.d (.str (bC (cE aF.enc x0 x3 0))), .d (.int .i64 (aR (cE aF.enc x0 x3 1))), .d (.bool (bM (cE aF.enc x0 x3 2)))]] [] [] fun r0 =>
  cond (r0 != 0) (
  (rI r0)) (
  cond (decide (x3 > 0)) (
  cond (iB x3 (lM aF.enc x0 : Int)) (
   cond (iB (w6 (x3 - 1)) (lM aF.enc x0 : Int)) (
   cond (Op.bytesLess (bC (cE aF.enc x0 x3 0)) (bC (cE aF.enc x0 (w6 (x3 - 1)) 0)) || (bC (cE aF.enc x0 x3 0)) == (bC (cE aF.enc x0 (w6 (x3 - 1)) 0))) (
    (rI 22)) (
   am4 (C42 Γ γ69) Λ2 J (List.map aF.enc x0) (w6 (x3 + 1)))) none) none) (
  am4 (C42 Γ γ69) Λ2 J (List.map aF.enc x0) (w6 (x3 + 1))))) none) (
 (rI 0)) := by kernel_rfl
end
abbrev X42 : aP := C42 gG (cT 69 aH)
theorem axD : X42 = aQ gG := by unfold X42 C42; rw [bB fun _ h => h]
abbrev aBn := am4 X42 (bP SE gG (SE.hl 42) (SE.hr 42)) (J0 SE X42)
theorem aeC : ∀ (fu : Nat) (x0 : List aF) (x3 : Int), Le (Option.map aH (gL fu x0 x3)) (aBn (List.map aF.enc x0) x3) := by
 intro fu
 induction fu with
 | zero => intros; exact le_none
 | succ fu ih =>
  intro x0 x3
  refine Le.trans ?_ (le_of_eq ((aZ axD).trans (aBh ..)).symm)
  unfold gL
  refine lD (by simp only [EN]) ?_ ?_
  ·refine lG (by simp only [EN]) ?_
   refine lQ eX aS (by (try simp only [EN]); exact abr (List.getD x0 (Int.toNat x3) default)) fun r0 _ => ?_
   refine lC ?_ ?_
   ·exact aJ rfl
   ·refine lC ?_ ?_
    ·refine lG (by simp only [EN]) ?_
     refine lG (by simp only [EN]) ?_
     refine lD (by simp only [EN]) ?_ ?_
     ·exact aJ rfl
     ·exact ih x0 (w6 (x3 + 1))
    ·exact ih x0 (w6 (x3 + 1))
  ·exact aJ rfl
theorem agT (p0 : List aF) : Le (Option.map aH (qS p0)) (bA SE 42 [.d (.sl aF.ks (List.map aF.enc p0))] [] []) := by
 refine aV axD rfl ?_
 refine Le.trans ?_ (le_of_eq (T42 ..).symm)
 unfold qS
 refine lD (by simp only [EN]) ?_ ?_
 ·exact aJ rfl
 ·exact aeC fuel p0 0
section
variable (Γ : Fun) (γ98 γ99 : Gm (Bool)) (Λ2 J : Lam)
def C47 : aP := aY (aY (aQ Γ) 98 aE γ98) 99 aE γ99
theorem T47 (p0 : Str) : bF SE (C47 Γ γ98 γ99) Λ2 J 47 [.d (.str p0)] [] [] =
 γ98 [.d (.str p0)] [] [] fun r0 =>
 cond r0 (
 γ99 [.d (.str p0), .d (.int .u8 43)] [] [] fun r1 =>
 cond (!r1) (
  γ99 [.d (.str p0), .d (.int .u8 35)] [] [] fun r2 =>
  (rB (!r2))) (
 (rB false))) (
 (rB false)) := by kernel_rfl
end
abbrev X47 : aP := C47 gG (cT 98 aE) (cT 99 aE)
theorem aGr : X47 = aQ gG := by unfold X47 C47; repeat rw [bB fun _ h => h]
theorem ags (p0 : Str) : Le (Option.map aE (oZ p0)) (bA SE 47 [.d (.str p0)] [] []) := by
 refine aV aGr rfl ?_
 refine Le.trans ?_ (le_of_eq (T47 ..).symm)
 unfold oZ
 refine lQ eX aL (aar _) fun r0 _ => ?_
 refine lC ?_ ?_
 ·refine lQ eX aL (oA _ _) fun r1 _ => ?_
  refine lC ?_ ?_
  ·refine lQ eX aL (oA _ _) fun r2 _ => ?_
   exact aJ rfl
  ·exact aJ rfl
 ·exact aJ rfl
def aac (C : aP) (Λ2 J : Lam) (a0 : Str) (a1 : Int) : Res := lab SE C Λ2 J 102 0 [1, 1, 0, 1, 0] (aW [(0, .d (.str a0)), (3, .d (.int .i64 a1))] [] [] [] [])
def ar6 (C : aP) (Λ2 J : Lam) (a0 : Str) : Res := lab SE C Λ2 J 102 0 [1, 1, 0, 0] (aW [(0, .d (.str a0))] [] [] [] [])
section
variable (Γ : Fun)  (Λ2 J : Lam)
def aa6 : aP := aQ Γ
theorem aFa (p0 : Str) : bF SE (aa6 Γ) Λ2 J 102 [.d (.str p0)] [] [] =
 cond (decide ((List.length p0 : Int) < 1)) (
 (rB false)) (
 cond (decide ((List.length p0 : Int) > 16)) (
 (rB false)) (
 ar6 (aa6 Γ) Λ2 J p0)) := by kernel_rfl
theorem awN (x0 : Str) (x3 : Int) : bT SE (aa6 Γ) Λ2 J 102 0 [1, 1, 0, 1, 0] (aW [(0, .d (.str x0)), (3, .d (.int .i64 x3))] [] [] [] []) =
 cond (decide (x3 < (List.length x0 : Int))) (
 cond (iB x3 (List.length x0 : Int)) (
  cond (decide ((UInt8.toNat (List.getD x0 (Int.toNat x3) 0) : Int) ≥ 97)) (
  cond (!(decide ((UInt8.toNat (List.getD x0 (Int.toNat x3) 0) : Int) ≤ 122))) (
   cond (decide ((UInt8.toNat (List.getD x0 (Int.toNat x3) 0) : Int) ≥ 48)) (
   cond (!(decide ((UInt8.toNat (List.getD x0 (Int.toNat x3) 0) : Int) ≤ 57))) (
    cond ((UInt8.toNat (List.getD x0 (Int.toNat x3) 0) : Int) != 45) (
    (rB false)) (
    aac (aa6 Γ) Λ2 J x0 (w6 (x3 + 1)))) (
   aac (aa6 Γ) Λ2 J x0 (w6 (x3 + 1)))) (
   cond ((UInt8.toNat (List.getD x0 (Int.toNat x3) 0) : Int) != 45) (
   (rB false)) (
   aac (aa6 Γ) Λ2 J x0 (w6 (x3 + 1))))) (
  aac (aa6 Γ) Λ2 J x0 (w6 (x3 + 1)))) (
  cond (decide ((UInt8.toNat (List.getD x0 (Int.toNat x3) 0) : Int) ≥ 48)) (
  cond (!(decide ((UInt8.toNat (List.getD x0 (Int.toNat x3) 0) : Int) ≤ 57))) (
   cond ((UInt8.toNat (List.getD x0 (Int.toNat x3) 0) : Int) != 45) (
   (rB false)) (
   aac (aa6 Γ) Λ2 J x0 (w6 (x3 + 1)))) (
  aac (aa6 Γ) Λ2 J x0 (w6 (x3 + 1)))) (
  cond ((UInt8.toNat (List.getD x0 (Int.toNat x3) 0) : Int) != 45) (
  (rB false)) (
  aac (aa6 Γ) Λ2 J x0 (w6 (x3 + 1)))))) none) (
 (rB true)) := by kernel_rfl
theorem az2 (x0 : Str) : bT SE (aa6 Γ) Λ2 J 102 0 [1, 1, 0, 0] (aW [(0, .d (.str x0))] [] [] [] []) =
 aac (aa6 Γ) Λ2 J x0 0 := by kernel_rfl
end
abbrev anE : aP := aa6 gG
theorem aqp : anE = aQ gG := rfl
abbrev awB := aac anE (bP SE gG (SE.hl 102) (SE.hr 102)) (J0 SE anE)
abbrev aAy := ar6 anE (bP SE gG (SE.hl 102) (SE.hr 102)) (J0 SE anE)
theorem afh : ∀ (fu : Nat) (x0 : Str) (x3 : Int), Le (Option.map aE (dJ fu x0 x3)) (awB x0 x3) := by
 intro fu
 induction fu with
 | zero => intros; exact le_none
 | succ fu ih =>
  intro x0 x3
  refine Le.trans ?_ (le_of_eq ((aZ aqp).trans (awN ..)).symm)
  unfold dJ
  refine lC ?_ ?_
  ·refine lF ?_
   refine lC ?_ ?_
   ·refine lC ?_ ?_
    ·refine lC ?_ ?_
     ·refine lC ?_ ?_
      ·refine lC ?_ ?_
       ·exact aJ rfl
       ·exact ih x0 (w6 (x3 + 1))
      ·exact ih x0 (w6 (x3 + 1))
     ·refine lC ?_ ?_
      ·exact aJ rfl
      ·exact ih x0 (w6 (x3 + 1))
    ·exact ih x0 (w6 (x3 + 1))
   ·refine lC ?_ ?_
    ·refine lC ?_ ?_
     ·refine lC ?_ ?_
      ·exact aJ rfl
      ·exact ih x0 (w6 (x3 + 1))
     ·exact ih x0 (w6 (x3 + 1))
    ·refine lC ?_ ?_
     ·exact aJ rfl
     ·exact ih x0 (w6 (x3 + 1))
  ·exact aJ rfl
theorem aeQ (x0 : Str) : Le (Option.map aE (sD x0)) (aAy x0) := by
 refine Le.trans ?_ (le_of_eq ((aZ aqp).trans (az2 ..)).symm)
 unfold sD
 exact afh fuel x0 0
theorem ahI (p0 : Str) : Le (Option.map aE (sH p0)) (bA SE 102 [.d (.str p0)] [] []) := by
 refine aV aqp rfl ?_
 refine Le.trans ?_ (le_of_eq (aFa ..).symm)
 unfold sH
 refine lC ?_ ?_
 ·exact aJ rfl
 ·refine lC ?_ ?_
  ·exact aJ rfl
  ·exact aeQ p0
def am3 (C : aP) (Λ2 J : Lam) (a0 : List (List D)) (a1 : Int) : Res := lab SE C Λ2 J 49 0 [1, 1, 0, 1, 0] (aW [(0, .d (.sl aG.ks a0)), (3, .d (.int .i64 a1))] [] [] [] [])
section
variable (Γ : Fun) (γ102 : Gm (Bool)) (Λ2 J : Lam)
def C49 : aP := aY (aQ Γ) 102 aE γ102
theorem T49 (p0 : List aG) : bF SE (C49 Γ γ102) Λ2 J 49 [.d (.sl aG.ks (List.map aG.enc p0))] [] [] =
 cond (decide ((lM aG.enc p0 : Int) > 8)) (
 (rI 5)) (
 am3 (C49 Γ γ102) Λ2 J (List.map aG.enc p0) 0) := by kernel_rfl
theorem aDF (x0 : List aG) (x3 : Int) : bT SE (C49 Γ γ102) Λ2 J 49 0 [1, 1, 0, 1, 0] (aW [(0, .d (.sl aG.ks (List.map aG.enc x0))), (3, .d (.int .i64 x3))] [] [] [] []) =
 cond (decide (x3 < (lM aG.enc x0 : Int))) (
 cond (iB x3 (lM aG.enc x0 : Int)) (
  γ102 [.d (.str (bC (cE aG.enc x0 x3 0)))] [] [] fun r0 =>
  cond (!r0) (
  (rI 16)) (
  cond (iB x3 (lM aG.enc x0 : Int)) (
  cond (decide ((List.length (bC (cE aG.enc x0 x3 1)) : Int) > 160)) (
   (rI 5)) (
  cond (decide (x3 > 0)) (
   cond (iB x3 (lM aG.enc x0 : Int)) (
   cond (iB (w6 (x3 - 1)) (lM aG.enc x0 : Int)) (
    cond (Op.bytesLess (bC (cE aG.enc x0 x3 0)) (bC (cE aG.enc x0 (w6 (x3 - 1)) 0)) || (bC (cE aG.enc x0 x3 0)) == (bC (cE aG.enc x0 (w6 (x3 - 1)) 0))) (
    (rI 16)) (
    am3 (C49 Γ γ102) Λ2 J (List.map aG.enc x0) (w6 (x3 + 1)))) none) none) (
  am3 (C49 Γ γ102) Λ2 J (List.map aG.enc x0) (w6 (x3 + 1))))) none)) none) (
 (rI 0)) := by kernel_rfl
end
abbrev X49 : aP := C49 gG (cT 102 aE)
theorem aAq : X49 = aQ gG := by unfold X49 C49; rw [bB fun _ h => h]
abbrev aDC := am3 X49 (bP SE gG (SE.hl 49) (SE.hr 49)) (J0 SE X49)
theorem adC : ∀ (fu : Nat) (x0 : List aG) (x3 : Int), Le (Option.map aH (gA fu x0 x3)) (aDC (List.map aG.enc x0) x3) := by
 intro fu
 induction fu with
 | zero => intros; exact le_none
 | succ fu ih =>
  intro x0 x3
  refine Le.trans ?_ (le_of_eq ((aZ aAq).trans (aDF ..)).symm)
  unfold gA
  refine lD (by simp only [EN]) ?_ ?_
  ·refine lG (by simp only [EN]) ?_
   refine lQ eX aL (by (try simp only [EN]); exact ahI ((List.getD x0 (Int.toNat x3) default).Key)) fun r0 _ => ?_
   refine lC ?_ ?_
   ·exact aJ rfl
   ·refine lG (by simp only [EN]) ?_
    refine lD (by simp only [EN]) ?_ ?_
    ·exact aJ rfl
    ·refine lC ?_ ?_
     ·refine lG (by simp only [EN]) ?_
      refine lG (by simp only [EN]) ?_
      refine lD (by simp only [EN]) ?_ ?_
      ·exact aJ rfl
      ·exact ih x0 (w6 (x3 + 1))
     ·exact ih x0 (w6 (x3 + 1))
  ·exact aJ rfl
theorem afJ (p0 : List aG) : Le (Option.map aH (pG p0)) (bA SE 49 [.d (.sl aG.ks (List.map aG.enc p0))] [] []) := by
 refine aV aAq rfl ?_
 refine Le.trans ?_ (le_of_eq (T49 ..).symm)
 unfold pG
 refine lD (by simp only [EN]) ?_ ?_
 ·exact aJ rfl
 ·exact adC fuel p0 0
def aoi (C : aP) (Λ2 J : Lam) (a0 : List D) : Res := lab SE C Λ2 J 13 0 [1, 1, 1, 1, 1, 1, 0, 0] (aW [(1, .ptr 1000000000 0)] [⟨34, (List.map AV.d a0)⟩] [] [] [])
def avJ (C : aP) (Λ2 J : Lam) (a0 : List D) : Res := lab SE C Λ2 J 13 0 [1, 1, 1, 1, 1, 0, 0] (aW [(1, .ptr 1000000000 0)] [⟨34, (List.map AV.d a0)⟩] [] [] [])
def avH (C : aP) (Λ2 J : Lam) (a0 : List D) : Res := lab SE C Λ2 J 13 0 [1, 1, 1, 1, 0, 0] (aW [(1, .ptr 1000000000 0)] [⟨34, (List.map AV.d a0)⟩] [] [] [])
section
variable (Γ : Fun) (γ47 γ48 : Gm (Bool)) (γ49 : Gm (Int)) (Λ2 J : Lam)
def C13 : aP := aY (aY (aY (aQ Γ) 47 aE γ47) 48 aE γ48) 49 aH γ49
theorem T13 (p0 : aA) : bF SE (C13 Γ γ47 γ48 γ49) Λ2 J 13 [aA.av p0] [] [] =
 γ47 [.d (.str p0.Topic)] [] [] fun r0 =>
 cond (!r0) (
 (rI 12)) (
 cond (decide ((List.length p0.Payload : Int) > 256)) (
 (rI 5)) (
 cond (decide (p0.Level < 0)) (
 (rI 14)) (
 cond (decide (p0.Level > 2)) (
 (rI 14)) (
 avH (C13 Γ γ47 γ48 γ49) Λ2 J (aA.enc p0))))) := by kernel_rfl
theorem ayM (b0 : aA) : bT SE (C13 Γ γ47 γ48 γ49) Λ2 J 13 0 [1, 1, 1, 1, 1, 1, 0, 0] (aW [(1, .ptr 1000000000 0)] [⟨34, (List.map AV.d (aA.enc b0))⟩] [] [] []) =
 cond (decide (b0.Seq < 0)) (
 (rI 1)) (
 cond (decide (b0.Seq > 1099511627776)) (
 (rI 1)) (
 γ49 [.d (.sl aG.ks (List.map aG.enc b0.Props))] [] [] fun r2 =>
 (rI r2))) := by kernel_rfl
theorem aBz (b0 : aA) : bT SE (C13 Γ γ47 γ48 γ49) Λ2 J 13 0 [1, 1, 1, 1, 1, 0, 0] (aW [(1, .ptr 1000000000 0)] [⟨34, (List.map AV.d (aA.enc b0))⟩] [] [] []) =
 cond (!(b0.From == ([] : Str))) (
 γ48 [.d (.str b0.From)] [] [] fun r1 =>
 cond (!r1) (
  (rI 11)) (
 aoi (C13 Γ γ47 γ48 γ49) Λ2 J (aA.enc b0))) (
 aoi (C13 Γ γ47 γ48 γ49) Λ2 J (aA.enc b0)) := by kernel_rfl
theorem aCb (b0 : aA) : bT SE (C13 Γ γ47 γ48 γ49) Λ2 J 13 0 [1, 1, 1, 1, 0, 0] (aW [(1, .ptr 1000000000 0)] [⟨34, (List.map AV.d (aA.enc b0))⟩] [] [] []) =
 cond (decide (b0.Priority < 0)) (
 (rI 1)) (
 cond (decide (b0.Priority > 9)) (
 (rI 1)) (
 cond (decide (b0.Expires < 0)) (
 (rI 1)) (
 cond (decide (b0.Expires > 1099511627776)) (
 (rI 1)) (
 avJ (C13 Γ γ47 γ48 γ49) Λ2 J (aA.enc b0))))) := by kernel_rfl
end
abbrev X13 : aP := C13 gG (cT 47 aE) (cT 48 aE) (cT 49 aH)
theorem arO : X13 = aQ gG := by unfold X13 C13; repeat rw [bB fun _ h => h]
abbrev aw8 := aoi X13 (bP SE gG (SE.hl 13) (SE.hr 13)) (J0 SE X13)
abbrev aCJ := avJ X13 (bP SE gG (SE.hl 13) (SE.hr 13)) (J0 SE X13)
abbrev aCI := avH X13 (bP SE gG (SE.hl 13) (SE.hr 13)) (J0 SE X13)
theorem vZ (b0 : aA) : Le (Option.map aH (k8 b0)) (aw8 (aA.enc b0)) := by
 refine Le.trans ?_ (le_of_eq ((aZ arO).trans (ayM ..)).symm)
 unfold k8
 refine lC ?_ ?_
 ·exact aJ rfl
 ·refine lC ?_ ?_
  ·exact aJ rfl
  ·refine lQ eX aS (afJ _) fun r2 _ => ?_
   exact aJ rfl
theorem ado (b0 : aA) : Le (Option.map aH (pO b0)) (aCJ (aA.enc b0)) := by
 refine Le.trans ?_ (le_of_eq ((aZ arO).trans (aBz ..)).symm)
 unfold pO
 refine lC ?_ ?_
 ·refine lQ eX aL (kC _) fun r1 _ => ?_
  refine lC ?_ ?_
  ·exact aJ rfl
  ·exact vZ b0
 ·exact vZ b0
theorem adr (b0 : aA) : Le (Option.map aH (pP b0)) (aCI (aA.enc b0)) := by
 refine Le.trans ?_ (le_of_eq ((aZ arO).trans (aCb ..)).symm)
 unfold pP
 refine lC ?_ ?_
 ·exact aJ rfl
 ·refine lC ?_ ?_
  ·exact aJ rfl
  ·refine lC ?_ ?_
   ·exact aJ rfl
   ·refine lC ?_ ?_
    ·exact aJ rfl
    ·exact ado b0
theorem gZ (p0 : aA) : Le (Option.map aH (eN p0)) (bA SE 13 [aA.av p0] [] []) := by
 refine aV arO rfl ?_
 refine Le.trans ?_ (le_of_eq (T13 ..).symm)
 unfold eN
 refine lQ eX aL (ags _) fun r0 _ => ?_
 refine lC ?_ ?_
 ·exact aJ rfl
 ·refine lC ?_ ?_
  ·exact aJ rfl
  ·refine lC ?_ ?_
   ·exact aJ rfl
   ·refine lC ?_ ?_
    ·exact aJ rfl
    ·exact adr p0
def arJ (C : aP) (Λ2 J : Lam) (a0 : List (List D)) (a1 : Int) : Res := lab SE C Λ2 J 43 0 [1, 1, 0, 1, 0] (aW [(0, .d (.sl aA.ks a0)), (3, .d (.int .i64 a1))] [] [] [] [])
section
variable (Γ : Fun) (γ13 : Gm (Int)) (Λ2 J : Lam)
def C43 : aP := aY (aQ Γ) 13 aH γ13
theorem T43 (p0 : List aA) : bF SE (C43 Γ γ13) Λ2 J 43 [.d (.sl aA.ks (List.map aA.enc p0))] [] [] =
 cond (decide ((lM aA.enc p0 : Int) > 256)) (
 (rI 5)) (
 arJ (C43 Γ γ13) Λ2 J (List.map aA.enc p0) 0) := by kernel_rfl
theorem aA8 (x0 : List aA) (x3 : Int) : bT SE (C43 Γ γ13) Λ2 J 43 0 [1, 1, 0, 1, 0] (aW [(0, .d (.sl aA.ks (List.map aA.enc x0))), (3, .d (.int .i64 x3))] [] [] [] []) =
 cond (decide (x3 < (lM aA.enc x0 : Int))) (
 cond (iB x3 (lM aA.enc x0 : Int)) (
  γ13 [.agg [.d (.str (bC (cE aA.enc x0 x3 0))), .d (.str (bC (cE aA.enc x0 x3 1))), .d (.int .i64 (aR (cE aA.enc x0 x3 2))), .d (.bool (bM (cE aA.enc x0 x3 3))), .d (.int .i64 (aR (cE aA.enc x0 x3 4))), .d (.int .i64 (aR (cE aA.enc x0 x3 5))), .d (.str (bC (cE aA.enc x0 x3 6))), .d (.int .i64 (aR (cE aA.enc x0 x3 7))), .d (.sl aG.ks (dSl (cE aA.enc x0 x3 8)))]] [] [] fun r0 =>
  cond (r0 != 0) (
  (rI r0)) (
  arJ (C43 Γ γ13) Λ2 J (List.map aA.enc x0) (w6 (x3 + 1)))) none) (
 (rI 0)) := by kernel_rfl
end
abbrev X43 : aP := C43 gG (cT 13 aH)
theorem awE : X43 = aQ gG := by unfold X43 C43; rw [bB fun _ h => h]
abbrev aBe := arJ X43 (bP SE gG (SE.hl 43) (SE.hr 43)) (J0 SE X43)
theorem adp : ∀ (fu : Nat) (x0 : List aA) (x3 : Int), Le (Option.map aH (gY fu x0 x3)) (aBe (List.map aA.enc x0) x3) := by
 intro fu
 induction fu with
 | zero => intros; exact le_none
 | succ fu ih =>
  intro x0 x3
  refine Le.trans ?_ (le_of_eq ((aZ awE).trans (aA8 ..)).symm)
  unfold gY
  refine lD (by simp only [EN]) ?_ ?_
  ·refine lG (by simp only [EN]) ?_
   refine lQ eX aS (by (try simp only [EN]); exact gZ (List.getD x0 (Int.toNat x3) default)) fun r0 _ => ?_
   refine lC ?_ ?_
   ·exact aJ rfl
   ·exact ih x0 (w6 (x3 + 1))
  ·exact aJ rfl
theorem agm (p0 : List aA) : Le (Option.map aH (pD p0)) (bA SE 43 [.d (.sl aA.ks (List.map aA.enc p0))] [] []) := by
 refine aV awE rfl ?_
 refine Le.trans ?_ (le_of_eq (T43 ..).symm)
 unfold pD
 refine lD (by simp only [EN]) ?_ ?_
 ·exact aJ rfl
 ·exact adp fuel p0 0
def am0 (C : aP) (Λ2 J : Lam) (a0 : Int) (a1 : List D) : Res := lab SE C Λ2 J 95 0 [1, 1, 0, 1, 0] (aW [(1, .ptr 1000000000 0), (3, .d (.int .i64 a0))] [⟨27, (List.map AV.d a1)⟩] [] [] [])
section
variable (Γ : Fun)  (Λ2 J : Lam)
def C95 : aP := aQ Γ
theorem T95 (p0 : aN) : bF SE (C95 Γ) Λ2 J 95 [aN.av p0] [] [] =
 cond (decide ((lM eI p0.Used : Int) > 32)) (
 (rI 5)) (
 am0 (C95 Γ) Λ2 J 0 (aN.enc p0)) := by kernel_rfl
theorem aCf (x3 : Int) (b0 : aN) : bT SE (C95 Γ) Λ2 J 95 0 [1, 1, 0, 1, 0] (aW [(1, .ptr 1000000000 0), (3, .d (.int .i64 x3))] [⟨27, (List.map AV.d (aN.enc b0))⟩] [] [] []) =
 cond (decide (x3 < (lM eI b0.Used : Int))) (
 cond (iB x3 (lM eI b0.Used : Int)) (
  cond (decide ((aR (cE eI b0.Used x3 0)) < 1)) (
  (rI 15)) (
  cond (iB x3 (lM eI b0.Used : Int)) (
  cond (decide ((aR (cE eI b0.Used x3 0)) > 65535)) (
   (rI 15)) (
  cond (decide (x3 > 0)) (
   cond (iB x3 (lM eI b0.Used : Int)) (
   cond (iB (w6 (x3 - 1)) (lM eI b0.Used : Int)) (
    cond (decide ((aR (cE eI b0.Used x3 0)) ≤ (aR (cE eI b0.Used (w6 (x3 - 1)) 0)))) (
    (rI 15)) (
    am0 (C95 Γ) Λ2 J (w6 (x3 + 1)) (aN.enc b0))) none) none) (
  am0 (C95 Γ) Λ2 J (w6 (x3 + 1)) (aN.enc b0)))) none)) none) (
 cond (decide (b0.Last < 0)) (
 (rI 1)) (
 cond (decide (b0.Last > 65535)) (
 (rI 1)) (
 (rI 0)))) := by kernel_rfl
end
abbrev X95 : aP := C95 gG
theorem awI : X95 = aQ gG := rfl
abbrev aDx := am0 X95 (bP SE gG (SE.hl 95) (SE.hr 95)) (J0 SE X95)
theorem adB : ∀ (fu : Nat) (x3 : Int) (b0 : aN), Le (Option.map aH (dR fu x3 b0)) (aDx x3 (aN.enc b0)) := by
 intro fu
 induction fu with
 | zero => intros; exact le_none
 | succ fu ih =>
  intro x3 b0
  refine Le.trans ?_ (le_of_eq ((aZ awI).trans (aCf ..)).symm)
  unfold dR
  refine lD (by simp only [EN]) ?_ ?_
  ·refine lG (by simp only [EN]) ?_
   refine lD (by simp only [EN]) ?_ ?_
   ·exact aJ rfl
   ·refine lG (by simp only [EN]) ?_
    refine lD (by simp only [EN]) ?_ ?_
    ·exact aJ rfl
    ·refine lC ?_ ?_
     ·refine lG (by simp only [EN]) ?_
      refine lG (by simp only [EN]) ?_
      refine lD (by simp only [EN]) ?_ ?_
      ·exact aJ rfl
      ·exact ih (w6 (x3 + 1)) b0
     ·exact ih (w6 (x3 + 1)) b0
  ·refine lC ?_ ?_
   ·exact aJ rfl
   ·refine lC ?_ ?_
    ·exact aJ rfl
    ·exact aJ rfl
theorem zY (p0 : aN) : Le (Option.map aH (iH p0)) (bA SE 95 [aN.av p0] [] []) := by
 refine aV awI rfl ?_
 refine Le.trans ?_ (le_of_eq (T95 ..).symm)
 unfold iH
 refine lD (by simp only [EN]) ?_ ?_
 ·exact aJ rfl
 ·exact adB fuel 0 p0
def anO (C : aP) (Λ2 J : Lam) (a0 a1 : Int) (a2 : List D) : Res := lab SE C Λ2 J 148 0 [1, 0, 1, 0] (aW [(1, .d (.int .i64 a0)), (2, .ptr 1000000000 0), (5, .d (.int .i64 a1))] [⟨27, (List.map AV.d a2)⟩] [] [] [])
section
variable (Γ : Fun)  (Λ2 J : Lam)
def anA : aP := aQ Γ
theorem aFu (p0 : aN) (p1 : Int) : bF SE (anA Γ) Λ2 J 148 [aN.av p0, .d (.int .i64 p1)] [] [] =
 anO (anA Γ) Λ2 J p1 0 (aN.enc p0) := by kernel_rfl
theorem aw2 (x1 x5 : Int) (b0 : aN) : bT SE (anA Γ) Λ2 J 148 0 [1, 0, 1, 0] (aW [(1, .d (.int .i64 x1)), (2, .ptr 1000000000 0), (5, .d (.int .i64 x5))] [⟨27, (List.map AV.d (aN.enc b0))⟩] [] [] []) =
 cond (decide (x5 < (lM eI b0.Used : Int))) (
 cond (iB x5 (lM eI b0.Used : Int)) (
  cond ((aR (cE eI b0.Used x5 0)) == x1) (
  (rB true)) (
  anO (anA Γ) Λ2 J x1 (w6 (x5 + 1)) (aN.enc b0))) none) (
 (rB false)) := by kernel_rfl
end
abbrev atc : aP := anA gG
theorem avB : atc = aQ gG := rfl
abbrev azI := anO atc (bP SE gG (SE.hl 148) (SE.hr 148)) (J0 SE atc)
theorem afd : ∀ (fu : Nat) (x1 x5 : Int) (b0 : aN), Le (Option.map aE (jK fu x1 x5 b0)) (azI x1 x5 (aN.enc b0)) := by
 intro fu
 induction fu with
 | zero => intros; exact le_none
 | succ fu ih =>
  intro x1 x5 b0
  refine Le.trans ?_ (le_of_eq ((aZ avB).trans (aw2 ..)).symm)
  unfold jK
  refine lD (by simp only [EN]) ?_ ?_
  ·refine lG (by simp only [EN]) ?_
   refine lD (by simp only [EN]) ?_ ?_
   ·exact aJ rfl
   ·exact ih x1 (w6 (x5 + 1)) b0
  ·exact aJ rfl
theorem abu (p0 : aN) (p1 : Int) : Le (Option.map aE (oF p0 p1)) (bA SE 148 [aN.av p0, .d (.int .i64 p1)] [] []) := by
 refine aV avB rfl ?_
 refine Le.trans ?_ (le_of_eq (aFu ..).symm)
 unfold oF
 exact afd fuel p1 0 p0
def aor (C : aP) (Λ2 J : Lam) (a0 : List (List D)) (a1 a2 : Int) : Res := lab SE C Λ2 J 115 0 [1, 0, 1, 0] (aW [(0, .d (.sl aD.ks a0)), (1, .d (.int .i64 a1)), (5, .d (.int .i64 a2))] [] [] [] [])
section
variable (Γ : Fun)  (Λ2 J : Lam)
def anL : aP := aQ Γ
theorem aFf (p0 : List aD) (p1 : Int) : bF SE (anL Γ) Λ2 J 115 [.d (.sl aD.ks (List.map aD.enc p0)), .d (.int .i64 p1)] [] [] =
 aor (anL Γ) Λ2 J (List.map aD.enc p0) p1 0 := by kernel_rfl
theorem awA (x0 : List aD) (x1 x5 : Int) : bT SE (anL Γ) Λ2 J 115 0 [1, 0, 1, 0] (aW [(0, .d (.sl aD.ks (List.map aD.enc x0))), (1, .d (.int .i64 x1)), (5, .d (.int .i64 x5))] [] [] [] []) =
 cond (decide (x5 < (lM aD.enc x0 : Int))) (
 cond (iB x5 (lM aD.enc x0 : Int)) (
  cond ((aR (cE aD.enc x0 x5 0)) == x1) (
  (rI x5)) (
  aor (anL Γ) Λ2 J (List.map aD.enc x0) x1 (w6 (x5 + 1)))) none) (
 (rI (-1))) := by kernel_rfl
end
abbrev atq : aP := anL gG
theorem au5 : atq = aQ gG := rfl
abbrev azU := aor atq (bP SE gG (SE.hl 115) (SE.hr 115)) (J0 SE atq)
theorem afF : ∀ (fu : Nat) (x0 : List aD) (x1 x5 : Int), Le (Option.map aH (jZ fu x0 x1 x5)) (azU (List.map aD.enc x0) x1 x5) := by
 intro fu
 induction fu with
 | zero => intros; exact le_none
 | succ fu ih =>
  intro x0 x1 x5
  refine Le.trans ?_ (le_of_eq ((aZ au5).trans (awA ..)).symm)
  unfold jZ
  refine lD (by simp only [EN]) ?_ ?_
  ·refine lG (by simp only [EN]) ?_
   refine lD (by simp only [EN]) ?_ ?_
   ·exact aJ rfl
   ·exact ih x0 x1 (w6 (x5 + 1))
  ·exact aJ rfl
theorem abS (p0 : List aD) (p1 : Int) : Le (Option.map aH (qD p0 p1)) (bA SE 115 [.d (.sl aD.ks (List.map aD.enc p0)), .d (.int .i64 p1)] [] []) := by
 refine aV au5 rfl ?_
 refine Le.trans ?_ (le_of_eq (aFf ..).symm)
 unfold qD
 exact afF fuel p0 p1 0
def avF (C : aP) (Λ2 J : Lam) (a0 : List D) : Res := lab SE C Λ2 J 96 0 [1, 1, 1, 0] (aW [(5, .ptr 1000000000 0)] [⟨122, (List.map AV.d a0)⟩] [] [] [])
section
variable (Γ : Fun) (γ148 : Gm (Bool)) (γ115 γ13 : Gm (Int)) (Λ2 J : Lam)
def C96 : aP := aY (aY (aY (aQ Γ) 148 aE γ148) 115 aH γ115) 13 aH γ13
theorem T96 (p0 : aI) (p1 : Int) : bF SE (C96 Γ γ148 γ115 γ13) Λ2 J 96 [aI.av p0, .d (.int .i64 p1)] [] [] =
 cond (iB p1 (lM aD.enc p0.Items : Int)) (
 γ148 [aN.av p0.Pool, .d (.int .i64 (aR (cE aD.enc p0.Items p1 0)))] [] [] fun r0 =>
 cond (!r0) (
  (rI 15)) (
 γ115 [.d (.sl aD.ks (List.map aD.enc p0.Items)), .d (.int .i64 (aR (cE aD.enc p0.Items p1 0)))] [] [] fun r1 =>
 cond (decide (r1 < p1)) (
  (rI 15)) (
 avF (C96 Γ γ148 γ115 γ13) Λ2 J [D.int .i64 (aR (cE aD.enc p0.Items p1 0)), D.int .i64 (aR (cE aD.enc p0.Items p1 1)), D.str (bC (cE aD.enc p0.Items p1 2)), D.str (bC (cE aD.enc p0.Items p1 3)), D.int .i64 (aR (cE aD.enc p0.Items p1 4)), D.bool (bM (cE aD.enc p0.Items p1 5)), D.int .i64 (aR (cE aD.enc p0.Items p1 6)), D.int .i64 (aR (cE aD.enc p0.Items p1 7)), D.str (bC (cE aD.enc p0.Items p1 8)), D.int .i64 (aR (cE aD.enc p0.Items p1 9)), D.sl aG.ks (dSl (cE aD.enc p0.Items p1 10))]))) none := by kernel_rfl
theorem aBk (b0 : aD) : bT SE (C96 Γ γ148 γ115 γ13) Λ2 J 96 0 [1, 1, 1, 0] (aW [(5, .ptr 1000000000 0)] [⟨122, (List.map AV.d (aD.enc b0))⟩] [] [] []) =
 γ13 [aA.av b0.Message] [] [] fun r2 =>
 cond (r2 != 0) (
 (rI r2)) (
 cond (b0.Message.Level == 0) (
 (rI 14)) (
 cond (b0.State != 1) (
 cond (b0.State != 2) (
  (rI 9)) (
 cond (b0.Message.Level == 1) (
  (rI 9)) (
 (rI 0)))) (
 (rI 0)))) := by kernel_rfl
end
abbrev X96 : aP := C96 gG (cT 148 aE) (cT 115 aH) (cT 13 aH)
theorem azS : X96 = aQ gG := by unfold X96 C96; repeat rw [bB fun _ h => h]
abbrev aBy := avF X96 (bP SE gG (SE.hl 96) (SE.hr 96)) (J0 SE X96)
theorem aew (b0 : aD) : Le (Option.map aH (rH b0)) (aBy (aD.enc b0)) := by
 refine Le.trans ?_ (le_of_eq ((aZ azS).trans (aBk ..)).symm)
 unfold rH
 refine lQ eX aS (gZ _) fun r2 _ => ?_
 refine lC ?_ ?_
 ·exact aJ rfl
 ·refine lC ?_ ?_
  ·exact aJ rfl
  ·refine lC ?_ ?_
   ·refine lC ?_ ?_
    ·exact aJ rfl
    ·refine lC ?_ ?_
     ·exact aJ rfl
     ·exact aJ rfl
   ·exact aJ rfl
theorem ag2 (p0 : aI) (p1 : Int) : Le (Option.map aH (qX p0 p1)) (bA SE 96 [aI.av p0, .d (.int .i64 p1)] [] []) := by
 refine aV azS rfl ?_
 refine Le.trans ?_ (le_of_eq (T96 ..).symm)
 unfold qX
 refine lG (by simp only [EN]) ?_
 refine lQ eX aL (by (try simp only [EN]); exact abu p0.Pool ((List.getD p0.Items (Int.toNat p1) default).ID)) fun r0 _ => ?_
 refine lC ?_ ?_
 ·exact aJ rfl
 ·refine lQ eX aS (by (try simp only [EN]); exact abS p0.Items ((List.getD p0.Items (Int.toNat p1) default).ID)) fun r1 _ => ?_
  refine lC ?_ ?_
  ·exact aJ rfl
  ·(try simp only [EN]); exact aew (List.getD p0.Items (Int.toNat p1) default)
def aqE (C : aP) (Λ2 J : Lam) (a0 : Int) (a1 : List D) : Res := lab SE C Λ2 J 44 0 [1, 1, 1, 1, 1, 0, 1, 0] (aW [(1, .ptr 1000000000 0), (4, .d (.int .i64 a0))] [⟨29, (List.map AV.d a1)⟩] [] [] [])
def avI (C : aP) (Λ2 J : Lam) (a0 : List D) : Res := lab SE C Λ2 J 44 0 [1, 1, 0] (aW [(1, .ptr 1000000000 0)] [⟨29, (List.map AV.d a0)⟩] [] [] [])
section
variable (Γ : Fun) (γ95 γ96 : Gm (Int)) (Λ2 J : Lam)
def C44 : aP := aY (aY (aQ Γ) 95 aH γ95) 96 aH γ96
theorem T44 (p0 : aI) : bF SE (C44 Γ γ95 γ96) Λ2 J 44 [aI.av p0] [] [] =
 cond (decide (p0.Limit < 0)) (
 (rI 1)) (
 cond (decide (p0.Limit > 32)) (
 (rI 1)) (
 avI (C44 Γ γ95 γ96) Λ2 J (aI.enc p0))) := by kernel_rfl
theorem aDb (x4 : Int) (b0 : aI) : bT SE (C44 Γ γ95 γ96) Λ2 J 44 0 [1, 1, 1, 1, 1, 0, 1, 0] (aW [(1, .ptr 1000000000 0), (4, .d (.int .i64 x4))] [⟨29, (List.map AV.d (aI.enc b0))⟩] [] [] []) =
 cond (decide (x4 < (lM aD.enc b0.Items : Int))) (
 γ96 [aI.av b0, .d (.int .i64 x4)] [] [] fun r1 =>
 cond (r1 != 0) (
  (rI r1)) (
 aqE (C44 Γ γ95 γ96) Λ2 J (w6 (x4 + 1)) (aI.enc b0))) (
 cond (decide ((lM aD.enc b0.Items : Int) < (lM eI b0.Pool.Used : Int))) (
 (rI 15)) (
 (rI 0))) := by kernel_rfl
theorem aDl (b0 : aI) : bT SE (C44 Γ γ95 γ96) Λ2 J 44 0 [1, 1, 0] (aW [(1, .ptr 1000000000 0)] [⟨29, (List.map AV.d (aI.enc b0))⟩] [] [] []) =
 γ95 [aN.av b0.Pool] [] [] fun r0 =>
 cond (r0 != 0) (
 (rI r0)) (
 cond (decide ((lM aD.enc b0.Items : Int) > 32)) (
 (rI 5)) (
 aqE (C44 Γ γ95 γ96) Λ2 J 0 (aI.enc b0))) := by kernel_rfl
end
abbrev X44 : aP := C44 gG (cT 95 aH) (cT 96 aH)
theorem at5 : X44 = aQ gG := by unfold X44 C44; repeat rw [bB fun _ h => h]
abbrev aCi := aqE X44 (bP SE gG (SE.hl 44) (SE.hr 44)) (J0 SE X44)
abbrev aCH := avI X44 (bP SE gG (SE.hl 44) (SE.hr 44)) (J0 SE X44)
theorem ady : ∀ (fu : Nat) (x4 : Int) (b0 : aI), Le (Option.map aH (g6 fu x4 b0)) (aCi x4 (aI.enc b0)) := by
 intro fu
 induction fu with
 | zero => intros; exact le_none
 | succ fu ih =>
  intro x4 b0
  refine Le.trans ?_ (le_of_eq ((aZ at5).trans (aDb ..)).symm)
  unfold g6
  refine lD (by simp only [EN]) ?_ ?_
  ·refine lQ eX aS (ag2 _ _) fun r1 _ => ?_
   refine lC ?_ ?_
   ·exact aJ rfl
   ·exact ih (w6 (x4 + 1)) b0
  ·refine lD (by simp only [EN]) ?_ ?_
   ·exact aJ rfl
   ·exact aJ rfl
theorem adz (b0 : aI) : Le (Option.map aH (pU b0)) (aCH (aI.enc b0)) := by
 refine Le.trans ?_ (le_of_eq ((aZ at5).trans (aDl ..)).symm)
 unfold pU
 refine lQ eX aS (zY _) fun r0 _ => ?_
 refine lC ?_ ?_
 ·exact aJ rfl
 ·refine lD (by simp only [EN]) ?_ ?_
  ·exact aJ rfl
  ·exact ady fuel 0 b0
theorem afZ (p0 : aI) : Le (Option.map aH (pH p0)) (bA SE 44 [aI.av p0] [] []) := by
 refine aV at5 rfl ?_
 refine Le.trans ?_ (le_of_eq (T44 ..).symm)
 unfold pH
 refine lC ?_ ?_
 ·exact aJ rfl
 ·refine lC ?_ ?_
  ·exact aJ rfl
  ·exact adz p0
section
variable (Γ : Fun) (γ95 : Gm (Int)) (Λ2 J : Lam)
def C45 : aP := aY (aQ Γ) 95 aH γ95
theorem T45 (p0 : bE) : bF SE (C45 Γ γ95) Λ2 J 45 [bE.av p0] [] [] =
 γ95 [aN.av (aN.mk p0.IDs 0)] [] [] fun r0 =>
 (rI r0) := by kernel_rfl
end
abbrev X45 : aP := C45 gG (cT 95 aH)
theorem aEc : X45 = aQ gG := by unfold X45 C45; rw [bB fun _ h => h]
theorem afH (p0 : bE) : Le (Option.map aH (oY p0)) (bA SE 45 [bE.av p0] [] []) := by
 refine aV aEc rfl ?_
 refine Le.trans ?_ (le_of_eq (T45 ..).symm)
 unfold oY
 refine lQ eX aS (zY _) fun r0 _ => ?_
 exact aJ rfl
def ano (C : aP) (Λ2 J : Lam) (a0 a1 : List (List D)) (a2 : Int) : Res := lab SE C Λ2 J 149 0 [1, 1, 0, 1, 0] (aW [(0, .d (.sl aG.ks a0)), (1, .d (.sl aG.ks a1)), (5, .d (.int .i64 a2))] [] [] [] [])
section
variable (Γ : Fun)  (Λ2 J : Lam)
def ao3 : aP := aQ Γ
theorem aF6 (p0 p1 : List aG) : bF SE (ao3 Γ) Λ2 J 149 [.d (.sl aG.ks (List.map aG.enc p0)), .d (.sl aG.ks (List.map aG.enc p1))] [] [] =
 cond ((lM aG.enc p0 : Int) != (lM aG.enc p1 : Int)) (
 (rB false)) (
 ano (ao3 Γ) Λ2 J (List.map aG.enc p0) (List.map aG.enc p1) 0) := by kernel_rfl
theorem aya (x0 x1 : List aG) (x5 : Int) : bT SE (ao3 Γ) Λ2 J 149 0 [1, 1, 0, 1, 0] (aW [(0, .d (.sl aG.ks (List.map aG.enc x0))), (1, .d (.sl aG.ks (List.map aG.enc x1))), (5, .d (.int .i64 x5))] [] [] [] []) =
 cond (decide (x5 < (lM aG.enc x0 : Int))) (
 cond (iB x5 (lM aG.enc x0 : Int)) (
  cond (iB x5 (lM aG.enc x1 : Int)) (
  cond (!(((bC (cE aG.enc x0 x5 0)) == (bC (cE aG.enc x1 x5 0))) && (((bC (cE aG.enc x0 x5 1)) == (bC (cE aG.enc x1 x5 1))) && true))) (
   (rB false)) (
  ano (ao3 Γ) Λ2 J (List.map aG.enc x0) (List.map aG.enc x1) (w6 (x5 + 1)))) none) none) (
 (rB true)) := by kernel_rfl
end
abbrev auP : aP := ao3 gG
theorem au3 : auP = aQ gG := rfl
abbrev azk := ano auP (bP SE gG (SE.hl 149) (SE.hr 149)) (J0 SE auP)
theorem abD : ∀ (fu : Nat) (x0 x1 : List aG) (x5 : Int), Le (Option.map aE (fC fu x0 x1 x5)) (azk (List.map aG.enc x0) (List.map aG.enc x1) x5) := by
 intro fu
 induction fu with
 | zero => intros; exact le_none
 | succ fu ih =>
  intro x0 x1 x5
  refine Le.trans ?_ (le_of_eq ((aZ au3).trans (aya ..)).symm)
  unfold fC
  refine lD (by simp only [EN]) ?_ ?_
  ·refine lG (by simp only [EN]) ?_
   refine lG (by simp only [EN]) ?_
   refine lD (by simp only [EN]) ?_ ?_
   ·exact aJ rfl
   ·exact ih x0 x1 (w6 (x5 + 1))
  ·exact aJ rfl
theorem acP (p0 p1 : List aG) : Le (Option.map aE (kT p0 p1)) (bA SE 149 [.d (.sl aG.ks (List.map aG.enc p0)), .d (.sl aG.ks (List.map aG.enc p1))] [] []) := by
 refine aV au3 rfl ?_
 refine Le.trans ?_ (le_of_eq (aF6 ..).symm)
 unfold kT
 refine lD (by simp only [EN]) ?_ ?_
 ·exact aJ rfl
 ·exact abD fuel p0 p1 0
section
variable (Γ : Fun) (γ149 : Gm (Bool)) (Λ2 J : Lam)
def C97 : aP := aY (aQ Γ) 149 aE γ149
theorem T97 (p0 p1 : aA) : bF SE (C97 Γ γ149) Λ2 J 97 [aA.av p0, aA.av p1] [] [] =
 cond (p0.Topic == p1.Topic) (
 cond (p0.Payload == p1.Payload) (
  cond (p0.Level == p1.Level) (
  cond (p0.Retain == p1.Retain) (
   cond (p0.Priority == p1.Priority) (
   cond (p0.Expires == p1.Expires) (
    cond (p0.From == p1.From) (
    cond (p0.Seq == p1.Seq) (
     γ149 [.d (.sl aG.ks (List.map aG.enc p0.Props)), .d (.sl aG.ks (List.map aG.enc p1.Props))] [] [] fun r0 =>
     (rB r0)) (
    (rB false))) (
    (rB false))) (
   (rB false))) (
   (rB false))) (
  (rB false))) (
  (rB false))) (
 (rB false))) (
 (rB false)) := by kernel_rfl
end
abbrev X97 : aP := C97 gG (cT 149 aE)
theorem aFt : X97 = aQ gG := by unfold X97 C97; rw [bB fun _ h => h]
theorem iL (p0 p1 : aA) : Le (Option.map aE (fG p0 p1)) (bA SE 97 [aA.av p0, aA.av p1] [] []) := by
 refine aV aFt rfl ?_
 refine Le.trans ?_ (le_of_eq (T97 ..).symm)
 unfold fG
 refine lC ?_ ?_
 ·refine lC ?_ ?_
  ·refine lC ?_ ?_
   ·refine lC ?_ ?_
    ·refine lC ?_ ?_
     ·refine lC ?_ ?_
      ·refine lC ?_ ?_
       ·refine lC ?_ ?_
        ·refine lQ eX aL (acP _ _) fun r0 _ => ?_
         exact aJ rfl
        ·exact aJ rfl
       ·exact aJ rfl
      ·exact aJ rfl
     ·exact aJ rfl
    ·exact aJ rfl
   ·exact aJ rfl
  ·exact aJ rfl
 ·exact aJ rfl
section
variable (Γ : Fun) (γ97 : Gm (Bool)) (γ13 : Gm (Int)) (Λ2 J : Lam)
def C46 : aP := aY (aY (aQ Γ) 97 aE γ97) 13 aH γ13
theorem T46 (p0 : aT) : bF SE (C46 Γ γ97 γ13) Λ2 J 46 [aT.av p0] [] [] =
 cond (!p0.Set) (
 cond (p0.Delay != 0) (
  (rI 28)) (
 γ97 [aA.av p0.Message, .agg [.d (.str []), .d (.str []), .d (.int .i64 0), .d (.bool false), .d (.int .i64 0), .d (.int .i64 0), .d (.str []), .d (.int .i64 0), .d (.sl aG.ks (List.map aG.enc []))]] [] [] fun r0 =>
 cond (!r0) (
  (rI 28)) (
 (rI 0)))) (
 cond (decide (p0.Delay < 0)) (
 (rI 1)) (
 cond (decide (p0.Delay > 1099511627776)) (
 (rI 1)) (
 γ13 [aA.av p0.Message] [] [] fun r1 =>
 (rI r1)))) := by kernel_rfl
end
abbrev X46 : aP := C46 gG (cT 97 aE) (cT 13 aH)
theorem aFo : X46 = aQ gG := by unfold X46 C46; repeat rw [bB fun _ h => h]
theorem agd (p0 : aT) : Le (Option.map aH (pB p0)) (bA SE 46 [aT.av p0] [] []) := by
 refine aV aFo rfl ?_
 refine Le.trans ?_ (le_of_eq (T46 ..).symm)
 unfold pB
 refine lC ?_ ?_
 ·refine lC ?_ ?_
  ·exact aJ rfl
  ·refine lQ eX aL (by (try simp only [EN]); exact iL p0.Message ((aA.mk [] [] 0 false 0 0 [] 0 []))) fun r0 _ => ?_
   refine lC ?_ ?_
   ·exact aJ rfl
   ·exact aJ rfl
 ·refine lC ?_ ?_
  ·exact aJ rfl
  ·refine lC ?_ ?_
   ·exact aJ rfl
   ·refine lQ eX aS (gZ _) fun r1 _ => ?_
    exact aJ rfl
def arx (C : aP) (Λ2 J : Lam) (a0 : List (List D)) (a1 : Int) : Res := lab SE C Λ2 J 40 0 [1, 0, 1, 0] (aW [(0, .d (.sl [.int .i64] a0)), (3, .d (.int .i64 a1))] [] [] [] [])
section
variable (Γ : Fun)  (Λ2 J : Lam)
def C40 : aP := aQ Γ
theorem T40 (p0 : List Int) : bF SE (C40 Γ) Λ2 J 40 [.d (.sl [.int .i64] (List.map eI p0))] [] [] =
 arx (C40 Γ) Λ2 J (List.map eI p0) 0 := by kernel_rfl
theorem aDj (x0 : List Int) (x3 : Int) : bT SE (C40 Γ) Λ2 J 40 0 [1, 0, 1, 0] (aW [(0, .d (.sl [.int .i64] (List.map eI x0))), (3, .d (.int .i64 x3))] [] [] [] []) =
 cond (decide (x3 < (lM eI x0 : Int))) (
 cond (iB x3 (lM eI x0 : Int)) (
  cond ((aR (cE eI x0 x3 0)) != 0) (
  cond (iB x3 (lM eI x0 : Int)) (
   (rI (aR (cE eI x0 x3 0)))) none) (
  arx (C40 Γ) Λ2 J (List.map eI x0) (w6 (x3 + 1)))) none) (
 (rI 0)) := by kernel_rfl
end
abbrev X40 : aP := C40 gG
theorem aAl : X40 = aQ gG := rfl
abbrev aBE := arx X40 (bP SE gG (SE.hl 40) (SE.hr 40)) (J0 SE X40)
theorem adw : ∀ (fu : Nat) (x0 : List Int) (x3 : Int), Le (Option.map aH (hH fu x0 x3)) (aBE (List.map eI x0) x3) := by
 intro fu
 induction fu with
 | zero => intros; exact le_none
 | succ fu ih =>
  intro x0 x3
  refine Le.trans ?_ (le_of_eq ((aZ aAl).trans (aDj ..)).symm)
  unfold hH
  refine lD (by simp only [EN]) ?_ ?_
  ·refine lG (by simp only [EN]) ?_
   refine lD (by simp only [EN]) ?_ ?_
   ·refine lG (by simp only [EN]) ?_
    exact aJ (by first | rfl | simp only [EN, aH] <;> rfl)
   ·exact ih x0 (w6 (x3 + 1))
  ·exact aJ rfl
theorem afL (p0 : List Int) : Le (Option.map aH (o9 p0)) (bA SE 40 [.d (.sl [.int .i64] (List.map eI p0))] [] []) := by
 refine aV aAl rfl ?_
 refine Le.trans ?_ (le_of_eq (T40 ..).symm)
 unfold o9
 exact adw fuel p0 0
section
variable (Γ : Fun) (γ41 γ42 γ43 γ44 γ45 γ46 γ40 : Gm (Int)) (Λ2 J : Lam)
def C12 : aP := aY (aY (aY (aY (aY (aY (aY (aQ Γ) 41 aH γ41) 42 aH γ42) 43 aH γ43) 44 aH γ44) 45 aH γ45) 46 aH γ46) 40 aH γ40
theorem T12 (p0 : aB) : bF SE (C12 Γ γ41 γ42 γ43 γ44 γ45 γ46 γ40) Λ2 J 12 [aB.av p0] [] [] =
 γ41 [aB.av p0] [] [] fun r0 =>
 γ42 [.d (.sl aF.ks (List.map aF.enc p0.Subs))] [] [] fun r1 =>
 γ43 [.d (.sl aA.ks (List.map aA.enc p0.Queue))] [] [] fun r2 =>
 γ44 [aI.av p0.Out] [] [] fun r3 =>
 γ45 [bE.av p0.In] [] [] fun r4 =>
 γ46 [aT.av p0.Will] [] [] fun r5 =>
 γ40 [.d (.sl [.int .i64] (List.map eI [r0, r1, r2, r3, r4, r5]))] [] [] fun r6 =>
 (rI r6) := by kernel_rfl
end
abbrev X12 : aP := C12 gG (cT 41 aH) (cT 42 aH) (cT 43 aH) (cT 44 aH) (cT 45 aH) (cT 46 aH) (cT 40 aH)
theorem aEa : X12 = aQ gG := by unfold X12 C12; repeat rw [bB fun _ h => h]
theorem pW (p0 : aB) : Le (Option.map aH (iI p0)) (bA SE 12 [aB.av p0] [] []) := by
 refine aV aEa rfl ?_
 refine Le.trans ?_ (le_of_eq (T12 ..).symm)
 unfold iI
 refine lQ eX aS (agM _) fun r0 _ => ?_
 refine lQ eX aS (agT _) fun r1 _ => ?_
 refine lQ eX aS (agm _) fun r2 _ => ?_
 refine lQ eX aS (afZ _) fun r3 _ => ?_
 refine lQ eX aS (afH _) fun r4 _ => ?_
 refine lQ eX aS (agd _) fun r5 _ => ?_
 refine lQ eX aS (afL _) fun r6 _ => ?_
 exact aJ rfl
section
variable (Γ : Fun)  (Λ2 J : Lam)
def C22 : aP := aQ Γ
theorem T22 (p0 : Int) : bF SE (C22 Γ) Λ2 J 22 [.d (.int .i64 p0)] [] [] =
 cond (decide (p0 ≥ 0)) (
 (rB (decide (p0 ≤ 1099511627776)))) (
 (rB false)) := by kernel_rfl
end
abbrev X22 : aP := C22 gG
theorem aGb : X22 = aQ gG := rfl
theorem yJ (p0 : Int) : Le (Option.map aE (kB p0)) (bA SE 22 [.d (.int .i64 p0)] [] []) := by
 refine aV aGb rfl ?_
 refine Le.trans ?_ (le_of_eq (T22 ..).symm)
 unfold kB
 refine lC ?_ ?_
 ·exact aJ rfl
 ·exact aJ rfl
section
variable (Γ : Fun) (γ12 : Gm (Int)) (γ22 : Gm (Bool)) (Λ2 J : Lam)
def C18 : aP := aY (aY (aQ Γ) 12 aH γ12) 22 aE γ22
theorem T18 (p0 : aB) (p1 : Int) : bF SE (C18 Γ γ12 γ22) Λ2 J 18 [aB.av p0, .d (.int .i64 p1)] [] [] =
 γ12 [aB.av p0] [] [] fun r0 =>
 cond (r0 == 0) (
 γ22 [.d (.int .i64 p1)] [] [] fun r1 =>
 (rB r1)) (
 (rB false)) := by kernel_rfl
end
abbrev X18 : aP := C18 gG (cT 12 aH) (cT 22 aE)
theorem aD1 : X18 = aQ gG := by unfold X18 C18; repeat rw [bB fun _ h => h]
theorem pR (p0 : aB) (p1 : Int) : Le (Option.map aE (iG p0 p1)) (bA SE 18 [aB.av p0, .d (.int .i64 p1)] [] []) := by
 refine aV aD1 rfl ?_
 refine Le.trans ?_ (le_of_eq (T18 ..).symm)
 unfold iG
 refine lQ eX aS (pW _) fun r0 _ => ?_
 refine lC ?_ ?_
 ·refine lQ eX aL (yJ _) fun r1 _ => ?_
  exact aJ rfl
 ·exact aJ rfl
section
variable (Γ : Fun)  (Λ2 J : Lam)
def ayL : aP := aQ Γ
theorem aF1 (p0 : List aG) : bF SE (ayL Γ) Λ2 J 138 [.d (.sl aG.ks (List.map aG.enc p0))] [] [] =
 cond (List.isEmpty (List.map aG.enc p0)) (
 abh (
  (some (.ret [.row 0] [] [⟨aG.ks, 130, 32, []⟩]))) (
  cond (decide ((lM aG.enc [] + lM aG.enc p0) * 32 ≤ 140737488355328)) (
  (some (.ret [.row 0] [] [⟨aG.ks, 130, 32, ((List.map aG.enc []) ++ (List.map aG.enc p0))⟩]))) none)) (
 cond (decide ((lM aG.enc [] + lM aG.enc p0) * 32 ≤ 140737488355328)) (
 (some (.ret [.row 0] [] [⟨aG.ks, 130, 32, ((List.map aG.enc []) ++ (List.map aG.enc p0))⟩]))) none) := by kernel_rfl
end
abbrev aEL : aP := ayL gG
theorem aBd : aEL = aQ gG := rfl
theorem oE (p0 : List aG) : Le (Option.map cM (dU p0)) (bA SE 138 [.d (.sl aG.ks (List.map aG.enc p0))] [] []) := by
 refine aV aBd rfl ?_
 refine Le.trans ?_ (le_of_eq (aF1 ..).symm)
 unfold dU
 refine lD (by simp only [EN]) ?_ ?_
 ·refine alH ?_ ?_
  ·exact aJ rfl
  ·refine lG (by simp only [EN]) ?_
   exact aJ rfl
 ·refine lG (by simp only [EN]) ?_
  exact aJ rfl
section
variable (Γ : Fun) (γ138 : Gm ((List aG))) (Λ2 J : Lam)
def C80 : aP := aY (aQ Γ) 138 cM γ138
theorem T80 (p0 : aA) : bF SE (C80 Γ γ138) Λ2 J 80 [aA.av p0] [] [] =
 γ138 [.d (.sl aG.ks (List.map aG.enc p0.Props))] [] [] fun r0 =>
 (some (.ret [.agg [.d (.str p0.Topic), .d (.str p0.Payload), .d (.int .i64 p0.Level), .d (.bool p0.Retain), .d (.int .i64 p0.Priority), .d (.int .i64 p0.Expires), .d (.str p0.From), .d (.int .i64 p0.Seq), .row 0]] [] [⟨aG.ks, 130, 32, (List.map aG.enc r0)⟩])) := by kernel_rfl
end
abbrev X80 : aP := C80 gG (cT 138 cM)
theorem aEb : X80 = aQ gG := by unfold X80 C80; rw [bB fun _ h => h]
theorem mP (p0 : aA) : Le (Option.map bW (iE p0)) (bA SE 80 [aA.av p0] [] []) := by
 refine aV aEb rfl ?_
 refine Le.trans ?_ (le_of_eq (T80 ..).symm)
 unfold iE
 refine lQ eX nS (oE _) fun r0 _ => ?_
 exact aJ rfl
section
variable (Γ : Fun)  (Λ2 J : Lam)
def C81 : aP := aQ Γ
theorem T81 (p0 : Int) : bF SE (C81 Γ) Λ2 J 81 [.d (.int .i64 p0)] [] [] =
 cond (decide (p0 < 0)) (
 (some (.ret [.agg [.d (.int .i64 (if 32 < 0 then 32 else 0)), .row 0, .row 1, .d (.int .i64 0)]] [] [⟨aD.ks, 122, 128, (List.map aD.enc [])⟩, ⟨[.int .i64], 3, 8, (List.map eI [])⟩]))) (
 (some (.ret [.agg [.d (.int .i64 (if 32 < p0 then 32 else p0)), .row 0, .row 1, .d (.int .i64 0)]] [] [⟨aD.ks, 122, 128, (List.map aD.enc [])⟩, ⟨[.int .i64], 3, 8, (List.map eI [])⟩]))) := by kernel_rfl
end
abbrev X81 : aP := C81 gG
theorem aDL : X81 = aQ gG := rfl
theorem akd (p0 : Int) : Le (Option.map bX (aax p0)) (bA SE 81 [.d (.int .i64 p0)] [] []) := by
 refine aV aDL rfl ?_
 refine Le.trans ?_ (le_of_eq (T81 ..).symm)
 unfold aax
 refine lC ?_ ?_
 ·exact aJ rfl
 ·exact aJ rfl
section
variable (Γ : Fun) (γ80 : Gm (aA)) (γ81 : Gm (aI)) (Λ2 J : Lam)
def C31 : aP := aY (aY (aQ Γ) 80 bW γ80) 81 bX γ81
theorem T31 (p0 : aC) (p1 : Int) : bF SE (C31 Γ γ80 γ81) Λ2 J 31 [aC.av p0, .d (.int .i64 p1)] [] [] =
 γ80 [aA.av p0.Will.Message] [] [] fun r0 =>
 γ81 [.d (.int .i64 p0.Window)] [] [] fun r1 =>
 (some (.ret [.agg [.d (.str p0.Client), .d (.str p0.User), .d (.bool true), .d (.int .i64 p1), .d (.int .i64 p0.Expiry), .d (.int .i64 0), .d (.int .i64 0), .row 0, .row 1, .d (.int .i64 r1.Limit), .row 2, .row 3, .d (.int .i64 r1.Pool.Last), .row 4, .d (.bool p0.Will.Set), .d (.int .i64 p0.Will.Delay), .d (.str r0.Topic), .d (.str r0.Payload), .d (.int .i64 r0.Level), .d (.bool r0.Retain), .d (.int .i64 r0.Priority), .d (.int .i64 r0.Expires), .d (.str r0.From), .d (.int .i64 r0.Seq), .row 5]] [] [⟨aF.ks, 60, 32, (List.map aF.enc [])⟩, ⟨aA.ks, 34, 112, (List.map aA.enc [])⟩, ⟨aD.ks, 122, 128, (List.map aD.enc r1.Items)⟩, ⟨[.int .i64], 3, 8, (List.map eI r1.Pool.Used)⟩, ⟨[.int .i64], 3, 8, (List.map eI [])⟩, ⟨aG.ks, 130, 32, (List.map aG.enc r0.Props)⟩])) := by kernel_rfl
end
abbrev X31 : aP := C31 gG (cT 80 bW) (cT 81 bX)
theorem aD9 : X31 = aQ gG := by unfold X31 C31; repeat rw [bB fun _ h => h]
theorem aaT (p0 : aC) (p1 : Int) : Le (Option.map cB (p7 p0 p1)) (bA SE 31 [aC.av p0, .d (.int .i64 p1)] [] []) := by
 refine aV aD9 rfl ?_
 refine Le.trans ?_ (le_of_eq (T31 ..).symm)
 unfold p7
 refine lQ eX dB (mP _) fun r0 _ => ?_
 refine lQ eX fE (akd _) fun r1 _ => ?_
 exact aJ rfl
section
variable (Γ : Fun)  (Λ2 J : Lam)
def aAr : aP := aQ Γ
theorem aEg (p0 p1 : Str) : bF SE (aAr Γ) Λ2 J 163 [.d (.str p0), .d (.str p1)] [] [] =
 cond (decide ((List.length p0 : Int) ≥ (List.length p1 : Int))) (
 cond (decide (0 ≤ (List.length p1 : Int)) && decide ((List.length p1 : Int) ≤ ((List.length p0) : Int))) (
  (rB ((bQ p0 none (some (List.length p1 : Int))) == p1))) none) (
 (rB false)) := by kernel_rfl
end
abbrev aFM : aP := aAr gG
theorem aCo : aFM = aQ gG := rfl
theorem wM (p0 p1 : Str) : Le (Option.map aE (jE p0 p1)) (bA SE 163 [.d (.str p0), .d (.str p1)] [] []) := by
 refine aV aCo rfl ?_
 refine Le.trans ?_ (le_of_eq (aEg ..).symm)
 unfold jE
 refine lC ?_ ?_
 ·refine lF ?_
  exact aJ rfl
 ·exact aJ rfl
section
variable (Γ : Fun) (γ163 : Gm (Bool)) (Λ2 J : Lam)
def auZ : aP := aY (aQ Γ) 163 aE γ163
theorem aE6 (p0 p1 : Str) : bF SE (auZ Γ γ163) Λ2 J 179 [.d (.str p0), .d (.str p1)] [] [] =
 γ163 [.d (.str p0), .d (.str p1)] [] [] fun r0 =>
 cond (!r0) (
 (some (.ret [.d (.str p0), .d (.bool false)] [] []))) (
 cond (decide (0 ≤ (List.length p1 : Int)) && decide ((List.length p1 : Int) ≤ ((List.length p0) : Int))) (
 (some (.ret [.d (.str (bQ p0 (some (List.length p1 : Int)) none)), .d (.bool true)] [] []))) none) := by kernel_rfl
end
abbrev awL : aP := auZ gG (cT 163 aE)
theorem aB0 : awL = aQ gG := by unfold awL auZ; rw [bB fun _ h => h]
theorem adk (p0 p1 : Str) : Le (Option.map dA (oG p0 p1)) (bA SE 179 [.d (.str p0), .d (.str p1)] [] []) := by
 refine aV aB0 rfl ?_
 refine Le.trans ?_ (le_of_eq (aE6 ..).symm)
 unfold oG
 refine lQ eX aL (wM _ _) fun r0 _ => ?_
 refine lC ?_ ?_
 ·exact aJ rfl
 ·refine lF ?_
  exact aJ rfl
section
variable (Γ : Fun) (γ179 : Gm (Str × Bool)) (Λ2 J : Lam)
def atv : aP := aY (aQ Γ) 179 dA γ179
theorem aFY (p0 p1 : Str) : bF SE (atv Γ γ179) Λ2 J 159 [.d (.str p0), .d (.str p1)] [] [] =
 γ179 [.d (.str p0), .d (.str p1)] [] [] fun r0 =>
 (some (.ret [.d (.str r0.1), .d (.bool r0.2)] [] [])) := by kernel_rfl
end
abbrev awZ : aP := atv gG (cT 179 dA)
theorem aBl : awZ = aQ gG := by unfold awZ atv; rw [bB fun _ h => h]
theorem aga (p0 p1 : Str) : Le (Option.map dA (o7 p0 p1)) (bA SE 159 [.d (.str p0), .d (.str p1)] [] []) := by
 refine aV aBl rfl ?_
 refine Le.trans ?_ (le_of_eq (aFY ..).symm)
 unfold o7
 refine lQ eX vT (adk _ _) fun r0 _ => ?_
 exact aJ rfl
section
variable (Γ : Fun)  (Λ2 J : Lam)
def az0 : aP := aQ Γ
theorem aGc (p0 : Str) (p1 : Int) : bF SE (az0 Γ) Λ2 J 193 [.d (.str p0), .d (.int .u8 p1)] [] [] =
 (rI (Lib.indexByte p0 (UInt8.ofNat (Int.toNat p1)) : Int)) := by kernel_rfl
end
abbrev aGn : aP := az0 gG
theorem aCG : aGn = aQ gG := rfl
theorem acZ (p0 : Str) (p1 : Int) : Le (Option.map aH (tP p0 p1)) (bA SE 193 [.d (.str p0), .d (.int .u8 p1)] [] []) := by
 refine aV aCG rfl ?_
 refine Le.trans ?_ (le_of_eq (aGc ..).symm)
 unfold tP
 exact aJ rfl
section
variable (Γ : Fun) (γ193 : Gm (Int)) (Λ2 J : Lam)
def atp : aP := aY (aQ Γ) 193 aH γ193
theorem aFL (p0 p1 : Str) : bF SE (atp Γ γ193) Λ2 J 189 [.d (.str p0), .d (.str p1)] [] [] =
 cond ((List.length p1 : Int) == 0) (
 (rI 0)) (
 cond (p1 == p0) (
 (rI 0)) (
 cond ((List.length p1 : Int) == 1) (
 cond (decide (0 ≤ 0) && decide (0 < (List.length p1 : Int))) (
  γ193 [.d (.str p0), .d (.int .u8 (UInt8.toNat (List.getD p1 (Int.toNat 0) 0) : Int))] [] [] fun r0 =>
  (rI r0)) none) (
 cond (decide ((List.length p1 : Int) ≥ (List.length p0 : Int))) (
 (rI (-1))) none))) := by kernel_rfl
end
abbrev azx : aP := atp gG (cT 193 aH)
theorem aBu : azx = aQ gG := by unfold azx atp; rw [bB fun _ h => h]
theorem aat (p0 p1 : Str) : Le (Option.map aH (j0 p0 p1)) (bA SE 189 [.d (.str p0), .d (.str p1)] [] []) := by
 refine aV aBu rfl ?_
 refine Le.trans ?_ (le_of_eq (aFL ..).symm)
 unfold j0
 refine lC ?_ ?_
 ·exact aJ rfl
 ·refine lC ?_ ?_
  ·exact aJ rfl
  ·refine lC ?_ ?_
   ·refine lF ?_
    refine lQ eX aS (acZ _ _) fun r0 _ => ?_
    exact aJ rfl
   ·refine lF ?_
    exact aJ rfl
section
variable (Γ : Fun) (γ189 : Gm (Int)) (Λ2 J : Lam)
def auJ : aP := aY (aQ Γ) 189 aH γ189
theorem aE2 (p0 p1 : Str) : bF SE (auJ Γ γ189) Λ2 J 180 [.d (.str p0), .d (.str p1)] [] [] =
 γ189 [.d (.str p0), .d (.str p1)] [] [] fun r0 =>
 cond (decide (r0 ≥ 0)) (
 cond (decide (0 ≤ r0) && decide (r0 ≤ ((List.length p0) : Int))) (
  cond (decide (0 ≤ (w6 (r0 + (List.length p1 : Int)))) && decide ((w6 (r0 + (List.length p1 : Int))) ≤ ((List.length p0) : Int))) (
  (some (.ret [.d (.str (bQ p0 none (some r0))), .d (.str (bQ p0 (some (w6 (r0 + (List.length p1 : Int)))) none)), .d (.bool true)] [] []))) none) none) (
 (some (.ret [.d (.str p0), .d (.str []), .d (.bool false)] [] []))) := by kernel_rfl
end
abbrev aAA : aP := auJ gG (cT 189 aH)
theorem aDu : aAA = aQ gG := by unfold aAA auJ; rw [bB fun _ h => h]
theorem aih (p0 p1 : Str) : Le (Option.map bO (vR p0 p1)) (bA SE 180 [.d (.str p0), .d (.str p1)] [] []) := by
 refine aV aDu rfl ?_
 refine Le.trans ?_ (le_of_eq (aE2 ..).symm)
 unfold vR
 refine lQ eX aS (aat _ _) fun r0 _ => ?_
 refine lC ?_ ?_
 ·refine lF ?_
  refine lF ?_
  exact aJ rfl
 ·exact aJ rfl
section
variable (Γ : Fun) (γ180 : Gm (Str × Str × Bool)) (Λ2 J : Lam)
def atA : aP := aY (aQ Γ) 180 bO γ180
theorem aFn (p0 p1 : Str) : bF SE (atA Γ γ180) Λ2 J 160 [.d (.str p0), .d (.str p1)] [] [] =
 γ180 [.d (.str p0), .d (.str p1)] [] [] fun r0 =>
 (some (.ret [.d (.str r0.1), .d (.str r0.2.1), .d (.bool r0.2.2)] [] [])) := by kernel_rfl
end
abbrev ax4 : aP := atA gG (cT 180 bO)
theorem aDp : ax4 = aQ gG := by unfold ax4 atA; rw [bB fun _ h => h]
theorem alm (p0 p1 : Str) : Le (Option.map bO (xS p0 p1)) (bA SE 160 [.d (.str p0), .d (.str p1)] [] []) := by
 refine aV aDp rfl ?_
 refine Le.trans ?_ (le_of_eq (aFn ..).symm)
 unfold xS
 refine lQ eX iD (aih _ _) fun r0 _ => ?_
 exact aJ rfl
def an4 (C : aP) (Λ2 J : Lam) (a0 a1 : Int) (a2 : Bool) (a3 : Str) (a4 : Nat) : Res := lab SE C Λ2 J 139 0 [1, 1, 0, 1, 0, 0, 1, 1, 0, 1, 1, 0] (aW [(3, .d (.int .i64 a0)), (4, .d (.int .i32 a1)), (5, .d (.bool a2)), (15, .it 4000)] [] [] [(4000, (a3, a4))] [])
def ahJ (C : aP) (Λ2 J : Lam) (a0 : Str) (a1 : Nat) : Res := lab SE C Λ2 J 139 0 [1, 1, 0, 1, 0] (aW [(15, .it 4000)] [] [] [(4000, (a0, a1))] [])
def asn (C : aP) (Λ2 J : Lam) (a0 : Str) : Res := lab SE C Λ2 J 139 0 [1, 1, 0, 0] (aW [(0, .d (.str a0))] [] [] [] [])
section
variable (Γ : Fun)  (Λ2 J : Lam)
def abE : aP := aQ Γ
theorem aFm (p0 : Str) : bF SE (abE Γ) Λ2 J 139 [.d (.str p0)] [] [] =
 cond (decide ((List.length p0 : Int) < 1)) (
 (rB false)) (
 cond (decide ((List.length p0 : Int) > 16)) (
 (rB false)) (
 asn (abE Γ) Λ2 J p0)) := by kernel_rfl
theorem axm (x3 x4 : Int) (x5 : Bool) (s4000 : Str) (i4000 : Nat) : bT SE (abE Γ) Λ2 J 139 0 [1, 1, 0, 1, 0, 0, 1, 1, 0, 1, 1, 0] (aW [(3, .d (.int .i64 x3)), (4, .d (.int .i32 x4)), (5, .d (.bool x5)), (15, .it 4000)] [] [] [(4000, (s4000, i4000))] []) =
 cond (!x5) (
 cond (x3 == 0) (
  (rB false)) (
 cond (x4 != 45) (
  cond (decide (x4 < 48)) (
  (rB false)) (
  cond (decide (x4 > 57)) (
  (rB false)) (
  ahJ (abE Γ) Λ2 J s4000 i4000))) (
 ahJ (abE Γ) Λ2 J s4000 i4000))) (
 ahJ (abE Γ) Λ2 J s4000 i4000) := by kernel_rfl
theorem ayg (s4000 : Str) (i4000 : Nat) : bT SE (abE Γ) Λ2 J 139 0 [1, 1, 0, 1, 0] (aW [(15, .it 4000)] [] [] [(4000, (s4000, i4000))] []) =
 cond (decide (i4000 < List.length s4000)) (
 cond (decide (((dec s4000 i4000).1 : Int) ≥ 97)) (
  an4 (abE Γ) Λ2 J (i4000 : Int) ((dec s4000 i4000).1 : Int) (decide (((dec s4000 i4000).1 : Int) ≤ 122)) s4000 (i4000 + (dec s4000 i4000).2)) (
 an4 (abE Γ) Λ2 J (i4000 : Int) ((dec s4000 i4000).1 : Int) false s4000 (i4000 + (dec s4000 i4000).2))) (
 (rB true)) := by kernel_rfl
theorem aye (x0 : Str) : bT SE (abE Γ) Λ2 J 139 0 [1, 1, 0, 0] (aW [(0, .d (.str x0))] [] [] [] []) =
 ahJ (abE Γ) Λ2 J x0 0 := by kernel_rfl
end
abbrev ajk : aP := abE gG
theorem amW : ajk = aQ gG := rfl
abbrev axo := an4 ajk (bP SE gG (SE.hl 139) (SE.hr 139)) (J0 SE ajk)
abbrev ash := ahJ ajk (bP SE gG (SE.hl 139) (SE.hr 139)) (J0 SE ajk)
abbrev ayq := asn ajk (bP SE gG (SE.hl 139) (SE.hr 139)) (J0 SE ajk)
theorem adb (k4 : Str → Nat → Option (Bool)) (hk4 : ∀ (s4000 : Str) (i4000 : Nat), Le (Option.map aE (k4 s4000 i4000)) (ash s4000 i4000)) (x3 x4 : Int) (x5 : Bool) (s4000 : Str) (i4000 : Nat) : Le (Option.map aE (oS k4 x3 x4 x5 s4000 i4000)) (axo x3 x4 x5 s4000 i4000) := by
 refine Le.trans ?_ (le_of_eq ((aZ amW).trans (axm ..)).symm)
 unfold oS
 refine lC ?_ ?_
 ·refine lC ?_ ?_
  ·exact aJ rfl
  ·refine lC ?_ ?_
   ·refine lC ?_ ?_
    ·exact aJ rfl
    ·refine lC ?_ ?_
     ·exact aJ rfl
     ·exact hk4 s4000 i4000
   ·exact hk4 s4000 i4000
 ·exact hk4 s4000 i4000
theorem ajs : ∀ (fu : Nat) (s4000 : Str) (i4000 : Nat), Le (Option.map aE (kN fu s4000 i4000)) (ash s4000 i4000) := by
 intro fu
 induction fu with
 | zero => intros; exact le_none
 | succ fu ih =>
  intro s4000 i4000
  refine Le.trans ?_ (le_of_eq ((aZ amW).trans (ayg ..)).symm)
  unfold kN
  refine lC ?_ ?_
  ·refine lC ?_ ?_
   ·exact adb _ (ih) (i4000 : Int) ((dec s4000 i4000).1 : Int) (decide (((dec s4000 i4000).1 : Int) ≤ 122)) s4000 (i4000 + (dec s4000 i4000).2)
   ·exact adb _ (ih) (i4000 : Int) ((dec s4000 i4000).1 : Int) false s4000 (i4000 + (dec s4000 i4000).2)
  ·exact aJ rfl
theorem ajQ (x0 : Str) : Le (Option.map aE (yP x0)) (ayq x0) := by
 refine Le.trans ?_ (le_of_eq ((aZ amW).trans (aye ..)).symm)
 unfold yP
 exact ajs fuel x0 0
theorem yN (p0 : Str) : Le (Option.map aE (sP p0)) (bA SE 139 [.d (.str p0)] [] []) := by
 refine aV amW rfl ?_
 refine Le.trans ?_ (le_of_eq (aFm ..).symm)
 unfold sP
 refine lC ?_ ?_
 ·exact aJ rfl
 ·refine lC ?_ ?_
  ·exact aJ rfl
  ·exact ajQ p0
def akg (C : aP) (Λ2 J : Lam) (a0 : Int) (a1 : Str) (a2 : Nat) : Res := lab SE C Λ2 J 161 0 [1, 1, 1, 0, 1, 0] (aW [(3, .d (.int .i64 a0)), (15, .it 4000)] [] [] [(4000, (a1, a2))] [])
def asC (C : aP) (Λ2 J : Lam) (a0 : Str) : Res := lab SE C Λ2 J 161 0 [1, 1, 0] (aW [(0, .d (.str a0))] [] [] [] [])
section
variable (Γ : Fun)  (Λ2 J : Lam)
def aha : aP := aQ Γ
theorem aFb (p0 : Str) : bF SE (aha Γ) Λ2 J 161 [.d (.str p0)] [] [] =
 cond (decide ((List.length p0 : Int) < 1)) (
 (rB false)) (
 cond (decide ((List.length p0 : Int) > 64)) (
 (rB false)) (
 asC (aha Γ) Λ2 J p0)) := by kernel_rfl
theorem ax9 (x3 : Int) (s4000 : Str) (i4000 : Nat) : bT SE (aha Γ) Λ2 J 161 0 [1, 1, 1, 0, 1, 0] (aW [(3, .d (.int .i64 x3)), (15, .it 4000)] [] [] [(4000, (s4000, i4000))] []) =
 cond (decide (i4000 < List.length s4000)) (
 cond (((dec s4000 i4000).1 : Int) == 0) (
  (rB false)) (
 cond (((dec s4000 i4000).1 : Int) == 47) (
  akg (aha Γ) Λ2 J (w6 (x3 + 1)) s4000 (i4000 + (dec s4000 i4000).2)) (
 akg (aha Γ) Λ2 J x3 s4000 (i4000 + (dec s4000 i4000).2)))) (
 (rB (decide (x3 ≤ 8)))) := by kernel_rfl
theorem azc (x0 : Str) : bT SE (aha Γ) Λ2 J 161 0 [1, 1, 0] (aW [(0, .d (.str x0))] [] [] [] []) =
 akg (aha Γ) Λ2 J 1 x0 0 := by kernel_rfl
end
abbrev aot : aP := aha gG
theorem aqq : aot = aQ gG := rfl
abbrev aAc := akg aot (bP SE gG (SE.hl 161) (SE.hr 161)) (J0 SE aot)
abbrev ayo := asC aot (bP SE gG (SE.hl 161) (SE.hr 161)) (J0 SE aot)
theorem aiQ : ∀ (fu : Nat) (x3 : Int) (s4000 : Str) (i4000 : Nat), Le (Option.map aE (jQ fu x3 s4000 i4000)) (aAc x3 s4000 i4000) := by
 intro fu
 induction fu with
 | zero => intros; exact le_none
 | succ fu ih =>
  intro x3 s4000 i4000
  refine Le.trans ?_ (le_of_eq ((aZ aqq).trans (ax9 ..)).symm)
  unfold jQ
  refine lC ?_ ?_
  ·refine lC ?_ ?_
   ·exact aJ rfl
   ·refine lC ?_ ?_
    ·exact ih (w6 (x3 + 1)) s4000 (i4000 + (dec s4000 i4000).2)
    ·exact ih x3 s4000 (i4000 + (dec s4000 i4000).2)
  ·exact aJ rfl
theorem aiM (x0 : Str) : Le (Option.map aE (xA x0)) (ayo x0) := by
 refine Le.trans ?_ (le_of_eq ((aZ aqq).trans (azc ..)).symm)
 unfold xA
 exact aiQ fuel 1 x0 0
theorem aeR (p0 : Str) : Le (Option.map aE (vB p0)) (bA SE 161 [.d (.str p0)] [] []) := by
 refine aV aqq rfl ?_
 refine Le.trans ?_ (le_of_eq (aFb ..).symm)
 unfold vB
 refine lC ?_ ?_
 ·exact aJ rfl
 ·refine lC ?_ ?_
  ·exact aJ rfl
  ·exact aiM p0
section
variable (Γ : Fun) (γ189 : Gm (Int)) (Λ2 J : Lam)
def auq : aP := aY (aQ Γ) 189 aH γ189
theorem aE9 (p0 p1 : Str) : bF SE (auq Γ γ189) Λ2 J 199 [.d (.str p0), .d (.str p1)] [] [] =
 γ189 [.d (.str p0), .d (.str p1)] [] [] fun r0 =>
 (rI r0) := by kernel_rfl
end
abbrev ayv : aP := auq gG (cT 189 aH)
theorem aBj : ayv = aQ gG := by unfold ayv auq; rw [bB fun _ h => h]
theorem adi (p0 p1 : Str) : Le (Option.map aH (mS p0 p1)) (bA SE 199 [.d (.str p0), .d (.str p1)] [] []) := by
 refine aV aBj rfl ?_
 refine Le.trans ?_ (le_of_eq (aE9 ..).symm)
 unfold mS
 refine lQ eX aS (aat _ _) fun r0 _ => ?_
 exact aJ rfl
def apd (C : aP) (Λ2 J : Lam) (a0 a1 : Str) (a2 : Int) : Res := lab SE C Λ2 J 198 0 [1, 1, 1, 1, 0] (aW [(0, .d (.str a0)), (1, .d (.str a1)), (5, .d (.int .i64 a2))] [] [] [] [])
section
variable (Γ : Fun) (γ199 : Gm (Int)) (Λ2 J : Lam)
def alB : aP := aY (aQ Γ) 199 aH γ199
theorem aEk (p0 p1 : Str) : bF SE (alB Γ γ199) Λ2 J 198 [.d (.str p0), .d (.str p1)] [] [] =
 cond ((List.length p1 : Int) == 0) (
 none) (
 cond ((List.length p1 : Int) == 1) (
 cond (decide (0 ≤ 0) && decide (0 < (List.length p1 : Int))) (
  (rI (Lib.countByte p0 (UInt8.ofNat (Int.toNat (UInt8.toNat (List.getD p1 (Int.toNat 0) 0) : Int))) : Int))) none) (
 apd (alB Γ γ199) Λ2 J p0 p1 0)) := by kernel_rfl
theorem ax3 (x0 x1 : Str) (x5 : Int) : bT SE (alB Γ γ199) Λ2 J 198 0 [1, 1, 1, 1, 0] (aW [(0, .d (.str x0)), (1, .d (.str x1)), (5, .d (.int .i64 x5))] [] [] [] []) =
 γ199 [.d (.str x0), .d (.str x1)] [] [] fun r0 =>
 cond (r0 == (-1)) (
 (rI x5)) (
 cond (decide (0 ≤ (w6 (r0 + (List.length x1 : Int)))) && decide ((w6 (r0 + (List.length x1 : Int))) ≤ ((List.length x0) : Int))) (
 apd (alB Γ γ199) Λ2 J (bQ x0 (some (w6 (r0 + (List.length x1 : Int)))) none) x1 (w6 (x5 + 1))) none) := by kernel_rfl
end
abbrev arK : aP := alB gG (cT 199 aH)
theorem avA : arK = aQ gG := by unfold arK alB; rw [bB fun _ h => h]
abbrev awQ := apd arK (bP SE gG (SE.hl 198) (SE.hr 198)) (J0 SE arK)
theorem ag6 : ∀ (fu : Nat) (x0 x1 : Str) (x5 : Int), Le (Option.map aH (uG fu x0 x1 x5)) (awQ x0 x1 x5) := by
 intro fu
 induction fu with
 | zero => intros; exact le_none
 | succ fu ih =>
  intro x0 x1 x5
  refine Le.trans ?_ (le_of_eq ((aZ avA).trans (ax3 ..)).symm)
  unfold uG
  refine lQ eX aS (adi _ _) fun r0 _ => ?_
  refine lC ?_ ?_
  ·exact aJ rfl
  ·refine lF ?_
   exact ih (bQ x0 (some (w6 (r0 + (List.length x1 : Int)))) none) x1 (w6 (x5 + 1))
theorem ajy (p0 p1 : Str) : Le (Option.map aH (vA p0 p1)) (bA SE 198 [.d (.str p0), .d (.str p1)] [] []) := by
 refine aV avA rfl ?_
 refine Le.trans ?_ (le_of_eq (aEk ..).symm)
 unfold vA
 refine lC ?_ ?_
 ·exact le_none
 ·refine lC ?_ ?_
  ·refine lF ?_
   exact aJ rfl
  ·exact ag6 fuel p0 p1 0
def als (C : aP) (Λ2 J : Lam) (a0 : Str) (a1 : Int) (a2 : List (List D)) : Res := lab SE C Λ2 J 190 0 [1, 1, 1, 1, 1, 1, 1, 1, 1, 0] (aW [(0, .d (.str a0)), (9, .row 3009), (10, .d (.int .i64 a1))] [] [] [] [(3009, ⟨[.str], 9, 16, a2⟩)])
def alT (C : aP) (Λ2 J : Lam) (a0 a1 : Str) (a2 a3 a4 : Int) (a5 : List (List D)) : Res := lab SE C Λ2 J 190 0 [1, 1, 1, 1, 1, 1, 1, 1, 0, 0] (aW [(0, .d (.str a0)), (1, .d (.str a1)), (2, .d (.int .i64 a2)), (3, .d (.int .i64 a3)), (9, .row 3009), (10, .d (.int .i64 a4))] [] [] [] [(3009, ⟨[.str], 9, 16, a5⟩)])
def apf (C : aP) (Λ2 J : Lam) (a0 a1 : Str) (a2 a3 : Int) : Res := lab SE C Λ2 J 190 0 [1, 1, 1, 1, 0] (aW [(0, .d (.str a0)), (1, .d (.str a1)), (2, .d (.int .i64 a2)), (3, .d (.int .i64 a3))] [] [] [] [])
section
variable (Γ : Fun) (γ198 γ199 : Gm (Int)) (Λ2 J : Lam)
def abQ : aP := aY (aY (aQ Γ) 198 aH γ198) 199 aH γ199
theorem aEp (p0 p1 : Str) (p2 p3 : Int) : bF SE (abQ Γ γ198 γ199) Λ2 J 190 [.d (.str p0), .d (.str p1), .d (.int .i64 p2), .d (.int .i64 p3)] [] [] =
 cond (p3 == 0) (
 (some (.ret [.d (.sl [.str] (List.map bL []))] [] []))) (
 cond (p1 == ([] : Str)) (
 none) (
 cond (decide (p3 < 0)) (
 γ198 [.d (.str p0), .d (.str p1)] [] [] fun r0 =>
 apf (abQ Γ γ198 γ199) Λ2 J p0 p1 p2 (w6 (r0 + 1))) (
 apf (abQ Γ γ198 γ199) Λ2 J p0 p1 p2 p3))) := by kernel_rfl
theorem av3 (x0 : Str) (x10 : Int) (w3009 : List Str) : bT SE (abQ Γ γ198 γ199) Λ2 J 190 0 [1, 1, 1, 1, 1, 1, 1, 1, 1, 0] (aW [(0, .d (.str x0)), (9, .row 3009), (10, .d (.int .i64 x10))] [] [] [] [(3009, ⟨[.str], 9, 16, (List.map bL w3009)⟩)]) =
 cond (iB x10 (lM bL w3009 : Int)) (
 cond (decide (0 ≤ (w6 (x10 + 1))) && decide ((w6 (x10 + 1)) ≤ ((List.length (mY (List.map bL w3009) (Int.toNat x10) 0 [D.str x0])) : Int))) (
  (some (.ret [.d (.sl [.str] (List.take ((Int.toNat (w6 (x10 + 1))) - 0) (List.drop 0 (mY (List.map bL w3009) (Int.toNat x10) 0 [D.str x0]))))] [] []))) none) none := by kernel_rfl
theorem awc (x0 x1 : Str) (x2 x3 x10 : Int) (w3009 : List Str) : bT SE (abQ Γ γ198 γ199) Λ2 J 190 0 [1, 1, 1, 1, 1, 1, 1, 1, 0, 0] (aW [(0, .d (.str x0)), (1, .d (.str x1)), (2, .d (.int .i64 x2)), (3, .d (.int .i64 x3)), (9, .row 3009), (10, .d (.int .i64 x10))] [] [] [] [(3009, ⟨[.str], 9, 16, (List.map bL w3009)⟩)]) =
 cond (decide (x10 < x3)) (
 γ199 [.d (.str x0), .d (.str x1)] [] [] fun r1 =>
 cond (decide (r1 < 0)) (
  als (abQ Γ γ198 γ199) Λ2 J x0 x10 (List.map bL w3009)) (
 cond (decide (0 ≤ (w6 (r1 + x2))) && decide ((w6 (r1 + x2)) ≤ ((List.length x0) : Int))) (
  cond (iB x10 (lM bL w3009 : Int)) (
  cond (decide (0 ≤ (w6 (r1 + (List.length x1 : Int)))) && decide ((w6 (r1 + (List.length x1 : Int))) ≤ ((List.length x0) : Int))) (
   alT (abQ Γ γ198 γ199) Λ2 J (bQ x0 (some (w6 (r1 + (List.length x1 : Int)))) none) x1 x2 x3 (w6 (x10 + 1)) ((mY (List.map bL w3009) (Int.toNat x10) 0 [D.str (bQ x0 none (some (w6 (r1 + x2))))]))) none) none) none)) (
 als (abQ Γ γ198 γ199) Λ2 J x0 x10 (List.map bL w3009)) := by kernel_rfl
theorem ayS (x0 x1 : Str) (x2 x3 : Int) : bT SE (abQ Γ γ198 γ199) Λ2 J 190 0 [1, 1, 1, 1, 0] (aW [(0, .d (.str x0)), (1, .d (.str x1)), (2, .d (.int .i64 x2)), (3, .d (.int .i64 x3))] [] [] [] []) =
 cond (decide (0 ≤ (if (w6 ((List.length x0 : Int) + 1)) < x3 then (w6 ((List.length x0 : Int) + 1)) else x3)) && decide ((if (w6 ((List.length x0 : Int) + 1)) < x3 then (w6 ((List.length x0 : Int) + 1)) else x3) ≤ (if (w6 ((List.length x0 : Int) + 1)) < x3 then (w6 ((List.length x0 : Int) + 1)) else x3)) && decide ((if (w6 ((List.length x0 : Int) + 1)) < x3 then (w6 ((List.length x0 : Int) + 1)) else x3) * 16 ≤ 281474976710656)) (
 alT (abQ Γ γ198 γ199) Λ2 J x0 x1 x2 ((w6 ((if (w6 ((List.length x0 : Int) + 1)) < x3 then (w6 ((List.length x0 : Int) + 1)) else x3) - 1))) 0 ((List.replicate (Int.toNat (if (w6 ((List.length x0 : Int) + 1)) < x3 then (w6 ((List.length x0 : Int) + 1)) else x3)) [D.str []]))) none := by kernel_rfl
end
abbrev ahg : aP := abQ gG (cT 198 aH) (cT 199 aH)
theorem anb : ahg = aQ gG := by unfold ahg abQ; repeat rw [bB fun _ h => h]
abbrev awt := als ahg (bP SE gG (SE.hl 190) (SE.hr 190)) (J0 SE ahg)
abbrev avX := alT ahg (bP SE gG (SE.hl 190) (SE.hr 190)) (J0 SE ahg)
abbrev ayY := apf ahg (bP SE gG (SE.hl 190) (SE.hr 190)) (J0 SE ahg)
theorem xF (x0 : Str) (x10 : Int) (w3009 : List Str) : Le (Option.map cF (lN x0 x10 w3009)) (awt x0 x10 (List.map bL w3009)) := by
 refine Le.trans ?_ (le_of_eq ((aZ anb).trans (av3 ..)).symm)
 unfold lN
 refine lG (by simp only [EN]) ?_
 refine lG (by simp only [EN]) ?_
 exact aJ (by first | rfl | simp only [EN, cF] <;> rfl)
theorem adq : ∀ (fu : Nat) (x0 x1 : Str) (x2 x3 x10 : Int) (w3009 : List Str), Le (Option.map cF (gW fu x0 x1 x2 x3 x10 w3009)) (avX x0 x1 x2 x3 x10 (List.map bL w3009)) := by
 intro fu
 induction fu with
 | zero => intros; exact le_none
 | succ fu ih =>
  intro x0 x1 x2 x3 x10 w3009
  refine Le.trans ?_ (le_of_eq ((aZ anb).trans (awc ..)).symm)
  unfold gW
  refine lC ?_ ?_
  ·refine lQ eX aS (adi _ _) fun r1 _ => ?_
   refine lC ?_ ?_
   ·exact xF x0 x10 w3009
   ·refine lF ?_
    refine lG (by simp only [EN]) ?_
    refine lF ?_
    (try simp only [EN]); exact ih (bQ x0 (some (w6 (r1 + (List.length x1 : Int)))) none) x1 x2 x3 (w6 (x10 + 1)) ((List.set w3009 (Int.toNat x10) (bQ x0 none (some (w6 (r1 + x2))))))
  ·exact xF x0 x10 w3009
theorem yD (x0 x1 : Str) (x2 x3 : Int) : Le (Option.map cF (m8 x0 x1 x2 x3)) (ayY x0 x1 x2 x3) := by
 refine Le.trans ?_ (le_of_eq ((aZ anb).trans (ayS ..)).symm)
 unfold m8
 refine lF ?_
 (try simp only [EN]); exact adq fuel x0 x1 x2 ((w6 ((if (w6 ((List.length x0 : Int) + 1)) < x3 then (w6 ((List.length x0 : Int) + 1)) else x3) - 1))) 0 ((List.replicate (Int.toNat (if (w6 ((List.length x0 : Int) + 1)) < x3 then (w6 ((List.length x0 : Int) + 1)) else x3)) (default : Str)))
theorem agZ (p0 p1 : Str) (p2 p3 : Int) : Le (Option.map cF (uF p0 p1 p2 p3)) (bA SE 190 [.d (.str p0), .d (.str p1), .d (.int .i64 p2), .d (.int .i64 p3)] [] []) := by
 refine aV anb rfl ?_
 refine Le.trans ?_ (le_of_eq (aEp ..).symm)
 unfold uF
 refine lC ?_ ?_
 ·exact aJ rfl
 ·refine lC ?_ ?_
  ·exact le_none
  ·refine lC ?_ ?_
   ·refine lQ eX aS (ajy _ _) fun r0 _ => ?_
    exact yD p0 p1 p2 (w6 (r0 + 1))
   ·exact yD p0 p1 p2 p3
section
variable (Γ : Fun) (γ190 : Gm ((List Str))) (Λ2 J : Lam)
def atW : aP := aY (aQ Γ) 190 cF γ190
theorem aDK (p0 p1 : Str) : bF SE (atW Γ γ190) Λ2 J 181 [.d (.str p0), .d (.str p1)] [] [] =
 γ190 [.d (.str p0), .d (.str p1), .d (.int .i64 0), .d (.int .i64 (-1))] [] [] fun r0 =>
 (some (.ret [.d (.sl [.str] (List.map bL r0))] [] [])) := by kernel_rfl
end
abbrev awG : aP := atW gG (cT 190 cF)
theorem aBN : awG = aQ gG := by unfold awG atW; rw [bB fun _ h => h]
theorem ajr (p0 p1 : Str) : Le (Option.map cF (uU p0 p1)) (bA SE 181 [.d (.str p0), .d (.str p1)] [] []) := by
 refine aV aBN rfl ?_
 refine Le.trans ?_ (le_of_eq (aDK ..).symm)
 unfold uU
 refine lQ eX uP (agZ _ _ _ _) fun r0 _ => ?_
 exact aJ rfl
section
variable (Γ : Fun) (γ181 : Gm ((List Str))) (Λ2 J : Lam)
def atB : aP := aY (aQ Γ) 181 cF γ181
theorem aD3 (p0 : Str) : bF SE (atB Γ γ181) Λ2 J 162 [.d (.str p0)] [] [] =
 γ181 [.d (.str p0), .d (.str ([47] : Str))] [] [] fun r0 =>
 (some (.ret [.d (.sl [.str] (List.map bL r0))] [] [])) := by kernel_rfl
end
abbrev azu : aP := atB gG (cT 181 cF)
theorem aAO : azu = aQ gG := by unfold azu atB; rw [bB fun _ h => h]
theorem aki (p0 : Str) : Le (Option.map cF (v8 p0)) (bA SE 162 [.d (.str p0)] [] []) := by
 refine aV aAO rfl ?_
 refine Le.trans ?_ (le_of_eq (aD3 ..).symm)
 unfold v8
 refine lQ eX uP (ajr _ _) fun r0 _ => ?_
 exact aJ rfl
def ae9 (C : aP) (Λ2 J : Lam) (a0 : List (List D)) (a1 : Bool) (a2 : Int) (a3 : Str) (a4 : List (List D)) (a5 a6 : Int) (a7 : Str) (a8 : Nat) : Res := lab SE C Λ2 J 126 0 [1, 0, 1, 1, 1, 1, 0, 1, 0, 0, 1, 1, 0, 0, 1, 1, 0] (aW [(3, .d (.sl [.str] a0)), (4, .d (.bool a1)), (5, .d (.int .i64 a2)), (6, .d (.str a3)), (15, .d (.sl [.str] a4)), (16, .d (.int .i64 a5)), (17, .d (.int .i64 a6)), (23, .it 4000)] [] [] [(4000, (a7, a8))] [])
def ani (C : aP) (Λ2 J : Lam) (a0 : List (List D)) (a1 : Bool) (a2 : List (List D)) (a3 a4 : Int) : Res := lab SE C Λ2 J 126 0 [1, 0, 1, 1, 1, 1, 0, 1, 0] (aW [(3, .d (.sl [.str] a0)), (4, .d (.bool a1)), (15, .d (.sl [.str] a2)), (16, .d (.int .i64 a3)), (17, .d (.int .i64 a4))] [] [] [] [])
section
variable (Γ : Fun) (γ161 : Gm (Bool)) (γ162 : Gm ((List Str))) (Λ2 J : Lam)
def abL : aP := aY (aY (aQ Γ) 161 aE γ161) 162 cF γ162
theorem aFQ (p0 : Str) : bF SE (abL Γ γ161 γ162) Λ2 J 126 [.d (.str p0)] [] [] =
 γ161 [.d (.str p0)] [] [] fun r0 =>
 cond (!r0) (
 (rB false)) (
 γ162 [.d (.str p0)] [] [] fun r1 =>
 ani (abL Γ γ161 γ162) Λ2 J (List.map bL r1) true (List.map bL r1) (lM bL r1 : Int) 0) := by kernel_rfl
theorem azF (x3 : List Str) (x4 : Bool) (x5 : Int) (x6 : Str) (x15 : List Str) (x16 x17 : Int) (s4000 : Str) (i4000 : Nat) : bT SE (abL Γ γ161 γ162) Λ2 J 126 0 [1, 0, 1, 1, 1, 1, 0, 1, 0, 0, 1, 1, 0, 0, 1, 1, 0] (aW [(3, .d (.sl [.str] (List.map bL x3))), (4, .d (.bool x4)), (5, .d (.int .i64 x5)), (6, .d (.str x6)), (15, .d (.sl [.str] (List.map bL x15))), (16, .d (.int .i64 x16)), (17, .d (.int .i64 x17)), (23, .it 4000)] [] [] [(4000, (s4000, i4000))] []) =
 cond (decide (i4000 < List.length s4000)) (
 cond (((dec s4000 i4000).1 : Int) == 43) (
  cond (!((List.length x6 : Int) == 1)) (
  (rB false)) (
  cond (((dec s4000 i4000).1 : Int) == 35) (
  cond (!((List.length x6 : Int) == 1)) (
   (rB false)) (
  cond (decide (x5 < (w6 ((lM bL x3 : Int) - 1)))) (
   (rB false)) (
  ae9 (abL Γ γ161 γ162) Λ2 J (List.map bL x3) x4 x5 x6 (List.map bL x15) x16 x17 s4000 (i4000 + (dec s4000 i4000).2)))) (
  ae9 (abL Γ γ161 γ162) Λ2 J (List.map bL x3) x4 x5 x6 (List.map bL x15) x16 x17 s4000 (i4000 + (dec s4000 i4000).2)))) (
 cond (((dec s4000 i4000).1 : Int) == 35) (
  cond (!((List.length x6 : Int) == 1)) (
  (rB false)) (
  cond (decide (x5 < (w6 ((lM bL x3 : Int) - 1)))) (
  (rB false)) (
  ae9 (abL Γ γ161 γ162) Λ2 J (List.map bL x3) x4 x5 x6 (List.map bL x15) x16 x17 s4000 (i4000 + (dec s4000 i4000).2)))) (
 ae9 (abL Γ γ161 γ162) Λ2 J (List.map bL x3) x4 x5 x6 (List.map bL x15) x16 x17 s4000 (i4000 + (dec s4000 i4000).2)))) (
 ani (abL Γ γ161 γ162) Λ2 J (List.map bL x3) x4 (List.map bL x15) x16 (w6 (x17 + 1))) := by kernel_rfl
theorem ayk (x3 : List Str) (x4 : Bool) (x15 : List Str) (x16 x17 : Int) : bT SE (abL Γ γ161 γ162) Λ2 J 126 0 [1, 0, 1, 1, 1, 1, 0, 1, 0] (aW [(3, .d (.sl [.str] (List.map bL x3))), (4, .d (.bool x4)), (15, .d (.sl [.str] (List.map bL x15))), (16, .d (.int .i64 x16)), (17, .d (.int .i64 x17))] [] [] [] []) =
 cond (decide (x17 < x16)) (
 cond (iB x17 (lM bL x15 : Int)) (
  ae9 (abL Γ γ161 γ162) Λ2 J (List.map bL x3) x4 x17 ((bC (cE bL x15 x17 0))) (List.map bL x15) x16 x17 ((bC (cE bL x15 x17 0))) 0) none) (
 (rB x4)) := by kernel_rfl
end
abbrev alK : aP := abL gG (cT 161 aE) (cT 162 cF)
theorem aqt : alK = aQ gG := by unfold alK abL; repeat rw [bB fun _ h => h]
abbrev axK := ae9 alK (bP SE gG (SE.hl 126) (SE.hr 126)) (J0 SE alK)
abbrev asM := ani alK (bP SE gG (SE.hl 126) (SE.hr 126)) (J0 SE alK)
theorem ah8 : ∀ (fu : Nat) (k6 : (List Str) → Bool → (List Str) → Int → Int → Option (Bool)) (hk6 : ∀ (x3 : List Str) (x4 : Bool) (x15 : List Str) (x16 x17 : Int), Le (Option.map aE (k6 x3 x4 x15 x16 x17)) (asM (List.map bL x3) x4 (List.map bL x15) x16 x17)) (x3 : List Str) (x4 : Bool) (x5 : Int) (x6 : Str) (x15 : List Str) (x16 x17 : Int) (s4000 : Str) (i4000 : Nat), Le (Option.map aE (fZ fu k6 x3 x4 x5 x6 x15 x16 x17 s4000 i4000)) (axK (List.map bL x3) x4 x5 x6 (List.map bL x15) x16 x17 s4000 i4000) := by
 intro fu
 induction fu with
 | zero => intros; exact le_none
 | succ fu ih =>
  intro k6 hk6 x3 x4 x5 x6 x15 x16 x17 s4000 i4000
  refine Le.trans ?_ (le_of_eq ((aZ aqt).trans (azF ..)).symm)
  unfold fZ
  refine lC ?_ ?_
  ·refine lC ?_ ?_
   ·refine lC ?_ ?_
    ·exact aJ rfl
    ·refine lC ?_ ?_
     ·refine lC ?_ ?_
      ·exact aJ rfl
      ·refine lD (by simp only [EN]) ?_ ?_
       ·exact aJ rfl
       ·exact ih _ hk6 x3 x4 x5 x6 x15 x16 x17 s4000 (i4000 + (dec s4000 i4000).2)
     ·exact ih _ hk6 x3 x4 x5 x6 x15 x16 x17 s4000 (i4000 + (dec s4000 i4000).2)
   ·refine lC ?_ ?_
    ·refine lC ?_ ?_
     ·exact aJ rfl
     ·refine lD (by simp only [EN]) ?_ ?_
      ·exact aJ rfl
      ·exact ih _ hk6 x3 x4 x5 x6 x15 x16 x17 s4000 (i4000 + (dec s4000 i4000).2)
    ·exact ih _ hk6 x3 x4 x5 x6 x15 x16 x17 s4000 (i4000 + (dec s4000 i4000).2)
  ·exact hk6 x3 x4 x15 x16 (w6 (x17 + 1))
theorem ahY : ∀ (fu : Nat) (x3 : List Str) (x4 : Bool) (x15 : List Str) (x16 x17 : Int), Le (Option.map aE (mC fu x3 x4 x15 x16 x17)) (asM (List.map bL x3) x4 (List.map bL x15) x16 x17) := by
 intro fu
 induction fu with
 | zero => intros; exact le_none
 | succ fu ih =>
  intro x3 x4 x15 x16 x17
  refine Le.trans ?_ (le_of_eq ((aZ aqt).trans (ayk ..)).symm)
  unfold mC
  refine lC ?_ ?_
  ·refine lG (by simp only [EN]) ?_
   (try simp only [EN]); exact ah8 fuel _ (ih) x3 x4 x17 (List.getD x15 (Int.toNat x17) default) x15 x16 x17 (List.getD x15 (Int.toNat x17) default) 0
  ·exact aJ rfl
theorem adZ (p0 : Str) : Le (Option.map aE (tG p0)) (bA SE 126 [.d (.str p0)] [] []) := by
 refine aV aqt rfl ?_
 refine Le.trans ?_ (le_of_eq (aFQ ..).symm)
 unfold tG
 refine lQ eX aL (aeR _) fun r0 _ => ?_
 refine lC ?_ ?_
 ·exact aJ rfl
 ·refine lQ eX uP (aki _) fun r1 _ => ?_
  (try simp only [EN]); exact ahY fuel r1 true r1 (List.length r1 : Int) 0
section
variable (Γ : Fun) (γ163 : Gm (Bool)) (Λ2 J : Lam)
def ata : aP := aY (aQ Γ) 163 aE γ163
theorem aEJ (p0 p1 : Str) : bF SE (ata Γ γ163) Λ2 J 127 [.d (.str p0), .d (.str p1)] [] [] =
 γ163 [.d (.str p0), .d (.str p1)] [] [] fun r0 =>
 (rB r0) := by kernel_rfl
end
abbrev ayt : aP := ata gG (cT 163 aE)
theorem aCD : ayt = aQ gG := by unfold ayt ata; rw [bB fun _ h => h]
theorem aag (p0 p1 : Str) : Le (Option.map aE (mO p0 p1)) (bA SE 127 [.d (.str p0), .d (.str p1)] [] []) := by
 refine aV aCD rfl ?_
 refine Le.trans ?_ (le_of_eq (aEJ ..).symm)
 unfold mO
 refine lQ eX aL (wM _ _) fun r0 _ => ?_
 exact aJ rfl
section
variable (Γ : Fun) (γ159 : Gm (Str × Bool)) (γ160 : Gm (Str × Str × Bool)) (γ139 γ126 γ127 : Gm (Bool)) (Λ2 J : Lam)
def atN : aP := aY (aY (aY (aY (aY (aQ Γ) 159 dA γ159) 160 bO γ160) 139 aE γ139) 126 aE γ126) 127 aE γ127
theorem aFT (p0 : Str) : bF SE (atN Γ γ159 γ160 γ139 γ126 γ127) Λ2 J 124 [.d (.str p0)] [] [] =
 γ159 [.d (.str p0), .d (.str ([36, 115, 104, 97, 114, 101, 47] : Str))] [] [] fun r0 =>
 cond (!r0.2) (
 (some (.ret [.d (.str []), .d (.str []), .d (.bool false)] [] []))) (
 γ160 [.d (.str r0.1), .d (.str ([47] : Str))] [] [] fun r1 =>
 cond (!r1.2.2) (
 (some (.ret [.d (.str []), .d (.str []), .d (.bool false)] [] []))) (
 γ139 [.d (.str r1.1)] [] [] fun r2 =>
 cond (!r2) (
 (some (.ret [.d (.str []), .d (.str []), .d (.bool false)] [] []))) (
 γ126 [.d (.str r1.2.1)] [] [] fun r3 =>
 cond (!r3) (
 (some (.ret [.d (.str []), .d (.str []), .d (.bool false)] [] []))) (
 γ127 [.d (.str r1.2.1), .d (.str ([36, 115, 104, 97, 114, 101, 47] : Str))] [] [] fun r4 =>
 cond r4 (
 (some (.ret [.d (.str []), .d (.str []), .d (.bool false)] [] []))) (
 (some (.ret [.d (.str r1.1), .d (.str r1.2.1), .d (.bool true)] [] []))))))) := by kernel_rfl
end
abbrev azH : aP := atN gG (cT 159 dA) (cT 160 bO) (cT 139 aE) (cT 126 aE) (cT 127 aE)
theorem aBr : azH = aQ gG := by unfold azH atN; repeat rw [bB fun _ h => h]
theorem akj (p0 : Str) : Le (Option.map bO (wL p0)) (bA SE 124 [.d (.str p0)] [] []) := by
 refine aV aBr rfl ?_
 refine Le.trans ?_ (le_of_eq (aFT ..).symm)
 unfold wL
 refine lQ eX vT (aga _ _) fun r0 _ => ?_
 refine lC ?_ ?_
 ·exact aJ rfl
 ·refine lQ eX iD (alm _ _) fun r1 _ => ?_
  refine lC ?_ ?_
  ·exact aJ rfl
  ·refine lQ eX aL (yN _) fun r2 _ => ?_
   refine lC ?_ ?_
   ·exact aJ rfl
   ·refine lQ eX aL (adZ _) fun r3 _ => ?_
    refine lC ?_ ?_
    ·exact aJ rfl
    ·refine lQ eX aL (aag _ _) fun r4 _ => ?_
     refine lC ?_ ?_
     ·exact aJ rfl
     ·exact aJ rfl
section
variable (Γ : Fun) (γ126 γ127 : Gm (Bool)) (Λ2 J : Lam)
def auY : aP := aY (aY (aQ Γ) 126 aE γ126) 127 aE γ127
theorem aEh (p0 : aF) : bF SE (auY Γ γ126 γ127) Λ2 J 125 [.ptr 2000000000 0] [⟨60, (aF.avs p0)⟩] [] =
 γ126 [.d (.str p0.Filter)] [] [] fun r0 =>
 cond r0 (
 γ127 [.d (.str p0.Filter), .d (.str ([36, 115, 104, 97, 114, 101, 47] : Str))] [] [] fun r1 =>
 (some (.ret [.d (.bool (!r1))] [⟨60, (aF.avs p0)⟩] []))) (
 (some (.ret [.d (.bool false)] [⟨60, (aF.avs p0)⟩] []))) := by kernel_rfl
end
abbrev axj : aP := auY gG (cT 126 aE) (cT 127 aE)
theorem aCS : axj = aQ gG := by unfold axj auY; repeat rw [bB fun _ h => h]
theorem afl (p0 : aF) : Le (Option.map iF (sA p0)) (bA SE 125 [.ptr 2000000000 0] [⟨60, (aF.avs p0)⟩] []) := by
 refine aV aCS rfl ?_
 refine Le.trans ?_ (le_of_eq (aEh ..).symm)
 unfold sA
 refine lQ eX aL (adZ _) fun r0 _ => ?_
 refine lC ?_ ?_
 ·refine lQ eX aL (aag _ _) fun r1 _ => ?_
  exact aJ rfl
 ·exact aJ rfl
section
variable (Γ : Fun) (γ124 : Gm (Str × Str × Bool)) (γ125 : Gm (Bool × aF)) (Λ2 J : Lam)
def C66 : aP := aY (aY (aQ Γ) 124 bO γ124) 125 iF γ125
theorem T66 (p0 : aF) : bF SE (C66 Γ γ124 γ125) Λ2 J 66 [aF.av p0] [] [] =
 γ124 [.d (.str p0.Filter)] [] [] fun r0 =>
 cond (!r0.2.2) (
 γ125 [.ptr 2000000000 0] [⟨60, (aF.avs p0)⟩] [] fun r1 =>
 cond (!r1.1) (
  (rI 13)) (
 cond (decide (r1.2.Level < 0)) (
  (rI 14)) (
 cond (decide (r1.2.Level > 2)) (
  (rI 14)) (
 cond r1.2.NoLocal (
  cond r0.2.2 (
  (rI 28)) (
  (rI 0))) (
 (rI 0)))))) (
 cond (decide (p0.Level < 0)) (
 (rI 14)) (
 cond (decide (p0.Level > 2)) (
 (rI 14)) (
 cond p0.NoLocal (
 cond r0.2.2 (
  (rI 28)) (
 (rI 0))) (
 (rI 0))))) := by kernel_rfl
end
abbrev X66 : aP := C66 gG (cT 124 bO) (cT 125 iF)
theorem aDM : X66 = aQ gG := by unfold X66 C66; repeat rw [bB fun _ h => h]
theorem aaH (p0 : aF) : Le (Option.map aH (nH p0)) (bA SE 66 [aF.av p0] [] []) := by
 refine aV aDM rfl ?_
 refine Le.trans ?_ (le_of_eq (T66 ..).symm)
 unfold nH
 refine lQ eX iD (akj _) fun r0 _ => ?_
 refine lC ?_ ?_
 ·refine lQ eX aeO (afl _) fun r1 _ => ?_
  refine lC ?_ ?_
  ·exact aJ rfl
  ·refine lC ?_ ?_
   ·exact aJ rfl
   ·refine lC ?_ ?_
    ·exact aJ rfl
    ·refine lC ?_ ?_
     ·refine lC ?_ ?_
      ·exact aJ rfl
      ·exact aJ rfl
     ·exact aJ rfl
 ·refine lC ?_ ?_
  ·exact aJ rfl
  ·refine lC ?_ ?_
   ·exact aJ rfl
   ·refine lC ?_ ?_
    ·refine lC ?_ ?_
     ·exact aJ rfl
     ·exact aJ rfl
    ·exact aJ rfl
section
variable (Γ : Fun)  (Λ2 J : Lam)
def ay8 : aP := aQ Γ
theorem aGs (p0 p1 : Str) : bF SE (ay8 Γ) Λ2 J 164 [.d (.str p0), .d (.str p1)] [] [] =
 (rI (Lib.compareBytes p0 p1)) := by kernel_rfl
end
abbrev aEI : aP := ay8 gG
theorem aCZ : aEI = aQ gG := rfl
theorem ada (p0 p1 : Str) : Le (Option.map aH (tH p0 p1)) (bA SE 164 [.d (.str p0), .d (.str p1)] [] []) := by
 refine aV aCZ rfl ?_
 refine Le.trans ?_ (le_of_eq (aGs ..).symm)
 unfold tH
 exact aJ rfl
section
variable (Γ : Fun) (γ164 : Gm (Int)) (Λ2 J : Lam)
def auK : aP := aY (aQ Γ) 164 aH γ164
theorem aGp (p0 p1 : Str) : bF SE (auK Γ γ164) Λ2 J 130 [.d (.str p0), .d (.str p1)] [] [] =
 γ164 [.d (.str p0), .d (.str p1)] [] [] fun r0 =>
 (rI r0) := by kernel_rfl
end
abbrev azs : aP := auK gG (cT 164 aH)
theorem aCl : azs = aQ gG := by unfold azs auK; rw [bB fun _ h => h]
theorem ahi (p0 p1 : Str) : Le (Option.map aH (zU p0 p1)) (bA SE 130 [.d (.str p0), .d (.str p1)] [] []) := by
 refine aV aCl rfl ?_
 refine Le.trans ?_ (le_of_eq (aGp ..).symm)
 unfold zU
 refine lQ eX aS (ada _ _) fun r0 _ => ?_
 exact aJ rfl
section
variable (Γ : Fun) (γ130 : Gm (Int)) (Λ2 J : Lam)
def aue : aP := aY (aQ Γ) 130 aH γ130
theorem aFg (p0 : aF) (p1 : Str) : bF SE (aue Γ γ130) Λ2 J 129 [aF.av p0, .d (.str p1)] [] [] =
 γ130 [.d (.str p0.Filter), .d (.str p1)] [] [] fun r0 =>
 (rI r0) := by kernel_rfl
end
abbrev awD : aP := aue gG (cT 130 aH)
theorem aCk : awD = aQ gG := by unfold awD aue; rw [bB fun _ h => h]
theorem abT (p0 : aF) (p1 : Str) : Le (Option.map aH (wW p0 p1)) (bA SE 129 [aF.av p0, .d (.str p1)] [] []) := by
 refine aV aCk rfl ?_
 refine Le.trans ?_ (le_of_eq (aFg ..).symm)
 unfold wW
 refine lQ eX aS (ahi _ _) fun r0 _ => ?_
 exact aJ rfl
end Te
end PX
