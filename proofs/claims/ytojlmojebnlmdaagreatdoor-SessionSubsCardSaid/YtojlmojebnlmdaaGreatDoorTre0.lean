import Derived.Test.YtojlmojebnlmdaaGreatDoorTab
set_option linter.unusedVariables false
set_option linter.unusedSimpArgs false
set_option maxRecDepth 100000
noncomputable section
namespace PX
open Go
open Md
namespace Te
section
variable (Γ : Fun)  (Λ2 J : Lam)
def ara : aP := aQ Γ
theorem awL (p0 : Int) : bD SE (ara Γ) Λ2 J 100 [.d (.int .u8 p0)] [] [] =
 cond (decide (p0 ≥ 97)) (
 (some (.ret [.d (.bool (decide (p0 ≤ 122)))] [] []))) (
 (some (.ret [.d (.bool false)] [] []))) := by kernel_rfl
end
abbrev avB : aP := ara gG
theorem auM : avB = aQ gG := rfl
theorem vM (p0 : Int) : Le (Option.map hQ (kZ p0)) (aZ SE 100 [.d (.int .u8 p0)] [] []) := by
 refine aS auM rfl ?_
 refine Le.trans ?_ (le_of_eq (awL _ _ _  p0).symm)
 unfold kZ
 refine lC ?_ ?_
 ·exact aI rfl
 ·exact aI rfl
section
variable (Γ : Fun)  (Λ2 J : Lam)
def asC : aP := aQ Γ
theorem avp (p0 : Int) : bD SE (asC Γ) Λ2 J 101 [.d (.int .u8 p0)] [] [] =
 cond (decide (p0 ≥ 48)) (
 (some (.ret [.d (.bool (decide (p0 ≤ 57)))] [] []))) (
 (some (.ret [.d (.bool false)] [] []))) := by kernel_rfl
end
abbrev awI : aP := asC gG
theorem atQ : awI = aQ gG := rfl
theorem adm (p0 : Int) : Le (Option.map iC (m5 p0)) (aZ SE 101 [.d (.int .u8 p0)] [] []) := by
 refine aS atQ rfl ?_
 refine Le.trans ?_ (le_of_eq (avp _ _ _  p0).symm)
 unfold m5
 refine lC ?_ ?_
 ·exact aI rfl
 ·exact aI rfl
def agL (C : aP) (Λ2 J : Lam) (a0 : Str) (a1 : Int) : Res := lab SE C Λ2 J 48 0 [1, 1, 0, 1, 0] (bB [(0, .d (.str a0)), (3, .d (.int .i64 a1))] [] [] [] [])
def apk (C : aP) (Λ2 J : Lam) (a0 : Str) : Res := lab SE C Λ2 J 48 0 [1, 1, 0, 0] (bB [(0, .d (.str a0))] [] [] [] [])
section
variable (Γ : Fun) (γ100 : Gm (Bool)) (γ101 : Gm (Bool)) (Λ2 J : Lam)
def C48 : aP := bA (bA (aQ Γ) 100 hQ γ100) 101 iC γ101
theorem T48 (p0 : Str) : bD SE (C48 Γ γ100 γ101) Λ2 J 48 [.d (.str p0)] [] [] =
 cond (decide ((List.length p0 : Int) < 1)) (
 (some (.ret [.d (.bool false)] [] []))) (
 cond (decide ((List.length p0 : Int) > 16)) (
 (some (.ret [.d (.bool false)] [] []))) (
 cond (decide (0 ≤ 0) && decide (0 < (List.length p0 : Int))) (
 γ100 [.d (.int .u8 (UInt8.toNat (List.getD p0 (Int.toNat 0) 0) : Int))] [] [] fun r0 =>
 cond (!r0) (
  (some (.ret [.d (.bool false)] [] []))) (
 apk (C48 Γ γ100 γ101) Λ2 J p0)) none)) := by kernel_rfl
theorem atC (x0 : Str) (x3 : Int) : cB SE (C48 Γ γ100 γ101) Λ2 J 48 0 [1, 1, 0, 1, 0] (bB [(0, .d (.str x0)), (3, .d (.int .i64 x3))] [] [] [] []) =
 cond (decide (x3 < (List.length x0 : Int))) (
 cond (decide (0 ≤ x3) && decide (x3 < (List.length x0 : Int))) (
  γ100 [.d (.int .u8 (UInt8.toNat (List.getD x0 (Int.toNat x3) 0) : Int))] [] [] fun r1 =>
  cond (!r1) (
  cond (decide (0 ≤ x3) && decide (x3 < (List.length x0 : Int))) (
   γ101 [.d (.int .u8 (UInt8.toNat (List.getD x0 (Int.toNat x3) 0) : Int))] [] [] fun r2 =>
   cond (!r2) (
   cond (decide (0 ≤ x3) && decide (x3 < (List.length x0 : Int))) (
    cond ((UInt8.toNat (List.getD x0 (Int.toNat x3) 0) : Int) != 45) (
    (some (.ret [.d (.bool false)] [] []))) (
    agL (C48 Γ γ100 γ101) Λ2 J x0 (IntKind.wrap .i64 (x3 + 1)))) none) (
   agL (C48 Γ γ100 γ101) Λ2 J x0 (IntKind.wrap .i64 (x3 + 1)))) none) (
  agL (C48 Γ γ100 γ101) Λ2 J x0 (IntKind.wrap .i64 (x3 + 1)))) none) (
 (some (.ret [.d (.bool true)] [] []))) := by kernel_rfl
theorem auO (x0 : Str) : cB SE (C48 Γ γ100 γ101) Λ2 J 48 0 [1, 1, 0, 0] (bB [(0, .d (.str x0))] [] [] [] []) =
 agL (C48 Γ γ100 γ101) Λ2 J x0 0 := by kernel_rfl
end
abbrev X48 : aP := C48 gG (cT 100 hQ) (cT 101 iC)
theorem anX : X48 = aQ gG := by unfold X48 C48; rw [aK fun _ h => h, aK fun _ h => h]
noncomputable abbrev atV (a0 : Str) (a1 : Int) : Res := agL X48 (bV SE gG (SE.hl 48) (SE.hr 48)) (J0 SE X48) a0 a1
noncomputable abbrev auX (a0 : Str) : Res := apk X48 (bV SE gG (SE.hl 48) (SE.hr 48)) (J0 SE X48) a0
theorem abi : ∀ (fu : Nat) (x0 : Str) (x3 : Int), Le (Option.map cJ (eA fu x0 x3)) (atV x0 x3) := by
 intro fu
 induction fu with
 | zero => intros; exact le_none
 | succ fu ih =>
  intro x0 x3
  refine Le.trans ?_ (le_of_eq ((bC anX).trans (atC _ _ _ _ _  x0 x3)).symm)
  unfold eA
  refine lC ?_ ?_
  ·refine lF ?_
   refine aM (good := good) eX uL (vM _) fun r1 _ => ?_
   refine lC ?_ ?_
   ·refine lF ?_
    refine aM (good := good) eX abS (adm _) fun r2 _ => ?_
    refine lC ?_ ?_
    ·refine lF ?_
     refine lC ?_ ?_
     ·exact aI rfl
     ·exact ih x0 (IntKind.wrap .i64 (x3 + 1))
    ·exact ih x0 (IntKind.wrap .i64 (x3 + 1))
   ·exact ih x0 (IntKind.wrap .i64 (x3 + 1))
  ·exact aI rfl
theorem abE (x0 : Str) : Le (Option.map cJ (oE x0)) (auX x0) := by
 refine Le.trans ?_ (le_of_eq ((bC anX).trans (auO _ _ _ _ _  x0)).symm)
 unfold oE
 exact abi fuel x0 0
theorem oB (p0 : Str) : Le (Option.map cJ (iH p0)) (aZ SE 48 [.d (.str p0)] [] []) := by
 refine aS anX rfl ?_
 refine Le.trans ?_ (le_of_eq (T48 _ _ _ _ _  p0).symm)
 unfold iH
 refine lC ?_ ?_
 ·exact aI rfl
 ·refine lC ?_ ?_
  ·exact aI rfl
  ·refine lF ?_
   refine aM (good := good) eX uL (vM _) fun r0 _ => ?_
   refine lC ?_ ?_
   ·exact aI rfl
   ·exact abE p0
section
variable (Γ : Fun)  (Λ2 J : Lam)
def C94 : aP := aQ Γ
theorem T94 (p0 : Int) (p1 : Int) : bD SE (C94 Γ) Λ2 J 94 [.d (.int .i64 p0), .d (.int .i64 p1)] [] [] =
 cond (decide (p0 ≥ 0)) (
 (some (.ret [.d (.bool (decide (p0 ≤ p1)))] [] []))) (
 (some (.ret [.d (.bool false)] [] []))) := by kernel_rfl
end
abbrev X94 : aP := C94 gG
theorem avc : X94 = aQ gG := rfl
theorem s9 (p0 : Int) (p1 : Int) : Le (Option.map kD (lP p0 p1)) (aZ SE 94 [.d (.int .i64 p0), .d (.int .i64 p1)] [] []) := by
 refine aS avc rfl ?_
 refine Le.trans ?_ (le_of_eq (T94 _ _ _  p0 p1).symm)
 unfold lP
 refine lC ?_ ?_
 ·exact aI rfl
 ·exact aI rfl
def aho (C : aP) (Λ2 J : Lam) (a0 : (List D)) : Res := lab SE C Λ2 J 41 0 [1, 1, 1, 0, 0] (bB [(1, .ptr 1000000000 0)] [⟨38, (List.map AV.d a0)⟩] [] [] [])
def amq (C : aP) (Λ2 J : Lam) (a0 : (List D)) : Res := lab SE C Λ2 J 41 0 [1, 1, 0, 0] (bB [(1, .ptr 1000000000 0)] [⟨38, (List.map AV.d a0)⟩] [] [] [])
section
variable (Γ : Fun) (γ48 : Gm (Bool)) (γ94 : Gm (Bool)) (Λ2 J : Lam)
def C41 : aP := bA (bA (aQ Γ) 48 cJ γ48) 94 kD γ94
theorem T41 (p0 : aB) : bD SE (C41 Γ γ48 γ94) Λ2 J 41 [aB.av p0] [] [] =
 γ48 [.d (.str p0.Client)] [] [] fun r0 =>
 cond (!r0) (
 (some (.ret [.d (.int .i64 11)] [] []))) (
 cond (!(p0.User == ([] : Str))) (
 γ48 [.d (.str p0.User)] [] [] fun r1 =>
 cond (!r1) (
  (some (.ret [.d (.int .i64 11)] [] []))) (
 amq (C41 Γ γ48 γ94) Λ2 J (aB.enc p0))) (
 amq (C41 Γ γ48 γ94) Λ2 J (aB.enc p0))) := by kernel_rfl
theorem atU (b0 : aB) : cB SE (C41 Γ γ48 γ94) Λ2 J 41 0 [1, 1, 1, 0, 0] (bB [(1, .ptr 1000000000 0)] [⟨38, (List.map AV.d (aB.enc b0))⟩] [] [] []) =
 γ94 [.d (.int .i64 b0.Expiry), .d (.int .i64 1099511627776)] [] [] fun r2 =>
 cond (!r2) (
 (some (.ret [.d (.int .i64 1)] [] []))) (
 γ94 [.d (.int .i64 b0.Until), .d (.int .i64 1099511627776)] [] [] fun r3 =>
 cond (!r3) (
 (some (.ret [.d (.int .i64 1)] [] []))) (
 γ94 [.d (.int .i64 b0.Dropped), .d (.int .i64 1099511627776)] [] [] fun r4 =>
 cond (!r4) (
 (some (.ret [.d (.int .i64 1)] [] []))) (
 (some (.ret [.d (.int .i64 0)] [] []))))) := by kernel_rfl
theorem auP (b0 : aB) : cB SE (C41 Γ γ48 γ94) Λ2 J 41 0 [1, 1, 0, 0] (bB [(1, .ptr 1000000000 0)] [⟨38, (List.map AV.d (aB.enc b0))⟩] [] [] []) =
 cond (!b0.Online) (
 cond (b0.Conn != 0) (
  (some (.ret [.d (.int .i64 9)] [] []))) (
 cond b0.Online (
  cond (b0.Until != 0) (
  (some (.ret [.d (.int .i64 9)] [] []))) (
  aho (C41 Γ γ48 γ94) Λ2 J (aB.enc b0))) (
 aho (C41 Γ γ48 γ94) Λ2 J (aB.enc b0)))) (
 cond b0.Online (
 cond (b0.Until != 0) (
  (some (.ret [.d (.int .i64 9)] [] []))) (
 aho (C41 Γ γ48 γ94) Λ2 J (aB.enc b0))) (
 aho (C41 Γ γ48 γ94) Λ2 J (aB.enc b0))) := by kernel_rfl
end
abbrev X41 : aP := C41 gG (cT 48 cJ) (cT 94 kD)
theorem anG : X41 = aQ gG := by unfold X41 C41; rw [aK fun _ h => h, aK fun _ h => h]
noncomputable abbrev ath (a0 : (List D)) : Res := aho X41 (bV SE gG (SE.hl 41) (SE.hr 41)) (J0 SE X41) a0
noncomputable abbrev aug (a0 : (List D)) : Res := amq X41 (bV SE gG (SE.hl 41) (SE.hr 41)) (J0 SE X41) a0
theorem l3 (b0 : aB) : Le (Option.map eT (gX b0)) (ath (aB.enc b0)) := by
 refine Le.trans ?_ (le_of_eq ((bC anG).trans (atU _ _ _ _ _  b0)).symm)
 unfold gX
 refine aM (good := good) eX rP (s9 _ _) fun r2 _ => ?_
 refine lC ?_ ?_
 ·exact aI rfl
 ·refine aM (good := good) eX rP (s9 _ _) fun r3 _ => ?_
  refine lC ?_ ?_
  ·exact aI rfl
  ·refine aM (good := good) eX rP (s9 _ _) fun r4 _ => ?_
   refine lC ?_ ?_
   ·exact aI rfl
   ·exact aI rfl
theorem tI (b0 : aB) : Le (Option.map eT (lM b0)) (aug (aB.enc b0)) := by
 refine Le.trans ?_ (le_of_eq ((bC anG).trans (auP _ _ _ _ _  b0)).symm)
 unfold lM
 refine lC ?_ ?_
 ·refine lC ?_ ?_
  ·exact aI rfl
  ·refine lC ?_ ?_
   ·refine lC ?_ ?_
    ·exact aI rfl
    ·exact l3 b0
   ·exact l3 b0
 ·refine lC ?_ ?_
  ·refine lC ?_ ?_
   ·exact aI rfl
   ·exact l3 b0
  ·exact l3 b0
theorem adR (p0 : aB) : Le (Option.map eT (nZ p0)) (aZ SE 41 [aB.av p0] [] []) := by
 refine aS anG rfl ?_
 refine Le.trans ?_ (le_of_eq (T41 _ _ _ _ _  p0).symm)
 unfold nZ
 refine aM (good := good) eX nH (oB _) fun r0 _ => ?_
 refine lC ?_ ?_
 ·exact aI rfl
 ·refine lC ?_ ?_
  ·refine aM (good := good) eX nH (oB _) fun r1 _ => ?_
   refine lC ?_ ?_
   ·exact aI rfl
   ·exact tI p0
  ·exact tI p0
section
variable (Γ : Fun)  (Λ2 J : Lam)
def arW : aP := aQ Γ
theorem awu (p0 : Str) (p1 : Str) : bD SE (arW Γ) Λ2 J 168 [.d (.str p0), .d (.str p1)] [] [] =
 cond (decide ((List.length p0 : Int) ≥ (List.length p1 : Int))) (
 cond (decide (0 ≤ (List.length p1 : Int)) && decide ((List.length p1 : Int) ≤ ((List.length p0) : Int))) (
  (some (.ret [.d (.bool ((bS p0 none (some (List.length p1 : Int))) == p1))] [] []))) none) (
 (some (.ret [.d (.bool false)] [] []))) := by kernel_rfl
end
abbrev awl : aP := arW gG
theorem atI : awl = aQ gG := rfl
theorem pL (p0 : Str) (p1 : Str) : Le (Option.map dQ (j3 p0 p1)) (aZ SE 168 [.d (.str p0), .d (.str p1)] [] []) := by
 refine aS atI rfl ?_
 refine Le.trans ?_ (le_of_eq (awu _ _ _  p0 p1).symm)
 unfold j3
 refine lC ?_ ?_
 ·refine lF ?_
  exact aI rfl
 ·exact aI rfl
def alr (C : aP) (Λ2 J : Lam) (a0 : Str) (a1 : Int) (a2 : Int) : Res := lab SE C Λ2 J 99 0 [1, 0, 1, 0] (bB [(0, .d (.str a0)), (1, .d (.int .u8 a1)), (5, .d (.int .i64 a2))] [] [] [] [])
section
variable (Γ : Fun)  (Λ2 J : Lam)
def C99 : aP := aQ Γ
theorem T99 (p0 : Str) (p1 : Int) : bD SE (C99 Γ) Λ2 J 99 [.d (.str p0), .d (.int .u8 p1)] [] [] =
 alr (C99 Γ) Λ2 J p0 p1 0 := by kernel_rfl
theorem auZ (x0 : Str) (x1 : Int) (x5 : Int) : cB SE (C99 Γ) Λ2 J 99 0 [1, 0, 1, 0] (bB [(0, .d (.str x0)), (1, .d (.int .u8 x1)), (5, .d (.int .i64 x5))] [] [] [] []) =
 cond (decide (x5 < (List.length x0 : Int))) (
 cond (decide (0 ≤ x5) && decide (x5 < (List.length x0 : Int))) (
  cond ((UInt8.toNat (List.getD x0 (Int.toNat x5) 0) : Int) == x1) (
  (some (.ret [.d (.bool true)] [] []))) (
  alr (C99 Γ) Λ2 J x0 x1 (IntKind.wrap .i64 (x5 + 1)))) none) (
 (some (.ret [.d (.bool false)] [] []))) := by kernel_rfl
end
abbrev X99 : aP := C99 gG
theorem asP : X99 = aQ gG := rfl
noncomputable abbrev atP (a0 : Str) (a1 : Int) (a2 : Int) : Res := alr X99 (bV SE gG (SE.hl 99) (SE.hr 99)) (J0 SE X99) a0 a1 a2
theorem acy : ∀ (fu : Nat) (x0 : Str) (x1 : Int) (x5 : Int), Le (Option.map c9 (iP fu x0 x1 x5)) (atP x0 x1 x5) := by
 intro fu
 induction fu with
 | zero => intros; exact le_none
 | succ fu ih =>
  intro x0 x1 x5
  refine Le.trans ?_ (le_of_eq ((bC asP).trans (auZ _ _ _  x0 x1 x5)).symm)
  unfold iP
  refine lC ?_ ?_
  ·refine lF ?_
   refine lC ?_ ?_
   ·exact aI rfl
   ·exact ih x0 x1 (IntKind.wrap .i64 (x5 + 1))
  ·exact aI rfl
theorem iL (p0 : Str) (p1 : Int) : Le (Option.map c9 (g8 p0 p1)) (aZ SE 99 [.d (.str p0), .d (.int .u8 p1)] [] []) := by
 refine aS asP rfl ?_
 refine Le.trans ?_ (le_of_eq (T99 _ _ _  p0 p1).symm)
 unfold g8
 exact acy fuel p0 p1 0
def ag4 (C : aP) (Λ2 J : Lam) (a0 : Str) (a1 : Int) (a2 : Int) (a3 : (List (List D))) : Res := lab SE C Λ2 J 150 0 [1, 1, 1, 0, 1, 0] (bB [(0, .d (.str a0)), (3, .row 3003), (4, .d (.int .i64 a1)), (5, .d (.int .i64 a2))] [] [] [] [(3003, ⟨[.str], 9, 16, a3⟩)])
section
variable (Γ : Fun)  (Λ2 J : Lam)
def ahM : aP := aQ Γ
theorem avw (p0 : Str) : bD SE (ahM Γ) Λ2 J 150 [.d (.str p0)] [] [] =
 ag4 (ahM Γ) Λ2 J p0 0 0 (List.map bG []) := by kernel_rfl
theorem aqH (x0 : Str) (x4 : Int) (x5 : Int) (w3003 : (List Str)) : cB SE (ahM Γ) Λ2 J 150 0 [1, 1, 1, 0, 1, 0] (bB [(0, .d (.str x0)), (3, .row 3003), (4, .d (.int .i64 x4)), (5, .d (.int .i64 x5))] [] [] [] [(3003, ⟨[.str], 9, 16, (List.map bG w3003)⟩)]) =
 cond (decide (x5 < (List.length x0 : Int))) (
 cond (decide (0 ≤ x5) && decide (x5 < (List.length x0 : Int))) (
  cond ((UInt8.toNat (List.getD x0 (Int.toNat x5) 0) : Int) == 47) (
  cond (decide (0 ≤ x5) && decide (x5 ≤ ((List.length x0) : Int))) (
   cond (decide (0 ≤ x4) && decide (x4 ≤ x5)) (
   cond (decide ((List.length (List.map bG w3003) + List.length (List.map bG [(bS x0 (some x4) (some x5))])) * 16 ≤ 140737488355328)) (
    ag4 (ahM Γ) Λ2 J x0 (IntKind.wrap .i64 (x5 + 1)) (IntKind.wrap .i64 (x5 + 1)) (((List.map bG w3003) ++ (List.map bG [(bS x0 (some x4) (some x5))])))) none) none) none) (
  ag4 (ahM Γ) Λ2 J x0 x4 (IntKind.wrap .i64 (x5 + 1)) (List.map bG w3003))) none) (
 cond (decide (0 ≤ x4) && decide (x4 ≤ ((List.length x0) : Int))) (
 cond (decide ((List.length (List.map bG w3003) + List.length (List.map bG [(bS x0 (some x4) none)])) * 16 ≤ 140737488355328)) (
  (some (.ret [.row 0] [] [⟨[.str], 9, 16, ((List.map bG w3003) ++ (List.map bG [(bS x0 (some x4) none)]))⟩]))) none) none) := by kernel_rfl
end
abbrev aos : aP := ahM gG
theorem apz : aos = aQ gG := rfl
noncomputable abbrev aqh (a0 : Str) (a1 : Int) (a2 : Int) (a3 : (List (List D))) : Res := ag4 aos (bV SE gG (SE.hl 150) (SE.hr 150)) (J0 SE aos) a0 a1 a2 a3
theorem sE : ∀ (fu : Nat) (x0 : Str) (x4 : Int) (x5 : Int) (w3003 : (List Str)), Le (Option.map cQ (eE fu x0 x4 x5 w3003)) (aqh x0 x4 x5 (List.map bG w3003)) := by
 intro fu
 induction fu with
 | zero => intros; exact le_none
 | succ fu ih =>
  intro x0 x4 x5 w3003
  refine Le.trans ?_ (le_of_eq ((bC apz).trans (aqH _ _ _  x0 x4 x5 w3003)).symm)
  unfold eE
  refine lC ?_ ?_
  ·refine lF ?_
   refine lC ?_ ?_
   ·refine lF ?_
    refine lF ?_
    refine lG (by simp only [EN]) ?_
    first | (simp only [EN]; exact ih x0 (IntKind.wrap .i64 (x5 + 1)) (IntKind.wrap .i64 (x5 + 1)) ((w3003 ++ [(bS x0 (some x4) (some x5))]))) | exact ih x0 (IntKind.wrap .i64 (x5 + 1)) (IntKind.wrap .i64 (x5 + 1)) ((w3003 ++ [(bS x0 (some x4) (some x5))]))
   ·exact ih x0 x4 (IntKind.wrap .i64 (x5 + 1)) w3003
  ·refine lF ?_
   refine lG (by simp only [EN]) ?_
   exact aI (by first | rfl | simp only [EN, cQ] <;> rfl)
theorem uN (p0 : Str) : Le (Option.map cQ (l4 p0)) (aZ SE 150 [.d (.str p0)] [] []) := by
 refine aS apz rfl ?_
 refine Le.trans ?_ (le_of_eq (avw _ _ _  p0).symm)
 unfold l4
 first | (simp only [EN]; exact sE fuel p0 0 0 ([] : List Str)) | exact sE fuel p0 0 0 ([] : List Str)
section
variable (Γ : Fun) (γ99 : Gm (Bool)) (γ150 : Gm ((List Str))) (Λ2 J : Lam)
def C98 : aP := bA (bA (aQ Γ) 99 c9 γ99) 150 cQ γ150
theorem T98 (p0 : Str) : bD SE (C98 Γ γ99 γ150) Λ2 J 98 [.d (.str p0)] [] [] =
 cond (decide ((List.length p0 : Int) ≥ 1)) (
 cond (decide ((List.length p0 : Int) ≤ 64)) (
  γ99 [.d (.str p0), .d (.int .u8 0)] [] [] fun r0 =>
  cond (!r0) (
  γ150 [.d (.str p0)] [] [] fun r1 =>
  (some (.ret [.d (.bool (decide ((List.length (List.map bG r1) : Int) ≤ 8)))] [] []))) (
  (some (.ret [.d (.bool false)] [] [])))) (
 (some (.ret [.d (.bool false)] [] [])))) (
 (some (.ret [.d (.bool false)] [] []))) := by kernel_rfl
end
abbrev X98 : aP := C98 gG (cT 99 c9) (cT 150 cQ)
theorem au6 : X98 = aQ gG := by unfold X98 C98; rw [aK fun _ h => h, aK fun _ h => h]
theorem vV (p0 : Str) : Le (Option.map dH (kW p0)) (aZ SE 98 [.d (.str p0)] [] []) := by
 refine aS au6 rfl ?_
 refine Le.trans ?_ (le_of_eq (T98 _ _ _ _ _  p0).symm)
 unfold kW
 refine lC ?_ ?_
 ·refine lC ?_ ?_
  ·refine aM (good := good) eX lK (iL _ _) fun r0 _ => ?_
   refine lC ?_ ?_
   ·refine aM (good := good) eX tH (uN _) fun r1 _ => ?_
    exact aI (by first | rfl | simp only [EN, dH] <;> rfl)
   ·exact aI rfl
  ·exact aI rfl
 ·exact aI rfl
def ajF (C : aP) (Λ2 J : Lam) (a0 : Int) (a1 : (List (List D))) : Res := lab SE C Λ2 J 167 0 [1, 1, 1, 0, 1, 0, 0, 1, 0, 0, 1, 0] (bB [(3, .row 3003), (4, .d (.int .i64 a0))] [] [] [] [(3003, ⟨[.str], 9, 16, a1⟩)])
def agZ (C : aP) (Λ2 J : Lam) (a0 : Int) (a1 : (List (List D))) : Res := lab SE C Λ2 J 167 0 [1, 1, 1, 0, 1, 0] (bB [(3, .row 3003), (4, .d (.int .i64 a0))] [] [] [] [(3003, ⟨[.str], 9, 16, a1⟩)])
section
variable (Γ : Fun) (γ98 : Gm (Bool)) (γ150 : Gm ((List Str))) (γ99 : Gm (Bool)) (Λ2 J : Lam)
def aby : aP := bA (bA (bA (aQ Γ) 98 dH γ98) 150 cQ γ150) 99 c9 γ99
theorem awr (p0 : Str) : bD SE (aby Γ γ98 γ150 γ99) Λ2 J 167 [.d (.str p0)] [] [] =
 γ98 [.d (.str p0)] [] [] fun r0 =>
 cond (!r0) (
 (some (.ret [.d (.bool false)] [] []))) (
 γ150 [.d (.str p0)] [] [] fun r1 =>
 agZ (aby Γ γ98 γ150 γ99) Λ2 J 0 (List.map bG r1)) := by kernel_rfl
theorem asv (x4 : Int) (w3003 : (List Str)) : cB SE (aby Γ γ98 γ150 γ99) Λ2 J 167 0 [1, 1, 1, 0, 1, 0, 0, 1, 0, 0, 1, 0] (bB [(3, .row 3003), (4, .d (.int .i64 x4))] [] [] [] [(3003, ⟨[.str], 9, 16, (List.map bG w3003)⟩)]) =
 cond (decide (0 ≤ x4) && decide (x4 < (List.length (List.map bG w3003) : Int))) (
 γ99 [.d (.str (aU (cellAt (elemAt (List.map bG w3003) (Int.toNat x4)) 0))), .d (.int .u8 35)] [] [] fun r3 =>
 cond r3 (
  cond (decide (0 ≤ x4) && decide (x4 < (List.length (List.map bG w3003) : Int))) (
  cond (!((aU (cellAt (elemAt (List.map bG w3003) (Int.toNat x4)) 0)) == ([35] : Str))) (
   (some (.ret [.d (.bool false)] [] []))) (
  cond (x4 != (IntKind.wrap .i64 ((List.length (List.map bG w3003) : Int) - 1))) (
   (some (.ret [.d (.bool false)] [] []))) (
  agZ (aby Γ γ98 γ150 γ99) Λ2 J (IntKind.wrap .i64 (x4 + 1)) (List.map bG w3003)))) none) (
 agZ (aby Γ γ98 γ150 γ99) Λ2 J (IntKind.wrap .i64 (x4 + 1)) (List.map bG w3003))) none := by kernel_rfl
theorem ari (x4 : Int) (w3003 : (List Str)) : cB SE (aby Γ γ98 γ150 γ99) Λ2 J 167 0 [1, 1, 1, 0, 1, 0] (bB [(3, .row 3003), (4, .d (.int .i64 x4))] [] [] [] [(3003, ⟨[.str], 9, 16, (List.map bG w3003)⟩)]) =
 cond (decide (x4 < (List.length (List.map bG w3003) : Int))) (
 cond (decide (0 ≤ x4) && decide (x4 < (List.length (List.map bG w3003) : Int))) (
  γ99 [.d (.str (aU (cellAt (elemAt (List.map bG w3003) (Int.toNat x4)) 0))), .d (.int .u8 43)] [] [] fun r2 =>
  cond r2 (
  cond (decide (0 ≤ x4) && decide (x4 < (List.length (List.map bG w3003) : Int))) (
   cond (!((aU (cellAt (elemAt (List.map bG w3003) (Int.toNat x4)) 0)) == ([43] : Str))) (
   (some (.ret [.d (.bool false)] [] []))) (
   ajF (aby Γ γ98 γ150 γ99) Λ2 J x4 (List.map bG w3003))) none) (
  ajF (aby Γ γ98 γ150 γ99) Λ2 J x4 (List.map bG w3003))) none) (
 (some (.ret [.d (.bool true)] [] []))) := by kernel_rfl
end
abbrev ah5 : aP := aby gG (cT 98 dH) (cT 150 cQ) (cT 99 c9)
theorem ami : ah5 = aQ gG := by unfold ah5 aby; rw [aK fun _ h => h, aK fun _ h => h, aK fun _ h => h]
noncomputable abbrev aqR (a0 : Int) (a1 : (List (List D))) : Res := ajF ah5 (bV SE gG (SE.hl 167) (SE.hr 167)) (J0 SE ah5) a0 a1
noncomputable abbrev ano (a0 : Int) (a1 : (List (List D))) : Res := agZ ah5 (bV SE gG (SE.hl 167) (SE.hr 167)) (J0 SE ah5) a0 a1
theorem rN (k5 : Int → (List Str) → Option (Bool)) (hk5 : ∀ (x4 : Int) (w3003 : (List Str)), Le (Option.map cG (k5 x4 w3003)) (ano x4 (List.map bG w3003))) (x4 : Int) (w3003 : (List Str)) : Le (Option.map cG (iF k5 x4 w3003)) (aqR x4 (List.map bG w3003)) := by
 refine Le.trans ?_ (le_of_eq ((bC ami).trans (asv _ _ _ _ _ _  x4 w3003)).symm)
 unfold iF
 refine lG (by simp only [EN]) ?_
 refine aM (good := good) eX lK (by first | (simp only [EN]; exact iL (List.getD w3003 (Int.toNat x4) default) 35) | exact iL (List.getD w3003 (Int.toNat x4) default) 35) fun r3 _ => ?_
 refine lC ?_ ?_
 ·refine lG (by simp only [EN]) ?_
  refine lD (by simp only [EN]) ?_ ?_
  ·exact aI rfl
  ·refine lD (by simp only [EN]) ?_ ?_
   ·exact aI rfl
   ·exact hk5 (IntKind.wrap .i64 (x4 + 1)) w3003
 ·exact hk5 (IntKind.wrap .i64 (x4 + 1)) w3003
theorem zU : ∀ (fu : Nat) (x4 : Int) (w3003 : (List Str)), Le (Option.map cG (eI fu x4 w3003)) (ano x4 (List.map bG w3003)) := by
 intro fu
 induction fu with
 | zero => intros; exact le_none
 | succ fu ih =>
  intro x4 w3003
  refine Le.trans ?_ (le_of_eq ((bC ami).trans (ari _ _ _ _ _ _  x4 w3003)).symm)
  unfold eI
  refine lD (by simp only [EN]) ?_ ?_
  ·refine lG (by simp only [EN]) ?_
   refine aM (good := good) eX lK (by first | (simp only [EN]; exact iL (List.getD w3003 (Int.toNat x4) default) 43) | exact iL (List.getD w3003 (Int.toNat x4) default) 43) fun r2 _ => ?_
   refine lC ?_ ?_
   ·refine lG (by simp only [EN]) ?_
    refine lD (by simp only [EN]) ?_ ?_
    ·exact aI rfl
    ·exact rN _ (ih) x4 w3003
   ·exact rN _ (ih) x4 w3003
  ·exact aI rfl
theorem uF (p0 : Str) : Le (Option.map cG (kF p0)) (aZ SE 167 [.d (.str p0)] [] []) := by
 refine aS ami rfl ?_
 refine Le.trans ?_ (le_of_eq (awr _ _ _ _ _ _  p0).symm)
 unfold kF
 refine aM (good := good) eX uJ (vV _) fun r0 _ => ?_
 refine lC ?_ ?_
 ·exact aI rfl
 ·refine aM (good := good) eX tH (uN _) fun r1 _ => ?_
  exact zU fuel 0 r1
def anp (C : aP) (Λ2 J : Lam) (a0 : Str) (a1 : Int) : Res := lab SE C Λ2 J 166 0 [1, 1, 1, 1, 1, 1, 0] (bB [(5, .d (.str a0)), (6, .d (.int .i64 a1))] [] [] [] [])
def ajV (C : aP) (Λ2 J : Lam) (a0 : Str) (a1 : Int) : Res := lab SE C Λ2 J 166 0 [1, 1, 1, 1, 1, 0, 0] (bB [(5, .d (.str a0)), (6, .d (.int .i64 a1))] [] [] [] [])
def akG (C : aP) (Λ2 J : Lam) (a0 : Str) (a1 : Int) : Res := lab SE C Λ2 J 166 0 [1, 1, 1, 1, 0, 0] (bB [(5, .d (.str a0)), (6, .d (.int .i64 a1))] [] [] [] [])
section
variable (Γ : Fun) (γ168 : Gm (Bool)) (γ48 : Gm (Bool)) (γ167 : Gm (Bool)) (Λ2 J : Lam)
def aau : aP := bA (bA (bA (aQ Γ) 168 dQ γ168) 48 cJ γ48) 167 cG γ167
theorem awh (p0 : Str) : bD SE (aau Γ γ168 γ48 γ167) Λ2 J 166 [.d (.str p0)] [] [] =
 γ168 [.d (.str p0), .d (.str ([36, 115, 104, 97, 114, 101, 47] : Str))] [] [] fun r0 =>
 cond (!r0) (
 (some (.ret [.d (.str ([] : Str)), .d (.str ([] : Str)), .d (.bool false)] [] []))) (
 cond (decide (0 ≤ 7) && decide (7 ≤ ((List.length p0) : Int))) (
 akG (aau Γ γ168 γ48 γ167) Λ2 J (bS p0 (some 7) none) 0) none) := by kernel_rfl
theorem arx (x5 : Str) (x6 : Int) : cB SE (aau Γ γ168 γ48 γ167) Λ2 J 166 0 [1, 1, 1, 1, 1, 1, 0] (bB [(5, .d (.str x5)), (6, .d (.int .i64 x6))] [] [] [] []) =
 cond (decide (0 ≤ x6) && decide (x6 ≤ ((List.length x5) : Int))) (
 cond (decide (0 ≤ (IntKind.wrap .i64 (x6 + 1))) && decide ((IntKind.wrap .i64 (x6 + 1)) ≤ ((List.length x5) : Int))) (
  (some (.ret [.d (.str (bS x5 none (some x6))), .d (.str (bS x5 (some (IntKind.wrap .i64 (x6 + 1))) none)), .d (.bool true)] [] []))) none) none := by kernel_rfl
theorem aqA (x5 : Str) (x6 : Int) : cB SE (aau Γ γ168 γ48 γ167) Λ2 J 166 0 [1, 1, 1, 1, 1, 0, 0] (bB [(5, .d (.str x5)), (6, .d (.int .i64 x6))] [] [] [] []) =
 cond (x6 == (List.length x5 : Int)) (
 (some (.ret [.d (.str ([] : Str)), .d (.str ([] : Str)), .d (.bool false)] [] []))) (
 cond (decide (0 ≤ x6) && decide (x6 ≤ ((List.length x5) : Int))) (
 γ48 [.d (.str (bS x5 none (some x6)))] [] [] fun r1 =>
 cond (!r1) (
  (some (.ret [.d (.str ([] : Str)), .d (.str ([] : Str)), .d (.bool false)] [] []))) (
 cond (decide (0 ≤ (IntKind.wrap .i64 (x6 + 1))) && decide ((IntKind.wrap .i64 (x6 + 1)) ≤ ((List.length x5) : Int))) (
  γ167 [.d (.str (bS x5 (some (IntKind.wrap .i64 (x6 + 1))) none))] [] [] fun r2 =>
  cond (!r2) (
  (some (.ret [.d (.str ([] : Str)), .d (.str ([] : Str)), .d (.bool false)] [] []))) (
  cond (decide (0 ≤ (IntKind.wrap .i64 (x6 + 1))) && decide ((IntKind.wrap .i64 (x6 + 1)) ≤ ((List.length x5) : Int))) (
  γ168 [.d (.str (bS x5 (some (IntKind.wrap .i64 (x6 + 1))) none)), .d (.str ([36, 115, 104, 97, 114, 101, 47] : Str))] [] [] fun r3 =>
  cond r3 (
   (some (.ret [.d (.str ([] : Str)), .d (.str ([] : Str)), .d (.bool false)] [] []))) (
  anp (aau Γ γ168 γ48 γ167) Λ2 J x5 x6)) none)) none)) none) := by kernel_rfl
theorem asi (x5 : Str) (x6 : Int) : cB SE (aau Γ γ168 γ48 γ167) Λ2 J 166 0 [1, 1, 1, 1, 0, 0] (bB [(5, .d (.str x5)), (6, .d (.int .i64 x6))] [] [] [] []) =
 cond (decide (x6 < (List.length x5 : Int))) (
 cond (decide (0 ≤ x6) && decide (x6 < (List.length x5 : Int))) (
  cond ((UInt8.toNat (List.getD x5 (Int.toNat x6) 0) : Int) != 47) (
  akG (aau Γ γ168 γ48 γ167) Λ2 J x5 (IntKind.wrap .i64 (x6 + 1))) (
  ajV (aau Γ γ168 γ48 γ167) Λ2 J x5 x6)) none) (
 ajV (aau Γ γ168 γ48 γ167) Λ2 J x5 x6) := by kernel_rfl
end
abbrev aeB : aP := aau gG (cT 168 dQ) (cT 48 cJ) (cT 167 cG)
theorem ajf : aeB = aQ gG := by unfold aeB aau; rw [aK fun _ h => h, aK fun _ h => h, aK fun _ h => h]
noncomputable abbrev asf (a0 : Str) (a1 : Int) : Res := anp aeB (bV SE gG (SE.hl 166) (SE.hr 166)) (J0 SE aeB) a0 a1
noncomputable abbrev aru (a0 : Str) (a1 : Int) : Res := ajV aeB (bV SE gG (SE.hl 166) (SE.hr 166)) (J0 SE aeB) a0 a1
noncomputable abbrev asV (a0 : Str) (a1 : Int) : Res := akG aeB (bV SE gG (SE.hl 166) (SE.hr 166)) (J0 SE aeB) a0 a1
theorem zX (x5 : Str) (x6 : Int) : Le (Option.map cF (mK x5 x6)) (asf x5 x6) := by
 refine Le.trans ?_ (le_of_eq ((bC ajf).trans (arx _ _ _ _ _ _  x5 x6)).symm)
 unfold mK
 refine lF ?_
 refine lF ?_
 exact aI rfl
theorem rZ (x5 : Str) (x6 : Int) : Le (Option.map cF (iE x5 x6)) (aru x5 x6) := by
 refine Le.trans ?_ (le_of_eq ((bC ajf).trans (aqA _ _ _ _ _ _  x5 x6)).symm)
 unfold iE
 refine lC ?_ ?_
 ·exact aI rfl
 ·refine lF ?_
  refine aM (good := good) eX nH (oB _) fun r1 _ => ?_
  refine lC ?_ ?_
  ·exact aI rfl
  ·refine lF ?_
   refine aM (good := good) eX tK (uF _) fun r2 _ => ?_
   refine lC ?_ ?_
   ·exact aI rfl
   ·refine lF ?_
    refine aM (good := good) eX o9 (pL _ _) fun r3 _ => ?_
    refine lC ?_ ?_
    ·exact aI rfl
    ·exact zX x5 x6
theorem aaE : ∀ (fu : Nat) (x5 : Str) (x6 : Int), Le (Option.map cF (fQ fu x5 x6)) (asV x5 x6) := by
 intro fu
 induction fu with
 | zero => intros; exact le_none
 | succ fu ih =>
  intro x5 x6
  refine Le.trans ?_ (le_of_eq ((bC ajf).trans (asi _ _ _ _ _ _  x5 x6)).symm)
  unfold fQ
  refine lC ?_ ?_
  ·refine lF ?_
   refine lC ?_ ?_
   ·exact ih x5 (IntKind.wrap .i64 (x6 + 1))
   ·exact rZ x5 x6
  ·exact rZ x5 x6
theorem uI (p0 : Str) : Le (Option.map cF (j6 p0)) (aZ SE 166 [.d (.str p0)] [] []) := by
 refine aS ajf rfl ?_
 refine Le.trans ?_ (le_of_eq (awh _ _ _ _ _ _  p0).symm)
 unfold j6
 refine aM (good := good) eX o9 (pL _ _) fun r0 _ => ?_
 refine lC ?_ ?_
 ·exact aI rfl
 ·refine lF ?_
  exact aaE fuel (bS p0 (some 7) none) 0
section
variable (Γ : Fun) (γ166 : Gm (Str × Str × Bool)) (γ167 : Gm (Bool)) (γ168 : Gm (Bool)) (Λ2 J : Lam)
def anE : aP := bA (bA (bA (aQ Γ) 166 cF γ166) 167 cG γ167) 168 dQ γ168
theorem avg (p0 : Str) : bD SE (anE Γ γ166 γ167 γ168) Λ2 J 133 [.d (.str p0)] [] [] =
 γ166 [.d (.str p0)] [] [] fun r0 =>
 cond r0.2.2 (
 (some (.ret [.d (.bool true)] [] []))) (
 γ167 [.d (.str p0)] [] [] fun r1 =>
 cond r1 (
 γ168 [.d (.str p0), .d (.str ([36, 115, 104, 97, 114, 101, 47] : Str))] [] [] fun r2 =>
 (some (.ret [.d (.bool (!r2))] [] []))) (
 (some (.ret [.d (.bool false)] [] [])))) := by kernel_rfl
end
abbrev aqG : aP := anE gG (cT 166 cF) (cT 167 cG) (cT 168 dQ)
theorem atg : aqG = aQ gG := by unfold aqG anE; rw [aK fun _ h => h, aK fun _ h => h, aK fun _ h => h]
theorem acx (p0 : Str) : Le (Option.map gM (mA p0)) (aZ SE 133 [.d (.str p0)] [] []) := by
 refine aS atg rfl ?_
 refine Le.trans ?_ (le_of_eq (avg _ _ _ _ _ _  p0).symm)
 unfold mA
 refine aM (good := good) eX tJ (uI _) fun r0 _ => ?_
 refine lC ?_ ?_
 ·exact aI rfl
 ·refine aM (good := good) eX tK (uF _) fun r1 _ => ?_
  refine lC ?_ ?_
  ·refine aM (good := good) eX o9 (pL _ _) fun r2 _ => ?_
   exact aI rfl
  ·exact aI rfl
section
variable (Γ : Fun)  (Λ2 J : Lam)
def aqD : aP := aQ Γ
theorem avV (p0 : Int) : bD SE (aqD Γ) Λ2 J 134 [.d (.int .i64 p0)] [] [] =
 cond (p0 == 0) (
 (some (.ret [.d (.bool true)] [] []))) (
 cond (p0 == 1) (
 (some (.ret [.d (.bool true)] [] []))) (
 (some (.ret [.d (.bool (p0 == 2))] [] [])))) := by kernel_rfl
end
abbrev avu : aP := aqD gG
theorem atJ : avu = aQ gG := rfl
theorem adn (p0 : Int) : Le (Option.map hX (m9 p0)) (aZ SE 134 [.d (.int .i64 p0)] [] []) := by
 refine aS atJ rfl ?_
 refine Le.trans ?_ (le_of_eq (avV _ _ _  p0).symm)
 unfold m9
 refine lC ?_ ?_
 ·exact aI rfl
 ·refine lC ?_ ?_
  ·exact aI rfl
  ·exact aI rfl
section
variable (Γ : Fun) (γ166 : Gm (Str × Str × Bool)) (Λ2 J : Lam)
def aoL : aP := bA (aQ Γ) 166 cF γ166
theorem ave (p0 : Str) : bD SE (aoL Γ γ166) Λ2 J 135 [.d (.str p0)] [] [] =
 γ166 [.d (.str p0)] [] [] fun r0 =>
 (some (.ret [.d (.bool r0.2.2)] [] [])) := by kernel_rfl
end
abbrev asU : aP := aoL gG (cT 166 cF)
theorem auh : asU = aQ gG := by unfold asU aoL; rw [aK fun _ h => h]
theorem acj (p0 : Str) : Le (Option.map gO (oR p0)) (aZ SE 135 [.d (.str p0)] [] []) := by
 refine aS auh rfl ?_
 refine Le.trans ?_ (le_of_eq (ave _ _ _ _  p0).symm)
 unfold oR
 refine aM (good := good) eX tJ (uI _) fun r0 _ => ?_
 exact aI rfl
section
variable (Γ : Fun) (γ133 : Gm (Bool)) (γ134 : Gm (Bool)) (γ135 : Gm (Bool)) (Λ2 J : Lam)
def C69 : aP := bA (bA (bA (aQ Γ) 133 gM γ133) 134 hX γ134) 135 gO γ135
theorem T69 (p0 : aD) : bD SE (C69 Γ γ133 γ134 γ135) Λ2 J 69 [aD.av p0] [] [] =
 γ133 [.d (.str p0.Filter)] [] [] fun r0 =>
 cond (!r0) (
 (some (.ret [.d (.int .i64 13)] [] []))) (
 γ134 [.d (.int .i64 p0.Level)] [] [] fun r1 =>
 cond (!r1) (
 (some (.ret [.d (.int .i64 14)] [] []))) (
 cond p0.NoLocal (
 γ135 [.d (.str p0.Filter)] [] [] fun r2 =>
 cond r2 (
  (some (.ret [.d (.int .i64 28)] [] []))) (
 (some (.ret [.d (.int .i64 0)] [] [])))) (
 (some (.ret [.d (.int .i64 0)] [] []))))) := by kernel_rfl
end
abbrev X69 : aP := C69 gG (cT 133 gM) (cT 134 hX) (cT 135 gO)
theorem av0 : X69 = aQ gG := by unfold X69 C69; rw [aK fun _ h => h, aK fun _ h => h, aK fun _ h => h]
theorem rW (p0 : aD) : Le (Option.map fJ (mD p0)) (aZ SE 69 [aD.av p0] [] []) := by
 refine aS av0 rfl ?_
 refine Le.trans ?_ (le_of_eq (T69 _ _ _ _ _ _  p0).symm)
 unfold mD
 refine aM (good := good) eX abk (acx _) fun r0 _ => ?_
 refine lC ?_ ?_
 ·exact aI rfl
 ·refine aM (good := good) eX ace (adn _) fun r1 _ => ?_
  refine lC ?_ ?_
  ·exact aI rfl
  ·refine lC ?_ ?_
   ·refine aM (good := good) eX abB (acj _) fun r2 _ => ?_
    refine lC ?_ ?_
    ·exact aI rfl
    ·exact aI rfl
   ·exact aI rfl
def ai5 (C : aP) (Λ2 J : Lam) (a0 : (List (List D))) (a1 : Int) : Res := lab SE C Λ2 J 42 0 [1, 1, 0, 1, 0] (bB [(0, .d (.sl aD.ks a0)), (3, .d (.int .i64 a1))] [] [] [] [])
section
variable (Γ : Fun) (γ69 : Gm (Int)) (Λ2 J : Lam)
def C42 : aP := bA (aQ Γ) 69 fJ γ69
theorem T42 (p0 : (List aD)) : bD SE (C42 Γ γ69) Λ2 J 42 [.d (.sl aD.ks (List.map aD.enc p0))] [] [] =
 cond (decide ((List.length (List.map aD.enc p0) : Int) > 32)) (
 (some (.ret [.d (.int .i64 5)] [] []))) (
 ai5 (C42 Γ γ69) Λ2 J (List.map aD.enc p0) 0) := by kernel_rfl
theorem aua (x0 : (List aD)) (x3 : Int) : cB SE (C42 Γ γ69) Λ2 J 42 0 [1, 1, 0, 1, 0] (bB [(0, .d (.sl aD.ks (List.map aD.enc x0))), (3, .d (.int .i64 x3))] [] [] [] []) =
 cond (decide (x3 < (List.length (List.map aD.enc x0) : Int))) (
 cond (decide (0 ≤ x3) && decide (x3 < (List.length (List.map aD.enc x0) : Int))) (
  γ69 [.agg [.d (.str (aU (cellAt (elemAt (List.map aD.enc x0) (Int.toNat x3)) 0))), .d (.int .i64 (aL (cellAt (elemAt (List.map aD.enc x0) (Int.toNat x3)) 1))), .d (.bool (aY (cellAt (elemAt (List.map aD.enc x0) (Int.toNat x3)) 2)))]] [] [] fun r0 =>
  cond (r0 != 0) (
  (some (.ret [.d (.int .i64 r0)] [] []))) (
  cond (decide (x3 > 0)) (
  cond (decide (0 ≤ x3) && decide (x3 < (List.length (List.map aD.enc x0) : Int))) (
   cond (decide (0 ≤ (IntKind.wrap .i64 (x3 - 1))) && decide ((IntKind.wrap .i64 (x3 - 1)) < (List.length (List.map aD.enc x0) : Int))) (
   cond (Op.bytesLess (aU (cellAt (elemAt (List.map aD.enc x0) (Int.toNat x3)) 0)) (aU (cellAt (elemAt (List.map aD.enc x0) (Int.toNat (IntKind.wrap .i64 (x3 - 1)))) 0)) || (aU (cellAt (elemAt (List.map aD.enc x0) (Int.toNat x3)) 0)) == (aU (cellAt (elemAt (List.map aD.enc x0) (Int.toNat (IntKind.wrap .i64 (x3 - 1)))) 0))) (
    (some (.ret [.d (.int .i64 22)] [] []))) (
   ai5 (C42 Γ γ69) Λ2 J (List.map aD.enc x0) (IntKind.wrap .i64 (x3 + 1)))) none) none) (
  ai5 (C42 Γ γ69) Λ2 J (List.map aD.enc x0) (IntKind.wrap .i64 (x3 + 1))))) none) (
 (some (.ret [.d (.int .i64 0)] [] []))) := by kernel_rfl
end
abbrev X42 : aP := C42 gG (cT 69 fJ)
theorem aqL : X42 = aQ gG := by unfold X42 C42; rw [aK fun _ h => h]
noncomputable abbrev auL (a0 : (List (List D))) (a1 : Int) : Res := ai5 X42 (bV SE gG (SE.hl 42) (SE.hr 42)) (J0 SE X42) a0 a1
theorem abr : ∀ (fu : Nat) (x0 : (List aD)) (x3 : Int), Le (Option.map gE (fE fu x0 x3)) (auL (List.map aD.enc x0) x3) := by
 intro fu
 induction fu with
 | zero => intros; exact le_none
 | succ fu ih =>
  intro x0 x3
  refine Le.trans ?_ (le_of_eq ((bC aqL).trans (aua _ _ _ _  x0 x3)).symm)
  unfold fE
  refine lD (by simp only [EN]) ?_ ?_
  ·refine lG (by simp only [EN]) ?_
   refine aM (good := good) eX vW (by first | (simp only [EN]; exact rW (List.getD x0 (Int.toNat x3) default)) | exact rW (List.getD x0 (Int.toNat x3) default)) fun r0 _ => ?_
   refine lC ?_ ?_
   ·exact aI rfl
   ·refine lC ?_ ?_
    ·refine lG (by simp only [EN]) ?_
     refine lG (by simp only [EN]) ?_
     refine lD (by simp only [EN]) ?_ ?_
     ·exact aI rfl
     ·exact ih x0 (IntKind.wrap .i64 (x3 + 1))
    ·exact ih x0 (IntKind.wrap .i64 (x3 + 1))
  ·exact aI rfl
theorem ad7 (p0 : (List aD)) : Le (Option.map gE (n4 p0)) (aZ SE 42 [.d (.sl aD.ks (List.map aD.enc p0))] [] []) := by
 refine aS aqL rfl ?_
 refine Le.trans ?_ (le_of_eq (T42 _ _ _ _  p0).symm)
 unfold n4
 refine lD (by simp only [EN]) ?_ ?_
 ·exact aI rfl
 ·exact abr fuel p0 0
section
variable (Γ : Fun) (γ98 : Gm (Bool)) (γ99 : Gm (Bool)) (Λ2 J : Lam)
def C47 : aP := bA (bA (aQ Γ) 98 dH γ98) 99 c9 γ99
theorem T47 (p0 : Str) : bD SE (C47 Γ γ98 γ99) Λ2 J 47 [.d (.str p0)] [] [] =
 γ98 [.d (.str p0)] [] [] fun r0 =>
 cond r0 (
 γ99 [.d (.str p0), .d (.int .u8 43)] [] [] fun r1 =>
 cond (!r1) (
  γ99 [.d (.str p0), .d (.int .u8 35)] [] [] fun r2 =>
  (some (.ret [.d (.bool (!r2))] [] []))) (
 (some (.ret [.d (.bool false)] [] [])))) (
 (some (.ret [.d (.bool false)] [] []))) := by kernel_rfl
end
abbrev X47 : aP := C47 gG (cT 98 dH) (cT 99 c9)
theorem awU : X47 = aQ gG := by unfold X47 C47; rw [aK fun _ h => h, aK fun _ h => h]
theorem adr (p0 : Str) : Le (Option.map iD (mT p0)) (aZ SE 47 [.d (.str p0)] [] []) := by
 refine aS awU rfl ?_
 refine Le.trans ?_ (le_of_eq (T47 _ _ _ _ _  p0).symm)
 unfold mT
 refine aM (good := good) eX uJ (vV _) fun r0 _ => ?_
 refine lC ?_ ?_
 ·refine aM (good := good) eX lK (iL _ _) fun r1 _ => ?_
  refine lC ?_ ?_
  ·refine aM (good := good) eX lK (iL _ _) fun r2 _ => ?_
   exact aI rfl
  ·exact aI rfl
 ·exact aI rfl
def vD (C : aP) (Λ2 J : Lam) (a0 : Str) (a1 : Int) : Res := lab SE C Λ2 J 102 0 [1, 1, 0, 1, 0] (bB [(0, .d (.str a0)), (3, .d (.int .i64 a1))] [] [] [] [])
def ana (C : aP) (Λ2 J : Lam) (a0 : Str) : Res := lab SE C Λ2 J 102 0 [1, 1, 0, 0] (bB [(0, .d (.str a0))] [] [] [] [])
section
variable (Γ : Fun)  (Λ2 J : Lam)
def wZ : aP := aQ Γ
theorem avW (p0 : Str) : bD SE (wZ Γ) Λ2 J 102 [.d (.str p0)] [] [] =
 cond (decide ((List.length p0 : Int) < 1)) (
 (some (.ret [.d (.bool false)] [] []))) (
 cond (decide ((List.length p0 : Int) > 16)) (
 (some (.ret [.d (.bool false)] [] []))) (
 ana (wZ Γ) Λ2 J p0)) := by kernel_rfl
theorem aqN (x0 : Str) (x3 : Int) : cB SE (wZ Γ) Λ2 J 102 0 [1, 1, 0, 1, 0] (bB [(0, .d (.str x0)), (3, .d (.int .i64 x3))] [] [] [] []) =
 cond (decide (x3 < (List.length x0 : Int))) (
 cond (decide (0 ≤ x3) && decide (x3 < (List.length x0 : Int))) (
  cond (decide ((UInt8.toNat (List.getD x0 (Int.toNat x3) 0) : Int) ≥ 97)) (
  cond (!(decide ((UInt8.toNat (List.getD x0 (Int.toNat x3) 0) : Int) ≤ 122))) (
   cond (decide ((UInt8.toNat (List.getD x0 (Int.toNat x3) 0) : Int) ≥ 48)) (
   cond (!(decide ((UInt8.toNat (List.getD x0 (Int.toNat x3) 0) : Int) ≤ 57))) (
    cond ((UInt8.toNat (List.getD x0 (Int.toNat x3) 0) : Int) != 45) (
    (some (.ret [.d (.bool false)] [] []))) (
    vD (wZ Γ) Λ2 J x0 (IntKind.wrap .i64 (x3 + 1)))) (
   vD (wZ Γ) Λ2 J x0 (IntKind.wrap .i64 (x3 + 1)))) (
   cond ((UInt8.toNat (List.getD x0 (Int.toNat x3) 0) : Int) != 45) (
   (some (.ret [.d (.bool false)] [] []))) (
   vD (wZ Γ) Λ2 J x0 (IntKind.wrap .i64 (x3 + 1))))) (
  vD (wZ Γ) Λ2 J x0 (IntKind.wrap .i64 (x3 + 1)))) (
  cond (decide ((UInt8.toNat (List.getD x0 (Int.toNat x3) 0) : Int) ≥ 48)) (
  cond (!(decide ((UInt8.toNat (List.getD x0 (Int.toNat x3) 0) : Int) ≤ 57))) (
   cond ((UInt8.toNat (List.getD x0 (Int.toNat x3) 0) : Int) != 45) (
   (some (.ret [.d (.bool false)] [] []))) (
   vD (wZ Γ) Λ2 J x0 (IntKind.wrap .i64 (x3 + 1)))) (
  vD (wZ Γ) Λ2 J x0 (IntKind.wrap .i64 (x3 + 1)))) (
  cond ((UInt8.toNat (List.getD x0 (Int.toNat x3) 0) : Int) != 45) (
  (some (.ret [.d (.bool false)] [] []))) (
  vD (wZ Γ) Λ2 J x0 (IntKind.wrap .i64 (x3 + 1)))))) none) (
 (some (.ret [.d (.bool true)] [] []))) := by kernel_rfl
theorem arQ (x0 : Str) : cB SE (wZ Γ) Λ2 J 102 0 [1, 1, 0, 0] (bB [(0, .d (.str x0))] [] [] [] []) =
 vD (wZ Γ) Λ2 J x0 0 := by kernel_rfl
end
abbrev ajJ : aP := wZ gG
theorem alU : ajJ = aQ gG := rfl
noncomputable abbrev aqC (a0 : Str) (a1 : Int) : Res := vD ajJ (bV SE gG (SE.hl 102) (SE.hr 102)) (J0 SE ajJ) a0 a1
noncomputable abbrev aq2 (a0 : Str) : Res := ana ajJ (bV SE gG (SE.hl 102) (SE.hr 102)) (J0 SE ajJ) a0
theorem acf : ∀ (fu : Nat) (x0 : Str) (x3 : Int), Le (Option.map fH (cM fu x0 x3)) (aqC x0 x3) := by
 intro fu
 induction fu with
 | zero => intros; exact le_none
 | succ fu ih =>
  intro x0 x3
  refine Le.trans ?_ (le_of_eq ((bC alU).trans (aqN _ _ _  x0 x3)).symm)
  unfold cM
  refine lC ?_ ?_
  ·refine lF ?_
   refine lC ?_ ?_
   ·refine lC ?_ ?_
    ·refine lC ?_ ?_
     ·refine lC ?_ ?_
      ·refine lC ?_ ?_
       ·exact aI rfl
       ·exact ih x0 (IntKind.wrap .i64 (x3 + 1))
      ·exact ih x0 (IntKind.wrap .i64 (x3 + 1))
     ·refine lC ?_ ?_
      ·exact aI rfl
      ·exact ih x0 (IntKind.wrap .i64 (x3 + 1))
    ·exact ih x0 (IntKind.wrap .i64 (x3 + 1))
   ·refine lC ?_ ?_
    ·refine lC ?_ ?_
     ·refine lC ?_ ?_
      ·exact aI rfl
      ·exact ih x0 (IntKind.wrap .i64 (x3 + 1))
     ·exact ih x0 (IntKind.wrap .i64 (x3 + 1))
    ·refine lC ?_ ?_
     ·exact aI rfl
     ·exact ih x0 (IntKind.wrap .i64 (x3 + 1))
  ·exact aI rfl
theorem acr (x0 : Str) : Le (Option.map fH (oO x0)) (aq2 x0) := by
 refine Le.trans ?_ (le_of_eq ((bC alU).trans (arQ _ _ _  x0)).symm)
 unfold oO
 exact acf fuel x0 0
theorem xF (p0 : Str) : Le (Option.map fH (oT p0)) (aZ SE 102 [.d (.str p0)] [] []) := by
 refine aS alU rfl ?_
 refine Le.trans ?_ (le_of_eq (avW _ _ _  p0).symm)
 unfold oT
 refine lC ?_ ?_
 ·exact aI rfl
 ·refine lC ?_ ?_
  ·exact aI rfl
  ·exact acr p0
def ai4 (C : aP) (Λ2 J : Lam) (a0 : (List (List D))) (a1 : Int) : Res := lab SE C Λ2 J 49 0 [1, 1, 0, 1, 0] (bB [(0, .d (.sl aE.ks a0)), (3, .d (.int .i64 a1))] [] [] [] [])
section
variable (Γ : Fun) (γ102 : Gm (Bool)) (Λ2 J : Lam)
def C49 : aP := bA (aQ Γ) 102 fH γ102
theorem T49 (p0 : (List aE)) : bD SE (C49 Γ γ102) Λ2 J 49 [.d (.sl aE.ks (List.map aE.enc p0))] [] [] =
 cond (decide ((List.length (List.map aE.enc p0) : Int) > 8)) (
 (some (.ret [.d (.int .i64 5)] [] []))) (
 ai4 (C49 Γ γ102) Λ2 J (List.map aE.enc p0) 0) := by kernel_rfl
theorem atL (x0 : (List aE)) (x3 : Int) : cB SE (C49 Γ γ102) Λ2 J 49 0 [1, 1, 0, 1, 0] (bB [(0, .d (.sl aE.ks (List.map aE.enc x0))), (3, .d (.int .i64 x3))] [] [] [] []) =
 cond (decide (x3 < (List.length (List.map aE.enc x0) : Int))) (
 cond (decide (0 ≤ x3) && decide (x3 < (List.length (List.map aE.enc x0) : Int))) (
  γ102 [.d (.str (aU (cellAt (elemAt (List.map aE.enc x0) (Int.toNat x3)) 0)))] [] [] fun r0 =>
  cond (!r0) (
  (some (.ret [.d (.int .i64 16)] [] []))) (
  cond (decide (0 ≤ x3) && decide (x3 < (List.length (List.map aE.enc x0) : Int))) (
  cond (decide ((List.length (aU (cellAt (elemAt (List.map aE.enc x0) (Int.toNat x3)) 1)) : Int) > 160)) (
   (some (.ret [.d (.int .i64 5)] [] []))) (
  cond (decide (x3 > 0)) (
   cond (decide (0 ≤ x3) && decide (x3 < (List.length (List.map aE.enc x0) : Int))) (
   cond (decide (0 ≤ (IntKind.wrap .i64 (x3 - 1))) && decide ((IntKind.wrap .i64 (x3 - 1)) < (List.length (List.map aE.enc x0) : Int))) (
    cond (Op.bytesLess (aU (cellAt (elemAt (List.map aE.enc x0) (Int.toNat x3)) 0)) (aU (cellAt (elemAt (List.map aE.enc x0) (Int.toNat (IntKind.wrap .i64 (x3 - 1)))) 0)) || (aU (cellAt (elemAt (List.map aE.enc x0) (Int.toNat x3)) 0)) == (aU (cellAt (elemAt (List.map aE.enc x0) (Int.toNat (IntKind.wrap .i64 (x3 - 1)))) 0))) (
    (some (.ret [.d (.int .i64 16)] [] []))) (
    ai4 (C49 Γ γ102) Λ2 J (List.map aE.enc x0) (IntKind.wrap .i64 (x3 + 1)))) none) none) (
  ai4 (C49 Γ γ102) Λ2 J (List.map aE.enc x0) (IntKind.wrap .i64 (x3 + 1))))) none)) none) (
 (some (.ret [.d (.int .i64 0)] [] []))) := by kernel_rfl
end
abbrev X49 : aP := C49 gG (cT 102 fH)
theorem asl : X49 = aQ gG := by unfold X49 C49; rw [aK fun _ h => h]
noncomputable abbrev auu (a0 : (List (List D))) (a1 : Int) : Res := ai4 X49 (bV SE gG (SE.hl 49) (SE.hr 49)) (J0 SE X49) a0 a1
theorem aaQ : ∀ (fu : Nat) (x0 : (List aE)) (x3 : Int), Le (Option.map fP (eU fu x0 x3)) (auu (List.map aE.enc x0) x3) := by
 intro fu
 induction fu with
 | zero => intros; exact le_none
 | succ fu ih =>
  intro x0 x3
  refine Le.trans ?_ (le_of_eq ((bC asl).trans (atL _ _ _ _  x0 x3)).symm)
  unfold eU
  refine lD (by simp only [EN]) ?_ ?_
  ·refine lG (by simp only [EN]) ?_
   refine aM (good := good) eX adN (by first | (simp only [EN]; exact xF ((List.getD x0 (Int.toNat x3) default).Key)) | exact xF ((List.getD x0 (Int.toNat x3) default).Key)) fun r0 _ => ?_
   refine lC ?_ ?_
   ·exact aI rfl
   ·refine lG (by simp only [EN]) ?_
    refine lD (by simp only [EN]) ?_ ?_
    ·exact aI rfl
    ·refine lC ?_ ?_
     ·refine lG (by simp only [EN]) ?_
      refine lG (by simp only [EN]) ?_
      refine lD (by simp only [EN]) ?_ ?_
      ·exact aI rfl
      ·exact ih x0 (IntKind.wrap .i64 (x3 + 1))
     ·exact ih x0 (IntKind.wrap .i64 (x3 + 1))
  ·exact aI rfl
theorem ac9 (p0 : (List aE)) : Le (Option.map fP (mW p0)) (aZ SE 49 [.d (.sl aE.ks (List.map aE.enc p0))] [] []) := by
 refine aS asl rfl ?_
 refine Le.trans ?_ (le_of_eq (T49 _ _ _ _  p0).symm)
 unfold mW
 refine lD (by simp only [EN]) ?_ ?_
 ·exact aI rfl
 ·exact aaQ fuel p0 0
def ajQ (C : aP) (Λ2 J : Lam) (a0 : (List D)) : Res := lab SE C Λ2 J 13 0 [1, 1, 1, 1, 1, 1, 0, 0] (bB [(1, .ptr 1000000000 0)] [⟨34, (List.map AV.d a0)⟩] [] [] [])
def apg (C : aP) (Λ2 J : Lam) (a0 : (List D)) : Res := lab SE C Λ2 J 13 0 [1, 1, 1, 1, 1, 0, 0] (bB [(1, .ptr 1000000000 0)] [⟨34, (List.map AV.d a0)⟩] [] [] [])
def apH (C : aP) (Λ2 J : Lam) (a0 : (List D)) : Res := lab SE C Λ2 J 13 0 [1, 1, 1, 1, 0, 0] (bB [(1, .ptr 1000000000 0)] [⟨34, (List.map AV.d a0)⟩] [] [] [])
section
variable (Γ : Fun) (γ47 : Gm (Bool)) (γ48 : Gm (Bool)) (γ49 : Gm (Int)) (Λ2 J : Lam)
def C13 : aP := bA (bA (bA (aQ Γ) 47 iD γ47) 48 cJ γ48) 49 fP γ49
theorem T13 (p0 : aA) : bD SE (C13 Γ γ47 γ48 γ49) Λ2 J 13 [aA.av p0] [] [] =
 γ47 [.d (.str p0.Topic)] [] [] fun r0 =>
 cond (!r0) (
 (some (.ret [.d (.int .i64 12)] [] []))) (
 cond (decide ((List.length p0.Payload : Int) > 256)) (
 (some (.ret [.d (.int .i64 5)] [] []))) (
 cond (decide (p0.Level < 0)) (
 (some (.ret [.d (.int .i64 14)] [] []))) (
 cond (decide (p0.Level > 2)) (
 (some (.ret [.d (.int .i64 14)] [] []))) (
 apH (C13 Γ γ47 γ48 γ49) Λ2 J (aA.enc p0))))) := by kernel_rfl
theorem aqp (b0 : aA) : cB SE (C13 Γ γ47 γ48 γ49) Λ2 J 13 0 [1, 1, 1, 1, 1, 1, 0, 0] (bB [(1, .ptr 1000000000 0)] [⟨34, (List.map AV.d (aA.enc b0))⟩] [] [] []) =
 cond (decide (b0.Seq < 0)) (
 (some (.ret [.d (.int .i64 1)] [] []))) (
 cond (decide (b0.Seq > 1099511627776)) (
 (some (.ret [.d (.int .i64 1)] [] []))) (
 γ49 [.d (.sl aE.ks (List.map aE.enc b0.Props))] [] [] fun r2 =>
 (some (.ret [.d (.int .i64 r2)] [] [])))) := by kernel_rfl
theorem att (b0 : aA) : cB SE (C13 Γ γ47 γ48 γ49) Λ2 J 13 0 [1, 1, 1, 1, 1, 0, 0] (bB [(1, .ptr 1000000000 0)] [⟨34, (List.map AV.d (aA.enc b0))⟩] [] [] []) =
 cond (!(b0.From == ([] : Str))) (
 γ48 [.d (.str b0.From)] [] [] fun r1 =>
 cond (!r1) (
  (some (.ret [.d (.int .i64 11)] [] []))) (
 ajQ (C13 Γ γ47 γ48 γ49) Λ2 J (aA.enc b0))) (
 ajQ (C13 Γ γ47 γ48 γ49) Λ2 J (aA.enc b0)) := by kernel_rfl
theorem at1 (b0 : aA) : cB SE (C13 Γ γ47 γ48 γ49) Λ2 J 13 0 [1, 1, 1, 1, 0, 0] (bB [(1, .ptr 1000000000 0)] [⟨34, (List.map AV.d (aA.enc b0))⟩] [] [] []) =
 cond (decide (b0.Priority < 0)) (
 (some (.ret [.d (.int .i64 1)] [] []))) (
 cond (decide (b0.Priority > 9)) (
 (some (.ret [.d (.int .i64 1)] [] []))) (
 cond (decide (b0.Expires < 0)) (
 (some (.ret [.d (.int .i64 1)] [] []))) (
 cond (decide (b0.Expires > 1099511627776)) (
 (some (.ret [.d (.int .i64 1)] [] []))) (
 apg (C13 Γ γ47 γ48 γ49) Λ2 J (aA.enc b0))))) := by kernel_rfl
end
abbrev X13 : aP := C13 gG (cT 47 iD) (cT 48 cJ) (cT 49 fP)
theorem alH : X13 = aQ gG := by unfold X13 C13; rw [aK fun _ h => h, aK fun _ h => h, aK fun _ h => h]
noncomputable abbrev aqO (a0 : (List D)) : Res := ajQ X13 (bV SE gG (SE.hl 13) (SE.hr 13)) (J0 SE X13) a0
noncomputable abbrev aum (a0 : (List D)) : Res := apg X13 (bV SE gG (SE.hl 13) (SE.hr 13)) (J0 SE X13) a0
noncomputable abbrev atk (a0 : (List D)) : Res := apH X13 (bV SE gG (SE.hl 13) (SE.hr 13)) (J0 SE X13) a0
theorem sG (b0 : aA) : Le (Option.map cA (j5 b0)) (aqO (aA.enc b0)) := by
 refine Le.trans ?_ (le_of_eq ((bC alH).trans (aqp _ _ _ _ _ _  b0)).symm)
 unfold j5
 refine lC ?_ ?_
 ·exact aI rfl
 ·refine lC ?_ ?_
  ·exact aI rfl
  ·refine aM (good := good) eX acs (ac9 _) fun r2 _ => ?_
   exact aI rfl
theorem aaK (b0 : aA) : Le (Option.map cA (nD b0)) (aum (aA.enc b0)) := by
 refine Le.trans ?_ (le_of_eq ((bC alH).trans (att _ _ _ _ _ _  b0)).symm)
 unfold nD
 refine lC ?_ ?_
 ·refine aM (good := good) eX nH (oB _) fun r1 _ => ?_
  refine lC ?_ ?_
  ·exact aI rfl
  ·exact sG b0
 ·exact sG b0
theorem aaN (b0 : aA) : Le (Option.map cA (nB b0)) (atk (aA.enc b0)) := by
 refine Le.trans ?_ (le_of_eq ((bC alH).trans (at1 _ _ _ _ _ _  b0)).symm)
 unfold nB
 refine lC ?_ ?_
 ·exact aI rfl
 ·refine lC ?_ ?_
  ·exact aI rfl
  ·refine lC ?_ ?_
   ·exact aI rfl
   ·refine lC ?_ ?_
    ·exact aI rfl
    ·exact aaK b0
theorem nJ (p0 : aA) : Le (Option.map cA (jE p0)) (aZ SE 13 [aA.av p0] [] []) := by
 refine aS alH rfl ?_
 refine Le.trans ?_ (le_of_eq (T13 _ _ _ _ _ _  p0).symm)
 unfold jE
 refine aM (good := good) eX ab3 (adr _) fun r0 _ => ?_
 refine lC ?_ ?_
 ·exact aI rfl
 ·refine lC ?_ ?_
  ·exact aI rfl
  ·refine lC ?_ ?_
   ·exact aI rfl
   ·refine lC ?_ ?_
    ·exact aI rfl
    ·exact aaN p0
def amd (C : aP) (Λ2 J : Lam) (a0 : (List (List D))) (a1 : Int) : Res := lab SE C Λ2 J 43 0 [1, 1, 0, 1, 0] (bB [(0, .d (.sl aA.ks a0)), (3, .d (.int .i64 a1))] [] [] [] [])
section
variable (Γ : Fun) (γ13 : Gm (Int)) (Λ2 J : Lam)
def C43 : aP := bA (aQ Γ) 13 cA γ13
theorem T43 (p0 : (List aA)) : bD SE (C43 Γ γ13) Λ2 J 43 [.d (.sl aA.ks (List.map aA.enc p0))] [] [] =
 cond (decide ((List.length (List.map aA.enc p0) : Int) > 256)) (
 (some (.ret [.d (.int .i64 5)] [] []))) (
 amd (C43 Γ γ13) Λ2 J (List.map aA.enc p0) 0) := by kernel_rfl
theorem atO (x0 : (List aA)) (x3 : Int) : cB SE (C43 Γ γ13) Λ2 J 43 0 [1, 1, 0, 1, 0] (bB [(0, .d (.sl aA.ks (List.map aA.enc x0))), (3, .d (.int .i64 x3))] [] [] [] []) =
 cond (decide (x3 < (List.length (List.map aA.enc x0) : Int))) (
 cond (decide (0 ≤ x3) && decide (x3 < (List.length (List.map aA.enc x0) : Int))) (
  γ13 [.agg [.d (.str (aU (cellAt (elemAt (List.map aA.enc x0) (Int.toNat x3)) 0))), .d (.str (aU (cellAt (elemAt (List.map aA.enc x0) (Int.toNat x3)) 1))), .d (.int .i64 (aL (cellAt (elemAt (List.map aA.enc x0) (Int.toNat x3)) 2))), .d (.bool (aY (cellAt (elemAt (List.map aA.enc x0) (Int.toNat x3)) 3))), .d (.int .i64 (aL (cellAt (elemAt (List.map aA.enc x0) (Int.toNat x3)) 4))), .d (.int .i64 (aL (cellAt (elemAt (List.map aA.enc x0) (Int.toNat x3)) 5))), .d (.str (aU (cellAt (elemAt (List.map aA.enc x0) (Int.toNat x3)) 6))), .d (.int .i64 (aL (cellAt (elemAt (List.map aA.enc x0) (Int.toNat x3)) 7))), .d (.sl aE.ks (dSl (cellAt (elemAt (List.map aA.enc x0) (Int.toNat x3)) 8)))]] [] [] fun r0 =>
  cond (r0 != 0) (
  (some (.ret [.d (.int .i64 r0)] [] []))) (
  amd (C43 Γ γ13) Λ2 J (List.map aA.enc x0) (IntKind.wrap .i64 (x3 + 1)))) none) (
 (some (.ret [.d (.int .i64 0)] [] []))) := by kernel_rfl
end
abbrev X43 : aP := C43 gG (cT 13 cA)
theorem asa : X43 = aQ gG := by unfold X43 C43; rw [aK fun _ h => h]
noncomputable abbrev auf (a0 : (List (List D))) (a1 : Int) : Res := amd X43 (bV SE gG (SE.hl 43) (SE.hr 43)) (J0 SE X43) a0 a1
theorem aaJ : ∀ (fu : Nat) (x0 : (List aA)) (x3 : Int), Le (Option.map fM (gF fu x0 x3)) (auf (List.map aA.enc x0) x3) := by
 intro fu
 induction fu with
 | zero => intros; exact le_none
 | succ fu ih =>
  intro x0 x3
  refine Le.trans ?_ (le_of_eq ((bC asa).trans (atO _ _ _ _  x0 x3)).symm)
  unfold gF
  refine lD (by simp only [EN]) ?_ ?_
  ·refine lG (by simp only [EN]) ?_
   refine aM (good := good) eX pJ (by first | (simp only [EN]; exact nJ (List.getD x0 (Int.toNat x3) default)) | exact nJ (List.getD x0 (Int.toNat x3) default)) fun r0 _ => ?_
   refine lC ?_ ?_
   ·exact aI rfl
   ·exact ih x0 (IntKind.wrap .i64 (x3 + 1))
  ·exact aI rfl
theorem acQ (p0 : (List aA)) : Le (Option.map fM (mU p0)) (aZ SE 43 [.d (.sl aA.ks (List.map aA.enc p0))] [] []) := by
 refine aS asa rfl ?_
 refine Le.trans ?_ (le_of_eq (T43 _ _ _ _  p0).symm)
 unfold mU
 refine lD (by simp only [EN]) ?_ ?_
 ·exact aI rfl
 ·exact aaJ fuel p0 0
def ajh (C : aP) (Λ2 J : Lam) (a0 : Int) (a1 : (List D)) : Res := lab SE C Λ2 J 95 0 [1, 1, 0, 1, 0] (bB [(1, .ptr 1000000000 0), (3, .d (.int .i64 a0))] [⟨27, (List.map AV.d a1)⟩] [] [] [])
section
variable (Γ : Fun)  (Λ2 J : Lam)
def C95 : aP := aQ Γ
theorem T95 (p0 : aJ) : bD SE (C95 Γ) Λ2 J 95 [aJ.av p0] [] [] =
 cond (decide ((List.length (List.map (encI .i64) p0.Used) : Int) > 32)) (
 (some (.ret [.d (.int .i64 5)] [] []))) (
 ajh (C95 Γ) Λ2 J 0 (aJ.enc p0)) := by kernel_rfl
theorem asY (x3 : Int) (b0 : aJ) : cB SE (C95 Γ) Λ2 J 95 0 [1, 1, 0, 1, 0] (bB [(1, .ptr 1000000000 0), (3, .d (.int .i64 x3))] [⟨27, (List.map AV.d (aJ.enc b0))⟩] [] [] []) =
 cond (decide (x3 < (List.length (List.map (encI .i64) b0.Used) : Int))) (
 cond (decide (0 ≤ x3) && decide (x3 < (List.length (List.map (encI .i64) b0.Used) : Int))) (
  cond (decide ((aL (cellAt (elemAt (List.map (encI .i64) b0.Used) (Int.toNat x3)) 0)) < 1)) (
  (some (.ret [.d (.int .i64 15)] [] []))) (
  cond (decide (0 ≤ x3) && decide (x3 < (List.length (List.map (encI .i64) b0.Used) : Int))) (
  cond (decide ((aL (cellAt (elemAt (List.map (encI .i64) b0.Used) (Int.toNat x3)) 0)) > 65535)) (
   (some (.ret [.d (.int .i64 15)] [] []))) (
  cond (decide (x3 > 0)) (
   cond (decide (0 ≤ x3) && decide (x3 < (List.length (List.map (encI .i64) b0.Used) : Int))) (
   cond (decide (0 ≤ (IntKind.wrap .i64 (x3 - 1))) && decide ((IntKind.wrap .i64 (x3 - 1)) < (List.length (List.map (encI .i64) b0.Used) : Int))) (
    cond (decide ((aL (cellAt (elemAt (List.map (encI .i64) b0.Used) (Int.toNat x3)) 0)) ≤ (aL (cellAt (elemAt (List.map (encI .i64) b0.Used) (Int.toNat (IntKind.wrap .i64 (x3 - 1)))) 0)))) (
    (some (.ret [.d (.int .i64 15)] [] []))) (
    ajh (C95 Γ) Λ2 J (IntKind.wrap .i64 (x3 + 1)) (aJ.enc b0))) none) none) (
  ajh (C95 Γ) Λ2 J (IntKind.wrap .i64 (x3 + 1)) (aJ.enc b0)))) none)) none) (
 cond (decide (b0.Last < 0)) (
 (some (.ret [.d (.int .i64 1)] [] []))) (
 cond (decide (b0.Last > 65535)) (
 (some (.ret [.d (.int .i64 1)] [] []))) (
 (some (.ret [.d (.int .i64 0)] [] []))))) := by kernel_rfl
end
abbrev X95 : aP := C95 gG
theorem aqx : X95 = aQ gG := rfl
noncomputable abbrev atb (a0 : Int) (a1 : (List D)) : Res := ajh X95 (bV SE gG (SE.hl 95) (SE.hr 95)) (J0 SE X95) a0 a1
theorem aaO : ∀ (fu : Nat) (x3 : Int) (b0 : aJ), Le (Option.map dG (cS fu x3 b0)) (atb x3 (aJ.enc b0)) := by
 intro fu
 induction fu with
 | zero => intros; exact le_none
 | succ fu ih =>
  intro x3 b0
  refine Le.trans ?_ (le_of_eq ((bC aqx).trans (asY _ _ _  x3 b0)).symm)
  unfold cS
  refine lD (by simp only [EN]) ?_ ?_
  ·refine lG (by simp only [EN]) ?_
   refine lD (by simp only [EN]) ?_ ?_
   ·exact aI rfl
   ·refine lG (by simp only [EN]) ?_
    refine lD (by simp only [EN]) ?_ ?_
    ·exact aI rfl
    ·refine lC ?_ ?_
     ·refine lG (by simp only [EN]) ?_
      refine lG (by simp only [EN]) ?_
      refine lD (by simp only [EN]) ?_ ?_
      ·exact aI rfl
      ·exact ih (IntKind.wrap .i64 (x3 + 1)) b0
     ·exact ih (IntKind.wrap .i64 (x3 + 1)) b0
  ·refine lC ?_ ?_
   ·exact aI rfl
   ·refine lC ?_ ?_
    ·exact aI rfl
    ·exact aI rfl
theorem uY (p0 : aJ) : Le (Option.map dG (gR p0)) (aZ SE 95 [aJ.av p0] [] []) := by
 refine aS aqx rfl ?_
 refine Le.trans ?_ (le_of_eq (T95 _ _ _  p0).symm)
 unfold gR
 refine lD (by simp only [EN]) ?_ ?_
 ·exact aI rfl
 ·exact aaO fuel 0 p0
def aki (C : aP) (Λ2 J : Lam) (a0 : Int) (a1 : Int) (a2 : (List D)) : Res := lab SE C Λ2 J 148 0 [1, 0, 1, 0] (bB [(1, .d (.int .i64 a0)), (2, .ptr 1000000000 0), (5, .d (.int .i64 a1))] [⟨27, (List.map AV.d a2)⟩] [] [] [])
section
variable (Γ : Fun)  (Λ2 J : Lam)
def akp : aP := aQ Γ
theorem awX (p0 : aJ) (p1 : Int) : bD SE (akp Γ) Λ2 J 148 [aJ.av p0, .d (.int .i64 p1)] [] [] =
 aki (akp Γ) Λ2 J p1 0 (aJ.enc p0) := by kernel_rfl
theorem ase (x1 : Int) (x5 : Int) (b0 : aJ) : cB SE (akp Γ) Λ2 J 148 0 [1, 0, 1, 0] (bB [(1, .d (.int .i64 x1)), (2, .ptr 1000000000 0), (5, .d (.int .i64 x5))] [⟨27, (List.map AV.d (aJ.enc b0))⟩] [] [] []) =
 cond (decide (x5 < (List.length (List.map (encI .i64) b0.Used) : Int))) (
 cond (decide (0 ≤ x5) && decide (x5 < (List.length (List.map (encI .i64) b0.Used) : Int))) (
  cond ((aL (cellAt (elemAt (List.map (encI .i64) b0.Used) (Int.toNat x5)) 0)) == x1) (
  (some (.ret [.d (.bool true)] [] []))) (
  aki (akp Γ) Λ2 J x1 (IntKind.wrap .i64 (x5 + 1)) (aJ.enc b0))) none) (
 (some (.ret [.d (.bool false)] [] []))) := by kernel_rfl
end
abbrev aol : aP := akp gG
theorem apB : aol = aQ gG := rfl
noncomputable abbrev aq4 (a0 : Int) (a1 : Int) (a2 : (List D)) : Res := aki aol (bV SE gG (SE.hl 148) (SE.hr 148)) (J0 SE aol) a0 a1 a2
theorem ab9 : ∀ (fu : Nat) (x1 : Int) (x5 : Int) (b0 : aJ), Le (Option.map gU (iJ fu x1 x5 b0)) (aq4 x1 x5 (aJ.enc b0)) := by
 intro fu
 induction fu with
 | zero => intros; exact le_none
 | succ fu ih =>
  intro x1 x5 b0
  refine Le.trans ?_ (le_of_eq ((bC apB).trans (ase _ _ _  x1 x5 b0)).symm)
  unfold iJ
  refine lD (by simp only [EN]) ?_ ?_
  ·refine lG (by simp only [EN]) ?_
   refine lD (by simp only [EN]) ?_ ?_
   ·exact aI rfl
   ·exact ih x1 (IntKind.wrap .i64 (x5 + 1)) b0
  ·exact aI rfl
theorem xV (p0 : aJ) (p1 : Int) : Le (Option.map gU (oS p0 p1)) (aZ SE 148 [aJ.av p0, .d (.int .i64 p1)] [] []) := by
 refine aS apB rfl ?_
 refine Le.trans ?_ (le_of_eq (awX _ _ _  p0 p1).symm)
 unfold oS
 exact ab9 fuel p1 0 p0
def akd (C : aP) (Λ2 J : Lam) (a0 : (List (List D))) (a1 : Int) (a2 : Int) : Res := lab SE C Λ2 J 115 0 [1, 0, 1, 0] (bB [(0, .d (.sl aC.ks a0)), (1, .d (.int .i64 a1)), (5, .d (.int .i64 a2))] [] [] [] [])
section
variable (Γ : Fun)  (Λ2 J : Lam)
def ajA : aP := aQ Γ
theorem avM (p0 : (List aC)) (p1 : Int) : bD SE (ajA Γ) Λ2 J 115 [.d (.sl aC.ks (List.map aC.enc p0)), .d (.int .i64 p1)] [] [] =
 akd (ajA Γ) Λ2 J (List.map aC.enc p0) p1 0 := by kernel_rfl
theorem arE (x0 : (List aC)) (x1 : Int) (x5 : Int) : cB SE (ajA Γ) Λ2 J 115 0 [1, 0, 1, 0] (bB [(0, .d (.sl aC.ks (List.map aC.enc x0))), (1, .d (.int .i64 x1)), (5, .d (.int .i64 x5))] [] [] [] []) =
 cond (decide (x5 < (List.length (List.map aC.enc x0) : Int))) (
 cond (decide (0 ≤ x5) && decide (x5 < (List.length (List.map aC.enc x0) : Int))) (
  cond ((aL (cellAt (elemAt (List.map aC.enc x0) (Int.toNat x5)) 0)) == x1) (
  (some (.ret [.d (.int .i64 x5)] [] []))) (
  akd (ajA Γ) Λ2 J (List.map aC.enc x0) x1 (IntKind.wrap .i64 (x5 + 1)))) none) (
 (some (.ret [.d (.int .i64 (-1))] [] []))) := by kernel_rfl
end
abbrev aoq : aP := ajA gG
theorem apq : aoq = aQ gG := rfl
noncomputable abbrev asz (a0 : (List (List D))) (a1 : Int) (a2 : Int) : Res := akd aoq (bV SE gG (SE.hl 115) (SE.hr 115)) (J0 SE aoq) a0 a1 a2
theorem ac1 : ∀ (fu : Nat) (x0 : (List aC)) (x1 : Int) (x5 : Int), Le (Option.map iQ (jA fu x0 x1 x5)) (asz (List.map aC.enc x0) x1 x5) := by
 intro fu
 induction fu with
 | zero => intros; exact le_none
 | succ fu ih =>
  intro x0 x1 x5
  refine Le.trans ?_ (le_of_eq ((bC apq).trans (arE _ _ _  x0 x1 x5)).symm)
  unfold jA
  refine lD (by simp only [EN]) ?_ ?_
  ·refine lG (by simp only [EN]) ?_
   refine lD (by simp only [EN]) ?_ ?_
   ·exact aI rfl
   ·exact ih x0 x1 (IntKind.wrap .i64 (x5 + 1))
  ·exact aI rfl
theorem yO (p0 : (List aC)) (p1 : Int) : Le (Option.map iQ (pW p0 p1)) (aZ SE 115 [.d (.sl aC.ks (List.map aC.enc p0)), .d (.int .i64 p1)] [] []) := by
 refine aS apq rfl ?_
 refine Le.trans ?_ (le_of_eq (avM _ _ _  p0 p1).symm)
 unfold pW
 exact ac1 fuel p0 p1 0
def apA (C : aP) (Λ2 J : Lam) (a0 : (List D)) : Res := lab SE C Λ2 J 96 0 [1, 1, 1, 0] (bB [(5, .ptr 1000000000 0)] [⟨122, (List.map AV.d a0)⟩] [] [] [])
section
variable (Γ : Fun) (γ148 : Gm (Bool)) (γ115 : Gm (Int)) (γ13 : Gm (Int)) (Λ2 J : Lam)
def C96 : aP := bA (bA (bA (aQ Γ) 148 gU γ148) 115 iQ γ115) 13 cA γ13
theorem T96 (p0 : aG) (p1 : Int) : bD SE (C96 Γ γ148 γ115 γ13) Λ2 J 96 [aG.av p0, .d (.int .i64 p1)] [] [] =
 cond (decide (0 ≤ p1) && decide (p1 < (List.length (List.map aC.enc p0.Items) : Int))) (
 γ148 [aJ.av p0.Pool, .d (.int .i64 (aL (cellAt (elemAt (List.map aC.enc p0.Items) (Int.toNat p1)) 0)))] [] [] fun r0 =>
 cond (!r0) (
  (some (.ret [.d (.int .i64 15)] [] []))) (
 γ115 [.d (.sl aC.ks (List.map aC.enc p0.Items)), .d (.int .i64 (aL (cellAt (elemAt (List.map aC.enc p0.Items) (Int.toNat p1)) 0)))] [] [] fun r1 =>
 cond (decide (r1 < p1)) (
  (some (.ret [.d (.int .i64 15)] [] []))) (
 apA (C96 Γ γ148 γ115 γ13) Λ2 J [D.int .i64 (aL (cellAt (elemAt (List.map aC.enc p0.Items) (Int.toNat p1)) 0)), D.int .i64 (aL (cellAt (elemAt (List.map aC.enc p0.Items) (Int.toNat p1)) 1)), D.str (aU (cellAt (elemAt (List.map aC.enc p0.Items) (Int.toNat p1)) 2)), D.str (aU (cellAt (elemAt (List.map aC.enc p0.Items) (Int.toNat p1)) 3)), D.int .i64 (aL (cellAt (elemAt (List.map aC.enc p0.Items) (Int.toNat p1)) 4)), D.bool (aY (cellAt (elemAt (List.map aC.enc p0.Items) (Int.toNat p1)) 5)), D.int .i64 (aL (cellAt (elemAt (List.map aC.enc p0.Items) (Int.toNat p1)) 6)), D.int .i64 (aL (cellAt (elemAt (List.map aC.enc p0.Items) (Int.toNat p1)) 7)), D.str (aU (cellAt (elemAt (List.map aC.enc p0.Items) (Int.toNat p1)) 8)), D.int .i64 (aL (cellAt (elemAt (List.map aC.enc p0.Items) (Int.toNat p1)) 9)), D.sl aE.ks (dSl (cellAt (elemAt (List.map aC.enc p0.Items) (Int.toNat p1)) 10))]))) none := by kernel_rfl
theorem auY (b0 : aC) : cB SE (C96 Γ γ148 γ115 γ13) Λ2 J 96 0 [1, 1, 1, 0] (bB [(5, .ptr 1000000000 0)] [⟨122, (List.map AV.d (aC.enc b0))⟩] [] [] []) =
 γ13 [aA.av b0.Message] [] [] fun r2 =>
 cond (r2 != 0) (
 (some (.ret [.d (.int .i64 r2)] [] []))) (
 cond (b0.Message.Level == 0) (
 (some (.ret [.d (.int .i64 14)] [] []))) (
 cond (b0.State != 1) (
 cond (b0.State != 2) (
  (some (.ret [.d (.int .i64 9)] [] []))) (
 cond (b0.Message.Level == 1) (
  (some (.ret [.d (.int .i64 9)] [] []))) (
 (some (.ret [.d (.int .i64 0)] [] []))))) (
 (some (.ret [.d (.int .i64 0)] [] []))))) := by kernel_rfl
end
abbrev X96 : aP := C96 gG (cT 148 gU) (cT 115 iQ) (cT 13 cA)
theorem asM : X96 = aQ gG := by unfold X96 C96; rw [aK fun _ h => h, aK fun _ h => h, aK fun _ h => h]
noncomputable abbrev atX (a0 : (List D)) : Res := apA X96 (bV SE gG (SE.hl 96) (SE.hr 96)) (J0 SE X96) a0
theorem tE (b0 : aC) : Le (Option.map fY (oA b0)) (atX (aC.enc b0)) := by
 refine Le.trans ?_ (le_of_eq ((bC asM).trans (auY _ _ _ _ _ _  b0)).symm)
 unfold oA
 refine aM (good := good) eX pJ (nJ _) fun r2 _ => ?_
 refine lC ?_ ?_
 ·exact aI rfl
 ·refine lC ?_ ?_
  ·exact aI rfl
  ·refine lC ?_ ?_
   ·refine lC ?_ ?_
    ·exact aI rfl
    ·refine lC ?_ ?_
     ·exact aI rfl
     ·exact aI rfl
   ·exact aI rfl
theorem adZ (p0 : aG) (p1 : Int) : Le (Option.map fY (n3 p0 p1)) (aZ SE 96 [aG.av p0, .d (.int .i64 p1)] [] []) := by
 refine aS asM rfl ?_
 refine Le.trans ?_ (le_of_eq (T96 _ _ _ _ _ _  p0 p1).symm)
 unfold n3
 refine lG (by simp only [EN]) ?_
 refine aM (good := good) eX ad5 (by first | (simp only [EN]; exact xV p0.Pool ((List.getD p0.Items (Int.toNat p1) default).ID)) | exact xV p0.Pool ((List.getD p0.Items (Int.toNat p1) default).ID)) fun r0 _ => ?_
 refine lC ?_ ?_
 ·exact aI rfl
 ·refine aM (good := good) eX aeR (by first | (simp only [EN]; exact yO p0.Items ((List.getD p0.Items (Int.toNat p1) default).ID)) | exact yO p0.Items ((List.getD p0.Items (Int.toNat p1) default).ID)) fun r1 _ => ?_
  refine lC ?_ ?_
  ·exact aI rfl
  ·first | (simp only [EN]; exact tE (List.getD p0.Items (Int.toNat p1) default)) | exact tE (List.getD p0.Items (Int.toNat p1) default)
def alL (C : aP) (Λ2 J : Lam) (a0 : Int) (a1 : (List D)) : Res := lab SE C Λ2 J 44 0 [1, 1, 1, 1, 1, 0, 1, 0] (bB [(1, .ptr 1000000000 0), (4, .d (.int .i64 a0))] [⟨29, (List.map AV.d a1)⟩] [] [] [])
def apn (C : aP) (Λ2 J : Lam) (a0 : (List D)) : Res := lab SE C Λ2 J 44 0 [1, 1, 0] (bB [(1, .ptr 1000000000 0)] [⟨29, (List.map AV.d a0)⟩] [] [] [])
section
variable (Γ : Fun) (γ95 : Gm (Int)) (γ96 : Gm (Int)) (Λ2 J : Lam)
def C44 : aP := bA (bA (aQ Γ) 95 dG γ95) 96 fY γ96
theorem T44 (p0 : aG) : bD SE (C44 Γ γ95 γ96) Λ2 J 44 [aG.av p0] [] [] =
 cond (decide (p0.Limit < 0)) (
 (some (.ret [.d (.int .i64 1)] [] []))) (
 cond (decide (p0.Limit > 32)) (
 (some (.ret [.d (.int .i64 1)] [] []))) (
 apn (C44 Γ γ95 γ96) Λ2 J (aG.enc p0))) := by kernel_rfl
theorem as8 (x4 : Int) (b0 : aG) : cB SE (C44 Γ γ95 γ96) Λ2 J 44 0 [1, 1, 1, 1, 1, 0, 1, 0] (bB [(1, .ptr 1000000000 0), (4, .d (.int .i64 x4))] [⟨29, (List.map AV.d (aG.enc b0))⟩] [] [] []) =
 cond (decide (x4 < (List.length (List.map aC.enc b0.Items) : Int))) (
 γ96 [aG.av b0, .d (.int .i64 x4)] [] [] fun r1 =>
 cond (r1 != 0) (
  (some (.ret [.d (.int .i64 r1)] [] []))) (
 alL (C44 Γ γ95 γ96) Λ2 J (IntKind.wrap .i64 (x4 + 1)) (aG.enc b0))) (
 cond (decide ((List.length (List.map aC.enc b0.Items) : Int) < (List.length (List.map (encI .i64) b0.Pool.Used) : Int))) (
 (some (.ret [.d (.int .i64 15)] [] []))) (
 (some (.ret [.d (.int .i64 0)] [] [])))) := by kernel_rfl
theorem aue (b0 : aG) : cB SE (C44 Γ γ95 γ96) Λ2 J 44 0 [1, 1, 0] (bB [(1, .ptr 1000000000 0)] [⟨29, (List.map AV.d (aG.enc b0))⟩] [] [] []) =
 γ95 [aJ.av b0.Pool] [] [] fun r0 =>
 cond (r0 != 0) (
 (some (.ret [.d (.int .i64 r0)] [] []))) (
 cond (decide ((List.length (List.map aC.enc b0.Items) : Int) > 32)) (
 (some (.ret [.d (.int .i64 5)] [] []))) (
 alL (C44 Γ γ95 γ96) Λ2 J 0 (aG.enc b0))) := by kernel_rfl
end
abbrev X44 : aP := C44 gG (cT 95 dG) (cT 96 fY)
theorem anQ : X44 = aQ gG := by unfold X44 C44; rw [aK fun _ h => h, aK fun _ h => h]
noncomputable abbrev atZ (a0 : Int) (a1 : (List D)) : Res := alL X44 (bV SE gG (SE.hl 44) (SE.hr 44)) (J0 SE X44) a0 a1
noncomputable abbrev aup (a0 : (List D)) : Res := apn X44 (bV SE gG (SE.hl 44) (SE.hr 44)) (J0 SE X44) a0
theorem aaL : ∀ (fu : Nat) (x4 : Int) (b0 : aG), Le (Option.map eJ (gD fu x4 b0)) (atZ x4 (aG.enc b0)) := by
 intro fu
 induction fu with
 | zero => intros; exact le_none
 | succ fu ih =>
  intro x4 b0
  refine Le.trans ?_ (le_of_eq ((bC anQ).trans (as8 _ _ _ _ _  x4 b0)).symm)
  unfold gD
  refine lD (by simp only [EN]) ?_ ?_
  ·refine aM (good := good) eX ac5 (adZ _ _) fun r1 _ => ?_
   refine lC ?_ ?_
   ·exact aI rfl
   ·exact ih (IntKind.wrap .i64 (x4 + 1)) b0
  ·refine lD (by simp only [EN]) ?_ ?_
   ·exact aI rfl
   ·exact aI rfl
theorem aaP (b0 : aG) : Le (Option.map eJ (nE b0)) (aup (aG.enc b0)) := by
 refine Le.trans ?_ (le_of_eq ((bC anQ).trans (aue _ _ _ _ _  b0)).symm)
 unfold nE
 refine aM (good := good) eX uK (uY _) fun r0 _ => ?_
 refine lC ?_ ?_
 ·exact aI rfl
 ·refine lD (by simp only [EN]) ?_ ?_
  ·exact aI rfl
  ·exact aaL fuel 0 b0
theorem adl (p0 : aG) : Le (Option.map eJ (m8 p0)) (aZ SE 44 [aG.av p0] [] []) := by
 refine aS anQ rfl ?_
 refine Le.trans ?_ (le_of_eq (T44 _ _ _ _ _  p0).symm)
 unfold m8
 refine lC ?_ ?_
 ·exact aI rfl
 ·refine lC ?_ ?_
  ·exact aI rfl
  ·exact aaP p0
section
variable (Γ : Fun) (γ95 : Gm (Int)) (Λ2 J : Lam)
def C45 : aP := bA (aQ Γ) 95 dG γ95
theorem T45 (p0 : aR) : bD SE (C45 Γ γ95) Λ2 J 45 [aR.av p0] [] [] =
 γ95 [aJ.av (aJ.mk p0.IDs 0)] [] [] fun r0 =>
 (some (.ret [.d (.int .i64 r0)] [] [])) := by kernel_rfl
end
abbrev X45 : aP := C45 gG (cT 95 dG)
theorem avO : X45 = aQ gG := by unfold X45 C45; rw [aK fun _ h => h]
theorem ada (p0 : aR) : Le (Option.map iB (m0 p0)) (aZ SE 45 [aR.av p0] [] []) := by
 refine aS avO rfl ?_
 refine Le.trans ?_ (le_of_eq (T45 _ _ _ _  p0).symm)
 unfold m0
 refine aM (good := good) eX uK (uY _) fun r0 _ => ?_
 exact aI rfl
def akL (C : aP) (Λ2 J : Lam) (a0 : (List (List D))) (a1 : (List (List D))) (a2 : Int) : Res := lab SE C Λ2 J 149 0 [1, 1, 0, 1, 0] (bB [(0, .d (.sl aE.ks a0)), (1, .d (.sl aE.ks a1)), (5, .d (.int .i64 a2))] [] [] [] [])
section
variable (Γ : Fun)  (Λ2 J : Lam)
def aj0 : aP := aQ Γ
theorem awO (p0 : (List aE)) (p1 : (List aE)) : bD SE (aj0 Γ) Λ2 J 149 [.d (.sl aE.ks (List.map aE.enc p0)), .d (.sl aE.ks (List.map aE.enc p1))] [] [] =
 cond ((List.length (List.map aE.enc p0) : Int) != (List.length (List.map aE.enc p1) : Int)) (
 (some (.ret [.d (.bool false)] [] []))) (
 akL (aj0 Γ) Λ2 J (List.map aE.enc p0) (List.map aE.enc p1) 0) := by kernel_rfl
theorem asD (x0 : (List aE)) (x1 : (List aE)) (x5 : Int) : cB SE (aj0 Γ) Λ2 J 149 0 [1, 1, 0, 1, 0] (bB [(0, .d (.sl aE.ks (List.map aE.enc x0))), (1, .d (.sl aE.ks (List.map aE.enc x1))), (5, .d (.int .i64 x5))] [] [] [] []) =
 cond (decide (x5 < (List.length (List.map aE.enc x0) : Int))) (
 cond (decide (0 ≤ x5) && decide (x5 < (List.length (List.map aE.enc x0) : Int))) (
  cond (decide (0 ≤ x5) && decide (x5 < (List.length (List.map aE.enc x1) : Int))) (
  cond (!(((aU (cellAt (elemAt (List.map aE.enc x0) (Int.toNat x5)) 0)) == (aU (cellAt (elemAt (List.map aE.enc x1) (Int.toNat x5)) 0))) && (((aU (cellAt (elemAt (List.map aE.enc x0) (Int.toNat x5)) 1)) == (aU (cellAt (elemAt (List.map aE.enc x1) (Int.toNat x5)) 1))) && true))) (
   (some (.ret [.d (.bool false)] [] []))) (
  akL (aj0 Γ) Λ2 J (List.map aE.enc x0) (List.map aE.enc x1) (IntKind.wrap .i64 (x5 + 1)))) none) none) (
 (some (.ret [.d (.bool true)] [] []))) := by kernel_rfl
end
abbrev an2 : aP := aj0 gG
theorem apF : an2 = aQ gG := rfl
noncomputable abbrev aq1 (a0 : (List (List D))) (a1 : (List (List D))) (a2 : Int) : Res := akL an2 (bV SE gG (SE.hl 149) (SE.hr 149)) (J0 SE an2) a0 a1 a2
theorem xJ : ∀ (fu : Nat) (x0 : (List aE)) (x1 : (List aE)) (x5 : Int), Le (Option.map dM (dV fu x0 x1 x5)) (aq1 (List.map aE.enc x0) (List.map aE.enc x1) x5) := by
 intro fu
 induction fu with
 | zero => intros; exact le_none
 | succ fu ih =>
  intro x0 x1 x5
  refine Le.trans ?_ (le_of_eq ((bC apF).trans (asD _ _ _  x0 x1 x5)).symm)
  unfold dV
  refine lD (by simp only [EN]) ?_ ?_
  ·refine lG (by simp only [EN]) ?_
   refine lG (by simp only [EN]) ?_
   refine lD (by simp only [EN]) ?_ ?_
   ·exact aI rfl
   ·exact ih x0 x1 (IntKind.wrap .i64 (x5 + 1))
  ·exact aI rfl
theorem aam (p0 : (List aE)) (p1 : (List aE)) : Le (Option.map dM (kE p0 p1)) (aZ SE 149 [.d (.sl aE.ks (List.map aE.enc p0)), .d (.sl aE.ks (List.map aE.enc p1))] [] []) := by
 refine aS apF rfl ?_
 refine Le.trans ?_ (le_of_eq (awO _ _ _  p0 p1).symm)
 unfold kE
 refine lD (by simp only [EN]) ?_ ?_
 ·exact aI rfl
 ·exact xJ fuel p0 p1 0
section
variable (Γ : Fun) (γ149 : Gm (Bool)) (Λ2 J : Lam)
def C97 : aP := bA (aQ Γ) 149 dM γ149
theorem T97 (p0 : aA) (p1 : aA) : bD SE (C97 Γ γ149) Λ2 J 97 [aA.av p0, aA.av p1] [] [] =
 cond (p0.Topic == p1.Topic) (
 cond (p0.Payload == p1.Payload) (
  cond (p0.Level == p1.Level) (
  cond (p0.Retain == p1.Retain) (
   cond (p0.Priority == p1.Priority) (
   cond (p0.Expires == p1.Expires) (
    cond (p0.From == p1.From) (
    cond (p0.Seq == p1.Seq) (
     γ149 [.d (.sl aE.ks (List.map aE.enc p0.Props)), .d (.sl aE.ks (List.map aE.enc p1.Props))] [] [] fun r0 =>
     (some (.ret [.d (.bool r0)] [] []))) (
    (some (.ret [.d (.bool false)] [] [])))) (
    (some (.ret [.d (.bool false)] [] [])))) (
   (some (.ret [.d (.bool false)] [] [])))) (
   (some (.ret [.d (.bool false)] [] [])))) (
  (some (.ret [.d (.bool false)] [] [])))) (
  (some (.ret [.d (.bool false)] [] [])))) (
 (some (.ret [.d (.bool false)] [] [])))) (
 (some (.ret [.d (.bool false)] [] []))) := by kernel_rfl
end
abbrev X97 : aP := C97 gG (cT 149 dM)
theorem avf : X97 = aQ gG := by unfold X97 C97; rw [aK fun _ h => h]
theorem gV (p0 : aA) (p1 : aA) : Le (Option.map cI (iN p0 p1)) (aZ SE 97 [aA.av p0, aA.av p1] [] []) := by
 refine aS avf rfl ?_
 refine Le.trans ?_ (le_of_eq (T97 _ _ _ _  p0 p1).symm)
 unfold iN
 refine lC ?_ ?_
 ·refine lC ?_ ?_
  ·refine lC ?_ ?_
   ·refine lC ?_ ?_
    ·refine lC ?_ ?_
     ·refine lC ?_ ?_
      ·refine lC ?_ ?_
       ·refine lC ?_ ?_
        ·refine aM (good := good) eX zE (aam _ _) fun r0 _ => ?_
         exact aI rfl
        ·exact aI rfl
       ·exact aI rfl
      ·exact aI rfl
     ·exact aI rfl
    ·exact aI rfl
   ·exact aI rfl
  ·exact aI rfl
 ·exact aI rfl
section
variable (Γ : Fun) (γ97 : Gm (Bool)) (γ13 : Gm (Int)) (Λ2 J : Lam)
def C46 : aP := bA (bA (aQ Γ) 97 cI γ97) 13 cA γ13
theorem T46 (p0 : aN) : bD SE (C46 Γ γ97 γ13) Λ2 J 46 [aN.av p0] [] [] =
 cond (!p0.Set) (
 cond (p0.Delay != 0) (
  (some (.ret [.d (.int .i64 28)] [] []))) (
 γ97 [aA.av p0.Message, .agg [.d (.str ([] : Str)), .d (.str ([] : Str)), .d (.int .i64 0), .d (.bool false), .d (.int .i64 0), .d (.int .i64 0), .d (.str ([] : Str)), .d (.int .i64 0), .d (.sl aE.ks (List.map aE.enc []))]] [] [] fun r0 =>
 cond (!r0) (
  (some (.ret [.d (.int .i64 28)] [] []))) (
 (some (.ret [.d (.int .i64 0)] [] []))))) (
 cond (decide (p0.Delay < 0)) (
 (some (.ret [.d (.int .i64 1)] [] []))) (
 cond (decide (p0.Delay > 1099511627776)) (
 (some (.ret [.d (.int .i64 1)] [] []))) (
 γ13 [aA.av p0.Message] [] [] fun r1 =>
 (some (.ret [.d (.int .i64 r1)] [] []))))) := by kernel_rfl
end
abbrev X46 : aP := C46 gG (cT 97 cI) (cT 13 cA)
theorem aw0 : X46 = aQ gG := by unfold X46 C46; rw [aK fun _ h => h, aK fun _ h => h]
theorem ade (p0 : aN) : Le (Option.map hY (m7 p0)) (aZ SE 46 [aN.av p0] [] []) := by
 refine aS aw0 rfl ?_
 refine Le.trans ?_ (le_of_eq (T46 _ _ _ _ _  p0).symm)
 unfold m7
 refine lC ?_ ?_
 ·refine lC ?_ ?_
  ·exact aI rfl
  ·refine aM (good := good) eX nC (by first | (simp only [EN]; exact gV p0.Message ((aA.mk ([] : Str) ([] : Str) 0 false 0 0 ([] : Str) 0 ([] : List aE)))) | exact gV p0.Message ((aA.mk ([] : Str) ([] : Str) 0 false 0 0 ([] : Str) 0 ([] : List aE)))) fun r0 _ => ?_
   refine lC ?_ ?_
   ·exact aI rfl
   ·exact aI rfl
 ·refine lC ?_ ?_
  ·exact aI rfl
  ·refine lC ?_ ?_
   ·exact aI rfl
   ·refine aM (good := good) eX pJ (nJ _) fun r1 _ => ?_
    exact aI rfl
def amg (C : aP) (Λ2 J : Lam) (a0 : (List (List D))) (a1 : Int) : Res := lab SE C Λ2 J 40 0 [1, 0, 1, 0] (bB [(0, .d (.sl [.int .i64] a0)), (3, .d (.int .i64 a1))] [] [] [] [])
section
variable (Γ : Fun)  (Λ2 J : Lam)
def C40 : aP := aQ Γ
theorem T40 (p0 : (List Int)) : bD SE (C40 Γ) Λ2 J 40 [.d (.sl [.int .i64] (List.map (encI .i64) p0))] [] [] =
 amg (C40 Γ) Λ2 J (List.map (encI .i64) p0) 0 := by kernel_rfl
theorem as4 (x0 : (List Int)) (x3 : Int) : cB SE (C40 Γ) Λ2 J 40 0 [1, 0, 1, 0] (bB [(0, .d (.sl [.int .i64] (List.map (encI .i64) x0))), (3, .d (.int .i64 x3))] [] [] [] []) =
 cond (decide (x3 < (List.length (List.map (encI .i64) x0) : Int))) (
 cond (decide (0 ≤ x3) && decide (x3 < (List.length (List.map (encI .i64) x0) : Int))) (
  cond ((aL (cellAt (elemAt (List.map (encI .i64) x0) (Int.toNat x3)) 0)) != 0) (
  cond (decide (0 ≤ x3) && decide (x3 < (List.length (List.map (encI .i64) x0) : Int))) (
   (some (.ret [.d (.int .i64 (aL (cellAt (elemAt (List.map (encI .i64) x0) (Int.toNat x3)) 0)))] [] []))) none) (
  amg (C40 Γ) Λ2 J (List.map (encI .i64) x0) (IntKind.wrap .i64 (x3 + 1)))) none) (
 (some (.ret [.d (.int .i64 0)] [] []))) := by kernel_rfl
end
abbrev X40 : aP := C40 gG
theorem asQ : X40 = aQ gG := rfl
noncomputable abbrev aul (a0 : (List (List D))) (a1 : Int) : Res := amg X40 (bV SE gG (SE.hl 40) (SE.hr 40)) (J0 SE X40) a0 a1
theorem aaM : ∀ (fu : Nat) (x0 : (List Int)) (x3 : Int), Le (Option.map eF (fZ fu x0 x3)) (aul (List.map (encI .i64) x0) x3) := by
 intro fu
 induction fu with
 | zero => intros; exact le_none
 | succ fu ih =>
  intro x0 x3
  refine Le.trans ?_ (le_of_eq ((bC asQ).trans (as4 _ _ _  x0 x3)).symm)
  unfold fZ
  refine lD (by simp only [EN]) ?_ ?_
  ·refine lG (by simp only [EN]) ?_
   refine lD (by simp only [EN]) ?_ ?_
   ·refine lG (by simp only [EN]) ?_
    exact aI (by first | rfl | simp only [EN, eF] <;> rfl)
   ·exact ih x0 (IntKind.wrap .i64 (x3 + 1))
  ·exact aI rfl
theorem acP (p0 : (List Int)) : Le (Option.map eF (mY p0)) (aZ SE 40 [.d (.sl [.int .i64] (List.map (encI .i64) p0))] [] []) := by
 refine aS asQ rfl ?_
 refine Le.trans ?_ (le_of_eq (T40 _ _ _  p0).symm)
 unfold mY
 exact aaM fuel p0 0
section
variable (Γ : Fun) (γ41 : Gm (Int)) (γ42 : Gm (Int)) (γ43 : Gm (Int)) (γ44 : Gm (Int)) (γ45 : Gm (Int)) (γ46 : Gm (Int)) (γ40 : Gm (Int)) (Λ2 J : Lam)
def C12 : aP := bA (bA (bA (bA (bA (bA (bA (aQ Γ) 41 eT γ41) 42 gE γ42) 43 fM γ43) 44 eJ γ44) 45 iB γ45) 46 hY γ46) 40 eF γ40
theorem T12 (p0 : aB) : bD SE (C12 Γ γ41 γ42 γ43 γ44 γ45 γ46 γ40) Λ2 J 12 [aB.av p0] [] [] =
 γ41 [aB.av p0] [] [] fun r0 =>
 γ42 [.d (.sl aD.ks (List.map aD.enc p0.Subs))] [] [] fun r1 =>
 γ43 [.d (.sl aA.ks (List.map aA.enc p0.Queue))] [] [] fun r2 =>
 γ44 [aG.av p0.Out] [] [] fun r3 =>
 γ45 [aR.av p0.In] [] [] fun r4 =>
 γ46 [aN.av p0.Will] [] [] fun r5 =>
 γ40 [.d (.sl [.int .i64] (List.map (encI .i64) [r0, r1, r2, r3, r4, r5]))] [] [] fun r6 =>
 (some (.ret [.d (.int .i64 r6)] [] [])) := by kernel_rfl
end
abbrev X12 : aP := C12 gG (cT 41 eT) (cT 42 gE) (cT 43 fM) (cT 44 eJ) (cT 45 iB) (cT 46 hY) (cT 40 eF)
theorem awZ : X12 = aQ gG := by unfold X12 C12; rw [aK fun _ h => h, aK fun _ h => h, aK fun _ h => h, aK fun _ h => h, aK fun _ h => h, aK fun _ h => h, aK fun _ h => h]
theorem adj (p0 : aB) : Le (Option.map iA (mZ p0)) (aZ SE 12 [aB.av p0] [] []) := by
 refine aS awZ rfl ?_
 refine Le.trans ?_ (le_of_eq (T12 _ _ _ _ _ _ _ _ _ _  p0).symm)
 unfold mZ
 refine aM (good := good) eX ac7 (adR _) fun r0 _ => ?_
 refine aM (good := good) eX adf (ad7 _) fun r1 _ => ?_
 refine aM (good := good) eX abV (acQ _) fun r2 _ => ?_
 refine aM (good := good) eX ab4 (adl _) fun r3 _ => ?_
 refine aM (good := good) eX ab1 (ada _) fun r4 _ => ?_
 refine aM (good := good) eX abO (ade _) fun r5 _ => ?_
 refine aM (good := good) eX ab0 (acP _) fun r6 _ => ?_
 exact aI rfl
section
variable (Γ : Fun)  (Λ2 J : Lam)
def asy : aP := aQ Γ
theorem avL (p0 : (List aE)) : bD SE (asy Γ) Λ2 J 138 [.d (.sl aE.ks (List.map aE.enc p0))] [] [] =
 cond (List.isEmpty (List.map aE.enc p0)) (
 w7 (
  (some (.ret [.row 0] [] [⟨aE.ks, 130, 32, []⟩]))) (
  cond (decide ((List.length (List.map aE.enc []) + List.length (List.map aE.enc p0)) * 32 ≤ 140737488355328)) (
  (some (.ret [.row 0] [] [⟨aE.ks, 130, 32, ((List.map aE.enc []) ++ (List.map aE.enc p0))⟩]))) none)) (
 cond (decide ((List.length (List.map aE.enc []) + List.length (List.map aE.enc p0)) * 32 ≤ 140737488355328)) (
 (some (.ret [.row 0] [] [⟨aE.ks, 130, 32, ((List.map aE.enc []) ++ (List.map aE.enc p0))⟩]))) none) := by kernel_rfl
end
abbrev awQ : aP := asy gG
theorem ate : awQ = aQ gG := rfl
theorem l9 (p0 : (List aE)) : Le (Option.map bP (cX p0)) (aZ SE 138 [.d (.sl aE.ks (List.map aE.enc p0))] [] []) := by
 refine aS ate rfl ?_
 refine Le.trans ?_ (le_of_eq (avL _ _ _  p0).symm)
 unfold cX
 refine lD (by simp only [EN]) ?_ ?_
 ·refine ahW ?_ ?_
  ·exact aI rfl
  ·refine lG (by simp only [EN]) ?_
   exact aI rfl
 ·refine lG (by simp only [EN]) ?_
  exact aI rfl
section
variable (Γ : Fun) (γ138 : Gm ((List aE))) (Λ2 J : Lam)
def C80 : aP := bA (aQ Γ) 138 bP γ138
theorem T80 (p0 : aA) : bD SE (C80 Γ γ138) Λ2 J 80 [aA.av p0] [] [] =
 γ138 [.d (.sl aE.ks (List.map aE.enc p0.Props))] [] [] fun r0 =>
 (some (.ret [.agg [.d (.str p0.Topic), .d (.str p0.Payload), .d (.int .i64 p0.Level), .d (.bool p0.Retain), .d (.int .i64 p0.Priority), .d (.int .i64 p0.Expires), .d (.str p0.From), .d (.int .i64 p0.Seq), .row 0]] [] [⟨aE.ks, 130, 32, (List.map aE.enc r0)⟩])) := by kernel_rfl
end
abbrev X80 : aP := C80 gG (cT 138 bP)
theorem avZ : X80 = aQ gG := by unfold X80 C80; rw [aK fun _ h => h]
theorem fK (p0 : aA) : Le (Option.map cW (gK p0)) (aZ SE 80 [aA.av p0] [] []) := by
 refine aS avZ rfl ?_
 refine Le.trans ?_ (le_of_eq (T80 _ _ _ _  p0).symm)
 unfold gK
 refine aM (good := good) eX lZ (l9 _) fun r0 _ => ?_
 exact aI rfl
section
variable (Γ : Fun)  (Λ2 J : Lam)
def C81 : aP := aQ Γ
theorem T81 (p0 : Int) : bD SE (C81 Γ) Λ2 J 81 [.d (.int .i64 p0)] [] [] =
 cond (decide (p0 < 0)) (
 (some (.ret [.agg [.d (.int .i64 (if 32 < 0 then 32 else 0)), .row 0, .row 1, .d (.int .i64 0)]] [] [⟨aC.ks, 122, 128, (List.map aC.enc [])⟩, ⟨[.int .i64], 3, 8, (List.map (encI .i64) [])⟩]))) (
 (some (.ret [.agg [.d (.int .i64 (if 32 < p0 then 32 else p0)), .row 0, .row 1, .d (.int .i64 0)]] [] [⟨aC.ks, 122, 128, (List.map aC.enc [])⟩, ⟨[.int .i64], 3, 8, (List.map (encI .i64) [])⟩]))) := by kernel_rfl
end
abbrev X81 : aP := C81 gG
theorem avQ : X81 = aQ gG := rfl
theorem agW (p0 : Int) : Le (Option.map lY (aay p0)) (aZ SE 81 [.d (.int .i64 p0)] [] []) := by
 refine aS avQ rfl ?_
 refine Le.trans ?_ (le_of_eq (T81 _ _ _  p0).symm)
 unfold aay
 refine lC ?_ ?_
 ·exact aI rfl
 ·exact aI rfl
section
variable (Γ : Fun) (γ80 : Gm (aA)) (γ81 : Gm (aG)) (Λ2 J : Lam)
def C31 : aP := bA (bA (aQ Γ) 80 cW γ80) 81 lY γ81
theorem T31 (p0 : aF) (p1 : Int) : bD SE (C31 Γ γ80 γ81) Λ2 J 31 [aF.av p0, .d (.int .i64 p1)] [] [] =
 γ80 [aA.av p0.Will.Message] [] [] fun r0 =>
 γ81 [.d (.int .i64 p0.Window)] [] [] fun r1 =>
 (some (.ret [.agg [.d (.str p0.Client), .d (.str p0.User), .d (.bool true), .d (.int .i64 p1), .d (.int .i64 p0.Expiry), .d (.int .i64 0), .d (.int .i64 0), .row 0, .row 1, .d (.int .i64 r1.Limit), .row 2, .row 3, .d (.int .i64 r1.Pool.Last), .row 4, .d (.bool p0.Will.Set), .d (.int .i64 p0.Will.Delay), .d (.str r0.Topic), .d (.str r0.Payload), .d (.int .i64 r0.Level), .d (.bool r0.Retain), .d (.int .i64 r0.Priority), .d (.int .i64 r0.Expires), .d (.str r0.From), .d (.int .i64 r0.Seq), .row 5]] [] [⟨aD.ks, 60, 32, (List.map aD.enc [])⟩, ⟨aA.ks, 34, 112, (List.map aA.enc [])⟩, ⟨aC.ks, 122, 128, (List.map aC.enc r1.Items)⟩, ⟨[.int .i64], 3, 8, (List.map (encI .i64) r1.Pool.Used)⟩, ⟨[.int .i64], 3, 8, (List.map (encI .i64) [])⟩, ⟨aE.ks, 130, 32, (List.map aE.enc r0.Props)⟩])) := by kernel_rfl
end
abbrev X31 : aP := C31 gG (cT 80 cW) (cT 81 lY)
theorem awj : X31 = aQ gG := by unfold X31 C31; rw [aK fun _ h => h, aK fun _ h => h]
theorem aco (p0 : aF) (p1 : Int) : Le (Option.map mE (abw p0 p1)) (aZ SE 31 [aF.av p0, .d (.int .i64 p1)] [] []) := by
 refine aS awj rfl ?_
 refine Le.trans ?_ (le_of_eq (T31 _ _ _ _ _  p0 p1).symm)
 unfold abw
 refine aM (good := good) eX j7 (fK _) fun r0 _ => ?_
 refine aM (good := good) eX af5 (agW _) fun r1 _ => ?_
 exact aI rfl
section
variable (Γ : Fun)  (Λ2 J : Lam)
def ash : aP := aQ Γ
theorem av3 (p0 : Str) (p1 : Str) : bD SE (ash Γ) Λ2 J 163 [.d (.str p0), .d (.str p1)] [] [] =
 cond (decide ((List.length p0 : Int) ≥ (List.length p1 : Int))) (
 cond (decide (0 ≤ (List.length p1 : Int)) && decide ((List.length p1 : Int) ≤ ((List.length p0) : Int))) (
  (some (.ret [.d (.bool ((bS p0 none (some (List.length p1 : Int))) == p1))] [] []))) none) (
 (some (.ret [.d (.bool false)] [] []))) := by kernel_rfl
end
abbrev avh : aP := ash gG
theorem at4 : avh = aQ gG := rfl
theorem rT (p0 : Str) (p1 : Str) : Le (Option.map dA (hU p0 p1)) (aZ SE 163 [.d (.str p0), .d (.str p1)] [] []) := by
 refine aS at4 rfl ?_
 refine Le.trans ?_ (le_of_eq (av3 _ _ _  p0 p1).symm)
 unfold hU
 refine lC ?_ ?_
 ·refine lF ?_
  exact aI rfl
 ·exact aI rfl
section
variable (Γ : Fun) (γ163 : Gm (Bool)) (Λ2 J : Lam)
def aok : aP := bA (aQ Γ) 163 dA γ163
theorem awW (p0 : Str) (p1 : Str) : bD SE (aok Γ γ163) Λ2 J 179 [.d (.str p0), .d (.str p1)] [] [] =
 γ163 [.d (.str p0), .d (.str p1)] [] [] fun r0 =>
 cond (!r0) (
 (some (.ret [.d (.str p0), .d (.bool false)] [] []))) (
 cond (decide (0 ≤ (List.length p1 : Int)) && decide ((List.length p1 : Int) ≤ ((List.length p0) : Int))) (
 (some (.ret [.d (.str (bS p0 (some (List.length p1 : Int)) none)), .d (.bool true)] [] []))) none) := by kernel_rfl
end
abbrev ar8 : aP := aok gG (cT 163 dA)
theorem atM : ar8 = aQ gG := by unfold ar8 aok; rw [aK fun _ h => h]
theorem aap (p0 : Str) (p1 : Str) : Le (Option.map e9 (mN p0 p1)) (aZ SE 179 [.d (.str p0), .d (.str p1)] [] []) := by
 refine aS atM rfl ?_
 refine Le.trans ?_ (le_of_eq (awW _ _ _ _  p0 p1).symm)
 unfold mN
 refine aM (good := good) eX rK (rT _ _) fun r0 _ => ?_
 refine lC ?_ ?_
 ·exact aI rfl
 ·refine lF ?_
  exact aI rfl
section
variable (Γ : Fun) (γ179 : Gm (Str × Bool)) (Λ2 J : Lam)
def anD : aP := bA (aQ Γ) 179 e9 γ179
theorem awi (p0 : Str) (p1 : Str) : bD SE (anD Γ γ179) Λ2 J 159 [.d (.str p0), .d (.str p1)] [] [] =
 γ179 [.d (.str p0), .d (.str p1)] [] [] fun r0 =>
 (some (.ret [.d (.str r0.1), .d (.bool r0.2)] [] [])) := by kernel_rfl
end
abbrev aqy : aP := anD gG (cT 179 e9)
theorem auU : aqy = aQ gG := by unfold aqy anD; rw [aK fun _ h => h]
theorem acD (p0 : Str) (p1 : Str) : Le (Option.map hJ (mV p0 p1)) (aZ SE 159 [.d (.str p0), .d (.str p1)] [] []) := by
 refine aS auU rfl ?_
 refine Le.trans ?_ (le_of_eq (awi _ _ _ _  p0 p1).symm)
 unfold mV
 refine aM (good := good) eX y8 (aap _ _) fun r0 _ => ?_
 exact aI rfl
section
variable (Γ : Fun)  (Λ2 J : Lam)
def ar9 : aP := aQ Γ
theorem awf (p0 : Str) (p1 : Int) : bD SE (ar9 Γ) Λ2 J 193 [.d (.str p0), .d (.int .u8 p1)] [] [] =
 (some (.ret [.d (.int .i64 (Lib.indexByte p0 (UInt8.ofNat (Int.toNat p1)) : Int))] [] [])) := by kernel_rfl
end
abbrev avP : aP := ar9 gG
theorem atw : avP = aQ gG := rfl
theorem zS (p0 : Str) (p1 : Int) : Le (Option.map eZ (pZ p0 p1)) (aZ SE 193 [.d (.str p0), .d (.int .u8 p1)] [] []) := by
 refine aS atw rfl ?_
 refine Le.trans ?_ (le_of_eq (awf _ _ _  p0 p1).symm)
 unfold pZ
 exact aI rfl
section
variable (Γ : Fun) (γ193 : Gm (Int)) (Λ2 J : Lam)
def anT : aP := bA (aQ Γ) 193 eZ γ193
theorem avn (p0 : Str) (p1 : Str) : bD SE (anT Γ γ193) Λ2 J 189 [.d (.str p0), .d (.str p1)] [] [] =
 cond ((List.length p1 : Int) == 0) (
 (some (.ret [.d (.int .i64 0)] [] []))) (
 cond (p1 == p0) (
 (some (.ret [.d (.int .i64 0)] [] []))) (
 cond ((List.length p1 : Int) == 1) (
 cond (decide (0 ≤ 0) && decide (0 < (List.length p1 : Int))) (
  γ193 [.d (.str p0), .d (.int .u8 (UInt8.toNat (List.getD p1 (Int.toNat 0) 0) : Int))] [] [] fun r0 =>
  (some (.ret [.d (.int .i64 r0)] [] []))) none) (
 cond (decide ((List.length p1 : Int) ≥ (List.length p0 : Int))) (
 (some (.ret [.d (.int .i64 (-1))] [] []))) none))) := by kernel_rfl
end
abbrev arN : aP := anT gG (cT 193 eZ)
theorem as3 : arN = aQ gG := by unfold arN anT; rw [aK fun _ h => h]
theorem vU (p0 : Str) (p1 : Str) : Le (Option.map eL (jH p0 p1)) (aZ SE 189 [.d (.str p0), .d (.str p1)] [] []) := by
 refine aS as3 rfl ?_
 refine Le.trans ?_ (le_of_eq (avn _ _ _ _  p0 p1).symm)
 unfold jH
 refine lC ?_ ?_
 ·exact aI rfl
 ·refine lC ?_ ?_
  ·exact aI rfl
  ·refine lC ?_ ?_
   ·refine lF ?_
    refine aM (good := good) eX y9 (zS _ _) fun r0 _ => ?_
    exact aI rfl
   ·refine lF ?_
    exact aI rfl
section
variable (Γ : Fun) (γ189 : Gm (Int)) (Λ2 J : Lam)
def aoc : aP := bA (aQ Γ) 189 eL γ189
theorem awP (p0 : Str) (p1 : Str) : bD SE (aoc Γ γ189) Λ2 J 180 [.d (.str p0), .d (.str p1)] [] [] =
 γ189 [.d (.str p0), .d (.str p1)] [] [] fun r0 =>
 cond (decide (r0 ≥ 0)) (
 cond (decide (0 ≤ r0) && decide (r0 ≤ ((List.length p0) : Int))) (
  cond (decide (0 ≤ (IntKind.wrap .i64 (r0 + (List.length p1 : Int)))) && decide ((IntKind.wrap .i64 (r0 + (List.length p1 : Int))) ≤ ((List.length p0) : Int))) (
  (some (.ret [.d (.str (bS p0 none (some r0))), .d (.str (bS p0 (some (IntKind.wrap .i64 (r0 + (List.length p1 : Int)))) none)), .d (.bool true)] [] []))) none) none) (
 (some (.ret [.d (.str p0), .d (.str ([] : Str)), .d (.bool false)] [] []))) := by kernel_rfl
end
abbrev arP : aP := aoc gG (cT 189 eL)
theorem au0 : arP = aQ gG := by unfold arP aoc; rw [aK fun _ h => h]
theorem aeE (p0 : Str) (p1 : Str) : Le (Option.map jR (rF p0 p1)) (aZ SE 180 [.d (.str p0), .d (.str p1)] [] []) := by
 refine aS au0 rfl ?_
 refine Le.trans ?_ (le_of_eq (awP _ _ _ _  p0 p1).symm)
 unfold rF
 refine aM (good := good) eX uP (vU _ _) fun r0 _ => ?_
 refine lC ?_ ?_
 ·refine lF ?_
  refine lF ?_
  exact aI rfl
 ·exact aI rfl
section
variable (Γ : Fun) (γ180 : Gm (Str × Str × Bool)) (Λ2 J : Lam)
def aob : aP := bA (aQ Γ) 180 jR γ180
theorem av5 (p0 : Str) (p1 : Str) : bD SE (aob Γ γ180) Λ2 J 160 [.d (.str p0), .d (.str p1)] [] [] =
 γ180 [.d (.str p0), .d (.str p1)] [] [] fun r0 =>
 (some (.ret [.d (.str r0.1), .d (.str r0.2.1), .d (.bool r0.2.2)] [] [])) := by kernel_rfl
end
abbrev asu : aP := aob gG (cT 180 jR)
theorem as6 : asu = aQ gG := by unfold asu aob; rw [aK fun _ h => h]
theorem aid (p0 : Str) (p1 : Str) : Le (Option.map mG (tM p0 p1)) (aZ SE 160 [.d (.str p0), .d (.str p1)] [] []) := by
 refine aS as6 rfl ?_
 refine Le.trans ?_ (le_of_eq (av5 _ _ _ _  p0 p1).symm)
 unfold tM
 refine aM (good := good) eX ad3 (aeE _ _) fun r0 _ => ?_
 exact aI rfl
def ajB (C : aP) (Λ2 J : Lam) (a0 : Int) (a1 : Int) (a2 : Bool) (a3 : Str) (a4 : Nat) : Res := lab SE C Λ2 J 139 0 [1, 1, 0, 1, 0, 0, 1, 1, 0, 1, 1, 0] (bB [(3, .d (.int .i64 a0)), (4, .d (.int .i32 a1)), (5, .d (.bool a2)), (15, .it 4000)] [] [] [(4000, (a3, a4))] [])
def aet (C : aP) (Λ2 J : Lam) (a0 : Str) (a1 : Nat) : Res := lab SE C Λ2 J 139 0 [1, 1, 0, 1, 0] (bB [(15, .it 4000)] [] [] [(4000, (a0, a1))] [])
def am7 (C : aP) (Λ2 J : Lam) (a0 : Str) : Res := lab SE C Λ2 J 139 0 [1, 1, 0, 0] (bB [(0, .d (.str a0))] [] [] [] [])
section
variable (Γ : Fun)  (Λ2 J : Lam)
def yC : aP := aQ Γ
theorem awS (p0 : Str) : bD SE (yC Γ) Λ2 J 139 [.d (.str p0)] [] [] =
 cond (decide ((List.length p0 : Int) < 1)) (
 (some (.ret [.d (.bool false)] [] []))) (
 cond (decide ((List.length p0 : Int) > 16)) (
 (some (.ret [.d (.bool false)] [] []))) (
 am7 (yC Γ) Λ2 J p0)) := by kernel_rfl
theorem ars (x3 : Int) (x4 : Int) (x5 : Bool) (s4000 : Str) (i4000 : Nat) : cB SE (yC Γ) Λ2 J 139 0 [1, 1, 0, 1, 0, 0, 1, 1, 0, 1, 1, 0] (bB [(3, .d (.int .i64 x3)), (4, .d (.int .i32 x4)), (5, .d (.bool x5)), (15, .it 4000)] [] [] [(4000, (s4000, i4000))] []) =
 cond (!x5) (
 cond (x3 == 0) (
  (some (.ret [.d (.bool false)] [] []))) (
 cond (x4 != 45) (
  cond (decide (x4 < 48)) (
  (some (.ret [.d (.bool false)] [] []))) (
  cond (decide (x4 > 57)) (
  (some (.ret [.d (.bool false)] [] []))) (
  aet (yC Γ) Λ2 J s4000 i4000))) (
 aet (yC Γ) Λ2 J s4000 i4000))) (
 aet (yC Γ) Λ2 J s4000 i4000) := by kernel_rfl
theorem arH (s4000 : Str) (i4000 : Nat) : cB SE (yC Γ) Λ2 J 139 0 [1, 1, 0, 1, 0] (bB [(15, .it 4000)] [] [] [(4000, (s4000, i4000))] []) =
 cond (decide (i4000 < List.length s4000)) (
 cond (decide (((dec s4000 i4000).1 : Int) ≥ 97)) (
  ajB (yC Γ) Λ2 J (i4000 : Int) ((dec s4000 i4000).1 : Int) (decide (((dec s4000 i4000).1 : Int) ≤ 122)) s4000 (i4000 + (dec s4000 i4000).2)) (
 ajB (yC Γ) Λ2 J (i4000 : Int) ((dec s4000 i4000).1 : Int) false s4000 (i4000 + (dec s4000 i4000).2))) (
 (some (.ret [.d (.bool true)] [] []))) := by kernel_rfl
theorem asn (x0 : Str) : cB SE (yC Γ) Λ2 J 139 0 [1, 1, 0, 0] (bB [(0, .d (.str x0))] [] [] [] []) =
 aet (yC Γ) Λ2 J x0 0 := by kernel_rfl
end
abbrev afW : aP := yC gG
theorem ai7 : afW = aQ gG := rfl
noncomputable abbrev asS (a0 : Int) (a1 : Int) (a2 : Bool) (a3 : Str) (a4 : Nat) : Res := ajB afW (bV SE gG (SE.hl 139) (SE.hr 139)) (J0 SE afW) a0 a1 a2 a3 a4
noncomputable abbrev amH (a0 : Str) (a1 : Nat) : Res := aet afW (bV SE gG (SE.hl 139) (SE.hr 139)) (J0 SE afW) a0 a1
noncomputable abbrev arD (a0 : Str) : Res := am7 afW (bV SE gG (SE.hl 139) (SE.hr 139)) (J0 SE afW) a0
theorem aar (k4 : Str → Nat → Option (Bool)) (hk4 : ∀ (s4000 : Str) (i4000 : Nat), Le (Option.map eO (k4 s4000 i4000)) (amH s4000 i4000)) (x3 : Int) (x4 : Int) (x5 : Bool) (s4000 : Str) (i4000 : Nat) : Le (Option.map eO (mP k4 x3 x4 x5 s4000 i4000)) (asS x3 x4 x5 s4000 i4000) := by
 refine Le.trans ?_ (le_of_eq ((bC ai7).trans (ars _ _ _  x3 x4 x5 s4000 i4000)).symm)
 unfold mP
 refine lC ?_ ?_
 ·refine lC ?_ ?_
  ·exact aI rfl
  ·refine lC ?_ ?_
   ·refine lC ?_ ?_
    ·exact aI rfl
    ·refine lC ?_ ?_
     ·exact aI rfl
     ·exact hk4 s4000 i4000
   ·exact hk4 s4000 i4000
 ·exact hk4 s4000 i4000
theorem af6 : ∀ (fu : Nat) (s4000 : Str) (i4000 : Nat), Le (Option.map eO (jW fu s4000 i4000)) (amH s4000 i4000) := by
 intro fu
 induction fu with
 | zero => intros; exact le_none
 | succ fu ih =>
  intro s4000 i4000
  refine Le.trans ?_ (le_of_eq ((bC ai7).trans (arH _ _ _  s4000 i4000)).symm)
  unfold jW
  refine lC ?_ ?_
  ·refine lC ?_ ?_
   ·exact aar _ (ih) (i4000 : Int) ((dec s4000 i4000).1 : Int) (decide (((dec s4000 i4000).1 : Int) ≤ 122)) s4000 (i4000 + (dec s4000 i4000).2)
   ·exact aar _ (ih) (i4000 : Int) ((dec s4000 i4000).1 : Int) false s4000 (i4000 + (dec s4000 i4000).2)
  ·exact aI rfl
theorem agj (x0 : Str) : Le (Option.map eO (tU x0)) (arD x0) := by
 refine Le.trans ?_ (le_of_eq ((bC ai7).trans (asn _ _ _  x0)).symm)
 unfold tU
 exact af6 fuel x0 0
theorem adD (p0 : Str) : Le (Option.map eO (sK p0)) (aZ SE 139 [.d (.str p0)] [] []) := by
 refine aS ai7 rfl ?_
 refine Le.trans ?_ (le_of_eq (awS _ _ _  p0).symm)
 unfold sK
 refine lC ?_ ?_
 ·exact aI rfl
 ·refine lC ?_ ?_
  ·exact aI rfl
  ·exact agj p0
def agy (C : aP) (Λ2 J : Lam) (a0 : Int) (a1 : Str) (a2 : Nat) : Res := lab SE C Λ2 J 161 0 [1, 1, 1, 0, 1, 0] (bB [(3, .d (.int .i64 a0)), (15, .it 4000)] [] [] [(4000, (a1, a2))] [])
def ane (C : aP) (Λ2 J : Lam) (a0 : Str) : Res := lab SE C Λ2 J 161 0 [1, 1, 0] (bB [(0, .d (.str a0))] [] [] [] [])
section
variable (Γ : Fun)  (Λ2 J : Lam)
def aeA : aP := aQ Γ
theorem avC (p0 : Str) : bD SE (aeA Γ) Λ2 J 161 [.d (.str p0)] [] [] =
 cond (decide ((List.length p0 : Int) < 1)) (
 (some (.ret [.d (.bool false)] [] []))) (
 cond (decide ((List.length p0 : Int) > 64)) (
 (some (.ret [.d (.bool false)] [] []))) (
 ane (aeA Γ) Λ2 J p0)) := by kernel_rfl
theorem aqP (x3 : Int) (s4000 : Str) (i4000 : Nat) : cB SE (aeA Γ) Λ2 J 161 0 [1, 1, 1, 0, 1, 0] (bB [(3, .d (.int .i64 x3)), (15, .it 4000)] [] [] [(4000, (s4000, i4000))] []) =
 cond (decide (i4000 < List.length s4000)) (
 cond (((dec s4000 i4000).1 : Int) == 0) (
  (some (.ret [.d (.bool false)] [] []))) (
 cond (((dec s4000 i4000).1 : Int) == 47) (
  agy (aeA Γ) Λ2 J (IntKind.wrap .i64 (x3 + 1)) s4000 (i4000 + (dec s4000 i4000).2)) (
 agy (aeA Γ) Λ2 J x3 s4000 (i4000 + (dec s4000 i4000).2)))) (
 (some (.ret [.d (.bool (decide (x3 ≤ 8)))] [] []))) := by kernel_rfl
theorem asK (x0 : Str) : cB SE (aeA Γ) Λ2 J 161 0 [1, 1, 0] (bB [(0, .d (.str x0))] [] [] [] []) =
 agy (aeA Γ) Λ2 J 1 x0 0 := by kernel_rfl
end
abbrev akx : aP := aeA gG
theorem aly : akx = aQ gG := rfl
noncomputable abbrev asB (a0 : Int) (a1 : Str) (a2 : Nat) : Res := agy akx (bV SE gG (SE.hl 161) (SE.hr 161)) (J0 SE akx) a0 a1 a2
noncomputable abbrev ass (a0 : Str) : Res := ane akx (bV SE gG (SE.hl 161) (SE.hr 161)) (J0 SE akx) a0
theorem afu : ∀ (fu : Nat) (x3 : Int) (s4000 : Str) (i4000 : Nat), Le (Option.map fR (iU fu x3 s4000 i4000)) (asB x3 s4000 i4000) := by
 intro fu
 induction fu with
 | zero => intros; exact le_none
 | succ fu ih =>
  intro x3 s4000 i4000
  refine Le.trans ?_ (le_of_eq ((bC aly).trans (aqP _ _ _  x3 s4000 i4000)).symm)
  unfold iU
  refine lC ?_ ?_
  ·refine lC ?_ ?_
   ·exact aI rfl
   ·refine lC ?_ ?_
    ·exact ih (IntKind.wrap .i64 (x3 + 1)) s4000 (i4000 + (dec s4000 i4000).2)
    ·exact ih x3 s4000 (i4000 + (dec s4000 i4000).2)
  ·exact aI rfl
theorem afz (x0 : Str) : Le (Option.map fR (sQ x0)) (ass x0) := by
 refine Le.trans ?_ (le_of_eq ((bC aly).trans (asK _ _ _  x0)).symm)
 unfold sQ
 exact afu fuel 1 x0 0
theorem acu (p0 : Str) : Le (Option.map fR (q0 p0)) (aZ SE 161 [.d (.str p0)] [] []) := by
 refine aS aly rfl ?_
 refine Le.trans ?_ (le_of_eq (avC _ _ _  p0).symm)
 unfold q0
 refine lC ?_ ?_
 ·exact aI rfl
 ·refine lC ?_ ?_
  ·exact aI rfl
  ·exact afz p0
section
variable (Γ : Fun) (γ189 : Gm (Int)) (Λ2 J : Lam)
def an8 : aP := bA (aQ Γ) 189 eL γ189
theorem awb (p0 : Str) (p1 : Str) : bD SE (an8 Γ γ189) Λ2 J 199 [.d (.str p0), .d (.str p1)] [] [] =
 γ189 [.d (.str p0), .d (.str p1)] [] [] fun r0 =>
 (some (.ret [.d (.int .i64 r0)] [] [])) := by kernel_rfl
end
abbrev arK : aP := an8 gG (cT 189 eL)
theorem auW : arK = aQ gG := by unfold arK an8; rw [aK fun _ h => h]
theorem aae (p0 : Str) (p1 : Str) : Le (Option.map gQ (k8 p0 p1)) (aZ SE 199 [.d (.str p0), .d (.str p1)] [] []) := by
 refine aS auW rfl ?_
 refine Le.trans ?_ (le_of_eq (awb _ _ _ _  p0 p1).symm)
 unfold k8
 refine aM (good := good) eX uP (vU _ _) fun r0 _ => ?_
 exact aI rfl
def akJ (C : aP) (Λ2 J : Lam) (a0 : Str) (a1 : Str) (a2 : Int) : Res := lab SE C Λ2 J 198 0 [1, 1, 1, 1, 0] (bB [(0, .d (.str a0)), (1, .d (.str a1)), (5, .d (.int .i64 a2))] [] [] [] [])
section
variable (Γ : Fun) (γ199 : Gm (Int)) (Λ2 J : Lam)
def ahC : aP := bA (aQ Γ) 199 gQ γ199
theorem avj (p0 : Str) (p1 : Str) : bD SE (ahC Γ γ199) Λ2 J 198 [.d (.str p0), .d (.str p1)] [] [] =
 cond ((List.length p1 : Int) == 0) (
 none) (
 cond ((List.length p1 : Int) == 1) (
 cond (decide (0 ≤ 0) && decide (0 < (List.length p1 : Int))) (
  (some (.ret [.d (.int .i64 (Lib.countByte p0 (UInt8.ofNat (Int.toNat (UInt8.toNat (List.getD p1 (Int.toNat 0) 0) : Int))) : Int))] [] []))) none) (
 akJ (ahC Γ γ199) Λ2 J p0 p1 0)) := by kernel_rfl
theorem aqk (x0 : Str) (x1 : Str) (x5 : Int) : cB SE (ahC Γ γ199) Λ2 J 198 0 [1, 1, 1, 1, 0] (bB [(0, .d (.str x0)), (1, .d (.str x1)), (5, .d (.int .i64 x5))] [] [] [] []) =
 γ199 [.d (.str x0), .d (.str x1)] [] [] fun r0 =>
 cond (r0 == (-1)) (
 (some (.ret [.d (.int .i64 x5)] [] []))) (
 cond (decide (0 ≤ (IntKind.wrap .i64 (r0 + (List.length x1 : Int)))) && decide ((IntKind.wrap .i64 (r0 + (List.length x1 : Int))) ≤ ((List.length x0) : Int))) (
 akJ (ahC Γ γ199) Λ2 J (bS x0 (some (IntKind.wrap .i64 (r0 + (List.length x1 : Int)))) none) x1 (IntKind.wrap .i64 (x5 + 1))) none) := by kernel_rfl
end
abbrev alA : aP := ahC gG (cT 199 gQ)
theorem apG : alA = aQ gG := by unfold alA ahC; rw [aK fun _ h => h]
noncomputable abbrev arR (a0 : Str) (a1 : Str) (a2 : Int) : Res := akJ alA (bV SE gG (SE.hl 198) (SE.hr 198)) (J0 SE alA) a0 a1 a2
theorem ad0 : ∀ (fu : Nat) (x0 : Str) (x1 : Str) (x5 : Int), Le (Option.map jC (qL fu x0 x1 x5)) (arR x0 x1 x5) := by
 intro fu
 induction fu with
 | zero => intros; exact le_none
 | succ fu ih =>
  intro x0 x1 x5
  refine Le.trans ?_ (le_of_eq ((bC apG).trans (aqk _ _ _ _  x0 x1 x5)).symm)
  unfold qL
  refine aM (good := good) eX yR (aae _ _) fun r0 _ => ?_
  refine lC ?_ ?_
  ·exact aI rfl
  ·refine lF ?_
   exact ih (bS x0 (some (IntKind.wrap .i64 (r0 + (List.length x1 : Int)))) none) x1 (IntKind.wrap .i64 (x5 + 1))
theorem af2 (p0 : Str) (p1 : Str) : Le (Option.map jC (qQ p0 p1)) (aZ SE 198 [.d (.str p0), .d (.str p1)] [] []) := by
 refine aS apG rfl ?_
 refine Le.trans ?_ (le_of_eq (avj _ _ _ _  p0 p1).symm)
 unfold qQ
 refine lC ?_ ?_
 ·exact le_none
 ·refine lC ?_ ?_
  ·refine lF ?_
   exact aI rfl
  ·exact ad0 fuel p0 p1 0
def ahO (C : aP) (Λ2 J : Lam) (a0 : Str) (a1 : Int) (a2 : (List (List D))) : Res := lab SE C Λ2 J 190 0 [1, 1, 1, 1, 1, 1, 1, 1, 1, 0] (bB [(0, .d (.str a0)), (9, .row 3009), (10, .d (.int .i64 a1))] [] [] [] [(3009, ⟨[.str], 9, 16, a2⟩)])
def ahZ (C : aP) (Λ2 J : Lam) (a0 : Str) (a1 : Str) (a2 : Int) (a3 : Int) (a4 : Int) (a5 : (List (List D))) : Res := lab SE C Λ2 J 190 0 [1, 1, 1, 1, 1, 1, 1, 1, 0, 0] (bB [(0, .d (.str a0)), (1, .d (.str a1)), (2, .d (.int .i64 a2)), (3, .d (.int .i64 a3)), (9, .row 3009), (10, .d (.int .i64 a4))] [] [] [] [(3009, ⟨[.str], 9, 16, a5⟩)])
def aka (C : aP) (Λ2 J : Lam) (a0 : Str) (a1 : Str) (a2 : Int) (a3 : Int) : Res := lab SE C Λ2 J 190 0 [1, 1, 1, 1, 0] (bB [(0, .d (.str a0)), (1, .d (.str a1)), (2, .d (.int .i64 a2)), (3, .d (.int .i64 a3))] [] [] [] [])
section
variable (Γ : Fun) (γ198 : Gm (Int)) (γ199 : Gm (Int)) (Λ2 J : Lam)
def yD : aP := bA (bA (aQ Γ) 198 jC γ198) 199 gQ γ199
theorem av7 (p0 : Str) (p1 : Str) (p2 : Int) (p3 : Int) : bD SE (yD Γ γ198 γ199) Λ2 J 190 [.d (.str p0), .d (.str p1), .d (.int .i64 p2), .d (.int .i64 p3)] [] [] =
 cond (p3 == 0) (
 (some (.ret [.d (.sl [.str] (List.map bG []))] [] []))) (
 cond (p1 == ([] : Str)) (
 none) (
 cond (decide (p3 < 0)) (
 γ198 [.d (.str p0), .d (.str p1)] [] [] fun r0 =>
 aka (yD Γ γ198 γ199) Λ2 J p0 p1 p2 (IntKind.wrap .i64 (r0 + 1))) (
 aka (yD Γ γ198 γ199) Λ2 J p0 p1 p2 p3))) := by kernel_rfl
theorem ap7 (x0 : Str) (x10 : Int) (w3009 : (List Str)) : cB SE (yD Γ γ198 γ199) Λ2 J 190 0 [1, 1, 1, 1, 1, 1, 1, 1, 1, 0] (bB [(0, .d (.str x0)), (9, .row 3009), (10, .d (.int .i64 x10))] [] [] [] [(3009, ⟨[.str], 9, 16, (List.map bG w3009)⟩)]) =
 cond (decide (0 ≤ x10) && decide (x10 < (List.length (List.map bG w3009) : Int))) (
 cond (decide (0 ≤ (IntKind.wrap .i64 (x10 + 1))) && decide ((IntKind.wrap .i64 (x10 + 1)) ≤ ((List.length (hI (List.map bG w3009) (Int.toNat x10) 0 [D.str x0])) : Int))) (
  (some (.ret [.d (.sl [.str] (List.take ((Int.toNat (IntKind.wrap .i64 (x10 + 1))) - 0) (List.drop 0 (hI (List.map bG w3009) (Int.toNat x10) 0 [D.str x0]))))] [] []))) none) none := by kernel_rfl
theorem apK (x0 : Str) (x1 : Str) (x2 : Int) (x3 : Int) (x10 : Int) (w3009 : (List Str)) : cB SE (yD Γ γ198 γ199) Λ2 J 190 0 [1, 1, 1, 1, 1, 1, 1, 1, 0, 0] (bB [(0, .d (.str x0)), (1, .d (.str x1)), (2, .d (.int .i64 x2)), (3, .d (.int .i64 x3)), (9, .row 3009), (10, .d (.int .i64 x10))] [] [] [] [(3009, ⟨[.str], 9, 16, (List.map bG w3009)⟩)]) =
 cond (decide (x10 < x3)) (
 γ199 [.d (.str x0), .d (.str x1)] [] [] fun r1 =>
 cond (decide (r1 < 0)) (
  ahO (yD Γ γ198 γ199) Λ2 J x0 x10 (List.map bG w3009)) (
 cond (decide (0 ≤ (IntKind.wrap .i64 (r1 + x2))) && decide ((IntKind.wrap .i64 (r1 + x2)) ≤ ((List.length x0) : Int))) (
  cond (decide (0 ≤ x10) && decide (x10 < (List.length (List.map bG w3009) : Int))) (
  cond (decide (0 ≤ (IntKind.wrap .i64 (r1 + (List.length x1 : Int)))) && decide ((IntKind.wrap .i64 (r1 + (List.length x1 : Int))) ≤ ((List.length x0) : Int))) (
   ahZ (yD Γ γ198 γ199) Λ2 J (bS x0 (some (IntKind.wrap .i64 (r1 + (List.length x1 : Int)))) none) x1 x2 x3 (IntKind.wrap .i64 (x10 + 1)) ((hI (List.map bG w3009) (Int.toNat x10) 0 [D.str (bS x0 none (some (IntKind.wrap .i64 (r1 + x2))))]))) none) none) none)) (
 ahO (yD Γ γ198 γ199) Λ2 J x0 x10 (List.map bG w3009)) := by kernel_rfl
theorem ard (x0 : Str) (x1 : Str) (x2 : Int) (x3 : Int) : cB SE (yD Γ γ198 γ199) Λ2 J 190 0 [1, 1, 1, 1, 0] (bB [(0, .d (.str x0)), (1, .d (.str x1)), (2, .d (.int .i64 x2)), (3, .d (.int .i64 x3))] [] [] [] []) =
 cond (decide (0 ≤ (if (IntKind.wrap .i64 ((List.length x0 : Int) + 1)) < x3 then (IntKind.wrap .i64 ((List.length x0 : Int) + 1)) else x3)) && decide ((if (IntKind.wrap .i64 ((List.length x0 : Int) + 1)) < x3 then (IntKind.wrap .i64 ((List.length x0 : Int) + 1)) else x3) ≤ (if (IntKind.wrap .i64 ((List.length x0 : Int) + 1)) < x3 then (IntKind.wrap .i64 ((List.length x0 : Int) + 1)) else x3)) && decide ((if (IntKind.wrap .i64 ((List.length x0 : Int) + 1)) < x3 then (IntKind.wrap .i64 ((List.length x0 : Int) + 1)) else x3) * 16 ≤ 281474976710656)) (
 ahZ (yD Γ γ198 γ199) Λ2 J x0 x1 x2 ((IntKind.wrap .i64 ((if (IntKind.wrap .i64 ((List.length x0 : Int) + 1)) < x3 then (IntKind.wrap .i64 ((List.length x0 : Int) + 1)) else x3) - 1))) 0 ((List.replicate (Int.toNat (if (IntKind.wrap .i64 ((List.length x0 : Int) + 1)) < x3 then (IntKind.wrap .i64 ((List.length x0 : Int) + 1)) else x3)) [D.str ([] : Str)]))) none := by kernel_rfl
end
abbrev ad9 : aP := yD gG (cT 198 jC) (cT 199 gQ)
theorem ai9 : ad9 = aQ gG := by unfold ad9 yD; rw [aK fun _ h => h, aK fun _ h => h]
noncomputable abbrev apQ (a0 : Str) (a1 : Int) (a2 : (List (List D))) : Res := ahO ad9 (bV SE gG (SE.hl 190) (SE.hr 190)) (J0 SE ad9) a0 a1 a2
noncomputable abbrev apV (a0 : Str) (a1 : Str) (a2 : Int) (a3 : Int) (a4 : Int) (a5 : (List (List D))) : Res := ahZ ad9 (bV SE gG (SE.hl 190) (SE.hr 190)) (J0 SE ad9) a0 a1 a2 a3 a4 a5
noncomputable abbrev aqj (a0 : Str) (a1 : Str) (a2 : Int) (a3 : Int) : Res := aka ad9 (bV SE gG (SE.hl 190) (SE.hr 190)) (J0 SE ad9) a0 a1 a2 a3
theorem sZ (x0 : Str) (x10 : Int) (w3009 : (List Str)) : Le (Option.map dE (kP x0 x10 w3009)) (apQ x0 x10 (List.map bG w3009)) := by
 refine Le.trans ?_ (le_of_eq ((bC ai9).trans (ap7 _ _ _ _ _  x0 x10 w3009)).symm)
 unfold kP
 refine lG (by simp only [EN]) ?_
 refine lG (by simp only [EN]) ?_
 exact aI (by first | rfl | simp only [EN, dE] <;> rfl)
theorem s0 : ∀ (fu : Nat) (x0 : Str) (x1 : Str) (x2 : Int) (x3 : Int) (x10 : Int) (w3009 : (List Str)), Le (Option.map dE (gB fu x0 x1 x2 x3 x10 w3009)) (apV x0 x1 x2 x3 x10 (List.map bG w3009)) := by
 intro fu
 induction fu with
 | zero => intros; exact le_none
 | succ fu ih =>
  intro x0 x1 x2 x3 x10 w3009
  refine Le.trans ?_ (le_of_eq ((bC ai9).trans (apK _ _ _ _ _  x0 x1 x2 x3 x10 w3009)).symm)
  unfold gB
  refine lC ?_ ?_
  ·refine aM (good := good) eX yR (aae _ _) fun r1 _ => ?_
   refine lC ?_ ?_
   ·exact sZ x0 x10 w3009
   ·refine lF ?_
    refine lG (by simp only [EN]) ?_
    refine lF ?_
    first | (simp only [EN]; exact ih (bS x0 (some (IntKind.wrap .i64 (r1 + (List.length x1 : Int)))) none) x1 x2 x3 (IntKind.wrap .i64 (x10 + 1)) ((List.set w3009 (Int.toNat x10) (bS x0 none (some (IntKind.wrap .i64 (r1 + x2))))))) | exact ih (bS x0 (some (IntKind.wrap .i64 (r1 + (List.length x1 : Int)))) none) x1 x2 x3 (IntKind.wrap .i64 (x10 + 1)) ((List.set w3009 (Int.toNat x10) (bS x0 none (some (IntKind.wrap .i64 (r1 + x2))))))
  ·exact sZ x0 x10 w3009
theorem tO (x0 : Str) (x1 : Str) (x2 : Int) (x3 : Int) : Le (Option.map dE (lH x0 x1 x2 x3)) (aqj x0 x1 x2 x3) := by
 refine Le.trans ?_ (le_of_eq ((bC ai9).trans (ard _ _ _ _ _  x0 x1 x2 x3)).symm)
 unfold lH
 refine lF ?_
 first | (simp only [EN]; exact s0 fuel x0 x1 x2 ((IntKind.wrap .i64 ((if (IntKind.wrap .i64 ((List.length x0 : Int) + 1)) < x3 then (IntKind.wrap .i64 ((List.length x0 : Int) + 1)) else x3) - 1))) 0 ((List.replicate (Int.toNat (if (IntKind.wrap .i64 ((List.length x0 : Int) + 1)) < x3 then (IntKind.wrap .i64 ((List.length x0 : Int) + 1)) else x3)) default))) | exact s0 fuel x0 x1 x2 ((IntKind.wrap .i64 ((if (IntKind.wrap .i64 ((List.length x0 : Int) + 1)) < x3 then (IntKind.wrap .i64 ((List.length x0 : Int) + 1)) else x3) - 1))) 0 ((List.replicate (Int.toNat (if (IntKind.wrap .i64 ((List.length x0 : Int) + 1)) < x3 then (IntKind.wrap .i64 ((List.length x0 : Int) + 1)) else x3)) default))
theorem adW (p0 : Str) (p1 : Str) (p2 : Int) (p3 : Int) : Le (Option.map dE (qI p0 p1 p2 p3)) (aZ SE 190 [.d (.str p0), .d (.str p1), .d (.int .i64 p2), .d (.int .i64 p3)] [] []) := by
 refine aS ai9 rfl ?_
 refine Le.trans ?_ (le_of_eq (av7 _ _ _ _ _  p0 p1 p2 p3).symm)
 unfold qI
 refine lC ?_ ?_
 ·exact aI rfl
 ·refine lC ?_ ?_
  ·exact le_none
  ·refine lC ?_ ?_
   ·refine aM (good := good) eX afp (af2 _ _) fun r0 _ => ?_
    exact tO p0 p1 p2 (IntKind.wrap .i64 (r0 + 1))
   ·exact tO p0 p1 p2 p3
section
variable (Γ : Fun) (γ190 : Gm ((List Str))) (Λ2 J : Lam)
def aoN : aP := bA (aQ Γ) 190 dE γ190
theorem ava (p0 : Str) (p1 : Str) : bD SE (aoN Γ γ190) Λ2 J 181 [.d (.str p0), .d (.str p1)] [] [] =
 γ190 [.d (.str p0), .d (.str p1), .d (.int .i64 0), .d (.int .i64 (-1))] [] [] fun r0 =>
 (some (.ret [.d (.sl [.str] (List.map bG r0))] [] [])) := by kernel_rfl
end
abbrev ar7 : aP := aoN gG (cT 190 dE)
theorem auN : ar7 = aQ gG := by unfold ar7 aoN; rw [aK fun _ h => h]
theorem af7 (p0 : Str) (p1 : Str) : Le (Option.map kX (qV p0 p1)) (aZ SE 181 [.d (.str p0), .d (.str p1)] [] []) := by
 refine aS auN rfl ?_
 refine Le.trans ?_ (le_of_eq (ava _ _ _ _  p0 p1).symm)
 unfold qV
 refine aM (good := good) eX acK (adW _ _ _ _) fun r0 _ => ?_
 exact aI rfl
section
variable (Γ : Fun) (γ181 : Gm ((List Str))) (Λ2 J : Lam)
def aoo : aP := bA (aQ Γ) 181 kX γ181
theorem avm (p0 : Str) : bD SE (aoo Γ γ181) Λ2 J 162 [.d (.str p0)] [] [] =
 γ181 [.d (.str p0), .d (.str ([47] : Str))] [] [] fun r0 =>
 (some (.ret [.d (.sl [.str] (List.map bG r0))] [] [])) := by kernel_rfl
end
abbrev asd : aP := aoo gG (cT 181 kX)
theorem at6 : asd = aQ gG := by unfold asd aoo; rw [aK fun _ h => h]
theorem agQ (p0 : Str) : Le (Option.map lR (sA p0)) (aZ SE 162 [.d (.str p0)] [] []) := by
 refine aS at6 rfl ?_
 refine Le.trans ?_ (le_of_eq (avm _ _ _ _  p0).symm)
 unfold sA
 refine aM (good := good) eX afq (af7 _ _) fun r0 _ => ?_
 exact aI rfl
def abX (C : aP) (Λ2 J : Lam) (a0 : (List (List D))) (a1 : Bool) (a2 : Int) (a3 : Str) (a4 : (List (List D))) (a5 : Int) (a6 : Int) (a7 : Str) (a8 : Nat) : Res := lab SE C Λ2 J 126 0 [1, 0, 1, 1, 1, 1, 0, 1, 0, 0, 1, 1, 0, 0, 1, 1, 0] (bB [(3, .d (.sl [.str] a0)), (4, .d (.bool a1)), (5, .d (.int .i64 a2)), (6, .d (.str a3)), (15, .d (.sl [.str] a4)), (16, .d (.int .i64 a5)), (17, .d (.int .i64 a6)), (23, .it 4000)] [] [] [(4000, (a7, a8))] [])
def ajp (C : aP) (Λ2 J : Lam) (a0 : (List (List D))) (a1 : Bool) (a2 : (List (List D))) (a3 : Int) (a4 : Int) : Res := lab SE C Λ2 J 126 0 [1, 0, 1, 1, 1, 1, 0, 1, 0] (bB [(3, .d (.sl [.str] a0)), (4, .d (.bool a1)), (15, .d (.sl [.str] a2)), (16, .d (.int .i64 a3)), (17, .d (.int .i64 a4))] [] [] [] [])
section
variable (Γ : Fun) (γ161 : Gm (Bool)) (γ162 : Gm ((List Str))) (Λ2 J : Lam)
def yB : aP := bA (bA (aQ Γ) 161 fR γ161) 162 lR γ162
theorem awH (p0 : Str) : bD SE (yB Γ γ161 γ162) Λ2 J 126 [.d (.str p0)] [] [] =
 γ161 [.d (.str p0)] [] [] fun r0 =>
 cond (!r0) (
 (some (.ret [.d (.bool false)] [] []))) (
 γ162 [.d (.str p0)] [] [] fun r1 =>
 ajp (yB Γ γ161 γ162) Λ2 J (List.map bG r1) true (List.map bG r1) (List.length (List.map bG r1) : Int) 0) := by kernel_rfl
theorem are (x3 : (List Str)) (x4 : Bool) (x5 : Int) (x6 : Str) (x15 : (List Str)) (x16 : Int) (x17 : Int) (s4000 : Str) (i4000 : Nat) : cB SE (yB Γ γ161 γ162) Λ2 J 126 0 [1, 0, 1, 1, 1, 1, 0, 1, 0, 0, 1, 1, 0, 0, 1, 1, 0] (bB [(3, .d (.sl [.str] (List.map bG x3))), (4, .d (.bool x4)), (5, .d (.int .i64 x5)), (6, .d (.str x6)), (15, .d (.sl [.str] (List.map bG x15))), (16, .d (.int .i64 x16)), (17, .d (.int .i64 x17)), (23, .it 4000)] [] [] [(4000, (s4000, i4000))] []) =
 cond (decide (i4000 < List.length s4000)) (
 cond (((dec s4000 i4000).1 : Int) == 43) (
  cond (!((List.length x6 : Int) == 1)) (
  (some (.ret [.d (.bool false)] [] []))) (
  cond (((dec s4000 i4000).1 : Int) == 35) (
  cond (!((List.length x6 : Int) == 1)) (
   (some (.ret [.d (.bool false)] [] []))) (
  cond (decide (x5 < (IntKind.wrap .i64 ((List.length (List.map bG x3) : Int) - 1)))) (
   (some (.ret [.d (.bool false)] [] []))) (
  abX (yB Γ γ161 γ162) Λ2 J (List.map bG x3) x4 x5 x6 (List.map bG x15) x16 x17 s4000 (i4000 + (dec s4000 i4000).2)))) (
  abX (yB Γ γ161 γ162) Λ2 J (List.map bG x3) x4 x5 x6 (List.map bG x15) x16 x17 s4000 (i4000 + (dec s4000 i4000).2)))) (
 cond (((dec s4000 i4000).1 : Int) == 35) (
  cond (!((List.length x6 : Int) == 1)) (
  (some (.ret [.d (.bool false)] [] []))) (
  cond (decide (x5 < (IntKind.wrap .i64 ((List.length (List.map bG x3) : Int) - 1)))) (
  (some (.ret [.d (.bool false)] [] []))) (
  abX (yB Γ γ161 γ162) Λ2 J (List.map bG x3) x4 x5 x6 (List.map bG x15) x16 x17 s4000 (i4000 + (dec s4000 i4000).2)))) (
 abX (yB Γ γ161 γ162) Λ2 J (List.map bG x3) x4 x5 x6 (List.map bG x15) x16 x17 s4000 (i4000 + (dec s4000 i4000).2)))) (
 ajp (yB Γ γ161 γ162) Λ2 J (List.map bG x3) x4 (List.map bG x15) x16 (IntKind.wrap .i64 (x17 + 1))) := by kernel_rfl
theorem asE (x3 : (List Str)) (x4 : Bool) (x15 : (List Str)) (x16 : Int) (x17 : Int) : cB SE (yB Γ γ161 γ162) Λ2 J 126 0 [1, 0, 1, 1, 1, 1, 0, 1, 0] (bB [(3, .d (.sl [.str] (List.map bG x3))), (4, .d (.bool x4)), (15, .d (.sl [.str] (List.map bG x15))), (16, .d (.int .i64 x16)), (17, .d (.int .i64 x17))] [] [] [] []) =
 cond (decide (x17 < x16)) (
 cond (decide (0 ≤ x17) && decide (x17 < (List.length (List.map bG x15) : Int))) (
  abX (yB Γ γ161 γ162) Λ2 J (List.map bG x3) x4 x17 ((aU (cellAt (elemAt (List.map bG x15) (Int.toNat x17)) 0))) (List.map bG x15) x16 x17 ((aU (cellAt (elemAt (List.map bG x15) (Int.toNat x17)) 0))) 0) none) (
 (some (.ret [.d (.bool x4)] [] []))) := by kernel_rfl
end
abbrev ahT : aP := yB gG (cT 161 fR) (cT 162 lR)
theorem alw : ahT = aQ gG := by unfold ahT yB; rw [aK fun _ h => h, aK fun _ h => h]
noncomputable abbrev asF (a0 : (List (List D))) (a1 : Bool) (a2 : Int) (a3 : Str) (a4 : (List (List D))) (a5 : Int) (a6 : Int) (a7 : Str) (a8 : Nat) : Res := abX ahT (bV SE gG (SE.hl 126) (SE.hr 126)) (J0 SE ahT) a0 a1 a2 a3 a4 a5 a6 a7 a8
noncomputable abbrev am0 (a0 : (List (List D))) (a1 : Bool) (a2 : (List (List D))) (a3 : Int) (a4 : Int) : Res := ajp ahT (bV SE gG (SE.hl 126) (SE.hr 126)) (J0 SE ahT) a0 a1 a2 a3 a4
theorem xW : ∀ (fu : Nat) (k6 : (List Str) → Bool → (List Str) → Int → Int → Option (Bool)) (hk6 : ∀ (x3 : (List Str)) (x4 : Bool) (x15 : (List Str)) (x16 : Int) (x17 : Int), Le (Option.map dY (k6 x3 x4 x15 x16 x17)) (am0 (List.map bG x3) x4 (List.map bG x15) x16 x17)) (x3 : (List Str)) (x4 : Bool) (x5 : Int) (x6 : Str) (x15 : (List Str)) (x16 : Int) (x17 : Int) (s4000 : Str) (i4000 : Nat), Le (Option.map dY (eR fu k6 x3 x4 x5 x6 x15 x16 x17 s4000 i4000)) (asF (List.map bG x3) x4 x5 x6 (List.map bG x15) x16 x17 s4000 i4000) := by
 intro fu
 induction fu with
 | zero => intros; exact le_none
 | succ fu ih =>
  intro k6 hk6 x3 x4 x5 x6 x15 x16 x17 s4000 i4000
  refine Le.trans ?_ (le_of_eq ((bC alw).trans (are _ _ _ _ _  x3 x4 x5 x6 x15 x16 x17 s4000 i4000)).symm)
  unfold eR
  refine lC ?_ ?_
  ·refine lC ?_ ?_
   ·refine lC ?_ ?_
    ·exact aI rfl
    ·refine lC ?_ ?_
     ·refine lC ?_ ?_
      ·exact aI rfl
      ·refine lD (by simp only [EN]) ?_ ?_
       ·exact aI rfl
       ·exact ih _ hk6 x3 x4 x5 x6 x15 x16 x17 s4000 (i4000 + (dec s4000 i4000).2)
     ·exact ih _ hk6 x3 x4 x5 x6 x15 x16 x17 s4000 (i4000 + (dec s4000 i4000).2)
   ·refine lC ?_ ?_
    ·refine lC ?_ ?_
     ·exact aI rfl
     ·refine lD (by simp only [EN]) ?_ ?_
      ·exact aI rfl
      ·exact ih _ hk6 x3 x4 x5 x6 x15 x16 x17 s4000 (i4000 + (dec s4000 i4000).2)
    ·exact ih _ hk6 x3 x4 x5 x6 x15 x16 x17 s4000 (i4000 + (dec s4000 i4000).2)
  ·exact hk6 x3 x4 x15 x16 (IntKind.wrap .i64 (x17 + 1))
theorem xP : ∀ (fu : Nat) (x3 : (List Str)) (x4 : Bool) (x15 : (List Str)) (x16 : Int) (x17 : Int), Le (Option.map dY (kN fu x3 x4 x15 x16 x17)) (am0 (List.map bG x3) x4 (List.map bG x15) x16 x17) := by
 intro fu
 induction fu with
 | zero => intros; exact le_none
 | succ fu ih =>
  intro x3 x4 x15 x16 x17
  refine Le.trans ?_ (le_of_eq ((bC alw).trans (asE _ _ _ _ _  x3 x4 x15 x16 x17)).symm)
  unfold kN
  refine lC ?_ ?_
  ·refine lG (by simp only [EN]) ?_
   first | (simp only [EN]; exact xW fuel _ (ih) x3 x4 x17 (List.getD x15 (Int.toNat x17) default) x15 x16 x17 (List.getD x15 (Int.toNat x17) default) 0) | exact xW fuel _ (ih) x3 x4 x17 (List.getD x15 (Int.toNat x17) default) x15 x16 x17 (List.getD x15 (Int.toNat x17) default) 0
  ·exact aI rfl
theorem aa5 (p0 : Str) : Le (Option.map dY (pR p0)) (aZ SE 126 [.d (.str p0)] [] []) := by
 refine aS alw rfl ?_
 refine Le.trans ?_ (le_of_eq (awH _ _ _ _ _  p0).symm)
 unfold pR
 refine aM (good := good) eX aa6 (acu _) fun r0 _ => ?_
 refine lC ?_ ?_
 ·exact aI rfl
 ·refine aM (good := good) eX agf (agQ _) fun r1 _ => ?_
  first | (simp only [EN]; exact xP fuel r1 true r1 (List.length r1 : Int) 0) | exact xP fuel r1 true r1 (List.length r1 : Int) 0
section
variable (Γ : Fun) (γ163 : Gm (Bool)) (Λ2 J : Lam)
def aoH : aP := bA (aQ Γ) 163 dA γ163
theorem awR (p0 : Str) (p1 : Str) : bD SE (aoH Γ γ163) Λ2 J 127 [.d (.str p0), .d (.str p1)] [] [] =
 γ163 [.d (.str p0), .d (.str p1)] [] [] fun r0 =>
 (some (.ret [.d (.bool r0)] [] [])) := by kernel_rfl
end
abbrev aqJ : aP := aoH gG (cT 163 dA)
theorem atn : aqJ = aQ gG := by unfold aqJ aoH; rw [aK fun _ h => h]
theorem vH (p0 : Str) (p1 : Str) : Le (Option.map eC (kT p0 p1)) (aZ SE 127 [.d (.str p0), .d (.str p1)] [] []) := by
 refine aS atn rfl ?_
 refine Le.trans ?_ (le_of_eq (awR _ _ _ _  p0 p1).symm)
 unfold kT
 refine aM (good := good) eX rK (rT _ _) fun r0 _ => ?_
 exact aI rfl
section
variable (Γ : Fun) (γ159 : Gm (Str × Bool)) (γ160 : Gm (Str × Str × Bool)) (γ139 : Gm (Bool)) (γ126 : Gm (Bool)) (γ127 : Gm (Bool)) (Λ2 J : Lam)
def aox : aP := bA (bA (bA (bA (bA (aQ Γ) 159 hJ γ159) 160 mG γ160) 139 eO γ139) 126 dY γ126) 127 eC γ127
theorem av4 (p0 : Str) : bD SE (aox Γ γ159 γ160 γ139 γ126 γ127) Λ2 J 124 [.d (.str p0)] [] [] =
 γ159 [.d (.str p0), .d (.str ([36, 115, 104, 97, 114, 101, 47] : Str))] [] [] fun r0 =>
 cond (!r0.2) (
 (some (.ret [.d (.str ([] : Str)), .d (.str ([] : Str)), .d (.bool false)] [] []))) (
 γ160 [.d (.str r0.1), .d (.str ([47] : Str))] [] [] fun r1 =>
 cond (!r1.2.2) (
 (some (.ret [.d (.str ([] : Str)), .d (.str ([] : Str)), .d (.bool false)] [] []))) (
 γ139 [.d (.str r1.1)] [] [] fun r2 =>
 cond (!r2) (
 (some (.ret [.d (.str ([] : Str)), .d (.str ([] : Str)), .d (.bool false)] [] []))) (
 γ126 [.d (.str r1.2.1)] [] [] fun r3 =>
 cond (!r3) (
 (some (.ret [.d (.str ([] : Str)), .d (.str ([] : Str)), .d (.bool false)] [] []))) (
 γ127 [.d (.str r1.2.1), .d (.str ([36, 115, 104, 97, 114, 101, 47] : Str))] [] [] fun r4 =>
 cond r4 (
 (some (.ret [.d (.str ([] : Str)), .d (.str ([] : Str)), .d (.bool false)] [] []))) (
 (some (.ret [.d (.str r1.1), .d (.str r1.2.1), .d (.bool true)] [] []))))))) := by kernel_rfl
end
abbrev arT : aP := aox gG (cT 159 hJ) (cT 160 mG) (cT 139 eO) (cT 126 dY) (cT 127 eC)
theorem auA : arT = aQ gG := by unfold arT aox; rw [aK fun _ h => h, aK fun _ h => h, aK fun _ h => h, aK fun _ h => h, aK fun _ h => h]
theorem ahv (p0 : Str) : Le (Option.map lW (sI p0)) (aZ SE 124 [.d (.str p0)] [] []) := by
 refine aS auA rfl ?_
 refine Le.trans ?_ (le_of_eq (av4 _ _ _ _ _ _ _ _  p0).symm)
 unfold sI
 refine aM (good := good) eX abL (acD _ _) fun r0 _ => ?_
 refine lC ?_ ?_
 ·exact aI rfl
 ·refine aM (good := good) eX agw (aid _ _) fun r1 _ => ?_
  refine lC ?_ ?_
  ·exact aI rfl
  ·refine aM (good := good) eX abT (adD _) fun r2 _ => ?_
   refine lC ?_ ?_
   ·exact aI rfl
   ·refine aM (good := good) eX aai (aa5 _) fun r3 _ => ?_
    refine lC ?_ ?_
    ·exact aI rfl
    ·refine aM (good := good) eX uD (vH _ _) fun r4 _ => ?_
     refine lC ?_ ?_
     ·exact aI rfl
     ·exact aI rfl
section
variable (Γ : Fun) (γ126 : Gm (Bool)) (γ127 : Gm (Bool)) (Λ2 J : Lam)
def aof : aP := bA (bA (aQ Γ) 126 dY γ126) 127 eC γ127
theorem awv (p0 : aD) : bD SE (aof Γ γ126 γ127) Λ2 J 125 [.ptr 2000000000 0] [⟨60, (aD.avs p0)⟩] [] =
 γ126 [.d (.str p0.Filter)] [] [] fun r0 =>
 cond r0 (
 γ127 [.d (.str p0.Filter), .d (.str ([36, 115, 104, 97, 114, 101, 47] : Str))] [] [] fun r1 =>
 (some (.ret [.d (.bool (!r1))] [⟨60, (aD.avs p0)⟩] []))) (
 (some (.ret [.d (.bool false)] [⟨60, (aD.avs p0)⟩] []))) := by kernel_rfl
end
abbrev aqI : aP := aof gG (cT 126 dY) (cT 127 eC)
theorem as5 : aqI = aQ gG := by unfold aqI aof; rw [aK fun _ h => h, aK fun _ h => h]
theorem abU (p0 : aD) : Le (Option.map gL (oX p0)) (aZ SE 125 [.ptr 2000000000 0] [⟨60, (aD.avs p0)⟩] []) := by
 refine aS as5 rfl ?_
 refine Le.trans ?_ (le_of_eq (awv _ _ _ _ _  p0).symm)
 unfold oX
 refine aM (good := good) eX aai (aa5 _) fun r0 _ => ?_
 refine lC ?_ ?_
 ·refine aM (good := good) eX uD (vH _ _) fun r1 _ => ?_
  exact aI rfl
 ·exact aI rfl
section
variable (Γ : Fun) (γ124 : Gm (Str × Str × Bool)) (γ125 : Gm (Bool × aD)) (Λ2 J : Lam)
def C66 : aP := bA (bA (aQ Γ) 124 lW γ124) 125 gL γ125
theorem T66 (p0 : aD) : bD SE (C66 Γ γ124 γ125) Λ2 J 66 [aD.av p0] [] [] =
 γ124 [.d (.str p0.Filter)] [] [] fun r0 =>
 cond (!r0.2.2) (
 γ125 [.ptr 2000000000 0] [⟨60, (aD.avs p0)⟩] [] fun r1 =>
 cond (!r1.1) (
  (some (.ret [.d (.int .i64 13)] [] []))) (
 cond (decide (r1.2.Level < 0)) (
  (some (.ret [.d (.int .i64 14)] [] []))) (
 cond (decide (r1.2.Level > 2)) (
  (some (.ret [.d (.int .i64 14)] [] []))) (
 cond r1.2.NoLocal (
  cond r0.2.2 (
  (some (.ret [.d (.int .i64 28)] [] []))) (
  (some (.ret [.d (.int .i64 0)] [] [])))) (
 (some (.ret [.d (.int .i64 0)] [] []))))))) (
 cond (decide (p0.Level < 0)) (
 (some (.ret [.d (.int .i64 14)] [] []))) (
 cond (decide (p0.Level > 2)) (
 (some (.ret [.d (.int .i64 14)] [] []))) (
 cond p0.NoLocal (
 cond r0.2.2 (
  (some (.ret [.d (.int .i64 28)] [] []))) (
 (some (.ret [.d (.int .i64 0)] [] [])))) (
 (some (.ret [.d (.int .i64 0)] [] [])))))) := by kernel_rfl
end
abbrev X66 : aP := C66 gG (cT 124 lW) (cT 125 gL)
theorem awK : X66 = aQ gG := by unfold X66 C66; rw [aK fun _ h => h, aK fun _ h => h]
theorem adU (p0 : aD) : Le (Option.map iW (n7 p0)) (aZ SE 66 [aD.av p0] [] []) := by
 refine aS awK rfl ?_
 refine Le.trans ?_ (le_of_eq (T66 _ _ _ _ _  p0).symm)
 unfold n7
 refine aM (good := good) eX afZ (ahv _) fun r0 _ => ?_
 refine lC ?_ ?_
 ·refine aM (good := good) eX abe (abU _) fun r1 _ => ?_
  refine lC ?_ ?_
  ·exact aI rfl
  ·refine lC ?_ ?_
   ·exact aI rfl
   ·refine lC ?_ ?_
    ·exact aI rfl
    ·refine lC ?_ ?_
     ·refine lC ?_ ?_
      ·exact aI rfl
      ·exact aI rfl
     ·exact aI rfl
 ·refine lC ?_ ?_
  ·exact aI rfl
  ·refine lC ?_ ?_
   ·exact aI rfl
   ·refine lC ?_ ?_
    ·refine lC ?_ ?_
     ·exact aI rfl
     ·exact aI rfl
    ·exact aI rfl
section
variable (Γ : Fun)  (Λ2 J : Lam)
def asJ : aP := aQ Γ
theorem awD (p0 : Str) (p1 : Str) : bD SE (asJ Γ) Λ2 J 164 [.d (.str p0), .d (.str p1)] [] [] =
 (some (.ret [.d (.int .i64 (Lib.compareBytes p0 p1))] [] [])) := by kernel_rfl
end
abbrev avK : aP := asJ gG
theorem auj : avK = aQ gG := rfl
theorem aac (p0 : Str) (p1 : Str) : Le (Option.map eY (pV p0 p1)) (aZ SE 164 [.d (.str p0), .d (.str p1)] [] []) := by
 refine aS auj rfl ?_
 refine Le.trans ?_ (le_of_eq (awD _ _ _  p0 p1).symm)
 unfold pV
 exact aI rfl
section
variable (Γ : Fun) (γ164 : Gm (Int)) (Λ2 J : Lam)
def anU : aP := bA (aQ Γ) 164 eY γ164
theorem avz (p0 : Str) (p1 : Str) : bD SE (anU Γ γ164) Λ2 J 130 [.d (.str p0), .d (.str p1)] [] [] =
 γ164 [.d (.str p0), .d (.str p1)] [] [] fun r0 =>
 (some (.ret [.d (.int .i64 r0)] [] [])) := by kernel_rfl
end
abbrev asq : aP := anU gG (cT 164 eY)
theorem atK : asq = aQ gG := by unfold asq anU; rw [aK fun _ h => h]
theorem aeh (p0 : Str) (p1 : Str) : Le (Option.map jL (uZ p0 p1)) (aZ SE 130 [.d (.str p0), .d (.str p1)] [] []) := by
 refine aS atK rfl ?_
 refine Le.trans ?_ (le_of_eq (avz _ _ _ _  p0 p1).symm)
 unfold uZ
 refine aM (good := good) eX yY (aac _ _) fun r0 _ => ?_
 exact aI rfl
section
variable (Γ : Fun) (γ130 : Gm (Int)) (Λ2 J : Lam)
def aoi : aP := bA (aQ Γ) 130 jL γ130
theorem avU (p0 : aD) (p1 : Str) : bD SE (aoi Γ γ130) Λ2 J 129 [aD.av p0, .d (.str p1)] [] [] =
 γ130 [.d (.str p0.Filter), .d (.str p1)] [] [] fun r0 =>
 (some (.ret [.d (.int .i64 r0)] [] [])) := by kernel_rfl
end
abbrev asI : aP := aoi gG (cT 130 jL)
theorem atH : asI = aQ gG := by unfold asI aoi; rw [aK fun _ h => h]
theorem pE (p0 : aD) (p1 : Str) : Le (Option.map kI (pS p0 p1)) (aZ SE 129 [aD.av p0, .d (.str p1)] [] []) := by
 refine aS atH rfl ?_
 refine Le.trans ?_ (le_of_eq (avU _ _ _ _  p0 p1).symm)
 unfold pS
 refine aM (good := good) eX adX (aeh _ _) fun r0 _ => ?_
 exact aI rfl
end Te
end PX
