import Derived.Test.YthgmhhgmnegocaaGreatDoorTre0
set_option linter.unusedVariables false
set_option linter.unusedSimpArgs false
set_option maxRecDepth 100000
noncomputable section
namespace PX
open Go
open Md
namespace Te
section
variable (Γ : Fun) (γ91 : Gm (cG)) (γ92 γ93 γ94 γ95 : Gm (Bool)) (Λ2 J : Lam)
def C59 : aR := bE (bE (bE (bE (bE (aS Γ) 91 lZ γ91) 92 brokerref05_SameProps_out γ92) 93 brokerref05_SameProps_out γ93) 94 brokerref05_SameProps_out γ94) 95 brokerref05_SameProps_out γ95
theorem T59 (p0 p1 : aA) : bK SE (C59 Γ γ91 γ92 γ93 γ94 γ95) Λ2 J 59 [aA.av p0, aA.av p1] [] [] =
 γ91 [aA.av p0] [] [] fun r0 =>
 γ91 [aA.av p1] [] [] fun r1 =>
 cond ((r0.kind == r1.kind) && ((r0.id == r1.id) && ((r0.keep == r1.keep) && ((r0.expiry == r1.expiry) && ((r0.window == r1.window) && ((r0.code == r1.code) && ((r0.delay == r1.delay) && ((r0.dup == r1.dup) && ((r0.clean == r1.clean) && ((r0.present == r1.present) && ((r0.set_ == r1.set_) && ((r0.client == r1.client) && ((r0.user == r1.user) && true))))))))))))) (
 γ92 [aF.av p0.Message, aF.av p1.Message] [] [] fun r2 =>
 cond r2 (
  γ92 [aF.av p0.Will.Message, aF.av p1.Will.Message] [] [] fun r3 =>
  cond r3 (
  γ93 [.d (.sl aH.ks (List.map aH.enc p0.Subs)), .d (.sl aH.ks (List.map aH.enc p1.Subs))] [] [] fun r4 =>
  cond r4 (
   γ94 [.d (.sl [.str] (List.map aY p0.Filters)), .d (.sl [.str] (List.map aY p1.Filters))] [] [] fun r5 =>
   cond r5 (
   γ95 [.d (.sl [.int .i64] (List.map eI p0.Codes)), .d (.sl [.int .i64] (List.map eI p1.Codes))] [] [] fun r6 =>
   (rB r6)) (
   (rB false))) (
  (rB false))) (
  (rB false))) (
 (rB false))) (
 (rB false)) := by kernel_rfl
end
abbrev X59 : aR := C59 gG (cT 91 lZ) (cT 92 brokerref05_SameProps_out) (cT 93 brokerref05_SameProps_out) (cT 94 brokerref05_SameProps_out) (cT 95 brokerref05_SameProps_out)
theorem aEs : X59 = aS gG := by unfold X59 C59; repeat rw [bH fun _ h => h]
theorem ama (p0 p1 : aA) : Le (Option.map brokerref05_SameProps_out (zD p0 p1)) (bF SE 59 [aA.av p0, aA.av p1] [] []) := by
 refine aZ aEs rfl ?_
 refine Le.trans ?_ (le_of_eq (T59 ..).symm)
 unfold zD
 refine lQ eX ab5 (acE _) fun r0 _ => ?_
 refine lQ eX ab5 (acE _) fun r1 _ => ?_
 refine lC ?_ ?_
 ·refine lQ eX brokerref05_SameProps_inj (wR _ _) fun r2 _ => ?_
  refine lC ?_ ?_
  ·refine lQ eX brokerref05_SameProps_inj (wR _ _) fun r3 _ => ?_
   refine lC ?_ ?_
   ·refine lQ eX brokerref05_SameProps_inj (amo _ _) fun r4 _ => ?_
    refine lC ?_ ?_
    ·refine lQ eX brokerref05_SameProps_inj (ak1 _ _) fun r5 _ => ?_
     refine lC ?_ ?_
     ·refine lQ eX brokerref05_SameProps_inj (ajy _ _) fun r6 _ => ?_
      exact aG rfl
     ·exact aG rfl
    ·exact aG rfl
   ·exact aG rfl
  ·exact aG rfl
 ·exact aG rfl
def aqY (C : aR) (Λ2 J : Lam) (a0 a1 : Int) (a2 : Bool) (a3 : Str) (a4 : Nat) : Res := lab SE C Λ2 J 96 0 [1, 1, 0, 1, 0, 0, 1, 1, 0, 1, 1, 0] (bA [(3, dIq a0), (4, .d (.int .i32 a1)), (5, dBq a2), (15, .it 4000)] [] [] [(4000, (a3, a4))] [])
def akZ (C : aR) (Λ2 J : Lam) (a0 : Str) (a1 : Nat) : Res := lab SE C Λ2 J 96 0 [1, 1, 0, 1, 0] (bA [(15, .it 4000)] [] [] [(4000, (a0, a1))] [])
def avC (C : aR) (Λ2 J : Lam) (a0 : Str) : Res := lab SE C Λ2 J 96 0 [1, 1, 0, 0] (bA [(0, dSq a0)] [] [] [] [])
section
variable (Γ : Fun)  (Λ2 J : Lam)
def C96 : aR := aS Γ
theorem T96 (p0 : Str) : bK SE (C96 Γ) Λ2 J 96 [dSq p0] [] [] =
 cond (decide ((List.length p0 : Int) < 1)) (
 (rB false)) (
 cond (decide ((List.length p0 : Int) > 16)) (
 (rB false)) (
 avC (C96 Γ) Λ2 J p0)) := by kernel_rfl
theorem aB5 (x3 x4 : Int) (x5 : Bool) (s4000 : Str) (i4000 : Nat) : cJ SE (C96 Γ) Λ2 J 96 0 [1, 1, 0, 1, 0, 0, 1, 1, 0, 1, 1, 0] (bA [(3, dIq x3), (4, .d (.int .i32 x4)), (5, dBq x5), (15, .it 4000)] [] [] [(4000, (s4000, i4000))] []) =
 cond (!x5) (
 cond (x3 == 0) (
  (rB false)) (
 cond (x4 != 45) (
  cond (decide (x4 < 48)) (
  (rB false)) (
  cond (decide (x4 > 57)) (
  (rB false)) (
  akZ (C96 Γ) Λ2 J s4000 i4000))) (
 akZ (C96 Γ) Λ2 J s4000 i4000))) (
 akZ (C96 Γ) Λ2 J s4000 i4000) := by kernel_rfl
theorem aAj (s4000 : Str) (i4000 : Nat) : cJ SE (C96 Γ) Λ2 J 96 0 [1, 1, 0, 1, 0] (bA [(15, .it 4000)] [] [] [(4000, (s4000, i4000))] []) =
 cond (decide (i4000 < List.length s4000)) (
 cond (decide (((dec s4000 i4000).1 : Int) ≥ 97)) (
  aqY (C96 Γ) Λ2 J (i4000 : Int) ((dec s4000 i4000).1 : Int) (decide (((dec s4000 i4000).1 : Int) ≤ 122)) s4000 (i4000 + (dec s4000 i4000).2)) (
 aqY (C96 Γ) Λ2 J (i4000 : Int) ((dec s4000 i4000).1 : Int) false s4000 (i4000 + (dec s4000 i4000).2))) (
 (rB true)) := by kernel_rfl
theorem aAD (x0 : Str) : cJ SE (C96 Γ) Λ2 J 96 0 [1, 1, 0, 0] (bA [(0, dSq x0)] [] [] [] []) =
 akZ (C96 Γ) Λ2 J x0 0 := by kernel_rfl
end
abbrev X96 : aR := C96 gG
theorem ar6 : X96 = aS gG := rfl
abbrev aAx := aqY X96 (cB SE gG (SE.hl 96) (SE.hr 96)) (J0 SE X96)
abbrev avy := akZ X96 (cB SE gG (SE.hl 96) (SE.hr 96)) (J0 SE X96)
abbrev aA5 := avC X96 (cB SE gG (SE.hl 96) (SE.hr 96)) (J0 SE X96)
theorem adH (k4 : Str → Nat → Option (Bool)) (hk4 : ∀ (s4000 : Str) (i4000 : Nat), Le (Option.map brokerref05_SameProps_out (k4 s4000 i4000)) (avy s4000 i4000)) (x3 x4 : Int) (x5 : Bool) (s4000 : Str) (i4000 : Nat) : Le (Option.map brokerref05_SameProps_out (pR k4 x3 x4 x5 s4000 i4000)) (aAx x3 x4 x5 s4000 i4000) := by
 refine Le.trans ?_ (le_of_eq ((bD ar6).trans (aB5 ..)).symm)
 unfold pR
 refine lC ?_ ?_
 ·refine lC ?_ ?_
  ·exact aG rfl
  ·refine lC ?_ ?_
   ·refine lC ?_ ?_
    ·exact aG rfl
    ·refine lC ?_ ?_
     ·exact aG rfl
     ·exact hk4 s4000 i4000
   ·exact hk4 s4000 i4000
 ·exact hk4 s4000 i4000
theorem akz : ∀ (fu : Nat) (s4000 : Str) (i4000 : Nat), Le (Option.map brokerref05_SameProps_out (lP fu s4000 i4000)) (avy s4000 i4000) := by
 intro fu
 induction fu with
 | zero => intros; exact le_none
 | succ fu ih =>
  intro s4000 i4000
  refine Le.trans ?_ (le_of_eq ((bD ar6).trans (aAj ..)).symm)
  unfold lP
  refine lC ?_ ?_
  ·refine lC ?_ ?_
   ·exact adH _ (ih) (i4000 : Int) ((dec s4000 i4000).1 : Int) (decide (((dec s4000 i4000).1 : Int) ≤ 122)) s4000 (i4000 + (dec s4000 i4000).2)
   ·exact adH _ (ih) (i4000 : Int) ((dec s4000 i4000).1 : Int) false s4000 (i4000 + (dec s4000 i4000).2)
  ·exact aG rfl
theorem aj9 (x0 : Str) : Le (Option.map brokerref05_SameProps_out (zO x0)) (aA5 x0) := by
 refine Le.trans ?_ (le_of_eq ((bD ar6).trans (aAD ..)).symm)
 unfold zO
 exact akz fuel x0 0
theorem zM (p0 : Str) : Le (Option.map brokerref05_SameProps_out (oH p0)) (bF SE 96 [dSq p0] [] []) := by
 refine aZ ar6 rfl ?_
 refine Le.trans ?_ (le_of_eq (T96 ..).symm)
 unfold oH
 refine lC ?_ ?_
 ·exact aG rfl
 ·refine lC ?_ ?_
  ·exact aG rfl
  ·exact aj9 p0
def alM (C : aR) (Λ2 J : Lam) (a0 : Int) (a1 : Str) (a2 : Nat) : Res := lab SE C Λ2 J 126 0 [1, 1, 1, 0, 1, 0] (bA [(3, dIq a0), (15, .it 4000)] [] [] [(4000, (a1, a2))] [])
def atj (C : aR) (Λ2 J : Lam) (a0 : Str) : Res := lab SE C Λ2 J 126 0 [1, 1, 0] (bA [(0, dSq a0)] [] [] [] [])
section
variable (Γ : Fun)  (Λ2 J : Lam)
def ah2 : aR := aS Γ
theorem aDK (p0 : Str) : bK SE (ah2 Γ) Λ2 J 126 [dSq p0] [] [] =
 cond (decide ((List.length p0 : Int) < 1)) (
 (rB false)) (
 cond (decide ((List.length p0 : Int) > 64)) (
 (rB false)) (
 atj (ah2 Γ) Λ2 J p0)) := by kernel_rfl
theorem aw0 (x3 : Int) (s4000 : Str) (i4000 : Nat) : cJ SE (ah2 Γ) Λ2 J 126 0 [1, 1, 1, 0, 1, 0] (bA [(3, dIq x3), (15, .it 4000)] [] [] [(4000, (s4000, i4000))] []) =
 cond (decide (i4000 < List.length s4000)) (
 cond (((dec s4000 i4000).1 : Int) == 0) (
  (rB false)) (
 cond (((dec s4000 i4000).1 : Int) == 47) (
  alM (ah2 Γ) Λ2 J (w6 (x3 + 1)) s4000 (i4000 + (dec s4000 i4000).2)) (
 alM (ah2 Γ) Λ2 J x3 s4000 (i4000 + (dec s4000 i4000).2)))) (
 (rB (decide (x3 ≤ 8)))) := by kernel_rfl
theorem awO (x0 : Str) : cJ SE (ah2 Γ) Λ2 J 126 0 [1, 1, 0] (bA [(0, dSq x0)] [] [] [] []) =
 alM (ah2 Γ) Λ2 J 1 x0 0 := by kernel_rfl
end
abbrev aoA : aR := ah2 gG
theorem arv : aoA = aS gG := rfl
abbrev axo := alM aoA (cB SE gG (SE.hl 126) (SE.hr 126)) (J0 SE aoA)
abbrev azw := atj aoA (cB SE gG (SE.hl 126) (SE.hr 126)) (J0 SE aoA)
theorem ajA : ∀ (fu : Nat) (x3 : Int) (s4000 : Str) (i4000 : Nat), Le (Option.map brokerref05_SameProps_out (kO fu x3 s4000 i4000)) (axo x3 s4000 i4000) := by
 intro fu
 induction fu with
 | zero => intros; exact le_none
 | succ fu ih =>
  intro x3 s4000 i4000
  refine Le.trans ?_ (le_of_eq ((bD arv).trans (aw0 ..)).symm)
  unfold kO
  refine lC ?_ ?_
  ·refine lC ?_ ?_
   ·exact aG rfl
   ·refine lC ?_ ?_
    ·exact ih (w6 (x3 + 1)) s4000 (i4000 + (dec s4000 i4000).2)
    ·exact ih x3 s4000 (i4000 + (dec s4000 i4000).2)
  ·exact aG rfl
theorem ajz (x0 : Str) : Le (Option.map brokerref05_SameProps_out (yL x0)) (azw x0) := by
 refine Le.trans ?_ (le_of_eq ((bD arv).trans (awO ..)).symm)
 unfold yL
 exact ajA fuel 1 x0 0
theorem ags (p0 : Str) : Le (Option.map brokerref05_SameProps_out (wC p0)) (bF SE 126 [dSq p0] [] []) := by
 refine aZ arv rfl ?_
 refine Le.trans ?_ (le_of_eq (aDK ..).symm)
 unfold wC
 refine lC ?_ ?_
 ·exact aG rfl
 ·refine lC ?_ ?_
  ·exact aG rfl
  ·exact ajz p0
def aoi (C : aR) (Λ2 J : Lam) (a0 : Str) (a1 : Nat) : Res := lab SE C Λ2 J 115 0 [1, 1, 0, 1, 0] (bA [(9, .it 4000)] [] [] [(4000, (a0, a1))] [])
section
variable (Γ : Fun) (γ126 : Gm (Bool)) (Λ2 J : Lam)
def amd : aR := bE (aS Γ) 126 brokerref05_SameProps_out γ126
theorem aCC (p0 : Str) : bK SE (amd Γ γ126) Λ2 J 115 [dSq p0] [] [] =
 γ126 [dSq p0] [] [] fun r0 =>
 cond (!r0) (
 (rB false)) (
 aoi (amd Γ γ126) Λ2 J p0 0) := by kernel_rfl
theorem ayq (s4000 : Str) (i4000 : Nat) : cJ SE (amd Γ γ126) Λ2 J 115 0 [1, 1, 0, 1, 0] (bA [(9, .it 4000)] [] [] [(4000, (s4000, i4000))] []) =
 cond (decide (i4000 < List.length s4000)) (
 cond (((dec s4000 i4000).1 : Int) == 43) (
  (rB false)) (
 cond (((dec s4000 i4000).1 : Int) == 35) (
  (rB false)) (
 aoi (amd Γ γ126) Λ2 J s4000 (i4000 + (dec s4000 i4000).2)))) (
 (rB true)) := by kernel_rfl
end
abbrev aqH : aR := amd gG (cT 126 brokerref05_SameProps_out)
theorem avN : aqH = aS gG := by unfold aqH amd; rw [bH fun _ h => h]
abbrev axb := aoi aqH (cB SE gG (SE.hl 115) (SE.hr 115)) (J0 SE aqH)
theorem ajx : ∀ (fu : Nat) (s4000 : Str) (i4000 : Nat), Le (Option.map brokerref05_SameProps_out (lW fu s4000 i4000)) (axb s4000 i4000) := by
 intro fu
 induction fu with
 | zero => intros; exact le_none
 | succ fu ih =>
  intro s4000 i4000
  refine Le.trans ?_ (le_of_eq ((bD avN).trans (ayq ..)).symm)
  unfold lW
  refine lC ?_ ?_
  ·refine lC ?_ ?_
   ·exact aG rfl
   ·refine lC ?_ ?_
    ·exact aG rfl
    ·exact ih s4000 (i4000 + (dec s4000 i4000).2)
  ·exact aG rfl
theorem alX (p0 : Str) : Le (Option.map brokerref05_SameProps_out (zJ p0)) (bF SE 115 [dSq p0] [] []) := by
 refine aZ avN rfl ?_
 refine Le.trans ?_ (le_of_eq (aCC ..).symm)
 unfold zJ
 refine lQ eX brokerref05_SameProps_inj (ags _) fun r0 _ => ?_
 refine lC ?_ ?_
 ·exact aG rfl
 ·exact ajx fuel p0 0
section
variable (Γ : Fun)  (Λ2 J : Lam)
def azs : aR := aS Γ
theorem aEj (p0 p1 : Int) : bK SE (azs Γ) Λ2 J 116 [dIq p0, dIq p1] [] [] =
 cond (decide (p0 ≥ 0)) (
 (rB (decide (p0 ≤ p1)))) (
 (rB false)) := by kernel_rfl
end
abbrev aDT : aR := azs gG
theorem azR : aDT = aS gG := rfl
theorem vO (p0 p1 : Int) : Le (Option.map brokerref05_SameProps_out (qE p0 p1)) (bF SE 116 [dIq p0, dIq p1] [] []) := by
 refine aZ azR rfl ?_
 refine Le.trans ?_ (le_of_eq (aEj ..).symm)
 unfold qE
 refine lC ?_ ?_
 ·exact aG rfl
 ·exact aG rfl
def aaJ (C : aR) (Λ2 J : Lam) (a0 : Str) (a1 : Int) : Res := lab SE C Λ2 J 127 0 [1, 1, 0, 1, 0] (bA [(0, dSq a0), (3, dIq a1)] [] [] [] [])
def atn (C : aR) (Λ2 J : Lam) (a0 : Str) : Res := lab SE C Λ2 J 127 0 [1, 1, 0, 0] (bA [(0, dSq a0)] [] [] [] [])
section
variable (Γ : Fun)  (Λ2 J : Lam)
def abm : aR := aS Γ
theorem aEl (p0 : Str) : bK SE (abm Γ) Λ2 J 127 [dSq p0] [] [] =
 cond (decide ((List.length p0 : Int) < 1)) (
 (rB false)) (
 cond (decide ((List.length p0 : Int) > 16)) (
 (rB false)) (
 atn (abm Γ) Λ2 J p0)) := by kernel_rfl
theorem awQ (x0 : Str) (x3 : Int) : cJ SE (abm Γ) Λ2 J 127 0 [1, 1, 0, 1, 0] (bA [(0, dSq x0), (3, dIq x3)] [] [] [] []) =
 cond (decide (x3 < (List.length x0 : Int))) (
 cond (iB x3 (List.length x0 : Int)) (
  cond (decide ((UInt8.toNat (List.getD x0 (Int.toNat x3) 0) : Int) < 97)) (
  cond (decide ((UInt8.toNat (List.getD x0 (Int.toNat x3) 0) : Int) < 48)) (
   cond ((UInt8.toNat (List.getD x0 (Int.toNat x3) 0) : Int) != 45) (
   (rB false)) (
   aaJ (abm Γ) Λ2 J x0 (w6 (x3 + 1)))) (
  cond (decide ((UInt8.toNat (List.getD x0 (Int.toNat x3) 0) : Int) > 57)) (
   cond ((UInt8.toNat (List.getD x0 (Int.toNat x3) 0) : Int) != 45) (
   (rB false)) (
   aaJ (abm Γ) Λ2 J x0 (w6 (x3 + 1)))) (
  aaJ (abm Γ) Λ2 J x0 (w6 (x3 + 1))))) (
  cond (decide ((UInt8.toNat (List.getD x0 (Int.toNat x3) 0) : Int) > 122)) (
  cond (decide ((UInt8.toNat (List.getD x0 (Int.toNat x3) 0) : Int) < 48)) (
   cond ((UInt8.toNat (List.getD x0 (Int.toNat x3) 0) : Int) != 45) (
   (rB false)) (
   aaJ (abm Γ) Λ2 J x0 (w6 (x3 + 1)))) (
  cond (decide ((UInt8.toNat (List.getD x0 (Int.toNat x3) 0) : Int) > 57)) (
   cond ((UInt8.toNat (List.getD x0 (Int.toNat x3) 0) : Int) != 45) (
   (rB false)) (
   aaJ (abm Γ) Λ2 J x0 (w6 (x3 + 1)))) (
  aaJ (abm Γ) Λ2 J x0 (w6 (x3 + 1))))) (
  aaJ (abm Γ) Λ2 J x0 (w6 (x3 + 1))))) none) (
 (rB true)) := by kernel_rfl
theorem ay5 (x0 : Str) : cJ SE (abm Γ) Λ2 J 127 0 [1, 1, 0, 0] (bA [(0, dSq x0)] [] [] [] []) =
 aaJ (abm Γ) Λ2 J x0 0 := by kernel_rfl
end
abbrev aon : aR := abm gG
theorem arU : aon = aS gG := rfl
abbrev axa := aaJ aon (cB SE gG (SE.hl 127) (SE.hr 127)) (J0 SE aon)
abbrev axc := atn aon (cB SE gG (SE.hl 127) (SE.hr 127)) (J0 SE aon)
theorem ajw : ∀ (fu : Nat) (x0 : Str) (x3 : Int), Le (Option.map brokerref05_SameProps_out (fZ fu x0 x3)) (axa x0 x3) := by
 intro fu
 induction fu with
 | zero => intros; exact le_none
 | succ fu ih =>
  intro x0 x3
  refine Le.trans ?_ (le_of_eq ((bD arU).trans (awQ ..)).symm)
  unfold fZ
  refine lC ?_ ?_
  ·refine lF ?_
   refine lC ?_ ?_
   ·refine lC ?_ ?_
    ·refine lC ?_ ?_
     ·exact aG rfl
     ·exact ih x0 (w6 (x3 + 1))
    ·refine lC ?_ ?_
     ·refine lC ?_ ?_
      ·exact aG rfl
      ·exact ih x0 (w6 (x3 + 1))
     ·exact ih x0 (w6 (x3 + 1))
   ·refine lC ?_ ?_
    ·refine lC ?_ ?_
     ·refine lC ?_ ?_
      ·exact aG rfl
      ·exact ih x0 (w6 (x3 + 1))
     ·refine lC ?_ ?_
      ·refine lC ?_ ?_
       ·exact aG rfl
       ·exact ih x0 (w6 (x3 + 1))
      ·exact ih x0 (w6 (x3 + 1))
    ·exact ih x0 (w6 (x3 + 1))
  ·exact aG rfl
theorem ajs (x0 : Str) : Le (Option.map brokerref05_SameProps_out (yJ x0)) (axc x0) := by
 refine Le.trans ?_ (le_of_eq ((bD arU).trans (ay5 ..)).symm)
 unfold yJ
 exact ajw fuel x0 0
theorem amA (p0 : Str) : Le (Option.map brokerref05_SameProps_out (yY p0)) (bF SE 127 [dSq p0] [] []) := by
 refine aZ arU rfl ?_
 refine Le.trans ?_ (le_of_eq (aEl ..).symm)
 unfold yY
 refine lC ?_ ?_
 ·exact aG rfl
 ·refine lC ?_ ?_
  ·exact aG rfl
  ·exact ajs p0
def alO (C : aR) (Λ2 J : Lam) (a0 a1 : List (List D)) (a2 a3 : Int) : Res := lab SE C Λ2 J 117 0 [1, 1, 0, 1, 0] (bA [(0, .d (.sl aC.ks a0)), (8, .d (.sl aC.ks a1)), (9, dIq a2), (10, dIq a3)] [] [] [] [])
section
variable (Γ : Fun) (γ127 : Gm (Bool)) (Λ2 J : Lam)
def akJ : aR := bE (aS Γ) 127 brokerref05_SameProps_out γ127
theorem aDG (p0 : List aC) : bK SE (akJ Γ γ127) Λ2 J 117 [.d (.sl aC.ks (List.map aC.enc p0))] [] [] =
 cond (decide ((lM aC.enc p0 : Int) > 8)) (
 (rI 5)) (
 alO (akJ Γ γ127) Λ2 J (List.map aC.enc p0) (List.map aC.enc p0) (lM aC.enc p0 : Int) 0) := by kernel_rfl
theorem ax6 (x0 x8 : List aC) (x9 x10 : Int) : cJ SE (akJ Γ γ127) Λ2 J 117 0 [1, 1, 0, 1, 0] (bA [(0, .d (.sl aC.ks (List.map aC.enc x0))), (8, .d (.sl aC.ks (List.map aC.enc x8))), (9, dIq x9), (10, dIq x10)] [] [] [] []) =
 cond (decide (x10 < x9)) (
 cond (iB x10 (lM aC.enc x8 : Int)) (
  γ127 [dSq (bJ (cE aC.enc x8 x10 0))] [] [] fun r0 =>
  cond (!r0) (
  (rI 16)) (
  cond (decide ((List.length (bJ (cE aC.enc x8 x10 1)) : Int) > 160)) (
  (rI 5)) (
  cond (decide (x10 > 0)) (
  cond (iB (w6 (x10 - 1)) (lM aC.enc x0 : Int)) (
   cond (Op.bytesLess (bJ (cE aC.enc x8 x10 0)) (bJ (cE aC.enc x0 (w6 (x10 - 1)) 0)) || (bJ (cE aC.enc x8 x10 0)) == (bJ (cE aC.enc x0 (w6 (x10 - 1)) 0))) (
   (rI 16)) (
   alO (akJ Γ γ127) Λ2 J (List.map aC.enc x0) (List.map aC.enc x8) x9 (w6 (x10 + 1)))) none) (
  alO (akJ Γ γ127) Λ2 J (List.map aC.enc x0) (List.map aC.enc x8) x9 (w6 (x10 + 1)))))) none) (
 (rI 0)) := by kernel_rfl
end
abbrev aqU : aR := akJ gG (cT 127 brokerref05_SameProps_out)
theorem avY : aqU = aS gG := by unfold aqU akJ; rw [bH fun _ h => h]
abbrev azm := alO aqU (cB SE gG (SE.hl 117) (SE.hr 117)) (J0 SE aqU)
theorem ahG : ∀ (fu : Nat) (x0 x8 : List aC) (x9 x10 : Int), Le (Option.map brokerref05_Props_out (kI fu x0 x8 x9 x10)) (azm (List.map aC.enc x0) (List.map aC.enc x8) x9 x10) := by
 intro fu
 induction fu with
 | zero => intros; exact le_none
 | succ fu ih =>
  intro x0 x8 x9 x10
  refine Le.trans ?_ (le_of_eq ((bD avY).trans (ax6 ..)).symm)
  unfold kI
  refine lC ?_ ?_
  ·refine lGe ?_
   refine lQ eX brokerref05_SameProps_inj (by (try simp only [EN]); exact amA ((List.getD x8 (Int.toNat x10) default).Key)) fun r0 _ => ?_
   refine lC ?_ ?_
   ·exact aG rfl
   ·refine lDe ?_ ?_
    ·exact aG rfl
    ·refine lC ?_ ?_
     ·refine lGe ?_
      refine lDe ?_ ?_
      ·exact aG rfl
      ·exact ih x0 x8 x9 (w6 (x10 + 1))
     ·exact ih x0 x8 x9 (w6 (x10 + 1))
  ·exact aG rfl
theorem adM (p0 : List aC) : Le (Option.map brokerref05_Props_out (sG p0)) (bF SE 117 [.d (.sl aC.ks (List.map aC.enc p0))] [] []) := by
 refine aZ avY rfl ?_
 refine Le.trans ?_ (le_of_eq (aDG ..).symm)
 unfold sG
 refine lDe ?_ ?_
 ·exact aG rfl
 ·(try simp only [EN]); exact ahG fuel p0 p0 (List.length p0 : Int) 0
section
variable (Γ : Fun) (γ115 γ116 γ96 : Gm (Bool)) (γ117 : Gm (Int)) (Λ2 J : Lam)
def C97 : aR := bE (bE (bE (bE (aS Γ) 115 brokerref05_SameProps_out γ115) 116 brokerref05_SameProps_out γ116) 96 brokerref05_SameProps_out γ96) 117 brokerref05_Props_out γ117
theorem T97 (p0 : aF) : bK SE (C97 Γ γ115 γ116 γ96 γ117) Λ2 J 97 [aF.av p0] [] [] =
 γ115 [dSq p0.Topic] [] [] fun r0 =>
 cond (!r0) (
 (rI 12)) (
 cond (decide ((List.length p0.Payload : Int) > 256)) (
 (rI 5)) (
 γ116 [dIq p0.Level, dIq 2] [] [] fun r1 =>
 cond (!r1) (
 (rI 14)) (
 γ116 [dIq p0.Priority, dIq 9] [] [] fun r2 =>
 cond (!r2) (
 (rI 1)) (
 γ116 [dIq p0.Expires, dIq 1099511627776] [] [] fun r3 =>
 cond (!r3) (
 (rI 1)) (
 cond (!(p0.From == ([] : Str))) (
 γ96 [dSq p0.From] [] [] fun r4 =>
 cond (!r4) (
  (rI 11)) (
 γ116 [dIq p0.Seq, dIq 1099511627776] [] [] fun r5 =>
 cond (!r5) (
  (rI 1)) (
 γ117 [.d (.sl aC.ks (List.map aC.enc p0.Props))] [] [] fun r6 =>
 (rI r6)))) (
 γ116 [dIq p0.Seq, dIq 1099511627776] [] [] fun r7 =>
 cond (!r7) (
 (rI 1)) (
 γ117 [.d (.sl aC.ks (List.map aC.enc p0.Props))] [] [] fun r8 =>
 (rI r8)))))))) := by kernel_rfl
end
abbrev X97 : aR := C97 gG (cT 115 brokerref05_SameProps_out) (cT 116 brokerref05_SameProps_out) (cT 96 brokerref05_SameProps_out) (cT 117 brokerref05_Props_out)
theorem aDX : X97 = aS gG := by unfold X97 C97; repeat rw [bH fun _ h => h]
theorem rQ (p0 : aF) : Le (Option.map brokerref05_Props_out (jI p0)) (bF SE 97 [aF.av p0] [] []) := by
 refine aZ aDX rfl ?_
 refine Le.trans ?_ (le_of_eq (T97 ..).symm)
 unfold jI
 refine lQ eX brokerref05_SameProps_inj (alX _) fun r0 _ => ?_
 refine lC ?_ ?_
 ·exact aG rfl
 ·refine lC ?_ ?_
  ·exact aG rfl
  ·refine lQ eX brokerref05_SameProps_inj (vO _ _) fun r1 _ => ?_
   refine lC ?_ ?_
   ·exact aG rfl
   ·refine lQ eX brokerref05_SameProps_inj (vO _ _) fun r2 _ => ?_
    refine lC ?_ ?_
    ·exact aG rfl
    ·refine lQ eX brokerref05_SameProps_inj (vO _ _) fun r3 _ => ?_
     refine lC ?_ ?_
     ·exact aG rfl
     ·refine lC ?_ ?_
      ·refine lQ eX brokerref05_SameProps_inj (zM _) fun r4 _ => ?_
       refine lC ?_ ?_
       ·exact aG rfl
       ·refine lQ eX brokerref05_SameProps_inj (vO _ _) fun r5 _ => ?_
        refine lC ?_ ?_
        ·exact aG rfl
        ·refine lQ eX brokerref05_Props_inj (adM _) fun r6 _ => ?_
         exact aG rfl
      ·refine lQ eX brokerref05_SameProps_inj (vO _ _) fun r7 _ => ?_
       refine lC ?_ ?_
       ·exact aG rfl
       ·refine lQ eX brokerref05_Props_inj (adM _) fun r8 _ => ?_
        exact aG rfl
section
variable (Γ : Fun) (γ96 γ58 γ92 : Gm (Bool)) (γ97 : Gm (Int)) (Λ2 J : Lam)
def C61 : aR := bE (bE (bE (bE (aS Γ) 96 brokerref05_SameProps_out γ96) 58 brokerref05_SameProps_out γ58) 92 brokerref05_SameProps_out γ92) 97 brokerref05_Props_out γ97
theorem T61 (p0 : aA) : bK SE (C61 Γ γ96 γ58 γ92 γ97) Λ2 J 61 [aA.av p0] [] [] =
 γ96 [dSq p0.Client] [] [] fun r0 =>
 cond (!r0) (
 (rI 11)) (
 cond (!(p0.User == ([] : Str))) (
 γ96 [dSq p0.User] [] [] fun r1 =>
 cond (!r1) (
  (rI 11)) (
 γ58 [dIq p0.Keep, dIq 0, dIq 1099511627776] [] [] fun r2 =>
 cond (!r2) (
  (rI 1)) (
 γ58 [dIq p0.Expiry, dIq 0, dIq 1099511627776] [] [] fun r3 =>
 cond (!r3) (
  (rI 1)) (
 γ58 [dIq p0.Window, dIq 1, dIq 32] [] [] fun r4 =>
 cond (!r4) (
  (rI 1)) (
 cond (!p0.Will.Set) (
  cond (p0.Will.Delay != 0) (
  (rI 28)) (
  γ92 [aF.av p0.Will.Message, .agg [dSq [], dSq [], dIq 0, dBq false, dIq 0, dIq 0, dSq [], dIq 0, .d (.sl aC.ks (List.map aC.enc []))]] [] [] fun r5 =>
  cond (!r5) (
  (rI 28)) (
  cond (!p0.Will.Set) (
  (rI 0)) (
  γ58 [dIq p0.Will.Delay, dIq 0, dIq 1099511627776] [] [] fun r6 =>
  cond (!r6) (
  (rI 1)) (
  γ97 [aF.av p0.Will.Message] [] [] fun r7 =>
  (rI r7)))))) (
 cond (!p0.Will.Set) (
  (rI 0)) (
 γ58 [dIq p0.Will.Delay, dIq 0, dIq 1099511627776] [] [] fun r8 =>
 cond (!r8) (
  (rI 1)) (
 γ97 [aF.av p0.Will.Message] [] [] fun r9 =>
 (rI r9))))))))) (
 γ58 [dIq p0.Keep, dIq 0, dIq 1099511627776] [] [] fun r10 =>
 cond (!r10) (
 (rI 1)) (
 γ58 [dIq p0.Expiry, dIq 0, dIq 1099511627776] [] [] fun r11 =>
 cond (!r11) (
 (rI 1)) (
 γ58 [dIq p0.Window, dIq 1, dIq 32] [] [] fun r12 =>
 cond (!r12) (
 (rI 1)) (
 cond (!p0.Will.Set) (
 cond (p0.Will.Delay != 0) (
  (rI 28)) (
 γ92 [aF.av p0.Will.Message, .agg [dSq [], dSq [], dIq 0, dBq false, dIq 0, dIq 0, dSq [], dIq 0, .d (.sl aC.ks (List.map aC.enc []))]] [] [] fun r13 =>
 cond (!r13) (
  (rI 28)) (
 cond (!p0.Will.Set) (
  (rI 0)) (
 γ58 [dIq p0.Will.Delay, dIq 0, dIq 1099511627776] [] [] fun r14 =>
 cond (!r14) (
  (rI 1)) (
 γ97 [aF.av p0.Will.Message] [] [] fun r15 =>
 (rI r15)))))) (
 cond (!p0.Will.Set) (
 (rI 0)) (
 γ58 [dIq p0.Will.Delay, dIq 0, dIq 1099511627776] [] [] fun r16 =>
 cond (!r16) (
 (rI 1)) (
 γ97 [aF.av p0.Will.Message] [] [] fun r17 =>
 (rI r17))))))))) := by kernel_rfl
end
abbrev X61 : aR := C61 gG (cT 96 brokerref05_SameProps_out) (cT 58 brokerref05_SameProps_out) (cT 92 brokerref05_SameProps_out) (cT 97 brokerref05_Props_out)
theorem aCJ : X61 = aS gG := by unfold X61 C61; repeat rw [bH fun _ h => h]
theorem ajr (p0 : aA) : Le (Option.map brokerref05_Props_out (tQ p0)) (bF SE 61 [aA.av p0] [] []) := by
 refine aZ aCJ rfl ?_
 refine Le.trans ?_ (le_of_eq (T61 ..).symm)
 unfold tQ
 refine lQ eX brokerref05_SameProps_inj (zM _) fun r0 _ => ?_
 refine lC ?_ ?_
 ·exact aG rfl
 ·refine lC ?_ ?_
  ·refine lQ eX brokerref05_SameProps_inj (zM _) fun r1 _ => ?_
   refine lC ?_ ?_
   ·exact aG rfl
   ·refine lQ eX brokerref05_SameProps_inj (gI _ _ _) fun r2 _ => ?_
    refine lC ?_ ?_
    ·exact aG rfl
    ·refine lQ eX brokerref05_SameProps_inj (gI _ _ _) fun r3 _ => ?_
     refine lC ?_ ?_
     ·exact aG rfl
     ·refine lQ eX brokerref05_SameProps_inj (gI _ _ _) fun r4 _ => ?_
      refine lC ?_ ?_
      ·exact aG rfl
      ·refine lC ?_ ?_
       ·refine lC ?_ ?_
        ·exact aG rfl
        ·refine lQ eX brokerref05_SameProps_inj (by (try simp only [EN]); exact wR p0.Will.Message (zMq)) fun r5 _ => ?_
         refine lC ?_ ?_
         ·exact aG rfl
         ·refine lC ?_ ?_
          ·exact aG rfl
          ·refine lQ eX brokerref05_SameProps_inj (gI _ _ _) fun r6 _ => ?_
           refine lC ?_ ?_
           ·exact aG rfl
           ·refine lQ eX brokerref05_Props_inj (rQ _) fun r7 _ => ?_
            exact aG rfl
       ·refine lC ?_ ?_
        ·exact aG rfl
        ·refine lQ eX brokerref05_SameProps_inj (gI _ _ _) fun r8 _ => ?_
         refine lC ?_ ?_
         ·exact aG rfl
         ·refine lQ eX brokerref05_Props_inj (rQ _) fun r9 _ => ?_
          exact aG rfl
  ·refine lQ eX brokerref05_SameProps_inj (gI _ _ _) fun r10 _ => ?_
   refine lC ?_ ?_
   ·exact aG rfl
   ·refine lQ eX brokerref05_SameProps_inj (gI _ _ _) fun r11 _ => ?_
    refine lC ?_ ?_
    ·exact aG rfl
    ·refine lQ eX brokerref05_SameProps_inj (gI _ _ _) fun r12 _ => ?_
     refine lC ?_ ?_
     ·exact aG rfl
     ·refine lC ?_ ?_
      ·refine lC ?_ ?_
       ·exact aG rfl
       ·refine lQ eX brokerref05_SameProps_inj (by (try simp only [EN]); exact wR p0.Will.Message (zMq)) fun r13 _ => ?_
        refine lC ?_ ?_
        ·exact aG rfl
        ·refine lC ?_ ?_
         ·exact aG rfl
         ·refine lQ eX brokerref05_SameProps_inj (gI _ _ _) fun r14 _ => ?_
          refine lC ?_ ?_
          ·exact aG rfl
          ·refine lQ eX brokerref05_Props_inj (rQ _) fun r15 _ => ?_
           exact aG rfl
      ·refine lC ?_ ?_
       ·exact aG rfl
       ·refine lQ eX brokerref05_SameProps_inj (gI _ _ _) fun r16 _ => ?_
        refine lC ?_ ?_
        ·exact aG rfl
        ·refine lQ eX brokerref05_Props_inj (rQ _) fun r17 _ => ?_
         exact aG rfl
section
variable (Γ : Fun) (γ58 : Gm (Bool)) (Λ2 J : Lam)
def C62 : aR := bE (aS Γ) 58 brokerref05_SameProps_out γ58
theorem T62 (p0 : Int) : bK SE (C62 Γ γ58) Λ2 J 62 [dIq p0] [] [] =
 γ58 [dIq p0, dIq 0, dIq 29] [] [] fun r0 =>
 (rB r0) := by kernel_rfl
end
abbrev X62 : aR := C62 gG (cT 58 brokerref05_SameProps_out)
theorem aCT : X62 = aS gG := by unfold X62 C62; rw [bH fun _ h => h]
theorem abq (p0 : Int) : Le (Option.map brokerref05_SameProps_out (tC p0)) (bF SE 62 [dIq p0] [] []) := by
 refine aZ aCT rfl ?_
 refine Le.trans ?_ (le_of_eq (T62 ..).symm)
 unfold tC
 refine lQ eX brokerref05_SameProps_inj (gI _ _ _) fun r0 _ => ?_
 exact aG rfl
section
variable (Γ : Fun) (γ58 : Gm (Bool)) (Λ2 J : Lam)
def C64 : aR := bE (aS Γ) 58 brokerref05_SameProps_out γ58
theorem T64 (p0 : Int) : bK SE (C64 Γ γ58) Λ2 J 64 [dIq p0] [] [] =
 γ58 [dIq p0, dIq 1, dIq 65535] [] [] fun r0 =>
 cond (!r0) (
 (rI 15)) (
 (rI 0)) := by kernel_rfl
end
abbrev X64 : aR := C64 gG (cT 58 brokerref05_SameProps_out)
theorem aC2 : X64 = aS gG := by unfold X64 C64; rw [bH fun _ h => h]
theorem sK (p0 : Int) : Le (Option.map brokerref05_Props_out (mS p0)) (bF SE 64 [dIq p0] [] []) := by
 refine aZ aC2 rfl ?_
 refine Le.trans ?_ (le_of_eq (T64 ..).symm)
 unfold mS
 refine lQ eX brokerref05_SameProps_inj (gI _ _ _) fun r0 _ => ?_
 refine lC ?_ ?_
 ·exact aG rfl
 ·exact aG rfl
section
variable (Γ : Fun) (γ97 γ64 : Gm (Int)) (Λ2 J : Lam)
def C63 : aR := bE (bE (aS Γ) 97 brokerref05_Props_out γ97) 64 brokerref05_Props_out γ64
theorem T63 (p0 : aA) : bK SE (C63 Γ γ97 γ64) Λ2 J 63 [aA.av p0] [] [] =
 γ97 [aF.av p0.Message] [] [] fun r0 =>
 cond (r0 != 0) (
 (rI r0)) (
 cond (p0.Message.Level != 0) (
 γ64 [dIq p0.ID] [] [] fun r1 =>
 (rI r1)) (
 cond (p0.ID != 0) (
 (rI 15)) (
 cond p0.Dup (
 (rI 28)) (
 (rI 0))))) := by kernel_rfl
end
abbrev X63 : aR := C63 gG (cT 97 brokerref05_Props_out) (cT 64 brokerref05_Props_out)
theorem aDe : X63 = aS gG := by unfold X63 C63; repeat rw [bH fun _ h => h]
theorem ajq (p0 : aA) : Le (Option.map brokerref05_Props_out (tR p0)) (bF SE 63 [aA.av p0] [] []) := by
 refine aZ aDe rfl ?_
 refine Le.trans ?_ (le_of_eq (T63 ..).symm)
 unfold tR
 refine lQ eX brokerref05_Props_inj (rQ _) fun r0 _ => ?_
 refine lC ?_ ?_
 ·exact aG rfl
 ·refine lC ?_ ?_
  ·refine lQ eX brokerref05_Props_inj (sK _) fun r1 _ => ?_
   exact aG rfl
  ·refine lC ?_ ?_
   ·exact aG rfl
   ·refine lC ?_ ?_
    ·exact aG rfl
    ·exact aG rfl
section
variable (Γ : Fun) (γ58 : Gm (Bool)) (Λ2 J : Lam)
def C98 : aR := bE (aS Γ) 58 brokerref05_SameProps_out γ58
theorem T98 (p0 p1 : Int) : bK SE (C98 Γ γ58) Λ2 J 98 [dIq p0, dIq p1] [] [] =
 γ58 [dIq p0, dIq 1, dIq 65535] [] [] fun r0 =>
 cond (!r0) (
 (rI 15)) (
 cond (p1 == 0) (
 (rI 1)) (
 cond (decide (p1 > 32)) (
 (rI 5)) (
 (rI 0)))) := by kernel_rfl
end
abbrev X98 : aR := C98 gG (cT 58 brokerref05_SameProps_out)
theorem aDh : X98 = aS gG := by unfold X98 C98; rw [bH fun _ h => h]
theorem yV (p0 p1 : Int) : Le (Option.map brokerref05_Props_out (n8 p0 p1)) (bF SE 98 [dIq p0, dIq p1] [] []) := by
 refine aZ aDh rfl ?_
 refine Le.trans ?_ (le_of_eq (T98 ..).symm)
 unfold n8
 refine lQ eX brokerref05_SameProps_inj (gI _ _ _) fun r0 _ => ?_
 refine lC ?_ ?_
 ·exact aG rfl
 ·refine lC ?_ ?_
  ·exact aG rfl
  ·refine lC ?_ ?_
   ·exact aG rfl
   ·exact aG rfl
section
variable (Γ : Fun)  (Λ2 J : Lam)
def ax5 : aR := aS Γ
theorem aDZ (p0 p1 : Str) : bK SE (ax5 Γ) Λ2 J 131 [dSq p0, dSq p1] [] [] =
 cond (decide ((List.length p0 : Int) ≥ (List.length p1 : Int))) (
 cond (decide (0 ≤ (List.length p1 : Int)) && decide ((List.length p1 : Int) ≤ ((List.length p0) : Int))) (
  (rB ((dI p0 none (some (List.length p1 : Int))) == p1))) none) (
 (rB false)) := by kernel_rfl
end
abbrev aDw : aR := ax5 gG
theorem aBb : aDw = aS gG := rfl
theorem xP (p0 p1 : Str) : Le (Option.map brokerref05_SameProps_out (j8 p0 p1)) (bF SE 131 [dSq p0, dSq p1] [] []) := by
 refine aZ aBb rfl ?_
 refine Le.trans ?_ (le_of_eq (aDZ ..).symm)
 unfold j8
 refine lC ?_ ?_
 ·refine lF ?_
  exact aG rfl
 ·exact aG rfl
section
variable (Γ : Fun) (γ131 : Gm (Bool)) (Λ2 J : Lam)
def atX : aR := bE (aS Γ) 131 brokerref05_SameProps_out γ131
theorem aDg (p0 p1 : Str) : bK SE (atX Γ γ131) Λ2 J 132 [dSq p0, dSq p1] [] [] =
 γ131 [dSq p0, dSq p1] [] [] fun r0 =>
 cond (!r0) (
 (some (.ret [dSq p0, dBq false] [] []))) (
 cond (decide (0 ≤ (List.length p1 : Int)) && decide ((List.length p1 : Int) ≤ ((List.length p0) : Int))) (
 (some (.ret [dSq (dI p0 (some (List.length p1 : Int)) none), dBq true] [] []))) none) := by kernel_rfl
end
abbrev ayZ : aR := atX gG (cT 131 brokerref05_SameProps_out)
theorem aAy : ayZ = aS gG := by unfold ayZ atX; rw [bH fun _ h => h]
theorem ad0 (p0 p1 : Str) : Le (Option.map dU (pC p0 p1)) (bF SE 132 [dSq p0, dSq p1] [] []) := by
 refine aZ aAy rfl ?_
 refine Le.trans ?_ (le_of_eq (aDg ..).symm)
 unfold pC
 refine lQ eX brokerref05_SameProps_inj (xP _ _) fun r0 _ => ?_
 refine lC ?_ ?_
 ·exact aG rfl
 ·refine lF ?_
  exact aG rfl
section
variable (Γ : Fun) (γ132 : Gm (Str × Bool)) (Λ2 J : Lam)
def at0 : aR := bE (aS Γ) 132 dU γ132
theorem aDD (p0 p1 : Str) : bK SE (at0 Γ γ132) Λ2 J 128 [dSq p0, dSq p1] [] [] =
 γ132 [dSq p0, dSq p1] [] [] fun r0 =>
 (some (.ret [dSq r0.1, dBq r0.2] [] [])) := by kernel_rfl
end
abbrev axk : aR := at0 gG (cT 132 dU)
theorem aBE : axk = aS gG := by unfold axk at0; rw [bH fun _ h => h]
theorem ahh (p0 p1 : Str) : Le (Option.map dU (pX p0 p1)) (bF SE 128 [dSq p0, dSq p1] [] []) := by
 refine aZ aBE rfl ?_
 refine Le.trans ?_ (le_of_eq (aDD ..).symm)
 unfold pX
 refine lQ eX wU (ad0 _ _) fun r0 _ => ?_
 exact aG rfl
section
variable (Γ : Fun)  (Λ2 J : Lam)
def ayw : aR := aS Γ
theorem aC6 (p0 : Str) (p1 : Int) : bK SE (ayw Γ) Λ2 J 137 [dSq p0, .d (.int .u8 p1)] [] [] =
 (rI (Lib.indexByte p0 (UInt8.ofNat (Int.toNat p1)) : Int)) := by kernel_rfl
end
abbrev aDv : aR := ayw gG
theorem aBr : aDv = aS gG := rfl
theorem ad8 (p0 : Str) (p1 : Int) : Le (Option.map brokerref05_Props_out (tP p0 p1)) (bF SE 137 [dSq p0, .d (.int .u8 p1)] [] []) := by
 refine aZ aBr rfl ?_
 refine Le.trans ?_ (le_of_eq (aC6 ..).symm)
 unfold tP
 exact aG rfl
section
variable (Γ : Fun) (γ137 : Gm (Int)) (Λ2 J : Lam)
def auJ : aR := bE (aS Γ) 137 brokerref05_Props_out γ137
theorem aEr (p0 p1 : Str) : bK SE (auJ Γ γ137) Λ2 J 135 [dSq p0, dSq p1] [] [] =
 cond ((List.length p1 : Int) == 0) (
 (rI 0)) (
 cond (p1 == p0) (
 (rI 0)) (
 cond ((List.length p1 : Int) == 1) (
 cond (decide (0 ≤ 0) && decide (0 < (List.length p1 : Int))) (
  γ137 [dSq p0, .d (.int .u8 (UInt8.toNat (List.getD p1 (Int.toNat 0) 0) : Int))] [] [] fun r0 =>
  (rI r0)) none) (
 cond (decide ((List.length p1 : Int) ≥ (List.length p0 : Int))) (
 (rI (-1))) none))) := by kernel_rfl
end
abbrev ay8 : aR := auJ gG (cT 137 brokerref05_Props_out)
theorem aCg : ay8 = aS gG := by unfold ay8 auJ; rw [bH fun _ h => h]
theorem aa1 (p0 p1 : Str) : Le (Option.map brokerref05_Props_out (kX p0 p1)) (bF SE 135 [dSq p0, dSq p1] [] []) := by
 refine aZ aCg rfl ?_
 refine Le.trans ?_ (le_of_eq (aEr ..).symm)
 unfold kX
 refine lC ?_ ?_
 ·exact aG rfl
 ·refine lC ?_ ?_
  ·exact aG rfl
  ·refine lC ?_ ?_
   ·refine lF ?_
    refine lQ eX brokerref05_Props_inj (ad8 _ _) fun r0 _ => ?_
    exact aG rfl
   ·refine lF ?_
    exact aG rfl
section
variable (Γ : Fun) (γ135 : Gm (Int)) (Λ2 J : Lam)
def atL : aR := bE (aS Γ) 135 brokerref05_Props_out γ135
theorem aD8 (p0 p1 : Str) : bK SE (atL Γ γ135) Λ2 J 133 [dSq p0, dSq p1] [] [] =
 γ135 [dSq p0, dSq p1] [] [] fun r0 =>
 cond (decide (r0 ≥ 0)) (
 cond (decide (0 ≤ r0) && decide (r0 ≤ ((List.length p0) : Int))) (
  cond (decide (0 ≤ (w6 (r0 + (List.length p1 : Int)))) && decide ((w6 (r0 + (List.length p1 : Int))) ≤ ((List.length p0) : Int))) (
  (some (.ret [dSq (dI p0 none (some r0)), dSq (dI p0 (some (w6 (r0 + (List.length p1 : Int)))) none), dBq true] [] []))) none) none) (
 (some (brokerref01_Shared_out (p0, [], false)))) := by kernel_rfl
end
abbrev axA : aR := atL gG (cT 135 brokerref05_Props_out)
theorem aBj : axA = aS gG := by unfold axA atL; rw [bH fun _ h => h]
theorem aiZ (p0 p1 : Str) : Le (Option.map brokerref01_Shared_out (wT p0 p1)) (bF SE 133 [dSq p0, dSq p1] [] []) := by
 refine aZ aBj rfl ?_
 refine Le.trans ?_ (le_of_eq (aD8 ..).symm)
 unfold wT
 refine lQ eX brokerref05_Props_inj (aa1 _ _) fun r0 _ => ?_
 refine lC ?_ ?_
 ·refine lF ?_
  refine lF ?_
  exact aG rfl
 ·exact aG rfl
section
variable (Γ : Fun) (γ133 : Gm (Str × Str × Bool)) (Λ2 J : Lam)
def at6 : aR := bE (aS Γ) 133 brokerref01_Shared_out γ133
theorem aEh (p0 p1 : Str) : bK SE (at6 Γ γ133) Λ2 J 129 [dSq p0, dSq p1] [] [] =
 γ133 [dSq p0, dSq p1] [] [] fun r0 =>
 (some (brokerref01_Shared_out (r0.1, r0.2.1, r0.2.2))) := by kernel_rfl
end
abbrev axy : aR := at6 gG (cT 133 brokerref01_Shared_out)
theorem aBH : axy = aS gG := by unfold axy at6; rw [bH fun _ h => h]
theorem amv (p0 p1 : Str) : Le (Option.map brokerref01_Shared_out (zB p0 p1)) (bF SE 129 [dSq p0, dSq p1] [] []) := by
 refine aZ aBH rfl ?_
 refine Le.trans ?_ (le_of_eq (aEh ..).symm)
 unfold zB
 refine lQ eX brokerref01_Shared_inj (aiZ _ _) fun r0 _ => ?_
 exact aG rfl
section
variable (Γ : Fun) (γ135 : Gm (Int)) (Λ2 J : Lam)
def auC : aR := bE (aS Γ) 135 brokerref05_Props_out γ135
theorem aDI (p0 p1 : Str) : bK SE (auC Γ γ135) Λ2 J 143 [dSq p0, dSq p1] [] [] =
 γ135 [dSq p0, dSq p1] [] [] fun r0 =>
 (rI r0) := by kernel_rfl
end
abbrev ayS : aR := auC gG (cT 135 brokerref05_Props_out)
theorem azU : ayS = aS gG := by unfold ayS auC; rw [bH fun _ h => h]
theorem adT (p0 p1 : Str) : Le (Option.map brokerref05_Props_out (nQ p0 p1)) (bF SE 143 [dSq p0, dSq p1] [] []) := by
 refine aZ azU rfl ?_
 refine Le.trans ?_ (le_of_eq (aDI ..).symm)
 unfold nQ
 refine lQ eX brokerref05_Props_inj (aa1 _ _) fun r0 _ => ?_
 exact aG rfl
def aph (C : aR) (Λ2 J : Lam) (a0 a1 : Str) (a2 : Int) : Res := lab SE C Λ2 J 142 0 [1, 1, 1, 1, 0] (bA [(0, dSq a0), (1, dSq a1), (5, dIq a2)] [] [] [] [])
section
variable (Γ : Fun) (γ143 : Gm (Int)) (Λ2 J : Lam)
def al1 : aR := bE (aS Γ) 143 brokerref05_Props_out γ143
theorem aCX (p0 p1 : Str) : bK SE (al1 Γ γ143) Λ2 J 142 [dSq p0, dSq p1] [] [] =
 cond ((List.length p1 : Int) == 0) (
 none) (
 cond ((List.length p1 : Int) == 1) (
 cond (decide (0 ≤ 0) && decide (0 < (List.length p1 : Int))) (
  (rI (Lib.countByte p0 (UInt8.ofNat (Int.toNat (UInt8.toNat (List.getD p1 (Int.toNat 0) 0) : Int))) : Int))) none) (
 aph (al1 Γ γ143) Λ2 J p0 p1 0)) := by kernel_rfl
theorem ayy (x0 x1 : Str) (x5 : Int) : cJ SE (al1 Γ γ143) Λ2 J 142 0 [1, 1, 1, 1, 0] (bA [(0, dSq x0), (1, dSq x1), (5, dIq x5)] [] [] [] []) =
 γ143 [dSq x0, dSq x1] [] [] fun r0 =>
 cond (r0 == (-1)) (
 (rI x5)) (
 cond (decide (0 ≤ (w6 (r0 + (List.length x1 : Int)))) && decide ((w6 (r0 + (List.length x1 : Int))) ≤ ((List.length x0) : Int))) (
 aph (al1 Γ γ143) Λ2 J (dI x0 (some (w6 (r0 + (List.length x1 : Int)))) none) x1 (w6 (x5 + 1))) none) := by kernel_rfl
end
abbrev arc : aR := al1 gG (cT 143 brokerref05_Props_out)
theorem avM : arc = aS gG := by unfold arc al1; rw [bH fun _ h => h]
abbrev axX := aph arc (cB SE gG (SE.hl 142) (SE.hr 142)) (J0 SE arc)
theorem ahI : ∀ (fu : Nat) (x0 x1 : Str) (x5 : Int), Le (Option.map brokerref05_Props_out (uU fu x0 x1 x5)) (axX x0 x1 x5) := by
 intro fu
 induction fu with
 | zero => intros; exact le_none
 | succ fu ih =>
  intro x0 x1 x5
  refine Le.trans ?_ (le_of_eq ((bD avM).trans (ayy ..)).symm)
  unfold uU
  refine lQ eX brokerref05_Props_inj (adT _ _) fun r0 _ => ?_
  refine lC ?_ ?_
  ·exact aG rfl
  ·refine lF ?_
   exact ih (dI x0 (some (w6 (r0 + (List.length x1 : Int)))) none) x1 (w6 (x5 + 1))
theorem akA (p0 p1 : Str) : Le (Option.map brokerref05_Props_out (vV p0 p1)) (bF SE 142 [dSq p0, dSq p1] [] []) := by
 refine aZ avM rfl ?_
 refine Le.trans ?_ (le_of_eq (aCX ..).symm)
 unfold vV
 refine lC ?_ ?_
 ·exact le_none
 ·refine lC ?_ ?_
  ·refine lF ?_
   exact aG rfl
  ·exact ahI fuel p0 p1 0
def amp (C : aR) (Λ2 J : Lam) (a0 : Str) (a1 : Int) (a2 : List (List D)) : Res := lab SE C Λ2 J 136 0 [1, 1, 1, 1, 1, 1, 1, 1, 1, 0] (bA [(0, dSq a0), (9, .row 3009), (10, dIq a1)] [] [] [] [(3009, ⟨[.str], 9, 16, a2⟩)])
def amj (C : aR) (Λ2 J : Lam) (a0 a1 : Str) (a2 a3 a4 : Int) (a5 : List (List D)) : Res := lab SE C Λ2 J 136 0 [1, 1, 1, 1, 1, 1, 1, 1, 0, 0] (bA [(0, dSq a0), (1, dSq a1), (2, dIq a2), (3, dIq a3), (9, .row 3009), (10, dIq a4)] [] [] [] [(3009, ⟨[.str], 9, 16, a5⟩)])
def aor (C : aR) (Λ2 J : Lam) (a0 a1 : Str) (a2 a3 : Int) : Res := lab SE C Λ2 J 136 0 [1, 1, 1, 1, 0] (bA [(0, dSq a0), (1, dSq a1), (2, dIq a2), (3, dIq a3)] [] [] [] [])
section
variable (Γ : Fun) (γ142 γ143 : Gm (Int)) (Λ2 J : Lam)
def aci : aR := bE (bE (aS Γ) 142 brokerref05_Props_out γ142) 143 brokerref05_Props_out γ143
theorem aEi (p0 p1 : Str) (p2 p3 : Int) : bK SE (aci Γ γ142 γ143) Λ2 J 136 [dSq p0, dSq p1, dIq p2, dIq p3] [] [] =
 cond (p3 == 0) (
 (some (.ret [.d (.sl [.str] (List.map aY []))] [] []))) (
 cond (p1 == ([] : Str)) (
 none) (
 cond (decide (p3 < 0)) (
 γ142 [dSq p0, dSq p1] [] [] fun r0 =>
 aor (aci Γ γ142 γ143) Λ2 J p0 p1 p2 (w6 (r0 + 1))) (
 aor (aci Γ γ142 γ143) Λ2 J p0 p1 p2 p3))) := by kernel_rfl
theorem awk (x0 : Str) (x10 : Int) (w3009 : List Str) : cJ SE (aci Γ γ142 γ143) Λ2 J 136 0 [1, 1, 1, 1, 1, 1, 1, 1, 1, 0] (bA [(0, dSq x0), (9, .row 3009), (10, dIq x10)] [] [] [] [(3009, ⟨[.str], 9, 16, (List.map aY w3009)⟩)]) =
 cond (iB x10 (lM aY w3009 : Int)) (
 cond (decide (0 ≤ (w6 (x10 + 1))) && decide ((w6 (x10 + 1)) ≤ ((List.length (w8 (List.map aY w3009) (Int.toNat x10) 0 [D.str x0])) : Int))) (
  (some (.ret [.d (.sl [.str] (List.take ((Int.toNat (w6 (x10 + 1))) - 0) (List.drop 0 (w8 (List.map aY w3009) (Int.toNat x10) 0 [D.str x0]))))] [] []))) none) none := by kernel_rfl
theorem awj (x0 x1 : Str) (x2 x3 x10 : Int) (w3009 : List Str) : cJ SE (aci Γ γ142 γ143) Λ2 J 136 0 [1, 1, 1, 1, 1, 1, 1, 1, 0, 0] (bA [(0, dSq x0), (1, dSq x1), (2, dIq x2), (3, dIq x3), (9, .row 3009), (10, dIq x10)] [] [] [] [(3009, ⟨[.str], 9, 16, (List.map aY w3009)⟩)]) =
 cond (decide (x10 < x3)) (
 γ143 [dSq x0, dSq x1] [] [] fun r1 =>
 cond (decide (r1 < 0)) (
  amp (aci Γ γ142 γ143) Λ2 J x0 x10 (List.map aY w3009)) (
 cond (decide (0 ≤ (w6 (r1 + x2))) && decide ((w6 (r1 + x2)) ≤ ((List.length x0) : Int))) (
  cond (iB x10 (lM aY w3009 : Int)) (
  cond (decide (0 ≤ (w6 (r1 + (List.length x1 : Int)))) && decide ((w6 (r1 + (List.length x1 : Int))) ≤ ((List.length x0) : Int))) (
   amj (aci Γ γ142 γ143) Λ2 J (dI x0 (some (w6 (r1 + (List.length x1 : Int)))) none) x1 x2 x3 (w6 (x10 + 1)) ((w8 (List.map aY w3009) (Int.toNat x10) 0 [D.str (dI x0 none (some (w6 (r1 + x2))))]))) none) none) none)) (
 amp (aci Γ γ142 γ143) Λ2 J x0 x10 (List.map aY w3009)) := by kernel_rfl
theorem ay2 (x0 x1 : Str) (x2 x3 : Int) : cJ SE (aci Γ γ142 γ143) Λ2 J 136 0 [1, 1, 1, 1, 0] (bA [(0, dSq x0), (1, dSq x1), (2, dIq x2), (3, dIq x3)] [] [] [] []) =
 cond (decide (0 ≤ (if (w6 ((List.length x0 : Int) + 1)) < x3 then (w6 ((List.length x0 : Int) + 1)) else x3)) && decide ((if (w6 ((List.length x0 : Int) + 1)) < x3 then (w6 ((List.length x0 : Int) + 1)) else x3) ≤ (if (w6 ((List.length x0 : Int) + 1)) < x3 then (w6 ((List.length x0 : Int) + 1)) else x3)) && decide ((if (w6 ((List.length x0 : Int) + 1)) < x3 then (w6 ((List.length x0 : Int) + 1)) else x3) * 16 ≤ 281474976710656)) (
 amj (aci Γ γ142 γ143) Λ2 J x0 x1 x2 ((w6 ((if (w6 ((List.length x0 : Int) + 1)) < x3 then (w6 ((List.length x0 : Int) + 1)) else x3) - 1))) 0 ((List.replicate (Int.toNat (if (w6 ((List.length x0 : Int) + 1)) < x3 then (w6 ((List.length x0 : Int) + 1)) else x3)) [D.str []]))) none := by kernel_rfl
end
abbrev ah3 : aR := aci gG (cT 142 brokerref05_Props_out) (cT 143 brokerref05_Props_out)
theorem anT : ah3 = aS gG := by unfold ah3 aci; repeat rw [bH fun _ h => h]
abbrev awa := amp ah3 (cB SE gG (SE.hl 136) (SE.hr 136)) (J0 SE ah3)
abbrev awK := amj ah3 (cB SE gG (SE.hl 136) (SE.hr 136)) (J0 SE ah3)
abbrev aw3 := aor ah3 (cB SE gG (SE.hl 136) (SE.hr 136)) (J0 SE ah3)
theorem yP (x0 : Str) (x10 : Int) (w3009 : List Str) : Le (Option.map cQ (nE x0 x10 w3009)) (awa x0 x10 (List.map aY w3009)) := by
 refine Le.trans ?_ (le_of_eq ((bD anT).trans (awk ..)).symm)
 unfold nE
 refine lGe ?_
 refine lGe ?_
 exact aG (by first | rfl | simp only [EN, cQ] <;> rfl)
theorem aeq : ∀ (fu : Nat) (x0 x1 : Str) (x2 x3 x10 : Int) (w3009 : List Str), Le (Option.map cQ (jF fu x0 x1 x2 x3 x10 w3009)) (awK x0 x1 x2 x3 x10 (List.map aY w3009)) := by
 intro fu
 induction fu with
 | zero => intros; exact le_none
 | succ fu ih =>
  intro x0 x1 x2 x3 x10 w3009
  refine Le.trans ?_ (le_of_eq ((bD anT).trans (awj ..)).symm)
  unfold jF
  refine lC ?_ ?_
  ·refine lQ eX brokerref05_Props_inj (adT _ _) fun r1 _ => ?_
   refine lC ?_ ?_
   ·exact yP x0 x10 w3009
   ·refine lF ?_
    refine lGe ?_
    refine lF ?_
    (try simp only [EN]); exact ih (dI x0 (some (w6 (r1 + (List.length x1 : Int)))) none) x1 x2 x3 (w6 (x10 + 1)) ((List.set w3009 (Int.toNat x10) (dI x0 none (some (w6 (r1 + x2))))))
  ·exact yP x0 x10 w3009
theorem zI (x0 x1 : Str) (x2 x3 : Int) : Le (Option.map cQ (nY x0 x1 x2 x3)) (aw3 x0 x1 x2 x3) := by
 refine Le.trans ?_ (le_of_eq ((bD anT).trans (ay2 ..)).symm)
 unfold nY
 refine lF ?_
 (try simp only [EN]); exact aeq fuel x0 x1 x2 ((w6 ((if (w6 ((List.length x0 : Int) + 1)) < x3 then (w6 ((List.length x0 : Int) + 1)) else x3) - 1))) 0 ((List.replicate (Int.toNat (if (w6 ((List.length x0 : Int) + 1)) < x3 then (w6 ((List.length x0 : Int) + 1)) else x3)) (default : Str)))
theorem ahB (p0 p1 : Str) (p2 p3 : Int) : Le (Option.map cQ (vE p0 p1 p2 p3)) (bF SE 136 [dSq p0, dSq p1, dIq p2, dIq p3] [] []) := by
 refine aZ anT rfl ?_
 refine Le.trans ?_ (le_of_eq (aEi ..).symm)
 unfold vE
 refine lC ?_ ?_
 ·exact aG rfl
 ·refine lC ?_ ?_
  ·exact le_none
  ·refine lC ?_ ?_
   ·refine lQ eX brokerref05_Props_inj (akA _ _) fun r0 _ => ?_
    exact zI p0 p1 p2 (w6 (r0 + 1))
   ·exact zI p0 p1 p2 p3
section
variable (Γ : Fun) (γ136 : Gm ((List Str))) (Λ2 J : Lam)
def au8 : aR := bE (aS Γ) 136 cQ γ136
theorem aDM (p0 p1 : Str) : bK SE (au8 Γ γ136) Λ2 J 134 [dSq p0, dSq p1] [] [] =
 γ136 [dSq p0, dSq p1, dIq 0, dIq (-1)] [] [] fun r0 =>
 (some (cQ r0)) := by kernel_rfl
end
abbrev azt : aR := au8 gG (cT 136 cQ)
theorem aAf : azt = aS gG := by unfold azt au8; rw [bH fun _ h => h]
theorem ako (p0 p1 : Str) : Le (Option.map cQ (vQ p0 p1)) (bF SE 134 [dSq p0, dSq p1] [] []) := by
 refine aZ aAf rfl ?_
 refine Le.trans ?_ (le_of_eq (aDM ..).symm)
 unfold vQ
 refine lQ eX uY (ahB _ _ _ _) fun r0 _ => ?_
 exact aG rfl
section
variable (Γ : Fun) (γ134 : Gm ((List Str))) (Λ2 J : Lam)
def auH : aR := bE (aS Γ) 134 cQ γ134
theorem aDO (p0 : Str) : bK SE (auH Γ γ134) Λ2 J 130 [dSq p0] [] [] =
 γ134 [dSq p0, dSq ([47] : Str)] [] [] fun r0 =>
 (some (cQ r0)) := by kernel_rfl
end
abbrev ayE : aR := auH gG (cT 134 cQ)
theorem aAU : ayE = aS gG := by unfold ayE auH; rw [bH fun _ h => h]
theorem alW (p0 : Str) : Le (Option.map cQ (wZ p0)) (bF SE 130 [dSq p0] [] []) := by
 refine aZ aAU rfl ?_
 refine Le.trans ?_ (le_of_eq (aDO ..).symm)
 unfold wZ
 refine lQ eX uY (ako _ _) fun r0 _ => ?_
 exact aG rfl
def ago (C : aR) (Λ2 J : Lam) (a0 : List (List D)) (a1 : Bool) (a2 : Int) (a3 : Str) (a4 : List (List D)) (a5 a6 : Int) (a7 : Str) (a8 : Nat) : Res := lab SE C Λ2 J 119 0 [1, 0, 1, 1, 1, 1, 0, 1, 0, 0, 1, 1, 0, 0, 1, 1, 0] (bA [(3, .d (.sl [.str] a0)), (4, dBq a1), (5, dIq a2), (6, dSq a3), (15, .d (.sl [.str] a4)), (16, dIq a5), (17, dIq a6), (23, .it 4000)] [] [] [(4000, (a7, a8))] [])
def aox (C : aR) (Λ2 J : Lam) (a0 : List (List D)) (a1 : Bool) (a2 : List (List D)) (a3 a4 : Int) : Res := lab SE C Λ2 J 119 0 [1, 0, 1, 1, 1, 1, 0, 1, 0] (bA [(3, .d (.sl [.str] a0)), (4, dBq a1), (15, .d (.sl [.str] a2)), (16, dIq a3), (17, dIq a4)] [] [] [] [])
section
variable (Γ : Fun) (γ126 : Gm (Bool)) (γ130 : Gm ((List Str))) (Λ2 J : Lam)
def acp : aR := bE (bE (aS Γ) 126 brokerref05_SameProps_out γ126) 130 cQ γ130
theorem aDz (p0 : Str) : bK SE (acp Γ γ126 γ130) Λ2 J 119 [dSq p0] [] [] =
 γ126 [dSq p0] [] [] fun r0 =>
 cond (!r0) (
 (rB false)) (
 γ130 [dSq p0] [] [] fun r1 =>
 aox (acp Γ γ126 γ130) Λ2 J (List.map aY r1) true (List.map aY r1) (lM aY r1 : Int) 0) := by kernel_rfl
theorem axg (x3 : List Str) (x4 : Bool) (x5 : Int) (x6 : Str) (x15 : List Str) (x16 x17 : Int) (s4000 : Str) (i4000 : Nat) : cJ SE (acp Γ γ126 γ130) Λ2 J 119 0 [1, 0, 1, 1, 1, 1, 0, 1, 0, 0, 1, 1, 0, 0, 1, 1, 0] (bA [(3, .d (.sl [.str] (List.map aY x3))), (4, dBq x4), (5, dIq x5), (6, dSq x6), (15, .d (.sl [.str] (List.map aY x15))), (16, dIq x16), (17, dIq x17), (23, .it 4000)] [] [] [(4000, (s4000, i4000))] []) =
 cond (decide (i4000 < List.length s4000)) (
 cond (((dec s4000 i4000).1 : Int) == 43) (
  cond (!((List.length x6 : Int) == 1)) (
  (rB false)) (
  cond (((dec s4000 i4000).1 : Int) == 35) (
  cond (!((List.length x6 : Int) == 1)) (
   (rB false)) (
  cond (decide (x5 < (w6 ((lM aY x3 : Int) - 1)))) (
   (rB false)) (
  ago (acp Γ γ126 γ130) Λ2 J (List.map aY x3) x4 x5 x6 (List.map aY x15) x16 x17 s4000 (i4000 + (dec s4000 i4000).2)))) (
  ago (acp Γ γ126 γ130) Λ2 J (List.map aY x3) x4 x5 x6 (List.map aY x15) x16 x17 s4000 (i4000 + (dec s4000 i4000).2)))) (
 cond (((dec s4000 i4000).1 : Int) == 35) (
  cond (!((List.length x6 : Int) == 1)) (
  (rB false)) (
  cond (decide (x5 < (w6 ((lM aY x3 : Int) - 1)))) (
  (rB false)) (
  ago (acp Γ γ126 γ130) Λ2 J (List.map aY x3) x4 x5 x6 (List.map aY x15) x16 x17 s4000 (i4000 + (dec s4000 i4000).2)))) (
 ago (acp Γ γ126 γ130) Λ2 J (List.map aY x3) x4 x5 x6 (List.map aY x15) x16 x17 s4000 (i4000 + (dec s4000 i4000).2)))) (
 aox (acp Γ γ126 γ130) Λ2 J (List.map aY x3) x4 (List.map aY x15) x16 (w6 (x17 + 1))) := by kernel_rfl
theorem ay0 (x3 : List Str) (x4 : Bool) (x15 : List Str) (x16 x17 : Int) : cJ SE (acp Γ γ126 γ130) Λ2 J 119 0 [1, 0, 1, 1, 1, 1, 0, 1, 0] (bA [(3, .d (.sl [.str] (List.map aY x3))), (4, dBq x4), (15, .d (.sl [.str] (List.map aY x15))), (16, dIq x16), (17, dIq x17)] [] [] [] []) =
 cond (decide (x17 < x16)) (
 cond (iB x17 (lM aY x15 : Int)) (
  ago (acp Γ γ126 γ130) Λ2 J (List.map aY x3) x4 x17 ((bJ (cE aY x15 x17 0))) (List.map aY x15) x16 x17 ((bJ (cE aY x15 x17 0))) 0) none) (
 (rB x4)) := by kernel_rfl
end
abbrev amH : aR := acp gG (cT 126 brokerref05_SameProps_out) (cT 130 cQ)
theorem aqO : amH = aS gG := by unfold amH acp; repeat rw [bH fun _ h => h]
abbrev azg := ago amH (cB SE gG (SE.hl 119) (SE.hr 119)) (J0 SE amH)
abbrev as4 := aox amH (cB SE gG (SE.hl 119) (SE.hr 119)) (J0 SE amH)
theorem aiQ : ∀ (fu : Nat) (k6 : (List Str) → Bool → (List Str) → Int → Int → Option (Bool)) (hk6 : ∀ (x3 : List Str) (x4 : Bool) (x15 : List Str) (x16 x17 : Int), Le (Option.map brokerref05_SameProps_out (k6 x3 x4 x15 x16 x17)) (as4 (List.map aY x3) x4 (List.map aY x15) x16 x17)) (x3 : List Str) (x4 : Bool) (x5 : Int) (x6 : Str) (x15 : List Str) (x16 x17 : Int) (s4000 : Str) (i4000 : Nat), Le (Option.map brokerref05_SameProps_out (iE fu k6 x3 x4 x5 x6 x15 x16 x17 s4000 i4000)) (azg (List.map aY x3) x4 x5 x6 (List.map aY x15) x16 x17 s4000 i4000) := by
 intro fu
 induction fu with
 | zero => intros; exact le_none
 | succ fu ih =>
  intro k6 hk6 x3 x4 x5 x6 x15 x16 x17 s4000 i4000
  refine Le.trans ?_ (le_of_eq ((bD aqO).trans (axg ..)).symm)
  unfold iE
  refine lC ?_ ?_
  ·refine lC ?_ ?_
   ·refine lC ?_ ?_
    ·exact aG rfl
    ·refine lC ?_ ?_
     ·refine lC ?_ ?_
      ·exact aG rfl
      ·refine lDe ?_ ?_
       ·exact aG rfl
       ·exact ih _ hk6 x3 x4 x5 x6 x15 x16 x17 s4000 (i4000 + (dec s4000 i4000).2)
     ·exact ih _ hk6 x3 x4 x5 x6 x15 x16 x17 s4000 (i4000 + (dec s4000 i4000).2)
   ·refine lC ?_ ?_
    ·refine lC ?_ ?_
     ·exact aG rfl
     ·refine lDe ?_ ?_
      ·exact aG rfl
      ·exact ih _ hk6 x3 x4 x5 x6 x15 x16 x17 s4000 (i4000 + (dec s4000 i4000).2)
    ·exact ih _ hk6 x3 x4 x5 x6 x15 x16 x17 s4000 (i4000 + (dec s4000 i4000).2)
  ·exact hk6 x3 x4 x15 x16 (w6 (x17 + 1))
theorem ah1 : ∀ (fu : Nat) (x3 : List Str) (x4 : Bool) (x15 : List Str) (x16 x17 : Int), Le (Option.map brokerref05_SameProps_out (m8 fu x3 x4 x15 x16 x17)) (as4 (List.map aY x3) x4 (List.map aY x15) x16 x17) := by
 intro fu
 induction fu with
 | zero => intros; exact le_none
 | succ fu ih =>
  intro x3 x4 x15 x16 x17
  refine Le.trans ?_ (le_of_eq ((bD aqO).trans (ay0 ..)).symm)
  unfold m8
  refine lC ?_ ?_
  ·refine lGe ?_
   (try simp only [EN]); exact aiQ fuel _ (ih) x3 x4 x17 (List.getD x15 (Int.toNat x17) default) x15 x16 x17 (List.getD x15 (Int.toNat x17) default) 0
  ·exact aG rfl
theorem afc (p0 : Str) : Le (Option.map brokerref05_SameProps_out (uF p0)) (bF SE 119 [dSq p0] [] []) := by
 refine aZ aqO rfl ?_
 refine Le.trans ?_ (le_of_eq (aDz ..).symm)
 unfold uF
 refine lQ eX brokerref05_SameProps_inj (ags _) fun r0 _ => ?_
 refine lC ?_ ?_
 ·exact aG rfl
 ·refine lQ eX uY (alW _) fun r1 _ => ?_
  (try simp only [EN]); exact ah1 fuel r1 true r1 (List.length r1 : Int) 0
section
variable (Γ : Fun) (γ131 : Gm (Bool)) (Λ2 J : Lam)
def avd : aR := bE (aS Γ) 131 brokerref05_SameProps_out γ131
theorem aCB (p0 p1 : Str) : bK SE (avd Γ γ131) Λ2 J 120 [dSq p0, dSq p1] [] [] =
 γ131 [dSq p0, dSq p1] [] [] fun r0 =>
 (rB r0) := by kernel_rfl
end
abbrev aw4 : aR := avd gG (cT 131 brokerref05_SameProps_out)
theorem aBI : aw4 = aS gG := by unfold aw4 avd; rw [bH fun _ h => h]
theorem aaZ (p0 p1 : Str) : Le (Option.map brokerref05_SameProps_out (nN p0 p1)) (bF SE 120 [dSq p0, dSq p1] [] []) := by
 refine aZ aBI rfl ?_
 refine Le.trans ?_ (le_of_eq (aCB ..).symm)
 unfold nN
 refine lQ eX brokerref05_SameProps_inj (xP _ _) fun r0 _ => ?_
 exact aG rfl
section
variable (Γ : Fun) (γ128 : Gm (Str × Bool)) (γ129 : Gm (Str × Str × Bool)) (γ96 γ119 γ120 : Gm (Bool)) (Λ2 J : Lam)
def auV : aR := bE (bE (bE (bE (bE (aS Γ) 128 dU γ128) 129 brokerref01_Shared_out γ129) 96 brokerref05_SameProps_out γ96) 119 brokerref05_SameProps_out γ119) 120 brokerref05_SameProps_out γ120
theorem aEd (p0 : Str) : bK SE (auV Γ γ128 γ129 γ96 γ119 γ120) Λ2 J 118 [dSq p0] [] [] =
 γ128 [dSq p0, dSq ([36, 115, 104, 97, 114, 101, 47] : Str)] [] [] fun r0 =>
 cond (!r0.2) (
 (some (brokerref01_Shared_out (([], [], false))))) (
 γ129 [dSq r0.1, dSq ([47] : Str)] [] [] fun r1 =>
 cond (!r1.2.2) (
 (some (brokerref01_Shared_out (([], [], false))))) (
 γ96 [dSq r1.1] [] [] fun r2 =>
 cond (!r2) (
 (some (brokerref01_Shared_out (([], [], false))))) (
 γ119 [dSq r1.2.1] [] [] fun r3 =>
 cond (!r3) (
 (some (brokerref01_Shared_out (([], [], false))))) (
 γ120 [dSq r1.2.1, dSq ([36, 115, 104, 97, 114, 101, 47] : Str)] [] [] fun r4 =>
 cond r4 (
 (some (brokerref01_Shared_out (([], [], false))))) (
 (some (brokerref01_Shared_out (r1.1, r1.2.1, true)))))))) := by kernel_rfl
end
abbrev ayg : aR := auV gG (cT 128 dU) (cT 129 brokerref01_Shared_out) (cT 96 brokerref05_SameProps_out) (cT 119 brokerref05_SameProps_out) (cT 120 brokerref05_SameProps_out)
theorem aAq : ayg = aS gG := by unfold ayg auV; repeat rw [bH fun _ h => h]
theorem aln (p0 : Str) : Le (Option.map brokerref01_Shared_out (xB p0)) (bF SE 118 [dSq p0] [] []) := by
 refine aZ aAq rfl ?_
 refine Le.trans ?_ (le_of_eq (aEd ..).symm)
 unfold xB
 refine lQ eX wU (ahh _ _) fun r0 _ => ?_
 refine lC ?_ ?_
 ·exact aG rfl
 ·refine lQ eX brokerref01_Shared_inj (amv _ _) fun r1 _ => ?_
  refine lC ?_ ?_
  ·exact aG rfl
  ·refine lQ eX brokerref05_SameProps_inj (zM _) fun r2 _ => ?_
   refine lC ?_ ?_
   ·exact aG rfl
   ·refine lQ eX brokerref05_SameProps_inj (afc _) fun r3 _ => ?_
    refine lC ?_ ?_
    ·exact aG rfl
    ·refine lQ eX brokerref05_SameProps_inj (aaZ _ _) fun r4 _ => ?_
     refine lC ?_ ?_
     ·exact aG rfl
     ·exact aG rfl
section
variable (Γ : Fun) (γ118 : Gm (Str × Str × Bool)) (γ119 γ120 : Gm (Bool)) (Λ2 J : Lam)
def C99 : aR := bE (bE (bE (aS Γ) 118 brokerref01_Shared_out γ118) 119 brokerref05_SameProps_out γ119) 120 brokerref05_SameProps_out γ120
theorem T99 (p0 : Str) : bK SE (C99 Γ γ118 γ119 γ120) Λ2 J 99 [dSq p0] [] [] =
 γ118 [dSq p0] [] [] fun r0 =>
 cond r0.2.2 (
 (some (.ret [dBq true, dBq true] [] []))) (
 γ119 [dSq p0] [] [] fun r1 =>
 cond r1 (
 γ120 [dSq p0, dSq ([36, 115, 104, 97, 114, 101, 47] : Str)] [] [] fun r2 =>
 (some (.ret [dBq (!r2), dBq false] [] []))) (
 (some (.ret [dBq false, dBq false] [] [])))) := by kernel_rfl
end
abbrev X99 : aR := C99 gG (cT 118 brokerref01_Shared_out) (cT 119 brokerref05_SameProps_out) (cT 120 brokerref05_SameProps_out)
theorem aDu : X99 = aS gG := by unfold X99 C99; repeat rw [bH fun _ h => h]
theorem adC (p0 : Str) : Le (Option.map jR (sE p0)) (bF SE 99 [dSq p0] [] []) := by
 refine aZ aDu rfl ?_
 refine Le.trans ?_ (le_of_eq (T99 ..).symm)
 unfold sE
 refine lQ eX brokerref01_Shared_inj (aln _) fun r0 _ => ?_
 refine lC ?_ ?_
 ·exact aG rfl
 ·refine lQ eX brokerref05_SameProps_inj (afc _) fun r1 _ => ?_
  refine lC ?_ ?_
  ·refine lQ eX brokerref05_SameProps_inj (aaZ _ _) fun r2 _ => ?_
   exact aG rfl
  ·exact aG rfl
def anX (C : aR) (Λ2 J : Lam) (a0 : List (List D)) (a1 a2 : Int) : Res := lab SE C Λ2 J 65 0 [1, 1, 0, 1, 0] (bA [(18, .d (.sl aH.ks a0)), (19, dIq a1), (20, dIq a2)] [] [] [] [])
section
variable (Γ : Fun) (γ98 : Gm (Int)) (γ99 : Gm (Bool × Bool)) (γ58 : Gm (Bool)) (Λ2 J : Lam)
def C65 : aR := bE (bE (bE (aS Γ) 98 brokerref05_Props_out γ98) 99 jR γ99) 58 brokerref05_SameProps_out γ58
theorem T65 (p0 : aA) : bK SE (C65 Γ γ98 γ99 γ58) Λ2 J 65 [aA.av p0] [] [] =
 γ98 [dIq p0.ID, dIq (lM aH.enc p0.Subs : Int)] [] [] fun r0 =>
 cond (r0 != 0) (
 (rI r0)) (
 anX (C65 Γ γ98 γ99 γ58) Λ2 J (List.map aH.enc p0.Subs) (lM aH.enc p0.Subs : Int) 0) := by kernel_rfl
theorem aB0 (x18 : List aH) (x19 x20 : Int) : cJ SE (C65 Γ γ98 γ99 γ58) Λ2 J 65 0 [1, 1, 0, 1, 0] (bA [(18, .d (.sl aH.ks (List.map aH.enc x18))), (19, dIq x19), (20, dIq x20)] [] [] [] []) =
 cond (decide (x20 < x19)) (
 cond (iB x20 (lM aH.enc x18 : Int)) (
  γ99 [dSq (bJ (cE aH.enc x18 x20 0))] [] [] fun r1 =>
  cond (!r1.1) (
  (rI 13)) (
  γ58 [dIq (aX (cE aH.enc x18 x20 1)), dIq 0, dIq 2] [] [] fun r2 =>
  cond (!r2) (
  (rI 14)) (
  cond (bT (cE aH.enc x18 x20 2)) (
  cond r1.2 (
   (rI 28)) (
  anX (C65 Γ γ98 γ99 γ58) Λ2 J (List.map aH.enc x18) x19 (w6 (x20 + 1)))) (
  anX (C65 Γ γ98 γ99 γ58) Λ2 J (List.map aH.enc x18) x19 (w6 (x20 + 1)))))) none) (
 (rI 0)) := by kernel_rfl
end
abbrev X65 : aR := C65 gG (cT 98 brokerref05_Props_out) (cT 99 jR) (cT 58 brokerref05_SameProps_out)
theorem ax8 : X65 = aS gG := by unfold X65 C65; repeat rw [bH fun _ h => h]
abbrev azZ := anX X65 (cB SE gG (SE.hl 65) (SE.hr 65)) (J0 SE X65)
theorem afG : ∀ (fu : Nat) (x18 : List aH) (x19 x20 : Int), Le (Option.map brokerref05_Props_out (gL fu x18 x19 x20)) (azZ (List.map aH.enc x18) x19 x20) := by
 intro fu
 induction fu with
 | zero => intros; exact le_none
 | succ fu ih =>
  intro x18 x19 x20
  refine Le.trans ?_ (le_of_eq ((bD ax8).trans (aB0 ..)).symm)
  unfold gL
  refine lC ?_ ?_
  ·refine lGe ?_
   refine lQ eX acD (by (try simp only [EN]); exact adC ((List.getD x18 (Int.toNat x20) default).Filter)) fun r1 _ => ?_
   refine lC ?_ ?_
   ·exact aG rfl
   ·refine lQ eX brokerref05_SameProps_inj (by (try simp only [EN]); exact gI ((List.getD x18 (Int.toNat x20) default).Level) 0 2) fun r2 _ => ?_
    refine lC ?_ ?_
    ·exact aG rfl
    ·refine lDe ?_ ?_
     ·refine lC ?_ ?_
      ·exact aG rfl
      ·exact ih x18 x19 (w6 (x20 + 1))
     ·exact ih x18 x19 (w6 (x20 + 1))
  ·exact aG rfl
theorem ahD (p0 : aA) : Le (Option.map brokerref05_Props_out (rS p0)) (bF SE 65 [aA.av p0] [] []) := by
 refine aZ ax8 rfl ?_
 refine Le.trans ?_ (le_of_eq (T65 ..).symm)
 unfold rS
 refine lQ eX brokerref05_Props_inj (by (try simp only [EN]); exact yV p0.ID (List.length p0.Subs : Int)) fun r0 _ => ?_
 refine lC ?_ ?_
 ·exact aG rfl
 ·(try simp only [EN]); exact afG fuel p0.Subs (List.length p0.Subs : Int) 0
def aqR (C : aR) (Λ2 J : Lam) (a0 : List (List D)) (a1 a2 : Int) : Res := lab SE C Λ2 J 66 0 [1, 1, 0, 1, 0] (bA [(16, .d (.sl [.int .i64] a0)), (17, dIq a1), (18, dIq a2)] [] [] [] [])
section
variable (Γ : Fun) (γ98 : Gm (Int)) (γ62 : Gm (Bool)) (Λ2 J : Lam)
def C66 : aR := bE (bE (aS Γ) 98 brokerref05_Props_out γ98) 62 brokerref05_SameProps_out γ62
theorem T66 (p0 : aA) : bK SE (C66 Γ γ98 γ62) Λ2 J 66 [aA.av p0] [] [] =
 γ98 [dIq p0.ID, dIq (lM eI p0.Codes : Int)] [] [] fun r0 =>
 cond (r0 != 0) (
 (rI r0)) (
 aqR (C66 Γ γ98 γ62) Λ2 J (List.map eI p0.Codes) (lM eI p0.Codes : Int) 0) := by kernel_rfl
theorem aBM (x16 : List Int) (x17 x18 : Int) : cJ SE (C66 Γ γ98 γ62) Λ2 J 66 0 [1, 1, 0, 1, 0] (bA [(16, .d (.sl [.int .i64] (List.map eI x16))), (17, dIq x17), (18, dIq x18)] [] [] [] []) =
 cond (decide (x18 < x17)) (
 cond (iB x18 (lM eI x16 : Int)) (
  γ62 [dIq (aX (cE eI x16 x18 0))] [] [] fun r1 =>
  cond (!r1) (
  (rI 1)) (
  aqR (C66 Γ γ98 γ62) Λ2 J (List.map eI x16) x17 (w6 (x18 + 1)))) none) (
 (rI 0)) := by kernel_rfl
end
abbrev X66 : aR := C66 gG (cT 98 brokerref05_Props_out) (cT 62 brokerref05_SameProps_out)
theorem ayU : X66 = aS gG := by unfold X66 C66; repeat rw [bH fun _ h => h]
abbrev aBZ := aqR X66 (cB SE gG (SE.hl 66) (SE.hr 66)) (J0 SE X66)
theorem ahN : ∀ (fu : Nat) (x16 : List Int) (x17 x18 : Int), Le (Option.map brokerref05_Props_out (k7 fu x16 x17 x18)) (aBZ (List.map eI x16) x17 x18) := by
 intro fu
 induction fu with
 | zero => intros; exact le_none
 | succ fu ih =>
  intro x16 x17 x18
  refine Le.trans ?_ (le_of_eq ((bD ayU).trans (aBM ..)).symm)
  unfold k7
  refine lC ?_ ?_
  ·refine lGe ?_
   refine lQ eX brokerref05_SameProps_inj (by (try simp only [EN]); exact abq (List.getD x16 (Int.toNat x18) default)) fun r1 _ => ?_
   refine lC ?_ ?_
   ·exact aG rfl
   ·exact ih x16 x17 (w6 (x18 + 1))
  ·exact aG rfl
theorem aeS (p0 : aA) : Le (Option.map brokerref05_Props_out (uD p0)) (bF SE 66 [aA.av p0] [] []) := by
 refine aZ ayU rfl ?_
 refine Le.trans ?_ (le_of_eq (T66 ..).symm)
 unfold uD
 refine lQ eX brokerref05_Props_inj (by (try simp only [EN]); exact yV p0.ID (List.length p0.Codes : Int)) fun r0 _ => ?_
 refine lC ?_ ?_
 ·exact aG rfl
 ·(try simp only [EN]); exact ahN fuel p0.Codes (List.length p0.Codes : Int) 0
def aqI (C : aR) (Λ2 J : Lam) (a0 : List (List D)) (a1 a2 : Int) : Res := lab SE C Λ2 J 67 0 [1, 1, 0, 1, 0] (bA [(18, .d (.sl [.str] a0)), (19, dIq a1), (20, dIq a2)] [] [] [] [])
section
variable (Γ : Fun) (γ98 : Gm (Int)) (γ99 : Gm (Bool × Bool)) (Λ2 J : Lam)
def C67 : aR := bE (bE (aS Γ) 98 brokerref05_Props_out γ98) 99 jR γ99
theorem T67 (p0 : aA) : bK SE (C67 Γ γ98 γ99) Λ2 J 67 [aA.av p0] [] [] =
 γ98 [dIq p0.ID, dIq (lM aY p0.Filters : Int)] [] [] fun r0 =>
 cond (r0 != 0) (
 (rI r0)) (
 aqI (C67 Γ γ98 γ99) Λ2 J (List.map aY p0.Filters) (lM aY p0.Filters : Int) 0) := by kernel_rfl
theorem aCj (x18 : List Str) (x19 x20 : Int) : cJ SE (C67 Γ γ98 γ99) Λ2 J 67 0 [1, 1, 0, 1, 0] (bA [(18, .d (.sl [.str] (List.map aY x18))), (19, dIq x19), (20, dIq x20)] [] [] [] []) =
 cond (decide (x20 < x19)) (
 cond (iB x20 (lM aY x18 : Int)) (
  γ99 [dSq (bJ (cE aY x18 x20 0))] [] [] fun r1 =>
  cond (!r1.1) (
  (rI 13)) (
  aqI (C67 Γ γ98 γ99) Λ2 J (List.map aY x18) x19 (w6 (x20 + 1)))) none) (
 (rI 0)) := by kernel_rfl
end
abbrev X67 : aR := C67 gG (cT 98 brokerref05_Props_out) (cT 99 jR)
theorem axw : X67 = aS gG := by unfold X67 C67; repeat rw [bH fun _ h => h]
abbrev aBL := aqI X67 (cB SE gG (SE.hl 67) (SE.hr 67)) (J0 SE X67)
theorem adQ : ∀ (fu : Nat) (x18 : List Str) (x19 x20 : Int), Le (Option.map brokerref05_Props_out (gT fu x18 x19 x20)) (aBL (List.map aY x18) x19 x20) := by
 intro fu
 induction fu with
 | zero => intros; exact le_none
 | succ fu ih =>
  intro x18 x19 x20
  refine Le.trans ?_ (le_of_eq ((bD axw).trans (aCj ..)).symm)
  unfold gT
  refine lC ?_ ?_
  ·refine lGe ?_
   refine lQ eX acD (by (try simp only [EN]); exact adC (List.getD x18 (Int.toNat x20) default)) fun r1 _ => ?_
   refine lC ?_ ?_
   ·exact aG rfl
   ·exact ih x18 x19 (w6 (x20 + 1))
  ·exact aG rfl
theorem afV (p0 : aA) : Le (Option.map brokerref05_Props_out (oR p0)) (bF SE 67 [aA.av p0] [] []) := by
 refine aZ axw rfl ?_
 refine Le.trans ?_ (le_of_eq (T67 ..).symm)
 unfold oR
 refine lQ eX brokerref05_Props_inj (by (try simp only [EN]); exact yV p0.ID (List.length p0.Filters : Int)) fun r0 _ => ?_
 refine lC ?_ ?_
 ·exact aG rfl
 ·(try simp only [EN]); exact adQ fuel p0.Filters (List.length p0.Filters : Int) 0
section
variable (Γ : Fun) (γ58 : Gm (Bool)) (γ60 : Gm (aA)) (γ59 : Gm (Bool)) (γ61 : Gm (Int)) (γ62 : Gm (Bool)) (γ63 γ64 γ65 γ66 γ67 : Gm (Int)) (Λ2 J : Lam)
def C25 : aR := bE (bE (bE (bE (bE (bE (bE (bE (bE (bE (aS Γ) 58 brokerref05_SameProps_out γ58) 60 brokerref06_Used_out γ60) 59 brokerref05_SameProps_out γ59) 61 brokerref05_Props_out γ61) 62 brokerref05_SameProps_out γ62) 63 brokerref05_Props_out γ63) 64 brokerref05_Props_out γ64) 65 brokerref05_Props_out γ65) 66 brokerref05_Props_out γ66) 67 brokerref05_Props_out γ67
theorem T25 (p0 : aA) : bK SE (C25 Γ γ58 γ60 γ59 γ61 γ62 γ63 γ64 γ65 γ66 γ67) Λ2 J 25 [aA.av p0] [] [] =
 γ58 [dIq p0.Kind, dIq 1, dIq 14] [] [] fun r0 =>
 cond (!r0) (
 (rI 10)) (
 γ60 [aA.av p0] [] [] fun r1 =>
 γ59 [aA.av p0, aA.av r1] [] [] fun r2 =>
 cond (!r2) (
 (rI 28)) (
 cond (p0.Kind == 1) (
 γ61 [aA.av p0] [] [] fun r3 =>
 (rI r3)) (
 cond (p0.Kind == 2) (
 γ62 [dIq p0.Code] [] [] fun r4 =>
 cond (!r4) (
  (rI 1)) (
 cond p0.Present (
  cond (p0.Code != 0) (
  (rI 28)) (
  (rI 0))) (
 (rI 0)))) (
 cond (p0.Kind == 14) (
 γ62 [dIq p0.Code] [] [] fun r5 =>
 cond (!r5) (
  (rI 1)) (
 cond p0.Present (
  cond (p0.Code != 0) (
  (rI 28)) (
  (rI 0))) (
 (rI 0)))) (
 cond (p0.Kind == 3) (
 γ63 [aA.av p0] [] [] fun r6 =>
 (rI r6)) (
 cond (p0.Kind == 4) (
 γ64 [dIq p0.ID] [] [] fun r7 =>
 (rI r7)) (
 cond (p0.Kind == 5) (
 γ64 [dIq p0.ID] [] [] fun r8 =>
 (rI r8)) (
 cond (p0.Kind == 6) (
 γ64 [dIq p0.ID] [] [] fun r9 =>
 (rI r9)) (
 cond (p0.Kind == 7) (
 γ64 [dIq p0.ID] [] [] fun r10 =>
 (rI r10)) (
 cond (p0.Kind == 8) (
 γ65 [aA.av p0] [] [] fun r11 =>
 (rI r11)) (
 cond (p0.Kind == 9) (
 γ66 [aA.av p0] [] [] fun r12 =>
 (rI r12)) (
 cond (p0.Kind == 11) (
 γ66 [aA.av p0] [] [] fun r13 =>
 (rI r13)) (
 cond (p0.Kind == 10) (
 γ67 [aA.av p0] [] [] fun r14 =>
 (rI r14)) (
 (rI 0))))))))))))))) := by kernel_rfl
end
abbrev X25 : aR := C25 gG (cT 58 brokerref05_SameProps_out) (cT 60 brokerref06_Used_out) (cT 59 brokerref05_SameProps_out) (cT 61 brokerref05_Props_out) (cT 62 brokerref05_SameProps_out) (cT 63 brokerref05_Props_out) (cT 64 brokerref05_Props_out) (cT 65 brokerref05_Props_out) (cT 66 brokerref05_Props_out) (cT 67 brokerref05_Props_out)
theorem aDb : X25 = aS gG := by unfold X25 C25; repeat rw [bH fun _ h => h]
theorem aaV (p0 : aA) : Le (Option.map brokerref05_Props_out (kJ p0)) (bF SE 25 [aA.av p0] [] []) := by
 refine aZ aDb rfl ?_
 refine Le.trans ?_ (le_of_eq (T25 ..).symm)
 unfold kJ
 refine lQ eX brokerref05_SameProps_inj (gI _ _ _) fun r0 _ => ?_
 refine lC ?_ ?_
 ·exact aG rfl
 ·refine lQ eX brokerref06_Used_inj (al9 _) fun r1 _ => ?_
  refine lQ eX brokerref05_SameProps_inj (ama _ _) fun r2 _ => ?_
  refine lC ?_ ?_
  ·exact aG rfl
  ·refine lC ?_ ?_
   ·refine lQ eX brokerref05_Props_inj (ajr _) fun r3 _ => ?_
    exact aG rfl
   ·refine lC ?_ ?_
    ·refine lQ eX brokerref05_SameProps_inj (abq _) fun r4 _ => ?_
     refine lC ?_ ?_
     ·exact aG rfl
     ·refine lC ?_ ?_
      ·refine lC ?_ ?_
       ·exact aG rfl
       ·exact aG rfl
      ·exact aG rfl
    ·refine lC ?_ ?_
     ·refine lQ eX brokerref05_SameProps_inj (abq _) fun r5 _ => ?_
      refine lC ?_ ?_
      ·exact aG rfl
      ·refine lC ?_ ?_
       ·refine lC ?_ ?_
        ·exact aG rfl
        ·exact aG rfl
       ·exact aG rfl
     ·refine lC ?_ ?_
      ·refine lQ eX brokerref05_Props_inj (ajq _) fun r6 _ => ?_
       exact aG rfl
      ·refine lC ?_ ?_
       ·refine lQ eX brokerref05_Props_inj (sK _) fun r7 _ => ?_
        exact aG rfl
       ·refine lC ?_ ?_
        ·refine lQ eX brokerref05_Props_inj (sK _) fun r8 _ => ?_
         exact aG rfl
        ·refine lC ?_ ?_
         ·refine lQ eX brokerref05_Props_inj (sK _) fun r9 _ => ?_
          exact aG rfl
         ·refine lC ?_ ?_
          ·refine lQ eX brokerref05_Props_inj (sK _) fun r10 _ => ?_
           exact aG rfl
          ·refine lC ?_ ?_
           ·refine lQ eX brokerref05_Props_inj (ahD _) fun r11 _ => ?_
            exact aG rfl
           ·refine lC ?_ ?_
            ·refine lQ eX brokerref05_Props_inj (aeS _) fun r12 _ => ?_
             exact aG rfl
            ·refine lC ?_ ?_
             ·refine lQ eX brokerref05_Props_inj (aeS _) fun r13 _ => ?_
              exact aG rfl
             ·refine lC ?_ ?_
              ·refine lQ eX brokerref05_Props_inj (afV _) fun r14 _ => ?_
               exact aG rfl
              ·exact aG rfl
section
variable (Γ : Fun)  (Λ2 J : Lam)
def C69 : aR := aS Γ
theorem T69 (p0 : List Int) (p1 : Int) : bK SE (C69 Γ) Λ2 J 69 [.d (.sl [.int .u8] (List.map (aO .u8) p0)), dIq p1] [] [] =
 cond (decide (0 ≤ (lM (aO .u8) p0 : Int)) && decide ((lM (aO .u8) p0 : Int) ≤ (w6 ((lM (aO .u8) p0 : Int) + p1))) && decide ((w6 ((lM (aO .u8) p0 : Int) + p1)) * 1 ≤ 281474976710656)) (
 (some (.ret [.row 0] [] [⟨[.int .u8], 5, 1, (List.take (List.length (List.replicate (Int.toNat (lM (aO .u8) p0 : Int)) [D.int .u8 0])) (List.map (aO .u8) p0) ++ List.drop (min (lM (aO .u8) p0) (List.length (List.replicate (Int.toNat (lM (aO .u8) p0 : Int)) [D.int .u8 0]))) (List.replicate (Int.toNat (lM (aO .u8) p0 : Int)) [D.int .u8 0]))⟩]))) none := by kernel_rfl
end
abbrev X69 : aR := C69 gG
theorem aEc : X69 = aS gG := rfl
theorem acn (p0 : List Int) (p1 : Int) : Le (Option.map aP (vG p0 p1)) (bF SE 69 [.d (.sl [.int .u8] (List.map (aO .u8) p0)), dIq p1] [] []) := by
 refine aZ aEc rfl ?_
 refine Le.trans ?_ (le_of_eq (T69 ..).symm)
 unfold vG
 refine lGe ?_
 exact aG (by first | rfl | simp only [EN, aP] <;> rfl)
section
variable (Γ : Fun)  (Λ2 J : Lam)
def aw6 : aR := aS Γ
theorem aCV (p0 : Int) : bK SE (aw6 Γ) Λ2 J 100 [dIq p0] [] [] =
 (some (.ret [.d (.int .u64 (eF .xor .u64 (shl .u64 (IntKind.wrap .u64 p0) 1) (IntKind.wrap .u64 (shr .i64 p0 63))))] [] [])) := by kernel_rfl
end
abbrev aDB : aR := aw6 gG
theorem aCh : aDB = aS gG := rfl
theorem ao5 (p0 : Int) : Le (Option.map kM (abV p0)) (bF SE 100 [dIq p0] [] []) := by
 refine aZ aCh rfl ?_
 refine Le.trans ?_ (le_of_eq (aCV ..).symm)
 unfold abV
 exact aG rfl
def arL (C : aR) (Λ2 J : Lam) (a0 : Int) (a1 : List (List D)) : Res := lab SE C Λ2 J 68 0 [1, 1, 0, 0] (bA [(0, .row 3000), (5, .d (.int .u64 a0))] [] [] [] [(3000, ⟨[.int .u8], 5, 1, a1⟩)])
section
variable (Γ : Fun) (γ100 : Gm (Int)) (Λ2 J : Lam)
def C68 : aR := bE (aS Γ) 100 kM γ100
theorem T68 (p0 : List Int) (p1 : Int) : bK SE (C68 Γ γ100) Λ2 J 68 [.row 2000000000, dIq p1] [] [⟨[.int .u8], 5, 1, (List.map (aO .u8) p0)⟩] =
 γ100 [dIq p1] [] [] fun r0 =>
 arL (C68 Γ γ100) Λ2 J r0 (List.map (aO .u8) p0) := by kernel_rfl
theorem aAg (x5 : Int) (w3000 : List Int) : cJ SE (C68 Γ γ100) Λ2 J 68 0 [1, 1, 0, 0] (bA [(0, .row 3000), (5, .d (.int .u64 x5))] [] [] [] [(3000, ⟨[.int .u8], 5, 1, (List.map (aO .u8) w3000)⟩)]) =
 cond (decide (x5 > 127)) (
 cond (decide ((lM (aO .u8) w3000 + lM (aO .u8) [(eF .or .u8 (IntKind.wrap .u8 (eF .and .u64 x5 127)) 128)]) * 1 ≤ 140737488355328)) (
  arL (C68 Γ γ100) Λ2 J (shr .u64 x5 7) (((List.map (aO .u8) w3000) ++ (List.map (aO .u8) [(eF .or .u8 (IntKind.wrap .u8 (eF .and .u64 x5 127)) 128)])))) none) (
 cond (decide ((lM (aO .u8) w3000 + lM (aO .u8) [(IntKind.wrap .u8 x5)]) * 1 ≤ 140737488355328)) (
 (some (.ret [.row 0] [] [⟨[.int .u8], 5, 1, ((List.map (aO .u8) w3000) ++ (List.map (aO .u8) [(IntKind.wrap .u8 x5)]))⟩]))) none) := by kernel_rfl
end
abbrev X68 : aR := C68 gG (cT 100 kM)
theorem axP : X68 = aS gG := by unfold X68 C68; rw [bH fun _ h => h]
abbrev aAC := arL X68 (cB SE gG (SE.hl 68) (SE.hr 68)) (J0 SE X68)
theorem amC : ∀ (fu : Nat) (x5 : Int) (w3000 : List Int), Le (Option.map aP (qY fu x5 w3000)) (aAC x5 (List.map (aO .u8) w3000)) := by
 intro fu
 induction fu with
 | zero => intros; exact le_none
 | succ fu ih =>
  intro x5 w3000
  refine Le.trans ?_ (le_of_eq ((bD axP).trans (aAg ..)).symm)
  unfold qY
  refine lC ?_ ?_
  ·refine lGe ?_
   (try simp only [EN]); exact ih (shr .u64 x5 7) (w3000 ++ [(eF .or .u8 (IntKind.wrap .u8 (eF .and .u64 x5 127)) 128)])
  ·refine lGe ?_
   exact aG (by first | rfl | simp only [EN, aP] <;> rfl)
theorem abD (p0 : List Int) (p1 : Int) : Le (Option.map aP (tE p0 p1)) (bF SE 68 [.row 2000000000, dIq p1] [] [⟨[.int .u8], 5, 1, (List.map (aO .u8) p0)⟩]) := by
 refine aZ axP rfl ?_
 refine Le.trans ?_ (le_of_eq (T68 ..).symm)
 unfold tE
 refine lQ eX ahr (ao5 _) fun r0 _ => ?_
 exact amC fuel r0 p0
section
variable (Γ : Fun) (γ69 γ68 : Gm ((List Int))) (Λ2 J : Lam)
def C26 : aR := bE (bE (aS Γ) 69 aP γ69) 68 aP γ68
theorem T26 (p0 : List Int) (p1 : Int) : bK SE (C26 Γ γ69 γ68) Λ2 J 26 [.d (.sl [.int .u8] (List.map (aO .u8) p0)), dIq p1] [] [] =
 γ69 [.d (.sl [.int .u8] (List.map (aO .u8) p0)), dIq 10] [] [] fun r0 =>
 γ68 [.row 2000000000, dIq p1] [] [⟨[.int .u8], 5, 1, (List.map (aO .u8) r0)⟩] fun r1 =>
 (some (aP r1)) := by kernel_rfl
end
abbrev X26 : aR := C26 gG (cT 69 aP) (cT 68 aP)
theorem aEe : X26 = aS gG := by unfold X26 C26; repeat rw [bH fun _ h => h]
theorem cI (p0 : List Int) (p1 : Int) : Le (Option.map aP (cK p0 p1)) (bF SE 26 [.d (.sl [.int .u8] (List.map (aO .u8) p0)), dIq p1] [] []) := by
 refine aZ aEe rfl ?_
 refine Le.trans ?_ (le_of_eq (T26 ..).symm)
 unfold cK
 refine lQ eX aW (acn _ _) fun r0 _ => ?_
 refine lQ eX aW (abD _ _) fun r1 _ => ?_
 exact aG rfl
section
variable (Γ : Fun) (γ69 γ68 : Gm ((List Int))) (Λ2 J : Lam)
def C70 : aR := bE (bE (aS Γ) 69 aP γ69) 68 aP γ68
theorem T70 (p0 : List Int) (p1 : Str) : bK SE (C70 Γ γ69 γ68) Λ2 J 70 [.d (.sl [.int .u8] (List.map (aO .u8) p0)), dSq p1] [] [] =
 γ69 [.d (.sl [.int .u8] (List.map (aO .u8) p0)), dIq (w6 (10 + (List.length p1 : Int)))] [] [] fun r0 =>
 γ68 [.row 2000000000, dIq (List.length p1 : Int)] [] [⟨[.int .u8], 5, 1, (List.map (aO .u8) r0)⟩] fun r1 =>
 cond (decide ((lM (aO .u8) r1 + List.length (fP p1)) * 1 ≤ 140737488355328)) (
 (some (.ret [.row 0] [] [⟨[.int .u8], 5, 1, ((List.map (aO .u8) r1) ++ (fP p1))⟩]))) none := by kernel_rfl
end
abbrev X70 : aR := C70 gG (cT 69 aP) (cT 68 aP)
theorem aC1 : X70 = aS gG := by unfold X70 C70; repeat rw [bH fun _ h => h]
theorem kZ (p0 : List Int) (p1 : Str) : Le (Option.map aP (jH p0 p1)) (bF SE 70 [.d (.sl [.int .u8] (List.map (aO .u8) p0)), dSq p1] [] []) := by
 refine aZ aC1 rfl ?_
 refine Le.trans ?_ (le_of_eq (T70 ..).symm)
 unfold jH
 refine lQ eX aW (acn _ _) fun r0 _ => ?_
 refine lQ eX aW (abD _ _) fun r1 _ => ?_
 refine lGe ?_
 exact aG (by first | rfl | simp only [EN, aP] <;> rfl)
def avH (C : aR) (Λ2 J : Lam) (a0 : List (List D)) (a1 a2 a3 : Int) (a4 : Bool) : Res := lab SE C Λ2 J 28 0 [1, 1, 0, 1, 0, 0, 1, 0, 0, 0] (bA [(0, .d (.sl [.bool] a0)), (3, dIq a1), (4, dIq a2), (10, dIq a3), (11, dBq a4)] [] [] [] [])
def anL (C : aR) (Λ2 J : Lam) (a0 : List (List D)) (a1 a2 : Int) : Res := lab SE C Λ2 J 28 0 [1, 1, 0, 1, 0] (bA [(0, .d (.sl [.bool] a0)), (3, dIq a1), (4, dIq a2)] [] [] [] [])
section
variable (Γ : Fun)  (Λ2 J : Lam)
def C28 : aR := aS Γ
theorem T28 (p0 : List Bool) : bK SE (C28 Γ) Λ2 J 28 [.d (.sl [.bool] (List.map gH p0))] [] [] =
 anL (C28 Γ) Λ2 J (List.map gH p0) 0 0 := by kernel_rfl
theorem aBC (x0 : List Bool) (x3 x4 x10 : Int) (x11 : Bool) : cJ SE (C28 Γ) Λ2 J 28 0 [1, 1, 0, 1, 0, 0, 1, 0, 0, 0] (bA [(0, .d (.sl [.bool] (List.map gH x0))), (3, dIq x3), (4, dIq x4), (10, dIq x10), (11, dBq x11)] [] [] [] []) =
 cond (iB x4 (lM gH x0 : Int)) (
 cond (bT (cE gH x0 x4 0)) (
  cond (decide (0 ≤ x4)) (
  anL (C28 Γ) Λ2 J (List.map gH x0) (eF .or .i64 x3 (shl .i64 1 x4)) (w6 (x4 + 1))) none) (
 anL (C28 Γ) Λ2 J (List.map gH x0) x3 (w6 (x4 + 1)))) none := by kernel_rfl
theorem azT (x0 : List Bool) (x3 x4 : Int) : cJ SE (C28 Γ) Λ2 J 28 0 [1, 1, 0, 1, 0] (bA [(0, .d (.sl [.bool] (List.map gH x0))), (3, dIq x3), (4, dIq x4)] [] [] [] []) =
 cond (decide (x4 < (lM gH x0 : Int))) (
 cond (decide (x4 < 32)) (
  avH (C28 Γ) Λ2 J (List.map gH x0) x3 x4 x4 (decide (x4 < 32))) (
 (rI x3))) (
 (rI x3)) := by kernel_rfl
end
abbrev X28 : aR := C28 gG
theorem auR : X28 = aS gG := rfl
abbrev aBg := avH X28 (cB SE gG (SE.hl 28) (SE.hr 28)) (J0 SE X28)
abbrev avG := anL X28 (cB SE gG (SE.hl 28) (SE.hr 28)) (J0 SE X28)
theorem akr (k3 : (List Bool) → Int → Int → Option (Int)) (hk3 : ∀ (x0 : List Bool) (x3 x4 : Int), Le (Option.map brokerref05_Props_out (k3 x0 x3 x4)) (avG (List.map gH x0) x3 x4)) (x0 : List Bool) (x3 x4 x10 : Int) (x11 : Bool) : Le (Option.map brokerref05_Props_out (acf k3 x0 x3 x4 x10 x11)) (aBg (List.map gH x0) x3 x4 x10 x11) := by
 refine Le.trans ?_ (le_of_eq ((bD auR).trans (aBC ..)).symm)
 unfold acf
 refine lGe ?_
 refine lDe ?_ ?_
 ·refine lF ?_
  exact hk3 x0 (eF .or .i64 x3 (shl .i64 1 x4)) (w6 (x4 + 1))
 ·exact hk3 x0 x3 (w6 (x4 + 1))
theorem aka : ∀ (fu : Nat) (x0 : List Bool) (x3 x4 : Int), Le (Option.map brokerref05_Props_out (zS fu x0 x3 x4)) (avG (List.map gH x0) x3 x4) := by
 intro fu
 induction fu with
 | zero => intros; exact le_none
 | succ fu ih =>
  intro x0 x3 x4
  refine Le.trans ?_ (le_of_eq ((bD auR).trans (azT ..)).symm)
  unfold zS
  refine lDe ?_ ?_
  ·refine lC ?_ ?_
   ·exact akr _ (ih) x0 x3 x4 x4 (decide (x4 < 32))
   ·exact aG rfl
  ·exact aG rfl
theorem vY (p0 : List Bool) : Le (Option.map brokerref05_Props_out (oO p0)) (bF SE 28 [.d (.sl [.bool] (List.map gH p0))] [] []) := by
 refine aZ auR rfl ?_
 refine Le.trans ?_ (le_of_eq (T28 ..).symm)
 unfold oO
 exact aka fuel p0 0 0
def aqV (C : aR) (Λ2 J : Lam) (a0 : List (List D)) (a1 a2 : Int) (a3 : List (List D)) : Res := lab SE C Λ2 J 29 0 [1, 1, 1, 1, 1, 1, 1, 0, 1, 0] (bA [(5, .row 3005), (45, .d (.sl aC.ks a0)), (46, dIq a1), (47, dIq a2)] [] [] [] [(3005, ⟨[.int .u8], 5, 1, a3⟩)])
section
variable (Γ : Fun) (γ70 γ26 : Gm ((List Int))) (γ28 : Gm (Int)) (Λ2 J : Lam)
def C29 : aR := bE (bE (bE (aS Γ) 70 aP γ70) 26 aP γ26) 28 brokerref05_Props_out γ28
theorem T29 (p0 : List Int) (p1 : aF) : bK SE (C29 Γ γ70 γ26 γ28) Λ2 J 29 [.d (.sl [.int .u8] (List.map (aO .u8) p0)), aF.av p1] [] [] =
 γ70 [.d (.sl [.int .u8] (List.map (aO .u8) p0)), dSq p1.Topic] [] [] fun r0 =>
 γ70 [.d (.sl [.int .u8] (List.map (aO .u8) r0)), dSq p1.Payload] [] [] fun r1 =>
 γ26 [.d (.sl [.int .u8] (List.map (aO .u8) r1)), dIq p1.Level] [] [] fun r2 =>
 γ28 [.d (.sl [.bool] (List.map gH [p1.Retain]))] [] [] fun r3 =>
 γ26 [.d (.sl [.int .u8] (List.map (aO .u8) r2)), dIq r3] [] [] fun r4 =>
 γ26 [.d (.sl [.int .u8] (List.map (aO .u8) r4)), dIq p1.Priority] [] [] fun r5 =>
 γ26 [.d (.sl [.int .u8] (List.map (aO .u8) r5)), dIq p1.Expires] [] [] fun r6 =>
 γ70 [.d (.sl [.int .u8] (List.map (aO .u8) r6)), dSq p1.From] [] [] fun r7 =>
 γ26 [.d (.sl [.int .u8] (List.map (aO .u8) r7)), dIq p1.Seq] [] [] fun r8 =>
 γ26 [.d (.sl [.int .u8] (List.map (aO .u8) r8)), dIq (lM aC.enc p1.Props : Int)] [] [] fun r9 =>
 aqV (C29 Γ γ70 γ26 γ28) Λ2 J (List.map aC.enc p1.Props) (lM aC.enc p1.Props : Int) 0 (List.map (aO .u8) r9) := by kernel_rfl
theorem aAF (x45 : List aC) (x46 x47 : Int) (w3005 : List Int) : cJ SE (C29 Γ γ70 γ26 γ28) Λ2 J 29 0 [1, 1, 1, 1, 1, 1, 1, 0, 1, 0] (bA [(5, .row 3005), (45, .d (.sl aC.ks (List.map aC.enc x45))), (46, dIq x46), (47, dIq x47)] [] [] [] [(3005, ⟨[.int .u8], 5, 1, (List.map (aO .u8) w3005)⟩)]) =
 cond (decide (x47 < x46)) (
 cond (iB x47 (lM aC.enc x45 : Int)) (
  γ70 [.d (.sl [.int .u8] (List.map (aO .u8) w3005)), dSq (bJ (cE aC.enc x45 x47 0))] [] [] fun r10 =>
  γ70 [.d (.sl [.int .u8] (List.map (aO .u8) r10)), dSq (bJ (cE aC.enc x45 x47 1))] [] [] fun r11 =>
  aqV (C29 Γ γ70 γ26 γ28) Λ2 J (List.map aC.enc x45) x46 (w6 (x47 + 1)) (List.map (aO .u8) r11)) none) (
 (some (aP w3005))) := by kernel_rfl
end
abbrev X29 : aR := C29 gG (cT 70 aP) (cT 26 aP) (cT 28 brokerref05_Props_out)
theorem awT : X29 = aS gG := by unfold X29 C29; repeat rw [bH fun _ h => h]
abbrev aBd := aqV X29 (cB SE gG (SE.hl 29) (SE.hr 29)) (J0 SE X29)
theorem ajv : ∀ (fu : Nat) (x45 : List aC) (x46 x47 : Int) (w3005 : List Int), Le (Option.map aP (mD fu x45 x46 x47 w3005)) (aBd (List.map aC.enc x45) x46 x47 (List.map (aO .u8) w3005)) := by
 intro fu
 induction fu with
 | zero => intros; exact le_none
 | succ fu ih =>
  intro x45 x46 x47 w3005
  refine Le.trans ?_ (le_of_eq ((bD awT).trans (aAF ..)).symm)
  unfold mD
  refine lC ?_ ?_
  ·refine lGe ?_
   refine lQ eX aW (by (try simp only [EN]); exact kZ w3005 ((List.getD x45 (Int.toNat x47) default).Key)) fun r10 _ => ?_
   refine lQ eX aW (by (try simp only [EN]); exact kZ r10 ((List.getD x45 (Int.toNat x47) default).Value)) fun r11 _ => ?_
   exact ih x45 x46 (w6 (x47 + 1)) r11
  ·exact aG rfl
theorem agw (p0 : List Int) (p1 : aF) : Le (Option.map aP (tF p0 p1)) (bF SE 29 [.d (.sl [.int .u8] (List.map (aO .u8) p0)), aF.av p1] [] []) := by
 refine aZ awT rfl ?_
 refine Le.trans ?_ (le_of_eq (T29 ..).symm)
 unfold tF
 refine lQ eX aW (kZ _ _) fun r0 _ => ?_
 refine lQ eX aW (kZ _ _) fun r1 _ => ?_
 refine lQ eX aW (cI _ _) fun r2 _ => ?_
 refine lQ eX brokerref05_Props_inj (vY _) fun r3 _ => ?_
 refine lQ eX aW (cI _ _) fun r4 _ => ?_
 refine lQ eX aW (cI _ _) fun r5 _ => ?_
 refine lQ eX aW (cI _ _) fun r6 _ => ?_
 refine lQ eX aW (kZ _ _) fun r7 _ => ?_
 refine lQ eX aW (cI _ _) fun r8 _ => ?_
 refine lQ eX aW (by (try simp only [EN]); exact cI r8 (List.length p1.Props : Int)) fun r9 _ => ?_
 (try simp only [EN]); exact ajv fuel p1.Props (List.length p1.Props : Int) 0 r9
def arh (C : aR) (Λ2 J : Lam) (a0 a1 : Int) (a2 : List D) (a3 a4 : List (List D)) : Res := lab SE C Λ2 J 27 0 [1, 1, 1, 0, 1, 0] (bA [(3, .ptr 1000000000 0), (5, .row 3005), (30, .row 3030), (31, dIq a0), (32, dIq a1)] [⟨31, (List.map AV.d a2)⟩] [] [] [(3005, ⟨[.int .u8], 5, 1, a3⟩), (3030, ⟨[.int .i64], 3, 8, a4⟩)])
section
variable (Γ : Fun) (γ70 : Gm ((List Int))) (γ28 : Gm (Int)) (γ26 γ29 : Gm ((List Int))) (Λ2 J : Lam)
def C27 : aR := bE (bE (bE (bE (aS Γ) 70 aP γ70) 28 brokerref05_Props_out γ28) 26 aP γ26) 29 aP γ29
theorem T27 (p0 : List Int) (p1 : aA) : bK SE (C27 Γ γ70 γ28 γ26 γ29) Λ2 J 27 [.d (.sl [.int .u8] (List.map (aO .u8) p0)), aA.av p1] [] [] =
 γ70 [.d (.sl [.int .u8] (List.map (aO .u8) p0)), dSq p1.Client] [] [] fun r0 =>
 γ70 [.d (.sl [.int .u8] (List.map (aO .u8) r0)), dSq p1.User] [] [] fun r1 =>
 γ28 [.d (.sl [.bool] (List.map gH [p1.Clean, p1.Will.Set]))] [] [] fun r2 =>
 γ26 [.d (.sl [.int .u8] (List.map (aO .u8) r1)), dIq r2] [] [] fun r3 =>
 arh (C27 Γ γ70 γ28 γ26 γ29) Λ2 J (lM eI [p1.Keep, p1.Expiry, p1.Window] : Int) 0 (aA.enc p1) (List.map (aO .u8) r3) (List.map eI [p1.Keep, p1.Expiry, p1.Window]) := by kernel_rfl
theorem aAA (x31 x32 : Int) (b0 : aA) (w3005 w3030 : List Int) : cJ SE (C27 Γ γ70 γ28 γ26 γ29) Λ2 J 27 0 [1, 1, 1, 0, 1, 0] (bA [(3, .ptr 1000000000 0), (5, .row 3005), (30, .row 3030), (31, dIq x31), (32, dIq x32)] [⟨31, (List.map AV.d (aA.enc b0))⟩] [] [] [(3005, ⟨[.int .u8], 5, 1, (List.map (aO .u8) w3005)⟩), (3030, ⟨[.int .i64], 3, 8, (List.map eI w3030)⟩)]) =
 cond (decide (x32 < x31)) (
 cond (iB x32 (lM eI w3030 : Int)) (
  γ26 [.d (.sl [.int .u8] (List.map (aO .u8) w3005)), dIq (aX (cE eI w3030 x32 0))] [] [] fun r4 =>
  arh (C27 Γ γ70 γ28 γ26 γ29) Λ2 J x31 (w6 (x32 + 1)) (aA.enc b0) (List.map (aO .u8) r4) (List.map eI w3030)) none) (
 cond b0.Will.Set (
 γ26 [.d (.sl [.int .u8] (List.map (aO .u8) w3005)), dIq b0.Will.Delay] [] [] fun r5 =>
 γ29 [.d (.sl [.int .u8] (List.map (aO .u8) r5)), aF.av b0.Will.Message] [] [] fun r6 =>
 (some (aP r6))) (
 (some (aP w3005)))) := by kernel_rfl
end
abbrev X27 : aR := C27 gG (cT 70 aP) (cT 28 brokerref05_Props_out) (cT 26 aP) (cT 29 aP)
theorem axx : X27 = aS gG := by unfold X27 C27; repeat rw [bH fun _ h => h]
abbrev az2 := arh X27 (cB SE gG (SE.hl 27) (SE.hr 27)) (J0 SE X27)
theorem aiD : ∀ (fu : Nat) (x31 x32 : Int) (b0 : aA) (w3005 w3030 : List Int), Le (Option.map aP (m9 fu x31 x32 b0 w3005 w3030)) (az2 x31 x32 (aA.enc b0) (List.map (aO .u8) w3005) (List.map eI w3030)) := by
 intro fu
 induction fu with
 | zero => intros; exact le_none
 | succ fu ih =>
  intro x31 x32 b0 w3005 w3030
  refine Le.trans ?_ (le_of_eq ((bD axx).trans (aAA ..)).symm)
  unfold m9
  refine lC ?_ ?_
  ·refine lGe ?_
   refine lQ eX aW (by (try simp only [EN]); exact cI w3005 (List.getD w3030 (Int.toNat x32) default)) fun r4 _ => ?_
   exact ih x31 (w6 (x32 + 1)) b0 r4 w3030
  ·refine lC ?_ ?_
   ·refine lQ eX aW (cI _ _) fun r5 _ => ?_
    refine lQ eX aW (agw _ _) fun r6 _ => ?_
    exact aG rfl
   ·exact aG rfl
theorem akS (p0 : List Int) (p1 : aA) : Le (Option.map aP (wX p0 p1)) (bF SE 27 [.d (.sl [.int .u8] (List.map (aO .u8) p0)), aA.av p1] [] []) := by
 refine aZ axx rfl ?_
 refine Le.trans ?_ (le_of_eq (T27 ..).symm)
 unfold wX
 refine lQ eX aW (kZ _ _) fun r0 _ => ?_
 refine lQ eX aW (kZ _ _) fun r1 _ => ?_
 refine lQ eX brokerref05_Props_inj (vY _) fun r2 _ => ?_
 refine lQ eX aW (cI _ _) fun r3 _ => ?_
 (try simp only [EN]); exact aiD fuel (List.length [p1.Keep, p1.Expiry, p1.Window] : Int) 0 p1 r3 [p1.Keep, p1.Expiry, p1.Window]
def aro (C : aR) (Λ2 J : Lam) (a0 : List (List D)) (a1 a2 : Int) (a3 : List (List D)) : Res := lab SE C Λ2 J 30 0 [1, 1, 0, 1, 0] (bA [(5, .row 3005), (12, .d (.sl aH.ks a0)), (13, dIq a1), (14, dIq a2)] [] [] [] [(3005, ⟨[.int .u8], 5, 1, a3⟩)])
section
variable (Γ : Fun) (γ26 γ70 : Gm ((List Int))) (γ28 : Gm (Int)) (Λ2 J : Lam)
def C30 : aR := bE (bE (bE (aS Γ) 26 aP γ26) 70 aP γ70) 28 brokerref05_Props_out γ28
theorem T30 (p0 : List Int) (p1 : List aH) : bK SE (C30 Γ γ26 γ70 γ28) Λ2 J 30 [.d (.sl [.int .u8] (List.map (aO .u8) p0)), .d (.sl aH.ks (List.map aH.enc p1))] [] [] =
 γ26 [.d (.sl [.int .u8] (List.map (aO .u8) p0)), dIq (lM aH.enc p1 : Int)] [] [] fun r0 =>
 aro (C30 Γ γ26 γ70 γ28) Λ2 J (List.map aH.enc p1) (lM aH.enc p1 : Int) 0 (List.map (aO .u8) r0) := by kernel_rfl
theorem aAh (x12 : List aH) (x13 x14 : Int) (w3005 : List Int) : cJ SE (C30 Γ γ26 γ70 γ28) Λ2 J 30 0 [1, 1, 0, 1, 0] (bA [(5, .row 3005), (12, .d (.sl aH.ks (List.map aH.enc x12))), (13, dIq x13), (14, dIq x14)] [] [] [] [(3005, ⟨[.int .u8], 5, 1, (List.map (aO .u8) w3005)⟩)]) =
 cond (decide (x14 < x13)) (
 cond (iB x14 (lM aH.enc x12 : Int)) (
  γ70 [.d (.sl [.int .u8] (List.map (aO .u8) w3005)), dSq (bJ (cE aH.enc x12 x14 0))] [] [] fun r1 =>
  γ26 [.d (.sl [.int .u8] (List.map (aO .u8) r1)), dIq (aX (cE aH.enc x12 x14 1))] [] [] fun r2 =>
  γ28 [.d (.sl [.bool] [[D.bool (bT (cE aH.enc x12 x14 2))]])] [] [] fun r3 =>
  γ26 [.d (.sl [.int .u8] (List.map (aO .u8) r2)), dIq r3] [] [] fun r4 =>
  aro (C30 Γ γ26 γ70 γ28) Λ2 J (List.map aH.enc x12) x13 (w6 (x14 + 1)) (List.map (aO .u8) r4)) none) (
 (some (aP w3005))) := by kernel_rfl
end
abbrev X30 : aR := C30 gG (cT 26 aP) (cT 70 aP) (cT 28 brokerref05_Props_out)
theorem awP : X30 = aS gG := by unfold X30 C30; repeat rw [bH fun _ h => h]
abbrev aBF := aro X30 (cB SE gG (SE.hl 30) (SE.hr 30)) (J0 SE X30)
theorem adn : ∀ (fu : Nat) (x12 : List aH) (x13 x14 : Int) (w3005 : List Int), Le (Option.map aP (iT fu x12 x13 x14 w3005)) (aBF (List.map aH.enc x12) x13 x14 (List.map (aO .u8) w3005)) := by
 intro fu
 induction fu with
 | zero => intros; exact le_none
 | succ fu ih =>
  intro x12 x13 x14 w3005
  refine Le.trans ?_ (le_of_eq ((bD awP).trans (aAh ..)).symm)
  unfold iT
  refine lC ?_ ?_
  ·refine lGe ?_
   refine lQ eX aW (by (try simp only [EN]); exact kZ w3005 ((List.getD x12 (Int.toNat x14) default).Filter)) fun r1 _ => ?_
   refine lQ eX aW (by (try simp only [EN]); exact cI r1 ((List.getD x12 (Int.toNat x14) default).Level)) fun r2 _ => ?_
   refine lQ eX brokerref05_Props_inj (by (try simp only [EN]); exact vY [(List.getD x12 (Int.toNat x14) default).NoLocal]) fun r3 _ => ?_
   refine lQ eX aW (cI _ _) fun r4 _ => ?_
   exact ih x12 x13 (w6 (x14 + 1)) r4
  ·exact aG rfl
theorem agn (p0 : List Int) (p1 : List aH) : Le (Option.map aP (o5 p0 p1)) (bF SE 30 [.d (.sl [.int .u8] (List.map (aO .u8) p0)), .d (.sl aH.ks (List.map aH.enc p1))] [] []) := by
 refine aZ awP rfl ?_
 refine Le.trans ?_ (le_of_eq (T30 ..).symm)
 unfold o5
 refine lQ eX aW (by (try simp only [EN]); exact cI p0 (List.length p1 : Int)) fun r0 _ => ?_
 (try simp only [EN]); exact adn fuel p1 (List.length p1 : Int) 0 r0
def art (C : aR) (Λ2 J : Lam) (a0 : List (List D)) (a1 a2 : Int) (a3 : List (List D)) : Res := lab SE C Λ2 J 31 0 [1, 1, 0, 1, 0] (bA [(5, .row 3005), (13, .d (.sl [.str] a0)), (14, dIq a1), (15, dIq a2)] [] [] [] [(3005, ⟨[.int .u8], 5, 1, a3⟩)])
section
variable (Γ : Fun) (γ69 γ68 : Gm ((List Int))) (Λ2 J : Lam)
def C31 : aR := bE (bE (aS Γ) 69 aP γ69) 68 aP γ68
theorem T31 (p0 : List Int) (p1 : List Str) : bK SE (C31 Γ γ69 γ68) Λ2 J 31 [.d (.sl [.int .u8] (List.map (aO .u8) p0)), .d (.sl [.str] (List.map aY p1))] [] [] =
 γ69 [.d (.sl [.int .u8] (List.map (aO .u8) p0)), dIq 10] [] [] fun r0 =>
 γ68 [.row 2000000000, dIq (lM aY p1 : Int)] [] [⟨[.int .u8], 5, 1, (List.map (aO .u8) r0)⟩] fun r1 =>
 art (C31 Γ γ69 γ68) Λ2 J (List.map aY p1) (lM aY p1 : Int) 0 (List.map (aO .u8) r1) := by kernel_rfl
theorem aAd (x13 : List Str) (x14 x15 : Int) (w3005 : List Int) : cJ SE (C31 Γ γ69 γ68) Λ2 J 31 0 [1, 1, 0, 1, 0] (bA [(5, .row 3005), (13, .d (.sl [.str] (List.map aY x13))), (14, dIq x14), (15, dIq x15)] [] [] [] [(3005, ⟨[.int .u8], 5, 1, (List.map (aO .u8) w3005)⟩)]) =
 cond (decide (x15 < x14)) (
 cond (iB x15 (lM aY x13 : Int)) (
  γ68 [.row 2000000000, dIq (List.length (bJ (cE aY x13 x15 0)) : Int)] [] [⟨[.int .u8], 5, 1, (List.map (aO .u8) w3005)⟩] fun r2 =>
  cond (decide ((lM (aO .u8) r2 + List.length (fP (bJ (cE aY x13 x15 0)))) * 1 ≤ 140737488355328)) (
  art (C31 Γ γ69 γ68) Λ2 J (List.map aY x13) x14 (w6 (x15 + 1)) (((List.map (aO .u8) r2) ++ (fP (bJ (cE aY x13 x15 0)))))) none) none) (
 (some (aP w3005))) := by kernel_rfl
end
abbrev X31 : aR := C31 gG (cT 69 aP) (cT 68 aP)
theorem ayX : X31 = aS gG := by unfold X31 C31; repeat rw [bH fun _ h => h]
abbrev aAY := art X31 (cB SE gG (SE.hl 31) (SE.hr 31)) (J0 SE X31)
theorem ahH : ∀ (fu : Nat) (x13 : List Str) (x14 x15 : Int) (w3005 : List Int), Le (Option.map aP (lU fu x13 x14 x15 w3005)) (aAY (List.map aY x13) x14 x15 (List.map (aO .u8) w3005)) := by
 intro fu
 induction fu with
 | zero => intros; exact le_none
 | succ fu ih =>
  intro x13 x14 x15 w3005
  refine Le.trans ?_ (le_of_eq ((bD ayX).trans (aAd ..)).symm)
  unfold lU
  refine lC ?_ ?_
  ·refine lGe ?_
   refine lQ eX aW (by (try simp only [EN]); exact abD w3005 (List.length (List.getD x13 (Int.toNat x15) default) : Int)) fun r2 _ => ?_
   refine lGe ?_
   (try simp only [EN]); exact ih x13 x14 (w6 (x15 + 1)) (r2 ++ (ofStr (List.getD x13 (Int.toNat x15) default)))
  ·exact aG rfl
theorem akq (p0 : List Int) (p1 : List Str) : Le (Option.map aP (vZ p0 p1)) (bF SE 31 [.d (.sl [.int .u8] (List.map (aO .u8) p0)), .d (.sl [.str] (List.map aY p1))] [] []) := by
 refine aZ ayX rfl ?_
 refine Le.trans ?_ (le_of_eq (T31 ..).symm)
 unfold vZ
 refine lQ eX aW (acn _ _) fun r0 _ => ?_
 refine lQ eX aW (by (try simp only [EN]); exact abD r0 (List.length p1 : Int)) fun r1 _ => ?_
 (try simp only [EN]); exact ahH fuel p1 (List.length p1 : Int) 0 r1
def akU (C : aR) (Λ2 J : Lam) (a0 : List (List D)) (a1 a2 : Int) (a3 : List (List D)) : Res := lab SE C Λ2 J 11 0 [1, 1, 1, 0, 1, 0, 1, 1, 1, 1, 1, 1, 1, 1, 1, 1, 1, 0, 1, 1, 0] (bA [(5, .row 3005), (79, .d (.sl [.int .i64] a0)), (80, dIq a1), (81, dIq a2)] [] [] [] [(3005, ⟨[.int .u8], 5, 1, a3⟩)])
section
variable (Γ : Fun) (γ25 : Gm (Int)) (γ26 γ27 : Gm ((List Int))) (γ28 : Gm (Int)) (γ29 γ30 γ31 : Gm ((List Int))) (Λ2 J : Lam)
def C11 : aR := bE (bE (bE (bE (bE (bE (bE (aS Γ) 25 brokerref05_Props_out γ25) 26 aP γ26) 27 aP γ27) 28 brokerref05_Props_out γ28) 29 aP γ29) 30 aP γ30) 31 aP γ31
theorem T11 (p0 : aA) : bK SE (C11 Γ γ25 γ26 γ27 γ28 γ29 γ30 γ31) Λ2 J 11 [aA.av p0] [] [] =
 γ25 [aA.av p0] [] [] fun r0 =>
 cond (r0 != 0) (
 (some (bV ([], r0)))) (
 γ26 [.d (.sl [.int .u8] (List.map (aO .u8) [])), dIq p0.Kind] [] [] fun r1 =>
 cond (p0.Kind == 1) (
 γ27 [.d (.sl [.int .u8] (List.map (aO .u8) r1)), aA.av p0] [] [] fun r2 =>
 (some (bV (r2, 0)))) (
 cond (p0.Kind == 2) (
 γ28 [.d (.sl [.bool] (List.map gH [p0.Present]))] [] [] fun r3 =>
 γ26 [.d (.sl [.int .u8] (List.map (aO .u8) r1)), dIq r3] [] [] fun r4 =>
 γ26 [.d (.sl [.int .u8] (List.map (aO .u8) r4)), dIq p0.Code] [] [] fun r5 =>
 (some (bV (r5, 0)))) (
 cond (p0.Kind == 3) (
 γ26 [.d (.sl [.int .u8] (List.map (aO .u8) r1)), dIq p0.ID] [] [] fun r6 =>
 γ28 [.d (.sl [.bool] (List.map gH [p0.Dup]))] [] [] fun r7 =>
 γ26 [.d (.sl [.int .u8] (List.map (aO .u8) r6)), dIq r7] [] [] fun r8 =>
 γ29 [.d (.sl [.int .u8] (List.map (aO .u8) r8)), aF.av p0.Message] [] [] fun r9 =>
 (some (bV (r9, 0)))) (
 cond (p0.Kind == 4) (
 γ26 [.d (.sl [.int .u8] (List.map (aO .u8) r1)), dIq p0.ID] [] [] fun r10 =>
 (some (bV (r10, 0)))) (
 cond (p0.Kind == 5) (
 γ26 [.d (.sl [.int .u8] (List.map (aO .u8) r1)), dIq p0.ID] [] [] fun r11 =>
 (some (bV (r11, 0)))) (
 cond (p0.Kind == 6) (
 γ26 [.d (.sl [.int .u8] (List.map (aO .u8) r1)), dIq p0.ID] [] [] fun r12 =>
 (some (bV (r12, 0)))) (
 cond (p0.Kind == 7) (
 γ26 [.d (.sl [.int .u8] (List.map (aO .u8) r1)), dIq p0.ID] [] [] fun r13 =>
 (some (bV (r13, 0)))) (
 cond (p0.Kind == 8) (
 γ26 [.d (.sl [.int .u8] (List.map (aO .u8) r1)), dIq p0.ID] [] [] fun r14 =>
 γ30 [.d (.sl [.int .u8] (List.map (aO .u8) r14)), .d (.sl aH.ks (List.map aH.enc p0.Subs))] [] [] fun r15 =>
 (some (bV (r15, 0)))) (
 cond (p0.Kind == 9) (
 γ26 [.d (.sl [.int .u8] (List.map (aO .u8) r1)), dIq p0.ID] [] [] fun r16 =>
 γ26 [.d (.sl [.int .u8] (List.map (aO .u8) r16)), dIq (lM eI p0.Codes : Int)] [] [] fun r17 =>
 akU (C11 Γ γ25 γ26 γ27 γ28 γ29 γ30 γ31) Λ2 J (List.map eI p0.Codes) (lM eI p0.Codes : Int) 0 (List.map (aO .u8) r17)) (
 cond (p0.Kind == 11) (
 γ26 [.d (.sl [.int .u8] (List.map (aO .u8) r1)), dIq p0.ID] [] [] fun r18 =>
 γ26 [.d (.sl [.int .u8] (List.map (aO .u8) r18)), dIq (lM eI p0.Codes : Int)] [] [] fun r19 =>
 akU (C11 Γ γ25 γ26 γ27 γ28 γ29 γ30 γ31) Λ2 J (List.map eI p0.Codes) (lM eI p0.Codes : Int) 0 (List.map (aO .u8) r19)) (
 cond (p0.Kind == 10) (
 γ26 [.d (.sl [.int .u8] (List.map (aO .u8) r1)), dIq p0.ID] [] [] fun r20 =>
 γ31 [.d (.sl [.int .u8] (List.map (aO .u8) r20)), .d (.sl [.str] (List.map aY p0.Filters))] [] [] fun r21 =>
 (some (bV (r21, 0)))) (
 cond (p0.Kind == 14) (
 γ26 [.d (.sl [.int .u8] (List.map (aO .u8) r1)), dIq p0.Code] [] [] fun r22 =>
 (some (bV (r22, 0)))) (
 (some (bV (r1, 0)))))))))))))))) := by kernel_rfl
theorem ayB (x79 : List Int) (x80 x81 : Int) (w3005 : List Int) : cJ SE (C11 Γ γ25 γ26 γ27 γ28 γ29 γ30 γ31) Λ2 J 11 0 [1, 1, 1, 0, 1, 0, 1, 1, 1, 1, 1, 1, 1, 1, 1, 1, 1, 0, 1, 1, 0] (bA [(5, .row 3005), (79, .d (.sl [.int .i64] (List.map eI x79))), (80, dIq x80), (81, dIq x81)] [] [] [] [(3005, ⟨[.int .u8], 5, 1, (List.map (aO .u8) w3005)⟩)]) =
 cond (decide (x81 < x80)) (
 cond (iB x81 (lM eI x79 : Int)) (
  γ26 [.d (.sl [.int .u8] (List.map (aO .u8) w3005)), dIq (aX (cE eI x79 x81 0))] [] [] fun r23 =>
  akU (C11 Γ γ25 γ26 γ27 γ28 γ29 γ30 γ31) Λ2 J (List.map eI x79) x80 (w6 (x81 + 1)) (List.map (aO .u8) r23)) none) (
 (some (bV (w3005, 0)))) := by kernel_rfl
end
abbrev X11 : aR := C11 gG (cT 25 brokerref05_Props_out) (cT 26 aP) (cT 27 aP) (cT 28 brokerref05_Props_out) (cT 29 aP) (cT 30 aP) (cT 31 aP)
theorem aw2 : X11 = aS gG := by unfold X11 C11; repeat rw [bH fun _ h => h]
abbrev ayp := akU X11 (cB SE gG (SE.hl 11) (SE.hr 11)) (J0 SE X11)
theorem abQ : ∀ (fu : Nat) (x79 : List Int) (x80 x81 : Int) (w3005 : List Int), Le (Option.map bV (jY fu x79 x80 x81 w3005)) (ayp (List.map eI x79) x80 x81 (List.map (aO .u8) w3005)) := by
 intro fu
 induction fu with
 | zero => intros; exact le_none
 | succ fu ih =>
  intro x79 x80 x81 w3005
  refine Le.trans ?_ (le_of_eq ((bD aw2).trans (ayB ..)).symm)
  unfold jY
  refine lC ?_ ?_
  ·refine lGe ?_
   refine lQ eX aW (by (try simp only [EN]); exact cI w3005 (List.getD x79 (Int.toNat x81) default)) fun r23 _ => ?_
   exact ih x79 x80 (w6 (x81 + 1)) r23
  ·exact aG rfl
theorem tW (p0 : aA) : Le (Option.map bV (oI p0)) (bF SE 11 [aA.av p0] [] []) := by
 refine aZ aw2 rfl ?_
 refine Le.trans ?_ (le_of_eq (T11 ..).symm)
 unfold oI
 refine lQ eX brokerref05_Props_inj (aaV _) fun r0 _ => ?_
 refine lC ?_ ?_
 ·exact aG rfl
 ·refine lQ eX aW (by (try simp only [EN]); exact cI [] p0.Kind) fun r1 _ => ?_
  refine lC ?_ ?_
  ·refine lQ eX aW (akS _ _) fun r2 _ => ?_
   exact aG rfl
  ·refine lC ?_ ?_
   ·refine lQ eX brokerref05_Props_inj (vY _) fun r3 _ => ?_
    refine lQ eX aW (cI _ _) fun r4 _ => ?_
    refine lQ eX aW (cI _ _) fun r5 _ => ?_
    exact aG rfl
   ·refine lC ?_ ?_
    ·refine lQ eX aW (cI _ _) fun r6 _ => ?_
     refine lQ eX brokerref05_Props_inj (vY _) fun r7 _ => ?_
     refine lQ eX aW (cI _ _) fun r8 _ => ?_
     refine lQ eX aW (agw _ _) fun r9 _ => ?_
     exact aG rfl
    ·refine lC ?_ ?_
     ·refine lQ eX aW (cI _ _) fun r10 _ => ?_
      exact aG rfl
     ·refine lC ?_ ?_
      ·refine lQ eX aW (cI _ _) fun r11 _ => ?_
       exact aG rfl
      ·refine lC ?_ ?_
       ·refine lQ eX aW (cI _ _) fun r12 _ => ?_
        exact aG rfl
       ·refine lC ?_ ?_
        ·refine lQ eX aW (cI _ _) fun r13 _ => ?_
         exact aG rfl
        ·refine lC ?_ ?_
         ·refine lQ eX aW (cI _ _) fun r14 _ => ?_
          refine lQ eX aW (agn _ _) fun r15 _ => ?_
          exact aG rfl
         ·refine lC ?_ ?_
          ·refine lQ eX aW (cI _ _) fun r16 _ => ?_
           refine lQ eX aW (by (try simp only [EN]); exact cI r16 (List.length p0.Codes : Int)) fun r17 _ => ?_
           (try simp only [EN]); exact abQ fuel p0.Codes (List.length p0.Codes : Int) 0 r17
          ·refine lC ?_ ?_
           ·refine lQ eX aW (cI _ _) fun r18 _ => ?_
            refine lQ eX aW (by (try simp only [EN]); exact cI r18 (List.length p0.Codes : Int)) fun r19 _ => ?_
            (try simp only [EN]); exact abQ fuel p0.Codes (List.length p0.Codes : Int) 0 r19
           ·refine lC ?_ ?_
            ·refine lQ eX aW (cI _ _) fun r20 _ => ?_
             refine lQ eX aW (akq _ _) fun r21 _ => ?_
             exact aG rfl
            ·refine lC ?_ ?_
             ·refine lQ eX aW (cI _ _) fun r22 _ => ?_
              exact aG rfl
             ·exact aG rfl
section
variable (Γ : Fun)  (Λ2 J : Lam)
def C84 : aR := aS Γ
theorem T84 (p0 : Int) : bK SE (C84 Γ) Λ2 J 84 [.d (.int .u64 p0)] [] [] =
 cond ((eF .and .u64 p0 1) == 1) (
 (rI (w6 ((w6 (0 - (w6 (shr .u64 p0 1)))) - 1)))) (
 (rI (w6 (shr .u64 p0 1)))) := by kernel_rfl
end
abbrev X84 : aR := C84 gG
theorem aCZ : X84 = aS gG := rfl
theorem amu (p0 : Int) : Le (Option.map brokerref05_Props_out (lN p0)) (bF SE 84 [.d (.int .u64 p0)] [] []) := by
 refine aZ aCZ rfl ?_
 refine Le.trans ?_ (le_of_eq (T84 ..).symm)
 unfold lN
 refine lC ?_ ?_
 ·exact aG rfl
 ·exact aG rfl
def aie (C : aR) (Λ2 J : Lam) (a0 : List (List D)) (a1 a2 a3 a4 a5 : Int) (a6 a7 a8 : Bool) : Res := lab SE C Λ2 J 49 0 [1, 1, 1, 1, 0, 0, 0, 0, 1, 1, 1, 0] (bA [(0, .d (.sl [.int .u8] a0)), (1, dIq a1), (7, .d (.int .u64 a2)), (8, dIq a3), (9, .d (.int .u8 a4)), (39, dIq a5), (40, dBq a6), (41, dBq a7), (44, dBq a8)] [] [] [] [])
def aqX (C : aR) (Λ2 J : Lam) (a0 : List (List D)) (a1 a2 a3 : Int) : Res := lab SE C Λ2 J 49 0 [1, 1, 1, 1, 0] (bA [(0, .d (.sl [.int .u8] a0)), (1, dIq a1), (7, .d (.int .u64 a2)), (8, dIq a3)] [] [] [] [])
def av0 (C : aR) (Λ2 J : Lam) (a0 : List (List D)) (a1 : Int) : Res := lab SE C Λ2 J 49 0 [1, 1, 0] (bA [(0, .d (.sl [.int .u8] a0)), (1, dIq a1)] [] [] [] [])
section
variable (Γ : Fun) (γ84 : Gm (Int)) (Λ2 J : Lam)
def C49 : aR := bE (aS Γ) 84 brokerref05_Props_out γ84
theorem T49 (p0 : List Int) (p1 : Int) : bK SE (C49 Γ γ84) Λ2 J 49 [.d (.sl [.int .u8] (List.map (aO .u8) p0)), dIq p1] [] [] =
 cond (decide (p1 < 0)) (
 (some (cS (0, 0, 1)))) (
 cond (decide (p1 > (lM (aO .u8) p0 : Int))) (
 (some (cS (0, 0, 1)))) (
 av0 (C49 Γ γ84) Λ2 J (List.map (aO .u8) p0) p1)) := by kernel_rfl
theorem awX (x0 : List Int) (x1 x7 x8 x9 x39 : Int) (x40 x41 x44 : Bool) : cJ SE (C49 Γ γ84) Λ2 J 49 0 [1, 1, 1, 1, 0, 0, 0, 0, 1, 1, 1, 0] (bA [(0, .d (.sl [.int .u8] (List.map (aO .u8) x0))), (1, dIq x1), (7, .d (.int .u64 x7)), (8, dIq x8), (9, .d (.int .u8 x9)), (39, dIq x39), (40, dBq x40), (41, dBq x41), (44, dBq x44)] [] [] [] []) =
 cond (decide (0 ≤ (w6 (7 * x8)))) (
 cond (decide (x9 < 128)) (
  γ84 [.d (.int .u64 (eF .or .u64 x7 (shl .u64 (IntKind.wrap .u64 (eF .and .u8 x9 127)) (w6 (7 * x8)))))] [] [] fun r0 =>
  (some (cS (r0, (w6 ((w6 (x1 + x8)) + 1)), 0)))) (
 aqX (C49 Γ γ84) Λ2 J (List.map (aO .u8) x0) x1 ((eF .or .u64 x7 (shl .u64 (IntKind.wrap .u64 (eF .and .u8 x9 127)) (w6 (7 * x8))))) (w6 (x8 + 1)))) none := by kernel_rfl
theorem aAL (x0 : List Int) (x1 x7 x8 : Int) : cJ SE (C49 Γ γ84) Λ2 J 49 0 [1, 1, 1, 1, 0] (bA [(0, .d (.sl [.int .u8] (List.map (aO .u8) x0))), (1, dIq x1), (7, .d (.int .u64 x7)), (8, dIq x8)] [] [] [] []) =
 cond ((w6 (x1 + x8)) == (lM (aO .u8) x0 : Int)) (
 (some (cS (0, 0, 3)))) (
 cond (iB (w6 (x1 + x8)) (lM (aO .u8) x0 : Int)) (
 cond (x8 == 9) (
  cond (decide ((aX (cE (aO .u8) x0 (w6 (x1 + x8)) 0)) > 1)) (
  (some (cS (0, 0, 2)))) (
  cond (decide (x8 > 0)) (
  cond ((aX (cE (aO .u8) x0 (w6 (x1 + x8)) 0)) == 0) (
   (some (cS (0, 0, 2)))) (
  aie (C49 Γ γ84) Λ2 J (List.map (aO .u8) x0) x1 x7 x8 ((aX (cE (aO .u8) x0 (w6 (x1 + x8)) 0))) x8 (decide (x8 > 0)) true (((aX (cE (aO .u8) x0 (w6 (x1 + x8)) 0)) == 0)))) (
  aie (C49 Γ γ84) Λ2 J (List.map (aO .u8) x0) x1 x7 x8 ((aX (cE (aO .u8) x0 (w6 (x1 + x8)) 0))) x8 (decide (x8 > 0)) false false))) (
 cond (decide (x8 > 0)) (
  cond ((aX (cE (aO .u8) x0 (w6 (x1 + x8)) 0)) == 0) (
  (some (cS (0, 0, 2)))) (
  aie (C49 Γ γ84) Λ2 J (List.map (aO .u8) x0) x1 x7 x8 ((aX (cE (aO .u8) x0 (w6 (x1 + x8)) 0))) x8 (decide (x8 > 0)) true (((aX (cE (aO .u8) x0 (w6 (x1 + x8)) 0)) == 0)))) (
 aie (C49 Γ γ84) Λ2 J (List.map (aO .u8) x0) x1 x7 x8 ((aX (cE (aO .u8) x0 (w6 (x1 + x8)) 0))) x8 (decide (x8 > 0)) false false))) none) := by kernel_rfl
theorem aAE (x0 : List Int) (x1 : Int) : cJ SE (C49 Γ γ84) Λ2 J 49 0 [1, 1, 0] (bA [(0, .d (.sl [.int .u8] (List.map (aO .u8) x0))), (1, dIq x1)] [] [] [] []) =
 aqX (C49 Γ γ84) Λ2 J (List.map (aO .u8) x0) x1 0 0 := by kernel_rfl
end
abbrev X49 : aR := C49 gG (cT 84 brokerref05_Props_out)
theorem ara : X49 = aS gG := by unfold X49 C49; rw [bH fun _ h => h]
abbrev aw1 := aie X49 (cB SE gG (SE.hl 49) (SE.hr 49)) (J0 SE X49)
abbrev avz := aqX X49 (cB SE gG (SE.hl 49) (SE.hr 49)) (J0 SE X49)
abbrev aB2 := av0 X49 (cB SE gG (SE.hl 49) (SE.hr 49)) (J0 SE X49)
theorem wM (k6 : (List Int) → Int → Int → Int → Option (Int × Int × Int)) (hk6 : ∀ (x0 : List Int) (x1 x7 x8 : Int), Le (Option.map cS (k6 x0 x1 x7 x8)) (avz (List.map (aO .u8) x0) x1 x7 x8)) (x0 : List Int) (x1 x7 x8 x9 x39 : Int) (x40 x41 x44 : Bool) : Le (Option.map cS (lL k6 x0 x1 x7 x8 x9 x39 x40 x41 x44)) (aw1 (List.map (aO .u8) x0) x1 x7 x8 x9 x39 x40 x41 x44) := by
 refine Le.trans ?_ (le_of_eq ((bD ara).trans (awX ..)).symm)
 unfold lL
 refine lF ?_
 refine lC ?_ ?_
 ·refine lQ eX brokerref05_Props_inj (amu _) fun r0 _ => ?_
  exact aG rfl
 ·(try simp only [EN]); exact hk6 x0 x1 ((eF .or .u64 x7 (shl .u64 (IntKind.wrap .u64 (eF .and .u8 x9 127)) (w6 (7 * x8))))) (w6 (x8 + 1))
theorem amg : ∀ (fu : Nat) (x0 : List Int) (x1 x7 x8 : Int), Le (Option.map cS (eA fu x0 x1 x7 x8)) (avz (List.map (aO .u8) x0) x1 x7 x8) := by
 intro fu
 induction fu with
 | zero => intros; exact le_none
 | succ fu ih =>
  intro x0 x1 x7 x8
  refine Le.trans ?_ (le_of_eq ((bD ara).trans (aAL ..)).symm)
  unfold eA
  refine lDe ?_ ?_
  ·exact aG rfl
  ·refine lGe ?_
   refine lC ?_ ?_
   ·refine lDe ?_ ?_
    ·exact aG rfl
    ·refine lC ?_ ?_
     ·refine lDe ?_ ?_
      ·exact aG rfl
      ·(try simp only [EN]); exact wM _ (ih) x0 x1 x7 x8 (List.getD x0 (Int.toNat (w6 (x1 + x8))) default) x8 (decide (x8 > 0)) true ((List.getD x0 (Int.toNat (w6 (x1 + x8))) default) == 0)
     ·(try simp only [EN]); exact wM _ (ih) x0 x1 x7 x8 (List.getD x0 (Int.toNat (w6 (x1 + x8))) default) x8 (decide (x8 > 0)) false false
   ·refine lC ?_ ?_
    ·refine lDe ?_ ?_
     ·exact aG rfl
     ·(try simp only [EN]); exact wM _ (ih) x0 x1 x7 x8 (List.getD x0 (Int.toNat (w6 (x1 + x8))) default) x8 (decide (x8 > 0)) true ((List.getD x0 (Int.toNat (w6 (x1 + x8))) default) == 0)
    ·(try simp only [EN]); exact wM _ (ih) x0 x1 x7 x8 (List.getD x0 (Int.toNat (w6 (x1 + x8))) default) x8 (decide (x8 > 0)) false false
theorem alZ (x0 : List Int) (x1 : Int) : Le (Option.map cS (zG x0 x1)) (aB2 (List.map (aO .u8) x0) x1) := by
 refine Le.trans ?_ (le_of_eq ((bD ara).trans (aAE ..)).symm)
 unfold zG
 exact amg fuel x0 x1 0 0
theorem afP (p0 : List Int) (p1 : Int) : Le (Option.map cS (uT p0 p1)) (bF SE 49 [.d (.sl [.int .u8] (List.map (aO .u8) p0)), dIq p1] [] []) := by
 refine aZ ara rfl ?_
 refine Le.trans ?_ (le_of_eq (T49 ..).symm)
 unfold uT
 refine lC ?_ ?_
 ·exact aG rfl
 ·refine lDe ?_ ?_
  ·exact aG rfl
  ·exact alZ p0 p1
section
variable (Γ : Fun)  (Λ2 J : Lam)
def C39 : aR := aS Γ
theorem T39 (p0 : Bool) (p1 : Int) : bK SE (C39 Γ) Λ2 J 39 [dBq p0, dIq p1] [] [] =
 cond p0 (
 (some (.pan (.ifc 63 (aN.av (aN.mk p1)))))) (
 (some (.ret [] [] []))) := by kernel_rfl
end
abbrev X39 : aR := C39 gG
theorem aCY : X39 = aS gG := rfl
theorem jL (p0 : Bool) (p1 : Int) : Le (Option.map gB (eK p0 p1)) (bF SE 39 [dBq p0, dIq p1] [] []) := by
 refine aZ aCY rfl ?_
 refine Le.trans ?_ (le_of_eq (T39 ..).symm)
 unfold eK
 refine lC ?_ ?_
 ·exact aG rfl
 ·exact aG rfl
section
variable (Γ : Fun) (γ49 : Gm (Int × Int × Int)) (γ39 : Gp aN (Unit)) (Λ2 J : Lam)
def C38 : aR := nS (bE (aS Γ) 49 cS γ49) 39 gB γ39
theorem T38 (p0 : aI) : bK SE (C38 Γ γ49 γ39) Λ2 J 38 [.ptr 2000000000 0] [⟨66, (aI.avs p0)⟩] [] =
 γ49 [.d (.sl [.int .u8] (List.map (aO .u8) p0.b)), dIq p0.at_] [] [] fun r0 =>
 γ39 [dBq (r0.2.2 != 0), dIq r0.2.2] [] [] (fun e2 =>
 (some (.pan (.ifc 63 (aN.av e2))))) fun r1 =>
 (some (rH (r0.1, (aI.mk p0.b r0.2.1)))) := by kernel_rfl
end
abbrev X38 : aR := C38 gG (cT 49 cS) (cP 39 gB)
theorem aDR : X38 = aS gG := by unfold X38 C38; rw [bH fun _ h => h, eP fun _ h => h]
theorem bW (p0 : aI) : Le (Option.map cH (bS p0)) (bF SE 38 [.ptr 2000000000 0] [⟨66, (aI.avs p0)⟩] []) := by
 refine aZ aDR rfl ?_
 refine Le.trans ?_ (le_of_eq (T38 ..).symm)
 unfold bS
 refine lQ eX rL (afP _ _) fun r0 _ => ?_
 refine bY (good := good) eX iR (jL _ _) (fun e2 _ => ?_) (fun r1 _ => ?_)
 ·exact aG rfl
 ·exact aG rfl
section
variable (Γ : Fun) (γ49 : Gm (Int × Int × Int)) (Λ2 J : Lam)
def avl : aR := bE (aS Γ) 49 cS γ49
theorem aDt (p0 : List Int) (p1 p2 : Int) : bK SE (avl Γ γ49) Λ2 J 121 [.d (.sl [.int .u8] (List.map (aO .u8) p0)), dIq p1, dIq p2] [] [] =
 γ49 [.d (.sl [.int .u8] (List.map (aO .u8) p0)), dIq p1] [] [] fun r0 =>
 cond (r0.2.2 != 0) (
 (some (gA ([], 0, r0.2.2)))) (
 cond (decide (r0.1 < 0)) (
 (some (gA ([], 0, 2)))) (
 cond (decide (r0.1 > p2)) (
 (some (gA ([], 0, 5)))) (
 cond (decide (r0.1 > (w6 ((lM (aO .u8) p0 : Int) - r0.2.1)))) (
 (some (gA ([], 0, 3)))) (
 cond (decide (0 ≤ (w6 (r0.2.1 + r0.1))) && decide ((w6 (r0.2.1 + r0.1)) ≤ ((lM (aO .u8) p0) : Int))) (
 cond (decide (0 ≤ (w6 (r0.2.1 + r0.1))) && decide ((w6 (r0.2.1 + r0.1)) ≤ (w6 (r0.2.1 + r0.1)))) (
  cond (decide (0 ≤ r0.2.1) && decide (r0.2.1 ≤ (w6 (r0.2.1 + r0.1)))) (
  (some (.ret [dSq (uG (dI (List.map (aO .u8) p0) (some r0.2.1) (some (w6 (r0.2.1 + r0.1))))), dIq (w6 (r0.2.1 + r0.1)), dIq 0] [] []))) none) none) none)))) := by kernel_rfl
end
abbrev axI : aR := avl gG (cT 49 cS)
theorem aA9 : axI = aS gG := by unfold axI avl; rw [bH fun _ h => h]
theorem aoF (p0 : List Int) (p1 p2 : Int) : Le (Option.map gA (xL p0 p1 p2)) (bF SE 121 [.d (.sl [.int .u8] (List.map (aO .u8) p0)), dIq p1, dIq p2] [] []) := by
 refine aZ aA9 rfl ?_
 refine Le.trans ?_ (le_of_eq (aDt ..).symm)
 unfold xL
 refine lQ eX rL (afP _ _) fun r0 _ => ?_
 refine lC ?_ ?_
 ·exact aG rfl
 ·refine lC ?_ ?_
  ·exact aG rfl
  ·refine lC ?_ ?_
   ·exact aG rfl
   ·refine lDe ?_ ?_
    ·exact aG rfl
    ·refine lGe ?_
     refine lF ?_
     refine lF ?_
     exact aG (by first | rfl | simp only [EN, gA] <;> rfl)
end Te
end PX
