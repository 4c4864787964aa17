import Derived.Test.YthgmhhgmnegocaaGreatDoorTre2
set_option linter.unusedVariables false
set_option linter.unusedSimpArgs false
set_option maxRecDepth 100000
noncomputable section
namespace PX
open Go
open Md
namespace Te
def apy (C : aR) (Λ2 J : Lam) (a0 : List D) : Res := lab SE C Λ2 J 88 0 [1, 1, 1, 1, 1, 1, 0, 0] (bA [(1, .ptr 1000000000 0)] [⟨24, (List.map AV.d a0)⟩] [] [] [])
def avW (C : aR) (Λ2 J : Lam) (a0 : List D) : Res := lab SE C Λ2 J 88 0 [1, 1, 1, 1, 1, 0, 0] (bA [(1, .ptr 1000000000 0)] [⟨24, (List.map AV.d a0)⟩] [] [] [])
def avu (C : aR) (Λ2 J : Lam) (a0 : List D) : Res := lab SE C Λ2 J 88 0 [1, 1, 1, 1, 0, 0] (bA [(1, .ptr 1000000000 0)] [⟨24, (List.map AV.d a0)⟩] [] [] [])
section
variable (Γ : Fun) (γ110 γ86 : Gm (Bool)) (γ111 : Gm (Int)) (Λ2 J : Lam)
def C88 : aR := bE (bE (bE (aS Γ) 110 packet_is_out γ110) 86 packet_is_out γ86) 111 aJ γ111
theorem T88 (p0 : aF) : bK SE (C88 Γ γ110 γ86 γ111) Λ2 J 88 [aF.av p0] [] [] =
 γ110 [.d (.str p0.Topic)] [] [] fun r0 =>
 cond (!r0) (
 (rI 12)) (
 cond (decide ((List.length p0.Payload : Int) > 256)) (
 (rI 5)) (
 cond (decide (p0.Level < 0)) (
 (rI 14)) (
 cond (decide (p0.Level > 2)) (
 (rI 14)) (
 avu (C88 Γ γ110 γ86 γ111) Λ2 J (aF.enc p0))))) := by kernel_rfl
theorem azG (b0 : aF) : cJ SE (C88 Γ γ110 γ86 γ111) Λ2 J 88 0 [1, 1, 1, 1, 1, 1, 0, 0] (bA [(1, .ptr 1000000000 0)] [⟨24, (List.map AV.d (aF.enc b0))⟩] [] [] []) =
 cond (decide (b0.Seq < 0)) (
 (rI 1)) (
 cond (decide (b0.Seq > 1099511627776)) (
 (rI 1)) (
 γ111 [.d (.sl aC.ks (List.map aC.enc b0.Props))] [] [] fun r2 =>
 (rI r2))) := by kernel_rfl
theorem aAX (b0 : aF) : cJ SE (C88 Γ γ110 γ86 γ111) Λ2 J 88 0 [1, 1, 1, 1, 1, 0, 0] (bA [(1, .ptr 1000000000 0)] [⟨24, (List.map AV.d (aF.enc b0))⟩] [] [] []) =
 cond (!(b0.From == ([] : Str))) (
 γ86 [.d (.str b0.From)] [] [] fun r1 =>
 cond (!r1) (
  (rI 11)) (
 apy (C88 Γ γ110 γ86 γ111) Λ2 J (aF.enc b0))) (
 apy (C88 Γ γ110 γ86 γ111) Λ2 J (aF.enc b0)) := by kernel_rfl
theorem aCe (b0 : aF) : cJ SE (C88 Γ γ110 γ86 γ111) Λ2 J 88 0 [1, 1, 1, 1, 0, 0] (bA [(1, .ptr 1000000000 0)] [⟨24, (List.map AV.d (aF.enc b0))⟩] [] [] []) =
 cond (decide (b0.Priority < 0)) (
 (rI 1)) (
 cond (decide (b0.Priority > 9)) (
 (rI 1)) (
 cond (decide (b0.Expires < 0)) (
 (rI 1)) (
 cond (decide (b0.Expires > 1099511627776)) (
 (rI 1)) (
 avW (C88 Γ γ110 γ86 γ111) Λ2 J (aF.enc b0))))) := by kernel_rfl
end
abbrev X88 : aR := C88 gG (cT 110 packet_is_out) (cT 86 packet_is_out) (cT 111 aJ)
theorem arB : X88 = aS gG := by unfold X88 C88; repeat rw [bH fun _ h => h]
abbrev ayj := apy X88 (cB SE gG (SE.hl 88) (SE.hr 88)) (J0 SE X88)
abbrev aA2 := avW X88 (cB SE gG (SE.hl 88) (SE.hr 88)) (J0 SE X88)
abbrev aBa := avu X88 (cB SE gG (SE.hl 88) (SE.hr 88)) (J0 SE X88)
theorem wW (b0 : aF) : Le (Option.map aJ (kC b0)) (ayj (aF.enc b0)) := by
 refine Le.trans ?_ (le_of_eq ((bD arB).trans (azG ..)).symm)
 unfold kC
 refine lC ?_ ?_
 ·exact aG rfl
 ·refine lC ?_ ?_
  ·exact aG rfl
  ·refine lQ eX bB (ahj _) fun r2 _ => ?_
   exact aG rfl
theorem aeA (b0 : aF) : Le (Option.map aJ (mR b0)) (aA2 (aF.enc b0)) := by
 refine Le.trans ?_ (le_of_eq ((bD arB).trans (aAX ..)).symm)
 unfold mR
 refine lC ?_ ?_
 ·refine lQ eX packet_is_inj (rY _) fun r1 _ => ?_
  refine lC ?_ ?_
  ·exact aG rfl
  ·exact wW b0
 ·exact wW b0
theorem aez (b0 : aF) : Le (Option.map aJ (nC b0)) (aBa (aF.enc b0)) := by
 refine Le.trans ?_ (le_of_eq ((bD arB).trans (aCe ..)).symm)
 unfold nC
 refine lC ?_ ?_
 ·exact aG rfl
 ·refine lC ?_ ?_
  ·exact aG rfl
  ·refine lC ?_ ?_
   ·exact aG rfl
   ·refine lC ?_ ?_
    ·exact aG rfl
    ·exact aeA b0
theorem aaW (p0 : aF) : Le (Option.map aJ (jS p0)) (bF SE 88 [aF.av p0] [] []) := by
 refine aZ arB rfl ?_
 refine Le.trans ?_ (le_of_eq (T88 ..).symm)
 unfold jS
 refine lQ eX packet_is_inj (ag8 _) fun r0 _ => ?_
 refine lC ?_ ?_
 ·exact aG rfl
 ·refine lC ?_ ?_
  ·exact aG rfl
  ·refine lC ?_ ?_
   ·exact aG rfl
   ·refine lC ?_ ?_
    ·exact aG rfl
    ·exact aez p0
section
variable (Γ : Fun) (γ43 : Gm (Bool)) (γ88 : Gm (Int)) (Λ2 J : Lam)
def C87 : aR := bE (bE (aS Γ) 43 packet_is_out γ43) 88 aJ γ88
theorem T87 (p0 : aV) : bK SE (C87 Γ γ43 γ88) Λ2 J 87 [aV.av p0] [] [] =
 cond (!p0.Set) (
 cond (p0.Delay != 0) (
  (rI 28)) (
 γ43 [aF.av p0.Message, .agg [.d (.str []), .d (.str []), .d (.int .i64 0), .d (.bool false), .d (.int .i64 0), .d (.int .i64 0), .d (.str []), .d (.int .i64 0), .d (.sl aC.ks (List.map aC.enc []))]] [] [] fun r0 =>
 cond (!r0) (
  (rI 28)) (
 (rI 0)))) (
 cond (decide (p0.Delay < 0)) (
 (rI 1)) (
 cond (decide (p0.Delay > 1099511627776)) (
 (rI 1)) (
 γ88 [aF.av p0.Message] [] [] fun r1 =>
 (rI r1)))) := by kernel_rfl
end
abbrev X87 : aR := C87 gG (cT 43 packet_is_out) (cT 88 aJ)
theorem aDA : X87 = aS gG := by unfold X87 C87; repeat rw [bH fun _ h => h]
theorem ahJ (p0 : aV) : Le (Option.map aJ (rT p0)) (bF SE 87 [aV.av p0] [] []) := by
 refine aZ aDA rfl ?_
 refine Le.trans ?_ (le_of_eq (T87 ..).symm)
 unfold rT
 refine lC ?_ ?_
 ·refine lC ?_ ?_
  ·exact aG rfl
  ·refine lQ eX packet_is_inj (by (try simp only [EN]); exact wH p0.Message ((aF.mk [] [] 0 false 0 0 [] 0 []))) fun r0 _ => ?_
   refine lC ?_ ?_
   ·exact aG rfl
   ·exact aG rfl
 ·refine lC ?_ ?_
  ·exact aG rfl
  ·refine lC ?_ ?_
   ·exact aG rfl
   ·refine lQ eX bB (aaW _) fun r1 _ => ?_
    exact aG rfl
def aqJ (C : aR) (Λ2 J : Lam) (a0 : List D) : Res := lab SE C Λ2 J 52 0 [1, 1, 0, 0] (bA [(1, .ptr 1000000000 0)] [⟨31, (List.map AV.d a0)⟩] [] [] [])
section
variable (Γ : Fun) (γ86 : Gm (Bool)) (γ87 : Gm (Int)) (Λ2 J : Lam)
def C52 : aR := bE (bE (aS Γ) 86 packet_is_out γ86) 87 aJ γ87
theorem T52 (p0 : aA) : bK SE (C52 Γ γ86 γ87) Λ2 J 52 [aA.av p0] [] [] =
 γ86 [.d (.str p0.Client)] [] [] fun r0 =>
 cond (!r0) (
 (rI 11)) (
 cond (!(p0.User == ([] : Str))) (
 γ86 [.d (.str p0.User)] [] [] fun r1 =>
 cond (!r1) (
  (rI 11)) (
 aqJ (C52 Γ γ86 γ87) Λ2 J (aA.enc p0))) (
 aqJ (C52 Γ γ86 γ87) Λ2 J (aA.enc p0))) := by kernel_rfl
theorem aBD (b0 : aA) : cJ SE (C52 Γ γ86 γ87) Λ2 J 52 0 [1, 1, 0, 0] (bA [(1, .ptr 1000000000 0)] [⟨31, (List.map AV.d (aA.enc b0))⟩] [] [] []) =
 cond (decide (b0.Keep < 0)) (
 (rI 1)) (
 cond (decide (b0.Keep > 1099511627776)) (
 (rI 1)) (
 cond (decide (b0.Expiry < 0)) (
 (rI 1)) (
 cond (decide (b0.Expiry > 1099511627776)) (
 (rI 1)) (
 cond (decide (b0.Window < 1)) (
 (rI 1)) (
 cond (decide (b0.Window > 32)) (
 (rI 1)) (
 γ87 [aV.av b0.Will] [] [] fun r2 =>
 (rI r2))))))) := by kernel_rfl
end
abbrev X52 : aR := C52 gG (cT 86 packet_is_out) (cT 87 aJ)
theorem ayA : X52 = aS gG := by unfold X52 C52; repeat rw [bH fun _ h => h]
abbrev aBo := aqJ X52 (cB SE gG (SE.hl 52) (SE.hr 52)) (J0 SE X52)
theorem wK (b0 : aA) : Le (Option.map aJ (lK b0)) (aBo (aA.enc b0)) := by
 refine Le.trans ?_ (le_of_eq ((bD ayA).trans (aBD ..)).symm)
 unfold lK
 refine lC ?_ ?_
 ·exact aG rfl
 ·refine lC ?_ ?_
  ·exact aG rfl
  ·refine lC ?_ ?_
   ·exact aG rfl
   ·refine lC ?_ ?_
    ·exact aG rfl
    ·refine lC ?_ ?_
     ·exact aG rfl
     ·refine lC ?_ ?_
      ·exact aG rfl
      ·refine lQ eX bB (ahJ _) fun r2 _ => ?_
       exact aG rfl
theorem afI (p0 : aA) : Le (Option.map aJ (nX p0)) (bF SE 52 [aA.av p0] [] []) := by
 refine aZ ayA rfl ?_
 refine Le.trans ?_ (le_of_eq (T52 ..).symm)
 unfold nX
 refine lQ eX packet_is_inj (rY _) fun r0 _ => ?_
 refine lC ?_ ?_
 ·exact aG rfl
 ·refine lC ?_ ?_
  ·refine lQ eX packet_is_inj (rY _) fun r1 _ => ?_
   refine lC ?_ ?_
   ·exact aG rfl
   ·exact wK p0
  ·exact wK p0
section
variable (Γ : Fun)  (Λ2 J : Lam)
def C55 : aR := aS Γ
theorem T55 (p0 : Int) : bK SE (C55 Γ) Λ2 J 55 [.d (.int .i64 p0)] [] [] =
 cond (decide (p0 < 1)) (
 (rI 15)) (
 cond (decide (p0 > 65535)) (
 (rI 15)) (
 (rI 0))) := by kernel_rfl
end
abbrev X55 : aR := C55 gG
theorem aDL : X55 = aS gG := rfl
theorem aaU (p0 : Int) : Le (Option.map aJ (nJ p0)) (bF SE 55 [.d (.int .i64 p0)] [] []) := by
 refine aZ aDL rfl ?_
 refine Le.trans ?_ (le_of_eq (T55 ..).symm)
 unfold nJ
 refine lC ?_ ?_
 ·exact aG rfl
 ·refine lC ?_ ?_
  ·exact aG rfl
  ·exact aG rfl
section
variable (Γ : Fun) (γ88 γ55 : Gm (Int)) (Λ2 J : Lam)
def C53 : aR := bE (bE (aS Γ) 88 aJ γ88) 55 aJ γ55
theorem T53 (p0 : aA) : bK SE (C53 Γ γ88 γ55) Λ2 J 53 [aA.av p0] [] [] =
 γ88 [aF.av p0.Message] [] [] fun r0 =>
 cond (r0 != 0) (
 (rI r0)) (
 cond (p0.Message.Level == 0) (
 cond (p0.ID != 0) (
  (rI 15)) (
 cond p0.Dup (
  (rI 28)) (
 (rI 0)))) (
 γ55 [.d (.int .i64 p0.ID)] [] [] fun r1 =>
 (rI r1))) := by kernel_rfl
end
abbrev X53 : aR := C53 gG (cT 88 aJ) (cT 55 aJ)
theorem aCK : X53 = aS gG := by unfold X53 C53; repeat rw [bH fun _ h => h]
theorem afL (p0 : aA) : Le (Option.map aJ (n4 p0)) (bF SE 53 [aA.av p0] [] []) := by
 refine aZ aCK rfl ?_
 refine Le.trans ?_ (le_of_eq (T53 ..).symm)
 unfold n4
 refine lQ eX bB (aaW _) fun r0 _ => ?_
 refine lC ?_ ?_
 ·exact aG rfl
 ·refine lC ?_ ?_
  ·refine lC ?_ ?_
   ·exact aG rfl
   ·refine lC ?_ ?_
    ·exact aG rfl
    ·exact aG rfl
  ·refine lQ eX bB (aaU _) fun r1 _ => ?_
   exact aG rfl
section
variable (Γ : Fun)  (Λ2 J : Lam)
def C54 : aR := aS Γ
theorem T54 (p0 : Int) : bK SE (C54 Γ) Λ2 J 54 [.d (.int .i64 p0)] [] [] =
 cond (decide (p0 ≥ 0)) (
 (rB (decide (p0 ≤ 29)))) (
 (rB false)) := by kernel_rfl
end
abbrev X54 : aR := C54 gG
theorem aEn : X54 = aS gG := rfl
theorem wI (p0 : Int) : Le (Option.map packet_is_out (lT p0)) (bF SE 54 [.d (.int .i64 p0)] [] []) := by
 refine aZ aEn rfl ?_
 refine Le.trans ?_ (le_of_eq (T54 ..).symm)
 unfold lT
 refine lC ?_ ?_
 ·exact aG rfl
 ·exact aG rfl
section
variable (Γ : Fun)  (Λ2 J : Lam)
def C56 : aR := aS Γ
theorem T56 (p0 : Int) : bK SE (C56 Γ) Λ2 J 56 [.d (.int .i64 p0)] [] [] =
 cond (p0 == 0) (
 (rI 1)) (
 cond (decide (p0 > 32)) (
 (rI 5)) (
 (rI 0))) := by kernel_rfl
end
abbrev X56 : aR := C56 gG
theorem aDx : X56 = aS gG := rfl
theorem ahc (p0 : Int) : Le (Option.map aJ (pW p0)) (bF SE 56 [.d (.int .i64 p0)] [] []) := by
 refine aZ aDx rfl ?_
 refine Le.trans ?_ (le_of_eq (T56 ..).symm)
 unfold pW
 refine lC ?_ ?_
 ·exact aG rfl
 ·refine lC ?_ ?_
  ·exact aG rfl
  ·exact aG rfl
section
variable (Γ : Fun)  (Λ2 J : Lam)
def axZ : aR := aS Γ
theorem aDV (p0 p1 : Str) : bK SE (axZ Γ) Λ2 J 114 [.d (.str p0), .d (.str p1)] [] [] =
 cond (decide ((List.length p0 : Int) ≥ (List.length p1 : Int))) (
 cond (decide (0 ≤ (List.length p1 : Int)) && decide ((List.length p1 : Int) ≤ ((List.length p0) : Int))) (
  (rB ((dI p0 none (some (List.length p1 : Int))) == p1))) none) (
 (rB false)) := by kernel_rfl
end
abbrev aCR : aR := axZ gG
theorem aA8 : aCR = aS gG := rfl
theorem tU (p0 p1 : Str) : Le (Option.map packet_is_out (mH p0 p1)) (bF SE 114 [.d (.str p0), .d (.str p1)] [] []) := by
 refine aZ aA8 rfl ?_
 refine Le.trans ?_ (le_of_eq (aDV ..).symm)
 unfold mH
 refine lC ?_ ?_
 ·refine lF ?_
  exact aG rfl
 ·exact aG rfl
def apf (C : aR) (Λ2 J : Lam) (a0 : Int) (a1 : List (List D)) : Res := lab SE C Λ2 J 113 0 [1, 1, 1, 0, 1, 0, 0, 1, 0, 0, 1, 0] (bA [(3, .row 3003), (4, .d (.int .i64 a0))] [] [] [] [(3003, ⟨[.str], 9, 16, a1⟩)])
def alH (C : aR) (Λ2 J : Lam) (a0 : Int) (a1 : List (List D)) : Res := lab SE C Λ2 J 113 0 [1, 1, 1, 0, 1, 0] (bA [(3, .row 3003), (4, .d (.int .i64 a0))] [] [] [] [(3003, ⟨[.str], 9, 16, a1⟩)])
section
variable (Γ : Fun) (γ122 : Gm (Bool)) (γ125 : Gm ((List Str))) (γ123 : Gm (Bool)) (Λ2 J : Lam)
def afz : aR := bE (bE (bE (aS Γ) 122 packet_is_out γ122) 125 eQ γ125) 123 packet_is_out γ123
theorem aD7 (p0 : Str) : bK SE (afz Γ γ122 γ125 γ123) Λ2 J 113 [.d (.str p0)] [] [] =
 γ122 [.d (.str p0)] [] [] fun r0 =>
 cond (!r0) (
 (rB false)) (
 γ125 [.d (.str p0)] [] [] fun r1 =>
 alH (afz Γ γ122 γ125 γ123) Λ2 J 0 (List.map aY r1)) := by kernel_rfl
theorem axM (x4 : Int) (w3003 : List Str) : cJ SE (afz Γ γ122 γ125 γ123) Λ2 J 113 0 [1, 1, 1, 0, 1, 0, 0, 1, 0, 0, 1, 0] (bA [(3, .row 3003), (4, .d (.int .i64 x4))] [] [] [] [(3003, ⟨[.str], 9, 16, (List.map aY w3003)⟩)]) =
 cond (iB x4 (lM aY w3003 : Int)) (
 γ123 [.d (.str (bJ (cE aY w3003 x4 0))), .d (.int .u8 35)] [] [] fun r3 =>
 cond r3 (
  cond (iB x4 (lM aY w3003 : Int)) (
  cond (!((bJ (cE aY w3003 x4 0)) == ([35] : Str))) (
   (rB false)) (
  cond (x4 != (w6 ((lM aY w3003 : Int) - 1))) (
   (rB false)) (
  alH (afz Γ γ122 γ125 γ123) Λ2 J (w6 (x4 + 1)) (List.map aY w3003)))) none) (
 alH (afz Γ γ122 γ125 γ123) Λ2 J (w6 (x4 + 1)) (List.map aY w3003))) none := by kernel_rfl
theorem azj (x4 : Int) (w3003 : List Str) : cJ SE (afz Γ γ122 γ125 γ123) Λ2 J 113 0 [1, 1, 1, 0, 1, 0] (bA [(3, .row 3003), (4, .d (.int .i64 x4))] [] [] [] [(3003, ⟨[.str], 9, 16, (List.map aY w3003)⟩)]) =
 cond (decide (x4 < (lM aY w3003 : Int))) (
 cond (iB x4 (lM aY w3003 : Int)) (
  γ123 [.d (.str (bJ (cE aY w3003 x4 0))), .d (.int .u8 43)] [] [] fun r2 =>
  cond r2 (
  cond (iB x4 (lM aY w3003 : Int)) (
   cond (!((bJ (cE aY w3003 x4 0)) == ([43] : Str))) (
   (rB false)) (
   apf (afz Γ γ122 γ125 γ123) Λ2 J x4 (List.map aY w3003))) none) (
  apf (afz Γ γ122 γ125 γ123) Λ2 J x4 (List.map aY w3003))) none) (
 (rB true)) := by kernel_rfl
end
abbrev amy : aR := afz gG (cT 122 packet_is_out) (cT 125 eQ) (cT 123 packet_is_out)
theorem aq8 : amy = aS gG := by unfold amy afz; repeat rw [bH fun _ h => h]
abbrev axJ := apf amy (cB SE gG (SE.hl 113) (SE.hr 113)) (J0 SE amy)
abbrev atu := alH amy (cB SE gG (SE.hl 113) (SE.hr 113)) (J0 SE amy)
theorem xE (k5 : Int → (List Str) → Option (Bool)) (hk5 : ∀ (x4 : Int) (w3003 : List Str), Le (Option.map packet_is_out (k5 x4 w3003)) (atu x4 (List.map aY w3003))) (x4 : Int) (w3003 : List Str) : Le (Option.map packet_is_out (kB k5 x4 w3003)) (axJ x4 (List.map aY w3003)) := by
 refine Le.trans ?_ (le_of_eq ((bD aq8).trans (axM ..)).symm)
 unfold kB
 refine lG (by simp only [EN]) ?_
 refine lQ eX packet_is_inj (by (try simp only [EN]); exact oV (List.getD w3003 (Int.toNat x4) default) 35) fun r3 _ => ?_
 refine lC ?_ ?_
 ·refine lG (by simp only [EN]) ?_
  refine lD (by simp only [EN]) ?_ ?_
  ·exact aG rfl
  ·refine lD (by simp only [EN]) ?_ ?_
   ·exact aG rfl
   ·exact hk5 (w6 (x4 + 1)) w3003
 ·exact hk5 (w6 (x4 + 1)) w3003
theorem adu : ∀ (fu : Nat) (x4 : Int) (w3003 : List Str), Le (Option.map packet_is_out (gV fu x4 w3003)) (atu x4 (List.map aY w3003)) := by
 intro fu
 induction fu with
 | zero => intros; exact le_none
 | succ fu ih =>
  intro x4 w3003
  refine Le.trans ?_ (le_of_eq ((bD aq8).trans (azj ..)).symm)
  unfold gV
  refine lD (by simp only [EN]) ?_ ?_
  ·refine lG (by simp only [EN]) ?_
   refine lQ eX packet_is_inj (by (try simp only [EN]); exact oV (List.getD w3003 (Int.toNat x4) default) 43) fun r2 _ => ?_
   refine lC ?_ ?_
   ·refine lG (by simp only [EN]) ?_
    refine lD (by simp only [EN]) ?_ ?_
    ·exact aG rfl
    ·exact xE _ (ih) x4 w3003
   ·exact xE _ (ih) x4 w3003
  ·exact aG rfl
theorem aaf (p0 : Str) : Le (Option.map packet_is_out (lX p0)) (bF SE 113 [.d (.str p0)] [] []) := by
 refine aZ aq8 rfl ?_
 refine Le.trans ?_ (le_of_eq (aD7 ..).symm)
 unfold lX
 refine lQ eX packet_is_inj (aaE _) fun r0 _ => ?_
 refine lC ?_ ?_
 ·exact aG rfl
 ·refine lQ eX y8 (aax _) fun r1 _ => ?_
  exact adu fuel 0 r1
def asn (C : aR) (Λ2 J : Lam) (a0 : Str) (a1 : Int) : Res := lab SE C Λ2 J 112 0 [1, 1, 1, 1, 1, 1, 0] (bA [(5, .d (.str a0)), (6, .d (.int .i64 a1))] [] [] [] [])
def anZ (C : aR) (Λ2 J : Lam) (a0 : Str) (a1 : Int) : Res := lab SE C Λ2 J 112 0 [1, 1, 1, 1, 1, 0, 0] (bA [(5, .d (.str a0)), (6, .d (.int .i64 a1))] [] [] [] [])
def aou (C : aR) (Λ2 J : Lam) (a0 : Str) (a1 : Int) : Res := lab SE C Λ2 J 112 0 [1, 1, 1, 1, 0, 0] (bA [(5, .d (.str a0)), (6, .d (.int .i64 a1))] [] [] [] [])
section
variable (Γ : Fun) (γ114 γ86 γ113 : Gm (Bool)) (Λ2 J : Lam)
def ad9 : aR := bE (bE (bE (aS Γ) 114 packet_is_out γ114) 86 packet_is_out γ86) 113 packet_is_out γ113
theorem aCD (p0 : Str) : bK SE (ad9 Γ γ114 γ86 γ113) Λ2 J 112 [.d (.str p0)] [] [] =
 γ114 [.d (.str p0), .d (.str ([36, 115, 104, 97, 114, 101, 47] : Str))] [] [] fun r0 =>
 cond (!r0) (
 (some (.ret [.d (.str []), .d (.str []), .d (.bool false)] [] []))) (
 cond (decide (0 ≤ 7) && decide (7 ≤ ((List.length p0) : Int))) (
 aou (ad9 Γ γ114 γ86 γ113) Λ2 J (dI p0 (some 7) none) 0) none) := by kernel_rfl
theorem azq (x5 : Str) (x6 : Int) : cJ SE (ad9 Γ γ114 γ86 γ113) Λ2 J 112 0 [1, 1, 1, 1, 1, 1, 0] (bA [(5, .d (.str x5)), (6, .d (.int .i64 x6))] [] [] [] []) =
 cond (decide (0 ≤ x6) && decide (x6 ≤ ((List.length x5) : Int))) (
 cond (decide (0 ≤ (w6 (x6 + 1))) && decide ((w6 (x6 + 1)) ≤ ((List.length x5) : Int))) (
  (some (.ret [.d (.str (dI x5 none (some x6))), .d (.str (dI x5 (some (w6 (x6 + 1))) none)), .d (.bool true)] [] []))) none) none := by kernel_rfl
theorem awU (x5 : Str) (x6 : Int) : cJ SE (ad9 Γ γ114 γ86 γ113) Λ2 J 112 0 [1, 1, 1, 1, 1, 0, 0] (bA [(5, .d (.str x5)), (6, .d (.int .i64 x6))] [] [] [] []) =
 cond (x6 == (List.length x5 : Int)) (
 (some (.ret [.d (.str []), .d (.str []), .d (.bool false)] [] []))) (
 cond (decide (0 ≤ x6) && decide (x6 ≤ ((List.length x5) : Int))) (
 γ86 [.d (.str (dI x5 none (some x6)))] [] [] fun r1 =>
 cond (!r1) (
  (some (.ret [.d (.str []), .d (.str []), .d (.bool false)] [] []))) (
 cond (decide (0 ≤ (w6 (x6 + 1))) && decide ((w6 (x6 + 1)) ≤ ((List.length x5) : Int))) (
  γ113 [.d (.str (dI x5 (some (w6 (x6 + 1))) none))] [] [] fun r2 =>
  cond (!r2) (
  (some (.ret [.d (.str []), .d (.str []), .d (.bool false)] [] []))) (
  cond (decide (0 ≤ (w6 (x6 + 1))) && decide ((w6 (x6 + 1)) ≤ ((List.length x5) : Int))) (
  γ114 [.d (.str (dI x5 (some (w6 (x6 + 1))) none)), .d (.str ([36, 115, 104, 97, 114, 101, 47] : Str))] [] [] fun r3 =>
  cond r3 (
   (some (.ret [.d (.str []), .d (.str []), .d (.bool false)] [] []))) (
  asn (ad9 Γ γ114 γ86 γ113) Λ2 J x5 x6)) none)) none)) none) := by kernel_rfl
theorem ayY (x5 : Str) (x6 : Int) : cJ SE (ad9 Γ γ114 γ86 γ113) Λ2 J 112 0 [1, 1, 1, 1, 0, 0] (bA [(5, .d (.str x5)), (6, .d (.int .i64 x6))] [] [] [] []) =
 cond (decide (x6 < (List.length x5 : Int))) (
 cond (iB x6 (List.length x5 : Int)) (
  cond ((UInt8.toNat (List.getD x5 (Int.toNat x6) 0) : Int) != 47) (
  aou (ad9 Γ γ114 γ86 γ113) Λ2 J x5 (w6 (x6 + 1))) (
  anZ (ad9 Γ γ114 γ86 γ113) Λ2 J x5 x6)) none) (
 anZ (ad9 Γ γ114 γ86 γ113) Λ2 J x5 x6) := by kernel_rfl
end
abbrev ait : aR := ad9 gG (cT 114 packet_is_out) (cT 86 packet_is_out) (cT 113 packet_is_out)
theorem anU : ait = aS gG := by unfold ait ad9; repeat rw [bH fun _ h => h]
abbrev ayb := asn ait (cB SE gG (SE.hl 112) (SE.hr 112)) (J0 SE ait)
abbrev aym := anZ ait (cB SE gG (SE.hl 112) (SE.hr 112)) (J0 SE ait)
abbrev azz := aou ait (cB SE gG (SE.hl 112) (SE.hr 112)) (J0 SE ait)
theorem adB (x5 : Str) (x6 : Int) : Le (Option.map cC (pI x5 x6)) (ayb x5 x6) := by
 refine Le.trans ?_ (le_of_eq ((bD anU).trans (azq ..)).symm)
 unfold pI
 refine lF ?_
 refine lF ?_
 exact aG rfl
theorem xJ (x5 : Str) (x6 : Int) : Le (Option.map cC (j9 x5 x6)) (aym x5 x6) := by
 refine Le.trans ?_ (le_of_eq ((bD anU).trans (awU ..)).symm)
 unfold j9
 refine lC ?_ ?_
 ·exact aG rfl
 ·refine lF ?_
  refine lQ eX packet_is_inj (rY _) fun r1 _ => ?_
  refine lC ?_ ?_
  ·exact aG rfl
  ·refine lF ?_
   refine lQ eX packet_is_inj (aaf _) fun r2 _ => ?_
   refine lC ?_ ?_
   ·exact aG rfl
   ·refine lF ?_
    refine lQ eX packet_is_inj (tU _ _) fun r3 _ => ?_
    refine lC ?_ ?_
    ·exact aG rfl
    ·exact adB x5 x6
theorem adr : ∀ (fu : Nat) (x5 : Str) (x6 : Int), Le (Option.map cC (iW fu x5 x6)) (azz x5 x6) := by
 intro fu
 induction fu with
 | zero => intros; exact le_none
 | succ fu ih =>
  intro x5 x6
  refine Le.trans ?_ (le_of_eq ((bD anU).trans (ayY ..)).symm)
  unfold iW
  refine lC ?_ ?_
  ·refine lF ?_
   refine lC ?_ ?_
   ·exact ih x5 (w6 (x6 + 1))
   ·exact xJ x5 x6
  ·exact xJ x5 x6
theorem aah (p0 : Str) : Le (Option.map cC (mJ p0)) (bF SE 112 [.d (.str p0)] [] []) := by
 refine aZ anU rfl ?_
 refine Le.trans ?_ (le_of_eq (aCD ..).symm)
 unfold mJ
 refine lQ eX packet_is_inj (tU _ _) fun r0 _ => ?_
 refine lC ?_ ?_
 ·exact aG rfl
 ·refine lF ?_
  exact adr fuel (dI p0 (some 7) none) 0
section
variable (Γ : Fun) (γ112 : Gm (Str × Str × Bool)) (γ113 γ114 : Gm (Bool)) (Λ2 J : Lam)
def C90 : aR := bE (bE (bE (aS Γ) 112 cC γ112) 113 packet_is_out γ113) 114 packet_is_out γ114
theorem T90 (p0 : Str) : bK SE (C90 Γ γ112 γ113 γ114) Λ2 J 90 [.d (.str p0)] [] [] =
 γ112 [.d (.str p0)] [] [] fun r0 =>
 cond r0.2.2 (
 (rB true)) (
 γ113 [.d (.str p0)] [] [] fun r1 =>
 cond r1 (
 γ114 [.d (.str p0), .d (.str ([36, 115, 104, 97, 114, 101, 47] : Str))] [] [] fun r2 =>
 (rB (!r2))) (
 (rB false))) := by kernel_rfl
end
abbrev X90 : aR := C90 gG (cT 112 cC) (cT 113 packet_is_out) (cT 114 packet_is_out)
theorem aD4 : X90 = aS gG := by unfold X90 C90; repeat rw [bH fun _ h => h]
theorem aaq (p0 : Str) : Le (Option.map packet_is_out (lY p0)) (bF SE 90 [.d (.str p0)] [] []) := by
 refine aZ aD4 rfl ?_
 refine Le.trans ?_ (le_of_eq (T90 ..).symm)
 unfold lY
 refine lQ eX n3 (aah _) fun r0 _ => ?_
 refine lC ?_ ?_
 ·exact aG rfl
 ·refine lQ eX packet_is_inj (aaf _) fun r1 _ => ?_
  refine lC ?_ ?_
  ·refine lQ eX packet_is_inj (tU _ _) fun r2 _ => ?_
   exact aG rfl
  ·exact aG rfl
def avU (C : aR) (Λ2 J : Lam) (a0 : List D) : Res := lab SE C Λ2 J 89 0 [1, 1, 1, 0] (bA [(1, .ptr 1000000000 0)] [⟨53, (List.map AV.d a0)⟩] [] [] [])
section
variable (Γ : Fun) (γ90 : Gm (Bool)) (γ112 : Gm (Str × Str × Bool)) (Λ2 J : Lam)
def C89 : aR := bE (bE (aS Γ) 90 packet_is_out γ90) 112 cC γ112
theorem T89 (p0 : aH) : bK SE (C89 Γ γ90 γ112) Λ2 J 89 [aH.av p0] [] [] =
 γ90 [.d (.str p0.Filter)] [] [] fun r0 =>
 cond (!r0) (
 (rI 13)) (
 cond (decide (p0.Level < 0)) (
 (rI 14)) (
 cond (decide (p0.Level > 2)) (
 (rI 14)) (
 avU (C89 Γ γ90 γ112) Λ2 J (aH.enc p0)))) := by kernel_rfl
theorem aBw (b0 : aH) : cJ SE (C89 Γ γ90 γ112) Λ2 J 89 0 [1, 1, 1, 0] (bA [(1, .ptr 1000000000 0)] [⟨53, (List.map AV.d (aH.enc b0))⟩] [] [] []) =
 γ112 [.d (.str b0.Filter)] [] [] fun r1 =>
 cond b0.NoLocal (
 cond r1.2.2 (
  (rI 28)) (
 (rI 0))) (
 (rI 0)) := by kernel_rfl
end
abbrev X89 : aR := C89 gG (cT 90 packet_is_out) (cT 112 cC)
theorem axu : X89 = aS gG := by unfold X89 C89; repeat rw [bH fun _ h => h]
abbrev aBK := avU X89 (cB SE gG (SE.hl 89) (SE.hr 89)) (J0 SE X89)
theorem agh (b0 : aH) : Le (Option.map aJ (sV b0)) (aBK (aH.enc b0)) := by
 refine Le.trans ?_ (le_of_eq ((bD axu).trans (aBw ..)).symm)
 unfold sV
 refine lQ eX n3 (aah _) fun r1 _ => ?_
 refine lC ?_ ?_
 ·refine lC ?_ ?_
  ·exact aG rfl
  ·exact aG rfl
 ·exact aG rfl
theorem aiX (p0 : aH) : Le (Option.map aJ (sP p0)) (bF SE 89 [aH.av p0] [] []) := by
 refine aZ axu rfl ?_
 refine Le.trans ?_ (le_of_eq (T89 ..).symm)
 unfold sP
 refine lQ eX packet_is_inj (aaq _) fun r0 _ => ?_
 refine lC ?_ ?_
 ·exact aG rfl
 ·refine lC ?_ ?_
  ·exact aG rfl
  ·refine lC ?_ ?_
   ·exact aG rfl
   ·exact agh p0
def aoq (C : aR) (Λ2 J : Lam) (a0 : Int) (a1 : List D) : Res := lab SE C Λ2 J 57 0 [1, 1, 1, 0, 1, 0] (bA [(1, .ptr 1000000000 0), (6, .d (.int .i64 a0))] [⟨31, (List.map AV.d a1)⟩] [] [] [])
def arX (C : aR) (Λ2 J : Lam) (a0 : Int) (a1 : List D) : Res := lab SE C Λ2 J 57 0 [1, 1, 0, 1, 0] (bA [(1, .ptr 1000000000 0), (5, .d (.int .i64 a0))] [⟨31, (List.map AV.d a1)⟩] [] [] [])
def ar9 (C : aR) (Λ2 J : Lam) (a0 : Int) (a1 : List D) : Res := lab SE C Λ2 J 57 0 [1, 0, 1, 0] (bA [(1, .ptr 1000000000 0), (3, .d (.int .i64 a0))] [⟨31, (List.map AV.d a1)⟩] [] [] [])
section
variable (Γ : Fun) (γ89 : Gm (Int)) (γ90 γ54 : Gm (Bool)) (Λ2 J : Lam)
def C57 : aR := bE (bE (bE (aS Γ) 89 aJ γ89) 90 packet_is_out γ90) 54 packet_is_out γ54
theorem T57 (p0 : aA) : bK SE (C57 Γ γ89 γ90 γ54) Λ2 J 57 [aA.av p0] [] [] =
 ar9 (C57 Γ γ89 γ90 γ54) Λ2 J 0 (aA.enc p0) := by kernel_rfl
theorem ayo (x6 : Int) (b0 : aA) : cJ SE (C57 Γ γ89 γ90 γ54) Λ2 J 57 0 [1, 1, 1, 0, 1, 0] (bA [(1, .ptr 1000000000 0), (6, .d (.int .i64 x6))] [⟨31, (List.map AV.d (aA.enc b0))⟩] [] [] []) =
 cond (decide (x6 < (lM eI b0.Codes : Int))) (
 cond (iB x6 (lM eI b0.Codes : Int)) (
  γ54 [.d (.int .i64 (aX (cE eI b0.Codes x6 0)))] [] [] fun r2 =>
  cond (!r2) (
  (rI 1)) (
  aoq (C57 Γ γ89 γ90 γ54) Λ2 J (w6 (x6 + 1)) (aA.enc b0))) none) (
 (rI 0)) := by kernel_rfl
theorem aBz (x5 : Int) (b0 : aA) : cJ SE (C57 Γ γ89 γ90 γ54) Λ2 J 57 0 [1, 1, 0, 1, 0] (bA [(1, .ptr 1000000000 0), (5, .d (.int .i64 x5))] [⟨31, (List.map AV.d (aA.enc b0))⟩] [] [] []) =
 cond (decide (x5 < (lM aY b0.Filters : Int))) (
 cond (iB x5 (lM aY b0.Filters : Int)) (
  γ90 [.d (.str (bJ (cE aY b0.Filters x5 0)))] [] [] fun r1 =>
  cond (!r1) (
  (rI 13)) (
  arX (C57 Γ γ89 γ90 γ54) Λ2 J (w6 (x5 + 1)) (aA.enc b0))) none) (
 aoq (C57 Γ γ89 γ90 γ54) Λ2 J 0 (aA.enc b0)) := by kernel_rfl
theorem aBG (x3 : Int) (b0 : aA) : cJ SE (C57 Γ γ89 γ90 γ54) Λ2 J 57 0 [1, 0, 1, 0] (bA [(1, .ptr 1000000000 0), (3, .d (.int .i64 x3))] [⟨31, (List.map AV.d (aA.enc b0))⟩] [] [] []) =
 cond (decide (x3 < (lM aH.enc b0.Subs : Int))) (
 cond (iB x3 (lM aH.enc b0.Subs : Int)) (
  γ89 [.agg [.d (.str (bJ (cE aH.enc b0.Subs x3 0))), .d (.int .i64 (aX (cE aH.enc b0.Subs x3 1))), .d (.bool (bT (cE aH.enc b0.Subs x3 2)))]] [] [] fun r0 =>
  cond (r0 != 0) (
  (rI r0)) (
  ar9 (C57 Γ γ89 γ90 γ54) Λ2 J (w6 (x3 + 1)) (aA.enc b0))) none) (
 arX (C57 Γ γ89 γ90 γ54) Λ2 J 0 (aA.enc b0)) := by kernel_rfl
end
abbrev X57 : aR := C57 gG (cT 89 aJ) (cT 90 packet_is_out) (cT 54 packet_is_out)
theorem arP : X57 = aS gG := by unfold X57 C57; repeat rw [bH fun _ h => h]
abbrev ayL := aoq X57 (cB SE gG (SE.hl 57) (SE.hr 57)) (J0 SE X57)
abbrev aAV := arX X57 (cB SE gG (SE.hl 57) (SE.hr 57)) (J0 SE X57)
abbrev aAw := ar9 X57 (cB SE gG (SE.hl 57) (SE.hr 57)) (J0 SE X57)
theorem abT : ∀ (fu : Nat) (x6 : Int) (b0 : aA), Le (Option.map aJ (fI fu x6 b0)) (ayL x6 (aA.enc b0)) := by
 intro fu
 induction fu with
 | zero => intros; exact le_none
 | succ fu ih =>
  intro x6 b0
  refine Le.trans ?_ (le_of_eq ((bD arP).trans (ayo ..)).symm)
  unfold fI
  refine lD (by simp only [EN]) ?_ ?_
  ·refine lG (by simp only [EN]) ?_
   refine lQ eX packet_is_inj (by (try simp only [EN]); exact wI (List.getD b0.Codes (Int.toNat x6) default)) fun r2 _ => ?_
   refine lC ?_ ?_
   ·exact aG rfl
   ·exact ih (w6 (x6 + 1)) b0
  ·exact aG rfl
theorem acr : ∀ (fu : Nat) (x5 : Int) (b0 : aA), Le (Option.map aJ (fR fu x5 b0)) (aAV x5 (aA.enc b0)) := by
 intro fu
 induction fu with
 | zero => intros; exact le_none
 | succ fu ih =>
  intro x5 b0
  refine Le.trans ?_ (le_of_eq ((bD arP).trans (aBz ..)).symm)
  unfold fR
  refine lD (by simp only [EN]) ?_ ?_
  ·refine lG (by simp only [EN]) ?_
   refine lQ eX packet_is_inj (by (try simp only [EN]); exact aaq (List.getD b0.Filters (Int.toNat x5) default)) fun r1 _ => ?_
   refine lC ?_ ?_
   ·exact aG rfl
   ·exact ih (w6 (x5 + 1)) b0
  ·exact abT fuel 0 b0
theorem acm : ∀ (fu : Nat) (x3 : Int) (b0 : aA), Le (Option.map aJ (gY fu x3 b0)) (aAw x3 (aA.enc b0)) := by
 intro fu
 induction fu with
 | zero => intros; exact le_none
 | succ fu ih =>
  intro x3 b0
  refine Le.trans ?_ (le_of_eq ((bD arP).trans (aBG ..)).symm)
  unfold gY
  refine lD (by simp only [EN]) ?_ ?_
  ·refine lG (by simp only [EN]) ?_
   refine lQ eX bB (by (try simp only [EN]); exact aiX (List.getD b0.Subs (Int.toNat x3) default)) fun r0 _ => ?_
   refine lC ?_ ?_
   ·exact aG rfl
   ·exact ih (w6 (x3 + 1)) b0
  ·exact acr fuel 0 b0
theorem aex (p0 : aA) : Le (Option.map aJ (nD p0)) (bF SE 57 [aA.av p0] [] []) := by
 refine aZ arP rfl ?_
 refine Le.trans ?_ (le_of_eq (T57 ..).symm)
 unfold nD
 exact acm fuel 0 p0
def asP (C : aR) (Λ2 J : Lam) (a0 : List D) : Res := lab SE C Λ2 J 23 0 [1, 1, 1, 1, 1, 1, 1, 1, 1, 0] (bA [(1, .ptr 1000000000 0)] [⟨31, (List.map AV.d a0)⟩] [] [] [])
def as0 (C : aR) (Λ2 J : Lam) (a0 : List D) : Res := lab SE C Λ2 J 23 0 [1, 1, 1, 1, 1, 1, 1, 0] (bA [(1, .ptr 1000000000 0)] [⟨31, (List.map AV.d a0)⟩] [] [] [])
def atf (C : aR) (Λ2 J : Lam) (a0 : List D) : Res := lab SE C Λ2 J 23 0 [1, 1, 1, 1, 1, 1, 0, 0] (bA [(1, .ptr 1000000000 0)] [⟨31, (List.map AV.d a0)⟩] [] [] [])
def av1 (C : aR) (Λ2 J : Lam) (a0 : List D) : Res := lab SE C Λ2 J 23 0 [1, 1, 0, 0] (bA [(1, .ptr 1000000000 0)] [⟨31, (List.map AV.d a0)⟩] [] [] [])
section
variable (Γ : Fun) (γ51 : Gm (aA)) (γ16 : Gm (Bool)) (γ52 γ53 : Gm (Int)) (γ54 : Gm (Bool)) (γ55 γ56 γ57 : Gm (Int)) (Λ2 J : Lam)
def C23 : aR := bE (bE (bE (bE (bE (bE (bE (bE (aS Γ) 51 dY γ51) 16 packet_is_out γ16) 52 aJ γ52) 53 aJ γ53) 54 packet_is_out γ54) 55 aJ γ55) 56 aJ γ56) 57 aJ γ57
theorem T23 (p0 : aA) : bK SE (C23 Γ γ51 γ16 γ52 γ53 γ54 γ55 γ56 γ57) Λ2 J 23 [aA.av p0] [] [] =
 cond (decide (p0.Kind < 1)) (
 (rI 10)) (
 cond (decide (p0.Kind > 14)) (
 (rI 10)) (
 av1 (C23 Γ γ51 γ16 γ52 γ53 γ54 γ55 γ56 γ57) Λ2 J (aA.enc p0))) := by kernel_rfl
theorem axN (b0 : aA) : cJ SE (C23 Γ γ51 γ16 γ52 γ53 γ54 γ55 γ56 γ57) Λ2 J 23 0 [1, 1, 1, 1, 1, 1, 1, 1, 1, 0] (bA [(1, .ptr 1000000000 0)] [⟨31, (List.map AV.d (aA.enc b0))⟩] [] [] []) =
 γ56 [.d (.int .i64 (w6 ((w6 ((lM aH.enc b0.Subs : Int) + (lM aY b0.Filters : Int))) + (lM eI b0.Codes : Int))))] [] [] fun r7 =>
 cond (r7 != 0) (
 (rI r7)) (
 γ57 [aA.av b0] [] [] fun r8 =>
 (rI r8)) := by kernel_rfl
theorem axR (b0 : aA) : cJ SE (C23 Γ γ51 γ16 γ52 γ53 γ54 γ55 γ56 γ57) Λ2 J 23 0 [1, 1, 1, 1, 1, 1, 1, 0] (bA [(1, .ptr 1000000000 0)] [⟨31, (List.map AV.d (aA.enc b0))⟩] [] [] []) =
 γ55 [.d (.int .i64 b0.ID)] [] [] fun r6 =>
 cond (r6 != 0) (
 (rI r6)) (
 cond (decide (b0.Kind ≤ 7)) (
 (rI r6)) (
 asP (C23 Γ γ51 γ16 γ52 γ53 γ54 γ55 γ56 γ57) Λ2 J (aA.enc b0))) := by kernel_rfl
theorem ax7 (b0 : aA) : cJ SE (C23 Γ γ51 γ16 γ52 γ53 γ54 γ55 γ56 γ57) Λ2 J 23 0 [1, 1, 1, 1, 1, 1, 0, 0] (bA [(1, .ptr 1000000000 0)] [⟨31, (List.map AV.d (aA.enc b0))⟩] [] [] []) =
 cond (b0.Kind == 12) (
 (rI 0)) (
 cond (b0.Kind == 13) (
 (rI 0)) (
 as0 (C23 Γ γ51 γ16 γ52 γ53 γ54 γ55 γ56 γ57) Λ2 J (aA.enc b0))) := by kernel_rfl
theorem aAp (b0 : aA) : cJ SE (C23 Γ γ51 γ16 γ52 γ53 γ54 γ55 γ56 γ57) Λ2 J 23 0 [1, 1, 0, 0] (bA [(1, .ptr 1000000000 0)] [⟨31, (List.map AV.d (aA.enc b0))⟩] [] [] []) =
 γ51 [aA.av b0] [] [] fun r0 =>
 γ16 [aA.av b0, aA.av r0] [] [] fun r1 =>
 cond (!r1) (
 (rI 28)) (
 cond (b0.Kind == 1) (
 γ52 [aA.av b0] [] [] fun r2 =>
 (rI r2)) (
 cond (b0.Kind == 3) (
 γ53 [aA.av b0] [] [] fun r3 =>
 (rI r3)) (
 cond (b0.Kind == 2) (
 γ54 [.d (.int .i64 b0.Code)] [] [] fun r4 =>
 cond (!r4) (
  (rI 1)) (
 cond b0.Present (
  cond (b0.Code != 0) (
  (rI 28)) (
  (rI 0))) (
 (rI 0)))) (
 cond (b0.Kind == 14) (
 γ54 [.d (.int .i64 b0.Code)] [] [] fun r5 =>
 cond (!r5) (
  (rI 1)) (
 cond b0.Present (
  cond (b0.Code != 0) (
  (rI 28)) (
  (rI 0))) (
 (rI 0)))) (
 atf (C23 Γ γ51 γ16 γ52 γ53 γ54 γ55 γ56 γ57) Λ2 J (aA.enc b0)))))) := by kernel_rfl
end
abbrev X23 : aR := C23 gG (cT 51 dY) (cT 16 packet_is_out) (cT 52 aJ) (cT 53 aJ) (cT 54 packet_is_out) (cT 55 aJ) (cT 56 aJ) (cT 57 aJ)
theorem aoT : X23 = aS gG := by unfold X23 C23; repeat rw [bH fun _ h => h]
abbrev axd := asP X23 (cB SE gG (SE.hl 23) (SE.hr 23)) (J0 SE X23)
abbrev aya := as0 X23 (cB SE gG (SE.hl 23) (SE.hr 23)) (J0 SE X23)
abbrev axz := atf X23 (cB SE gG (SE.hl 23) (SE.hr 23)) (J0 SE X23)
abbrev aAZ := av1 X23 (cB SE gG (SE.hl 23) (SE.hr 23)) (J0 SE X23)
theorem ad1 (b0 : aA) : Le (Option.map aJ (pA b0)) (axd (aA.enc b0)) := by
 refine Le.trans ?_ (le_of_eq ((bD aoT).trans (axN ..)).symm)
 unfold pA
 refine lQ eX bB (by (try simp only [EN]); exact ahc ((w6 ((w6 ((List.length b0.Subs : Int) + (List.length b0.Filters : Int))) + (List.length b0.Codes : Int))))) fun r7 _ => ?_
 refine lC ?_ ?_
 ·exact aG rfl
 ·refine lQ eX bB (aex _) fun r8 _ => ?_
  exact aG rfl
theorem ady (b0 : aA) : Le (Option.map aJ (pL b0)) (aya (aA.enc b0)) := by
 refine Le.trans ?_ (le_of_eq ((bD aoT).trans (axR ..)).symm)
 unfold pL
 refine lQ eX bB (aaU _) fun r6 _ => ?_
 refine lC ?_ ?_
 ·exact aG rfl
 ·refine lC ?_ ?_
  ·exact aG rfl
  ·exact ad1 b0
theorem adG (b0 : aA) : Le (Option.map aJ (o9 b0)) (axz (aA.enc b0)) := by
 refine Le.trans ?_ (le_of_eq ((bD aoT).trans (ax7 ..)).symm)
 unfold o9
 refine lC ?_ ?_
 ·exact aG rfl
 ·refine lC ?_ ?_
  ·exact aG rfl
  ·exact ady b0
theorem aeu (b0 : aA) : Le (Option.map aJ (qB b0)) (aAZ (aA.enc b0)) := by
 refine Le.trans ?_ (le_of_eq ((bD aoT).trans (aAp ..)).symm)
 unfold qB
 refine lQ eX aeM (ahE _) fun r0 _ => ?_
 refine lQ eX packet_is_inj (lE _ _) fun r1 _ => ?_
 refine lC ?_ ?_
 ·exact aG rfl
 ·refine lC ?_ ?_
  ·refine lQ eX bB (afI _) fun r2 _ => ?_
   exact aG rfl
  ·refine lC ?_ ?_
   ·refine lQ eX bB (afL _) fun r3 _ => ?_
    exact aG rfl
   ·refine lC ?_ ?_
    ·refine lQ eX packet_is_inj (wI _) fun r4 _ => ?_
     refine lC ?_ ?_
     ·exact aG rfl
     ·refine lC ?_ ?_
      ·refine lC ?_ ?_
       ·exact aG rfl
       ·exact aG rfl
      ·exact aG rfl
    ·refine lC ?_ ?_
     ·refine lQ eX packet_is_inj (wI _) fun r5 _ => ?_
      refine lC ?_ ?_
      ·exact aG rfl
      ·refine lC ?_ ?_
       ·refine lC ?_ ?_
        ·exact aG rfl
        ·exact aG rfl
       ·exact aG rfl
     ·exact adG b0
theorem qO (p0 : aA) : Le (Option.map aJ (jT p0)) (bF SE 23 [aA.av p0] [] []) := by
 refine aZ aoT rfl ?_
 refine Le.trans ?_ (le_of_eq (T23 ..).symm)
 unfold jT
 refine lC ?_ ?_
 ·exact aG rfl
 ·refine lC ?_ ?_
  ·exact aG rfl
  ·exact aeu p0
def apk (C : aR) (Λ2 J : Lam) (a0 a1 a2 : List D) : Res := lab SE C Λ2 J 15 0 [1, 1, 1, 1, 1, 1, 1, 1, 1, 0, 0] (bA [(2, .ptr 1000000000 0), (4, .ptr 1000000001 0), (6, .ptr 1000000002 0)] [⟨31, (List.map AV.d a0)⟩, ⟨72, (List.map AV.d a1)⟩, ⟨31, (List.map AV.d a2)⟩] [] [] [])
def alq (C : aR) (Λ2 J : Lam) (a0 a1 a2 : List D) : Res := lab SE C Λ2 J 15 0 [1, 1, 1, 1, 1, 1, 1, 1, 0, 0] (bA [(2, .ptr 1000000000 0), (4, .ptr 1000000001 0), (6, .ptr 1000000002 0)] [⟨31, (List.map AV.d a0)⟩, ⟨72, (List.map AV.d a1)⟩, ⟨31, (List.map AV.d a2)⟩] [] [] [])
def alA (C : aR) (Λ2 J : Lam) (a0 : List (List D)) (a1 : Int) (a2 a3 : List D) : Res := lab SE C Λ2 J 15 0 [1, 1, 1, 1, 1, 0, 0] (bA [(0, .d (.sl [.int .u8] a0)), (2, .ptr 1000000000 0), (4, .ptr 1000000001 0), (5, .d (.int .i64 a1))] [⟨31, (List.map AV.d a2)⟩, ⟨72, (List.map AV.d a3)⟩] [] [] [])
section
variable (Γ : Fun) (γ41 : Gm (Int × aE)) (γ42 : Gm (aA × aE)) (γ23 : Gm (Int)) (Λ2 J : Lam)
def C15 : aR := bE (bE (bE (aS Γ) 41 bC γ41) 42 dC γ42) 23 aJ γ23
theorem T15 (p0 : List Int) : bK SE (C15 Γ γ41 γ42 γ23) Λ2 J 15 [.d (.sl [.int .u8] (List.map (aO .u8) p0))] [] [] =
 cond (decide ((lM (aO .u8) p0 : Int) > 4096)) (
 (some (.ret [.agg [.d (.int .i64 0), .d (.int .i64 0), .d (.bool false), .d (.str []), .d (.str []), .d (.int .i64 0), .d (.bool false), .d (.int .i64 0), .d (.int .i64 0), .d (.str []), .d (.int .i64 0), .d (.sl aC.ks (List.map aC.enc [])), .d (.str []), .d (.str []), .d (.bool false), .d (.int .i64 0), .d (.int .i64 0), .d (.int .i64 0), .d (.bool false), .d (.int .i64 0), .d (.str []), .d (.str []), .d (.int .i64 0), .d (.bool false), .d (.int .i64 0), .d (.int .i64 0), .d (.str []), .d (.int .i64 0), .d (.sl aC.ks (List.map aC.enc [])), .d (.bool false), .d (.int .i64 0), .d (.sl aH.ks (List.map aH.enc [])), .d (.sl [.str] (List.map aY [])), .d (.sl [.int .i64] (List.map eI []))], .d (.int .i64 5)] [] []))) (
 γ41 [.ptr 2000000000 0] [⟨72, (aE.avs (aE.mk p0 0 0))⟩] [] fun r0 =>
 cond (r0.2.E == 0) (
 cond (decide (r0.1 < 1)) (
  alA (C15 Γ γ41 γ42 γ23) Λ2 J (List.map (aO .u8) p0) r0.1 [D.int .i64 0, D.int .i64 0, D.bool false, D.str [], D.str [], D.int .i64 0, D.bool false, D.int .i64 0, D.int .i64 0, D.str [], D.int .i64 0, D.sl aC.ks (List.map aC.enc []), D.str [], D.str [], D.bool false, D.int .i64 0, D.int .i64 0, D.int .i64 0, D.bool false, D.int .i64 0, D.str [], D.str [], D.int .i64 0, D.bool false, D.int .i64 0, D.int .i64 0, D.str [], D.int .i64 0, D.sl aC.ks (List.map aC.enc []), D.bool false, D.int .i64 0, D.sl aH.ks (List.map aH.enc []), D.sl [.str] (List.map aY []), D.sl [.int .i64] (List.map eI [])] (aE.enc (aE.mk r0.2.B r0.2.At 10))) (
 cond (decide (r0.1 > 14)) (
  alA (C15 Γ γ41 γ42 γ23) Λ2 J (List.map (aO .u8) p0) r0.1 [D.int .i64 0, D.int .i64 0, D.bool false, D.str [], D.str [], D.int .i64 0, D.bool false, D.int .i64 0, D.int .i64 0, D.str [], D.int .i64 0, D.sl aC.ks (List.map aC.enc []), D.str [], D.str [], D.bool false, D.int .i64 0, D.int .i64 0, D.int .i64 0, D.bool false, D.int .i64 0, D.str [], D.str [], D.int .i64 0, D.bool false, D.int .i64 0, D.int .i64 0, D.str [], D.int .i64 0, D.sl aC.ks (List.map aC.enc []), D.bool false, D.int .i64 0, D.sl aH.ks (List.map aH.enc []), D.sl [.str] (List.map aY []), D.sl [.int .i64] (List.map eI [])] (aE.enc (aE.mk r0.2.B r0.2.At 10))) (
 alA (C15 Γ γ41 γ42 γ23) Λ2 J (List.map (aO .u8) p0) r0.1 [D.int .i64 0, D.int .i64 0, D.bool false, D.str [], D.str [], D.int .i64 0, D.bool false, D.int .i64 0, D.int .i64 0, D.str [], D.int .i64 0, D.sl aC.ks (List.map aC.enc []), D.str [], D.str [], D.bool false, D.int .i64 0, D.int .i64 0, D.int .i64 0, D.bool false, D.int .i64 0, D.str [], D.str [], D.int .i64 0, D.bool false, D.int .i64 0, D.int .i64 0, D.str [], D.int .i64 0, D.sl aC.ks (List.map aC.enc []), D.bool false, D.int .i64 0, D.sl aH.ks (List.map aH.enc []), D.sl [.str] (List.map aY []), D.sl [.int .i64] (List.map eI [])] (aE.enc r0.2)))) (
 alA (C15 Γ γ41 γ42 γ23) Λ2 J (List.map (aO .u8) p0) r0.1 [D.int .i64 0, D.int .i64 0, D.bool false, D.str [], D.str [], D.int .i64 0, D.bool false, D.int .i64 0, D.int .i64 0, D.str [], D.int .i64 0, D.sl aC.ks (List.map aC.enc []), D.str [], D.str [], D.bool false, D.int .i64 0, D.int .i64 0, D.int .i64 0, D.bool false, D.int .i64 0, D.str [], D.str [], D.int .i64 0, D.bool false, D.int .i64 0, D.int .i64 0, D.str [], D.int .i64 0, D.sl aC.ks (List.map aC.enc []), D.bool false, D.int .i64 0, D.sl aH.ks (List.map aH.enc []), D.sl [.str] (List.map aY []), D.sl [.int .i64] (List.map eI [])] (aE.enc r0.2))) := by kernel_rfl
theorem ayf (b0 : aA) (b1 : aE) (b2 : aA) : cJ SE (C15 Γ γ41 γ42 γ23) Λ2 J 15 0 [1, 1, 1, 1, 1, 1, 1, 1, 1, 0, 0] (bA [(2, .ptr 1000000000 0), (4, .ptr 1000000001 0), (6, .ptr 1000000002 0)] [⟨31, (List.map AV.d (aA.enc b0))⟩, ⟨72, (List.map AV.d (aE.enc b1))⟩, ⟨31, (List.map AV.d (aA.enc b2))⟩] [] [] []) =
 cond (b1.E != 0) (
 (some (.ret [.agg [.d (.int .i64 0), .d (.int .i64 0), .d (.bool false), .d (.str []), .d (.str []), .d (.int .i64 0), .d (.bool false), .d (.int .i64 0), .d (.int .i64 0), .d (.str []), .d (.int .i64 0), .d (.sl aC.ks (List.map aC.enc [])), .d (.str []), .d (.str []), .d (.bool false), .d (.int .i64 0), .d (.int .i64 0), .d (.int .i64 0), .d (.bool false), .d (.int .i64 0), .d (.str []), .d (.str []), .d (.int .i64 0), .d (.bool false), .d (.int .i64 0), .d (.int .i64 0), .d (.str []), .d (.int .i64 0), .d (.sl aC.ks (List.map aC.enc [])), .d (.bool false), .d (.int .i64 0), .d (.sl aH.ks (List.map aH.enc [])), .d (.sl [.str] (List.map aY [])), .d (.sl [.int .i64] (List.map eI []))], .d (.int .i64 b1.E)] [] []))) (
 (some (.ret [aA.av b2, .d (.int .i64 0)] [] []))) := by kernel_rfl
theorem ayI (b0 : aA) (b1 : aE) (b2 : aA) : cJ SE (C15 Γ γ41 γ42 γ23) Λ2 J 15 0 [1, 1, 1, 1, 1, 1, 1, 1, 0, 0] (bA [(2, .ptr 1000000000 0), (4, .ptr 1000000001 0), (6, .ptr 1000000002 0)] [⟨31, (List.map AV.d (aA.enc b0))⟩, ⟨72, (List.map AV.d (aE.enc b1))⟩, ⟨31, (List.map AV.d (aA.enc b2))⟩] [] [] []) =
 cond (b1.E == 0) (
 γ23 [aA.av b2] [] [] fun r2 =>
 apk (C15 Γ γ41 γ42 γ23) Λ2 J (aA.enc b0) (aE.enc (aE.mk b1.B b1.At r2)) (aA.enc b2)) (
 apk (C15 Γ γ41 γ42 γ23) Λ2 J (aA.enc b0) (aE.enc b1) (aA.enc b2)) := by kernel_rfl
theorem aCc (x0 : List Int) (x5 : Int) (b0 : aA) (b1 : aE) : cJ SE (C15 Γ γ41 γ42 γ23) Λ2 J 15 0 [1, 1, 1, 1, 1, 0, 0] (bA [(0, .d (.sl [.int .u8] (List.map (aO .u8) x0))), (2, .ptr 1000000000 0), (4, .ptr 1000000001 0), (5, .d (.int .i64 x5))] [⟨31, (List.map AV.d (aA.enc b0))⟩, ⟨72, (List.map AV.d (aE.enc b1))⟩] [] [] []) =
 cond (b1.E != 0) (
 (some (.ret [.agg [.d (.int .i64 0), .d (.int .i64 0), .d (.bool false), .d (.str []), .d (.str []), .d (.int .i64 0), .d (.bool false), .d (.int .i64 0), .d (.int .i64 0), .d (.str []), .d (.int .i64 0), .d (.sl aC.ks (List.map aC.enc [])), .d (.str []), .d (.str []), .d (.bool false), .d (.int .i64 0), .d (.int .i64 0), .d (.int .i64 0), .d (.bool false), .d (.int .i64 0), .d (.str []), .d (.str []), .d (.int .i64 0), .d (.bool false), .d (.int .i64 0), .d (.int .i64 0), .d (.str []), .d (.int .i64 0), .d (.sl aC.ks (List.map aC.enc [])), .d (.bool false), .d (.int .i64 0), .d (.sl aH.ks (List.map aH.enc [])), .d (.sl [.str] (List.map aY [])), .d (.sl [.int .i64] (List.map eI []))], .d (.int .i64 b1.E)] [] []))) (
 γ42 [.ptr 2000000000 0, .d (.int .i64 x5)] [⟨72, (aE.avs b1)⟩] [] fun r1 =>
 cond (r1.2.E == 0) (
 cond (decide (r1.2.At < (lM (aO .u8) x0 : Int))) (
  alq (C15 Γ γ41 γ42 γ23) Λ2 J (aA.enc b0) (aE.enc (aE.mk r1.2.B r1.2.At 2)) (aA.enc r1.1)) (
 alq (C15 Γ γ41 γ42 γ23) Λ2 J (aA.enc b0) (aE.enc r1.2) (aA.enc r1.1))) (
 alq (C15 Γ γ41 γ42 γ23) Λ2 J (aA.enc b0) (aE.enc r1.2) (aA.enc r1.1))) := by kernel_rfl
end
abbrev X15 : aR := C15 gG (cT 41 bC) (cT 42 dC) (cT 23 aJ)
theorem ase : X15 = aS gG := by unfold X15 C15; repeat rw [bH fun _ h => h]
abbrev awR := apk X15 (cB SE gG (SE.hl 15) (SE.hr 15)) (J0 SE X15)
abbrev ayh := alq X15 (cB SE gG (SE.hl 15) (SE.hr 15)) (J0 SE X15)
abbrev azQ := alA X15 (cB SE gG (SE.hl 15) (SE.hr 15)) (J0 SE X15)
theorem wQ (b0 : aA) (b1 : aE) (b2 : aA) : Le (Option.map eB (jO b0 b1 b2)) (awR (aA.enc b0) (aE.enc b1) (aA.enc b2)) := by
 refine Le.trans ?_ (le_of_eq ((bD ase).trans (ayf ..)).symm)
 unfold jO
 refine lC ?_ ?_
 ·exact aG rfl
 ·exact aG rfl
theorem qS (b0 : aA) (b1 : aE) (b2 : aA) : Le (Option.map eB (dL b0 b1 b2)) (ayh (aA.enc b0) (aE.enc b1) (aA.enc b2)) := by
 refine Le.trans ?_ (le_of_eq ((bD ase).trans (ayI ..)).symm)
 unfold dL
 refine lC ?_ ?_
 ·refine lQ eX bB (qO _) fun r2 _ => ?_
  exact wQ b0 (aE.mk b1.B b1.At r2) b2
 ·exact wQ b0 b1 b2
theorem mV (x0 : List Int) (x5 : Int) (b0 : aA) (b1 : aE) : Le (Option.map eB (dP x0 x5 b0 b1)) (azQ (List.map (aO .u8) x0) x5 (aA.enc b0) (aE.enc b1)) := by
 refine Le.trans ?_ (le_of_eq ((bD ase).trans (aCc ..)).symm)
 unfold dP
 refine lC ?_ ?_
 ·exact aG rfl
 ·refine lQ eX uQ (ahA _ _) fun r1 _ => ?_
  refine lC ?_ ?_
  ·refine lD (by simp only [EN]) ?_ ?_
   ·exact qS b0 (aE.mk r1.2.B r1.2.At 2) r1.1
   ·exact qS b0 r1.2 r1.1
  ·exact qS b0 r1.2 r1.1
theorem aag (p0 : List Int) : Le (Option.map eB (hZ p0)) (bF SE 15 [.d (.sl [.int .u8] (List.map (aO .u8) p0))] [] []) := by
 refine aZ ase rfl ?_
 refine Le.trans ?_ (le_of_eq (T15 ..).symm)
 unfold hZ
 refine lD (by simp only [EN]) ?_ ?_
 ·exact aG rfl
 ·refine lQ eX bL (cF _) fun r0 _ => ?_
  refine lC ?_ ?_
  ·refine lC ?_ ?_
   ·(try simp only [EN]); exact mV p0 r0.1 ((aA.mk 0 0 false (aF.mk [] [] 0 false 0 0 [] 0 []) [] [] false 0 0 0 (aV.mk false 0 (aF.mk [] [] 0 false 0 0 [] 0 [])) false 0 [] [] [])) (aE.mk r0.2.B r0.2.At 10)
   ·refine lC ?_ ?_
    ·(try simp only [EN]); exact mV p0 r0.1 ((aA.mk 0 0 false (aF.mk [] [] 0 false 0 0 [] 0 []) [] [] false 0 0 0 (aV.mk false 0 (aF.mk [] [] 0 false 0 0 [] 0 [])) false 0 [] [] [])) (aE.mk r0.2.B r0.2.At 10)
    ·(try simp only [EN]); exact mV p0 r0.1 ((aA.mk 0 0 false (aF.mk [] [] 0 false 0 0 [] 0 []) [] [] false 0 0 0 (aV.mk false 0 (aF.mk [] [] 0 false 0 0 [] 0 [])) false 0 [] [] [])) r0.2
  ·(try simp only [EN]); exact mV p0 r0.1 ((aA.mk 0 0 false (aF.mk [] [] 0 false 0 0 [] 0 []) [] [] false 0 0 0 (aV.mk false 0 (aF.mk [] [] 0 false 0 0 [] 0 [])) false 0 [] [] [])) r0.2
section
variable (Γ : Fun) (γ10 : Gm (Bool)) (γ14 γ15 : Gm (aA × Int)) (γ16 : Gm (Bool)) (Λ2 J : Lam)
def C4 : aR := bE (bE (bE (bE (aS Γ) 10 packet_is_out γ10) 14 fB γ14) 15 eB γ15) 16 packet_is_out γ16
theorem T4 (p0 : List Int) : bK SE (C4 Γ γ10 γ14 γ15 γ16) Λ2 J 4 [.d (.sl [.int .u8] (List.map (aO .u8) p0))] [] [] =
 cond (decide ((lM (aO .u8) p0 : Int) > 5000)) (
 γ10 [] [] [] fun r0 =>
 (rB r0)) (
 γ14 [.d (.sl [.int .u8] (List.map (aO .u8) p0))] [] [] fun r1 =>
 γ15 [.d (.sl [.int .u8] (List.map (aO .u8) p0))] [] [] fun r2 =>
 γ16 [aA.av r1.1, aA.av r2.1] [] [] fun r3 =>
 cond r3 (
 cond (r1.2 == r2.2) (
  γ10 [] [] [] fun r4 =>
  (rB r4)) (
 (rB false))) (
 (rB false))) := by kernel_rfl
end
abbrev X4 : aR := C4 gG (cT 10 packet_is_out) (cT 14 fB) (cT 15 eB) (cT 16 packet_is_out)
theorem Cr4 : X4 = aS gG := by unfold X4 C4; repeat rw [bH fun _ h => h]
theorem acz (p0 : List Int) : Le (Option.map packet_is_out (nU p0)) (bF SE 4 [.d (.sl [.int .u8] (List.map (aO .u8) p0))] [] []) := by
 refine aZ Cr4 rfl ?_
 refine Le.trans ?_ (le_of_eq (T4 ..).symm)
 unfold nU
 refine lD (by simp only [EN]) ?_ ?_
 ·refine lQ eX packet_is_inj (dG) fun r0 _ => ?_
  exact aG rfl
 ·refine lQ eX sU (uJ _) fun r1 _ => ?_
  refine lQ eX zE (aag _) fun r2 _ => ?_
  refine lQ eX packet_is_inj (lE _ _) fun r3 _ => ?_
  refine lC ?_ ?_
  ·refine lC ?_ ?_
   ·refine lQ eX packet_is_inj (dG) fun r4 _ => ?_
    exact aG rfl
   ·exact aG rfl
  ·exact aG rfl
end Te
end PX
