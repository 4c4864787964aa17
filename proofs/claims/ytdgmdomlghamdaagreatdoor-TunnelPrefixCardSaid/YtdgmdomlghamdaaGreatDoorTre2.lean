import Derived.Test.YtdgmdomlghamdaaGreatDoorTre1
set_option linter.unusedVariables false
set_option linter.unusedSimpArgs false
set_option maxRecDepth 100000
noncomputable section
namespace PX
open Go
open Md
namespace Te
def aqE (C : aS) (Λ2 J : Lam) (a0 a1 a2 : List D) : Res := lab SE C Λ2 J 52 0 [1, 1, 1, 1, 1, 1, 1, 1, 1, 0, 0] (bA [(1, .ptr 1000000000 0), (2, .ptr 1000000001 0), (3, .ptr 1000000002 0)] [⟨53, (List.map AV.d a0)⟩, ⟨53, (List.map AV.d a1)⟩, ⟨53, (List.map AV.d a2)⟩] [] [] [])
def aqk (C : aS) (Λ2 J : Lam) (a0 a1 a2 : List D) : Res := lab SE C Λ2 J 52 0 [1, 1, 1, 1, 1, 1, 1, 1, 0, 0] (bA [(1, .ptr 1000000000 0), (2, .ptr 1000000001 0), (3, .ptr 1000000002 0)] [⟨53, (List.map AV.d a0)⟩, ⟨53, (List.map AV.d a1)⟩, ⟨53, (List.map AV.d a2)⟩] [] [] [])
def aq1 (C : aS) (Λ2 J : Lam) (a0 a1 a2 : List D) : Res := lab SE C Λ2 J 52 0 [1, 1, 1, 1, 1, 1, 1, 0, 0] (bA [(1, .ptr 1000000000 0), (2, .ptr 1000000001 0), (3, .ptr 1000000002 0)] [⟨53, (List.map AV.d a0)⟩, ⟨53, (List.map AV.d a1)⟩, ⟨53, (List.map AV.d a2)⟩] [] [] [])
def am5 (C : aS) (Λ2 J : Lam) (a0 a1 a2 : List D) : Res := lab SE C Λ2 J 52 0 [1, 1, 1, 1, 1, 1, 0, 0] (bA [(1, .ptr 1000000000 0), (2, .ptr 1000000001 0), (3, .ptr 1000000002 0)] [⟨53, (List.map AV.d a0)⟩, ⟨53, (List.map AV.d a1)⟩, ⟨53, (List.map AV.d a2)⟩] [] [] [])
def apV (C : aS) (Λ2 J : Lam) (a0 a1 a2 : List D) : Res := lab SE C Λ2 J 52 0 [1, 1, 1, 1, 1, 0, 0] (bA [(1, .ptr 1000000000 0), (2, .ptr 1000000001 0), (3, .ptr 1000000002 0)] [⟨53, (List.map AV.d a0)⟩, ⟨53, (List.map AV.d a1)⟩, ⟨53, (List.map AV.d a2)⟩] [] [] [])
def arc (C : aS) (Λ2 J : Lam) (a0 a1 a2 : List D) : Res := lab SE C Λ2 J 52 0 [1, 1, 1, 1, 0, 0] (bA [(1, .ptr 1000000000 0), (2, .ptr 1000000001 0), (3, .ptr 1000000002 0)] [⟨53, (List.map AV.d a0)⟩, ⟨53, (List.map AV.d a1)⟩, ⟨53, (List.map AV.d a2)⟩] [] [] [])
def amP (C : aS) (Λ2 J : Lam) (a0 a1 a2 : List D) : Res := lab SE C Λ2 J 52 0 [1, 1, 1, 0, 0] (bA [(1, .ptr 1000000000 0), (2, .ptr 1000000001 0), (3, .ptr 1000000002 0)] [⟨53, (List.map AV.d a0)⟩, ⟨53, (List.map AV.d a1)⟩, ⟨53, (List.map AV.d a2)⟩] [] [] [])
section
variable (Γ : Fun)  (Λ2 J : Lam)
def C52 : aS := aT Γ
theorem T52 (p0 : aA) : bL SE (C52 Γ) Λ2 J 52 [aA.av p0] [] [] =
 cond (p0.Kind == 3) (
 amP (C52 Γ) Λ2 J (aA.enc p0) [D.int .i64 0, D.int .i64 0, D.bool false, D.str [], D.str [], D.int .i64 0, D.bool false, D.int .i64 0, D.int .i64 0, D.str [], D.int .i64 0, D.sl aB.ks (List.map aB.enc []), D.str [], D.str [], D.bool false, D.int .i64 0, D.int .i64 0, D.int .i64 0, D.bool false, D.int .i64 0, D.str [], D.str [], D.int .i64 0, D.bool false, D.int .i64 0, D.int .i64 0, D.str [], D.int .i64 0, D.sl aB.ks (List.map aB.enc []), D.bool false, D.int .i64 0, D.sl aH.ks (List.map aH.enc []), D.sl [.str] (List.map bB []), D.sl [.int .i64] (List.map eI [])] [D.int .i64 p0.Kind, D.int .i64 p0.ID, D.bool false, D.str [], D.str [], D.int .i64 0, D.bool false, D.int .i64 0, D.int .i64 0, D.str [], D.int .i64 0, D.sl aB.ks (List.map aB.enc []), D.str [], D.str [], D.bool false, D.int .i64 0, D.int .i64 0, D.int .i64 0, D.bool false, D.int .i64 0, D.str [], D.str [], D.int .i64 0, D.bool false, D.int .i64 0, D.int .i64 0, D.str [], D.int .i64 0, D.sl aB.ks (List.map aB.enc []), D.bool false, D.int .i64 0, D.sl aH.ks (List.map aH.enc []), D.sl [.str] (List.map bB []), D.sl [.int .i64] (List.map eI [])]) (
 cond (decide (p0.Kind ≥ 4)) (
 cond (decide (p0.Kind ≤ 11)) (
  amP (C52 Γ) Λ2 J (aA.enc p0) [D.int .i64 0, D.int .i64 0, D.bool false, D.str [], D.str [], D.int .i64 0, D.bool false, D.int .i64 0, D.int .i64 0, D.str [], D.int .i64 0, D.sl aB.ks (List.map aB.enc []), D.str [], D.str [], D.bool false, D.int .i64 0, D.int .i64 0, D.int .i64 0, D.bool false, D.int .i64 0, D.str [], D.str [], D.int .i64 0, D.bool false, D.int .i64 0, D.int .i64 0, D.str [], D.int .i64 0, D.sl aB.ks (List.map aB.enc []), D.bool false, D.int .i64 0, D.sl aH.ks (List.map aH.enc []), D.sl [.str] (List.map bB []), D.sl [.int .i64] (List.map eI [])] [D.int .i64 p0.Kind, D.int .i64 p0.ID, D.bool false, D.str [], D.str [], D.int .i64 0, D.bool false, D.int .i64 0, D.int .i64 0, D.str [], D.int .i64 0, D.sl aB.ks (List.map aB.enc []), D.str [], D.str [], D.bool false, D.int .i64 0, D.int .i64 0, D.int .i64 0, D.bool false, D.int .i64 0, D.str [], D.str [], D.int .i64 0, D.bool false, D.int .i64 0, D.int .i64 0, D.str [], D.int .i64 0, D.sl aB.ks (List.map aB.enc []), D.bool false, D.int .i64 0, D.sl aH.ks (List.map aH.enc []), D.sl [.str] (List.map bB []), D.sl [.int .i64] (List.map eI [])]) (
 amP (C52 Γ) Λ2 J (aA.enc p0) [D.int .i64 0, D.int .i64 0, D.bool false, D.str [], D.str [], D.int .i64 0, D.bool false, D.int .i64 0, D.int .i64 0, D.str [], D.int .i64 0, D.sl aB.ks (List.map aB.enc []), D.str [], D.str [], D.bool false, D.int .i64 0, D.int .i64 0, D.int .i64 0, D.bool false, D.int .i64 0, D.str [], D.str [], D.int .i64 0, D.bool false, D.int .i64 0, D.int .i64 0, D.str [], D.int .i64 0, D.sl aB.ks (List.map aB.enc []), D.bool false, D.int .i64 0, D.sl aH.ks (List.map aH.enc []), D.sl [.str] (List.map bB []), D.sl [.int .i64] (List.map eI [])] [D.int .i64 p0.Kind, D.int .i64 0, D.bool false, D.str [], D.str [], D.int .i64 0, D.bool false, D.int .i64 0, D.int .i64 0, D.str [], D.int .i64 0, D.sl aB.ks (List.map aB.enc []), D.str [], D.str [], D.bool false, D.int .i64 0, D.int .i64 0, D.int .i64 0, D.bool false, D.int .i64 0, D.str [], D.str [], D.int .i64 0, D.bool false, D.int .i64 0, D.int .i64 0, D.str [], D.int .i64 0, D.sl aB.ks (List.map aB.enc []), D.bool false, D.int .i64 0, D.sl aH.ks (List.map aH.enc []), D.sl [.str] (List.map bB []), D.sl [.int .i64] (List.map eI [])])) (
 amP (C52 Γ) Λ2 J (aA.enc p0) [D.int .i64 0, D.int .i64 0, D.bool false, D.str [], D.str [], D.int .i64 0, D.bool false, D.int .i64 0, D.int .i64 0, D.str [], D.int .i64 0, D.sl aB.ks (List.map aB.enc []), D.str [], D.str [], D.bool false, D.int .i64 0, D.int .i64 0, D.int .i64 0, D.bool false, D.int .i64 0, D.str [], D.str [], D.int .i64 0, D.bool false, D.int .i64 0, D.int .i64 0, D.str [], D.int .i64 0, D.sl aB.ks (List.map aB.enc []), D.bool false, D.int .i64 0, D.sl aH.ks (List.map aH.enc []), D.sl [.str] (List.map bB []), D.sl [.int .i64] (List.map eI [])] [D.int .i64 p0.Kind, D.int .i64 0, D.bool false, D.str [], D.str [], D.int .i64 0, D.bool false, D.int .i64 0, D.int .i64 0, D.str [], D.int .i64 0, D.sl aB.ks (List.map aB.enc []), D.str [], D.str [], D.bool false, D.int .i64 0, D.int .i64 0, D.int .i64 0, D.bool false, D.int .i64 0, D.str [], D.str [], D.int .i64 0, D.bool false, D.int .i64 0, D.int .i64 0, D.str [], D.int .i64 0, D.sl aB.ks (List.map aB.enc []), D.bool false, D.int .i64 0, D.sl aH.ks (List.map aH.enc []), D.sl [.str] (List.map bB []), D.sl [.int .i64] (List.map eI [])])) := by kernel_rfl
theorem aBu (b0 b1 b2 : aA) : cJ SE (C52 Γ) Λ2 J 52 0 [1, 1, 1, 1, 1, 1, 1, 1, 1, 0, 0] (bA [(1, .ptr 1000000000 0), (2, .ptr 1000000001 0), (3, .ptr 1000000002 0)] [⟨53, (List.map AV.d (aA.enc b0))⟩, ⟨53, (List.map AV.d (aA.enc b1))⟩, ⟨53, (List.map AV.d (aA.enc b2))⟩] [] [] []) =
 cond (b0.Kind == 9) (
 (some (.ret [aA.av (aA.mk b2.Kind b2.ID b2.Dup b2.Message b2.Client b2.User b2.Clean b2.Keep b2.Expiry b2.Window b2.Will b2.Present b2.Code b2.Subs b2.Filters b0.Codes)] [] []))) (
 cond (b0.Kind == 11) (
 (some (.ret [aA.av (aA.mk b2.Kind b2.ID b2.Dup b2.Message b2.Client b2.User b2.Clean b2.Keep b2.Expiry b2.Window b2.Will b2.Present b2.Code b2.Subs b2.Filters b0.Codes)] [] []))) (
 (some (.ret [aA.av b2] [] [])))) := by kernel_rfl
theorem azB (b0 b1 b2 : aA) : cJ SE (C52 Γ) Λ2 J 52 0 [1, 1, 1, 1, 1, 1, 1, 1, 0, 0] (bA [(1, .ptr 1000000000 0), (2, .ptr 1000000001 0), (3, .ptr 1000000002 0)] [⟨53, (List.map AV.d (aA.enc b0))⟩, ⟨53, (List.map AV.d (aA.enc b1))⟩, ⟨53, (List.map AV.d (aA.enc b2))⟩] [] [] []) =
 cond (b0.Kind == 10) (
 aqE (C52 Γ) Λ2 J (aA.enc b0) (aA.enc b1) (aA.enc (aA.mk b2.Kind b2.ID b2.Dup b2.Message b2.Client b2.User b2.Clean b2.Keep b2.Expiry b2.Window b2.Will b2.Present b2.Code b2.Subs b0.Filters b2.Codes))) (
 aqE (C52 Γ) Λ2 J (aA.enc b0) (aA.enc b1) (aA.enc b2)) := by kernel_rfl
theorem aAX (b0 b1 b2 : aA) : cJ SE (C52 Γ) Λ2 J 52 0 [1, 1, 1, 1, 1, 1, 1, 0, 0] (bA [(1, .ptr 1000000000 0), (2, .ptr 1000000001 0), (3, .ptr 1000000002 0)] [⟨53, (List.map AV.d (aA.enc b0))⟩, ⟨53, (List.map AV.d (aA.enc b1))⟩, ⟨53, (List.map AV.d (aA.enc b2))⟩] [] [] []) =
 cond (b0.Kind == 8) (
 aqk (C52 Γ) Λ2 J (aA.enc b0) (aA.enc b1) (aA.enc (aA.mk b2.Kind b2.ID b2.Dup b2.Message b2.Client b2.User b2.Clean b2.Keep b2.Expiry b2.Window b2.Will b2.Present b2.Code b0.Subs b2.Filters b2.Codes))) (
 aqk (C52 Γ) Λ2 J (aA.enc b0) (aA.enc b1) (aA.enc b2)) := by kernel_rfl
theorem azu (b0 b1 b2 : aA) : cJ SE (C52 Γ) Λ2 J 52 0 [1, 1, 1, 1, 1, 1, 0, 0] (bA [(1, .ptr 1000000000 0), (2, .ptr 1000000001 0), (3, .ptr 1000000002 0)] [⟨53, (List.map AV.d (aA.enc b0))⟩, ⟨53, (List.map AV.d (aA.enc b1))⟩, ⟨53, (List.map AV.d (aA.enc b2))⟩] [] [] []) =
 cond (b0.Kind == 3) (
 aq1 (C52 Γ) Λ2 J (aA.enc b0) (aA.enc b1) (aA.enc (aA.mk b2.Kind b2.ID b0.Dup b0.Message b2.Client b2.User b2.Clean b2.Keep b2.Expiry b2.Window b2.Will b2.Present b2.Code b2.Subs b2.Filters b2.Codes))) (
 aq1 (C52 Γ) Λ2 J (aA.enc b0) (aA.enc b1) (aA.enc b2)) := by kernel_rfl
theorem aAJ (b0 b1 b2 : aA) : cJ SE (C52 Γ) Λ2 J 52 0 [1, 1, 1, 1, 1, 0, 0] (bA [(1, .ptr 1000000000 0), (2, .ptr 1000000001 0), (3, .ptr 1000000002 0)] [⟨53, (List.map AV.d (aA.enc b0))⟩, ⟨53, (List.map AV.d (aA.enc b1))⟩, ⟨53, (List.map AV.d (aA.enc b2))⟩] [] [] []) =
 cond (b0.Kind == 2) (
 am5 (C52 Γ) Λ2 J (aA.enc b0) (aA.enc b1) (aA.enc (aA.mk b2.Kind b2.ID b2.Dup b2.Message b2.Client b2.User b2.Clean b2.Keep b2.Expiry b2.Window b2.Will b2.Present b0.Code b2.Subs b2.Filters b2.Codes))) (
 cond (b0.Kind == 14) (
 am5 (C52 Γ) Λ2 J (aA.enc b0) (aA.enc b1) (aA.enc (aA.mk b2.Kind b2.ID b2.Dup b2.Message b2.Client b2.User b2.Clean b2.Keep b2.Expiry b2.Window b2.Will b2.Present b0.Code b2.Subs b2.Filters b2.Codes))) (
 am5 (C52 Γ) Λ2 J (aA.enc b0) (aA.enc b1) (aA.enc b2))) := by kernel_rfl
theorem aAU (b0 b1 b2 : aA) : cJ SE (C52 Γ) Λ2 J 52 0 [1, 1, 1, 1, 0, 0] (bA [(1, .ptr 1000000000 0), (2, .ptr 1000000001 0), (3, .ptr 1000000002 0)] [⟨53, (List.map AV.d (aA.enc b0))⟩, ⟨53, (List.map AV.d (aA.enc b1))⟩, ⟨53, (List.map AV.d (aA.enc b2))⟩] [] [] []) =
 cond (b0.Kind == 2) (
 apV (C52 Γ) Λ2 J (aA.enc b0) (aA.enc b1) (aA.enc (aA.mk b2.Kind b2.ID b2.Dup b2.Message b2.Client b2.User b2.Clean b2.Keep b2.Expiry b2.Window b2.Will b0.Present b2.Code b2.Subs b2.Filters b2.Codes))) (
 apV (C52 Γ) Λ2 J (aA.enc b0) (aA.enc b1) (aA.enc b2)) := by kernel_rfl
theorem aEU (b0 b1 b2 : aA) : cJ SE (C52 Γ) Λ2 J 52 0 [1, 1, 1, 0, 0] (bA [(1, .ptr 1000000000 0), (2, .ptr 1000000001 0), (3, .ptr 1000000002 0)] [⟨53, (List.map AV.d (aA.enc b0))⟩, ⟨53, (List.map AV.d (aA.enc b1))⟩, ⟨53, (List.map AV.d (aA.enc b2))⟩] [] [] []) =
 cond (b0.Kind == 1) (
 arc (C52 Γ) Λ2 J (aA.enc b0) (aA.enc b1) (aA.enc (aA.mk b2.Kind b2.ID b2.Dup b2.Message b0.Client b0.User b0.Clean b0.Keep b0.Expiry b0.Window b0.Will b2.Present b2.Code b2.Subs b2.Filters b2.Codes))) (
 arc (C52 Γ) Λ2 J (aA.enc b0) (aA.enc b1) (aA.enc b2)) := by kernel_rfl
end
abbrev X52 : aS := C52 gG
theorem aj5 : X52 = aT gG := rfl
abbrev aBJ := aqE X52 (cC SE gG (SE.hl 52) (SE.hr 52)) (J0 SE X52)
abbrev aCJ := aqk X52 (cC SE gG (SE.hl 52) (SE.hr 52)) (J0 SE X52)
abbrev aBz := aq1 X52 (cC SE gG (SE.hl 52) (SE.hr 52)) (J0 SE X52)
abbrev aCB := am5 X52 (cC SE gG (SE.hl 52) (SE.hr 52)) (J0 SE X52)
abbrev aAj := apV X52 (cC SE gG (SE.hl 52) (SE.hr 52)) (J0 SE X52)
abbrev aA6 := arc X52 (cC SE gG (SE.hl 52) (SE.hr 52)) (J0 SE X52)
abbrev aDS := amP X52 (cC SE gG (SE.hl 52) (SE.hr 52)) (J0 SE X52)
theorem aag (b0 b1 b2 : aA) : Le (Option.map eF (rL b0 b1 b2)) (aBJ (aA.enc b0) (aA.enc b1) (aA.enc b2)) := by
 refine Le.trans ?_ (le_of_eq ((bD aj5).trans (aBu ..)).symm)
 unfold rL
 refine lC ?_ ?_
 ·exact aG rfl
 ·refine lC ?_ ?_
  ·exact aG rfl
  ·exact aG rfl
theorem aae (b0 b1 b2 : aA) : Le (Option.map eF (rQ b0 b1 b2)) (aCJ (aA.enc b0) (aA.enc b1) (aA.enc b2)) := by
 refine Le.trans ?_ (le_of_eq ((bD aj5).trans (azB ..)).symm)
 unfold rQ
 refine lC ?_ ?_
 ·exact aag b0 b1 (aA.mk b2.Kind b2.ID b2.Dup b2.Message b2.Client b2.User b2.Clean b2.Keep b2.Expiry b2.Window b2.Will b2.Present b2.Code b2.Subs b0.Filters b2.Codes)
 ·exact aag b0 b1 b2
theorem aac (b0 b1 b2 : aA) : Le (Option.map eF (rJ b0 b1 b2)) (aBz (aA.enc b0) (aA.enc b1) (aA.enc b2)) := by
 refine Le.trans ?_ (le_of_eq ((bD aj5).trans (aAX ..)).symm)
 unfold rJ
 refine lC ?_ ?_
 ·exact aae b0 b1 (aA.mk b2.Kind b2.ID b2.Dup b2.Message b2.Client b2.User b2.Clean b2.Keep b2.Expiry b2.Window b2.Will b2.Present b2.Code b0.Subs b2.Filters b2.Codes)
 ·exact aae b0 b1 b2
theorem tI (b0 b1 b2 : aA) : Le (Option.map eF (nJ b0 b1 b2)) (aCB (aA.enc b0) (aA.enc b1) (aA.enc b2)) := by
 refine Le.trans ?_ (le_of_eq ((bD aj5).trans (azu ..)).symm)
 unfold nJ
 refine lC ?_ ?_
 ·exact aac b0 b1 (aA.mk b2.Kind b2.ID b0.Dup b0.Message b2.Client b2.User b2.Clean b2.Keep b2.Expiry b2.Window b2.Will b2.Present b2.Code b2.Subs b2.Filters b2.Codes)
 ·exact aac b0 b1 b2
theorem aaf (b0 b1 b2 : aA) : Le (Option.map eF (rX b0 b1 b2)) (aAj (aA.enc b0) (aA.enc b1) (aA.enc b2)) := by
 refine Le.trans ?_ (le_of_eq ((bD aj5).trans (aAJ ..)).symm)
 unfold rX
 refine lC ?_ ?_
 ·exact tI b0 b1 (aA.mk b2.Kind b2.ID b2.Dup b2.Message b2.Client b2.User b2.Clean b2.Keep b2.Expiry b2.Window b2.Will b2.Present b0.Code b2.Subs b2.Filters b2.Codes)
 ·refine lC ?_ ?_
  ·exact tI b0 b1 (aA.mk b2.Kind b2.ID b2.Dup b2.Message b2.Client b2.User b2.Clean b2.Keep b2.Expiry b2.Window b2.Will b2.Present b0.Code b2.Subs b2.Filters b2.Codes)
  ·exact tI b0 b1 b2
theorem aad (b0 b1 b2 : aA) : Le (Option.map eF (rK b0 b1 b2)) (aA6 (aA.enc b0) (aA.enc b1) (aA.enc b2)) := by
 refine Le.trans ?_ (le_of_eq ((bD aj5).trans (aAU ..)).symm)
 unfold rK
 refine lC ?_ ?_
 ·exact aaf b0 b1 (aA.mk b2.Kind b2.ID b2.Dup b2.Message b2.Client b2.User b2.Clean b2.Keep b2.Expiry b2.Window b2.Will b0.Present b2.Code b2.Subs b2.Filters b2.Codes)
 ·exact aaf b0 b1 b2
theorem pO (b0 b1 b2 : aA) : Le (Option.map eF (mE b0 b1 b2)) (aDS (aA.enc b0) (aA.enc b1) (aA.enc b2)) := by
 refine Le.trans ?_ (le_of_eq ((bD aj5).trans (aEU ..)).symm)
 unfold mE
 refine lC ?_ ?_
 ·exact aad b0 b1 (aA.mk b2.Kind b2.ID b2.Dup b2.Message b0.Client b0.User b0.Clean b0.Keep b0.Expiry b0.Window b0.Will b2.Present b2.Code b2.Subs b2.Filters b2.Codes)
 ·exact aad b0 b1 b2
theorem aiM (p0 : aA) : Le (Option.map eF (wA p0)) (bH SE 52 [aA.av p0] [] []) := by
 refine aZ aj5 rfl ?_
 refine Le.trans ?_ (le_of_eq (T52 ..).symm)
 unfold wA
 refine lC ?_ ?_
 ·(try simp only [EN]); exact pO p0 (zPq) ((aA.mk p0.Kind p0.ID false zMq [] [] false 0 0 0 zWq false 0 [] [] []))
 ·refine lC ?_ ?_
  ·refine lC ?_ ?_
   ·(try simp only [EN]); exact pO p0 (zPq) ((aA.mk p0.Kind p0.ID false zMq [] [] false 0 0 0 zWq false 0 [] [] []))
   ·(try simp only [EN]); exact pO p0 (zPq) ((aA.mk p0.Kind 0 false zMq [] [] false 0 0 0 zWq false 0 [] [] []))
  ·(try simp only [EN]); exact pO p0 (zPq) ((aA.mk p0.Kind 0 false zMq [] [] false 0 0 0 zWq false 0 [] [] []))
def atB (C : aS) (Λ2 J : Lam) (a0 a1 : List (List D)) (a2 : Int) : Res := lab SE C Λ2 J 79 0 [1, 1, 0, 1, 0] (bA [(0, .d (.sl aB.ks a0)), (1, .d (.sl aB.ks a1)), (5, dIq a2)] [] [] [] [])
section
variable (Γ : Fun)  (Λ2 J : Lam)
def C79 : aS := aT Γ
theorem T79 (p0 p1 : List aB) : bL SE (C79 Γ) Λ2 J 79 [.d (.sl aB.ks (List.map aB.enc p0)), .d (.sl aB.ks (List.map aB.enc p1))] [] [] =
 cond ((lM aB.enc p0 : Int) != (lM aB.enc p1 : Int)) (
 (rB false)) (
 atB (C79 Γ) Λ2 J (List.map aB.enc p0) (List.map aB.enc p1) 0) := by kernel_rfl
theorem aE3 (x0 x1 : List aB) (x5 : Int) : cJ SE (C79 Γ) Λ2 J 79 0 [1, 1, 0, 1, 0] (bA [(0, .d (.sl aB.ks (List.map aB.enc x0))), (1, .d (.sl aB.ks (List.map aB.enc x1))), (5, dIq x5)] [] [] [] []) =
 cond (decide (x5 < (lM aB.enc x0 : Int))) (
 cond (iB x5 (lM aB.enc x0 : Int)) (
  cond (iB x5 (lM aB.enc x1 : Int)) (
  cond (!(((bQ (cE aB.enc x0 x5 0)) == (bQ (cE aB.enc x1 x5 0))) && (((bQ (cE aB.enc x0 x5 1)) == (bQ (cE aB.enc x1 x5 1))) && true))) (
   (rB false)) (
  atB (C79 Γ) Λ2 J (List.map aB.enc x0) (List.map aB.enc x1) (w6 (x5 + 1)))) none) none) (
 (rB true)) := by kernel_rfl
end
abbrev X79 : aS := C79 gG
theorem aAR : X79 = aT gG := rfl
abbrev aDX := atB X79 (cC SE gG (SE.hl 79) (SE.hr 79)) (J0 SE X79)
theorem ac3 : ∀ (fu : Nat) (x0 x1 : List aB) (x5 : Int), Le (Option.map packet_is_out (gW fu x0 x1 x5)) (aDX (List.map aB.enc x0) (List.map aB.enc x1) x5) := by
 intro fu
 induction fu with
 | zero => intros; exact le_none
 | succ fu ih =>
  intro x0 x1 x5
  refine Le.trans ?_ (le_of_eq ((bD aAR).trans (aE3 ..)).symm)
  unfold gW
  refine lDe ?_ ?_
  ·refine lGe ?_
   refine lGe ?_
   refine lDe ?_ ?_
   ·exact aG rfl
   ·exact ih x0 x1 (w6 (x5 + 1))
  ·exact aG rfl
theorem ae3 (p0 p1 : List aB) : Le (Option.map packet_is_out (mU p0 p1)) (bH SE 79 [.d (.sl aB.ks (List.map aB.enc p0)), .d (.sl aB.ks (List.map aB.enc p1))] [] []) := by
 refine aZ aAR rfl ?_
 refine Le.trans ?_ (le_of_eq (T79 ..).symm)
 unfold mU
 refine lDe ?_ ?_
 ·exact aG rfl
 ·exact ac3 fuel p0 p1 0
section
variable (Γ : Fun) (γ79 : Gm (Bool)) (Λ2 J : Lam)
def C47 : aS := bG (aT Γ) 79 packet_is_out γ79
theorem T47 (p0 p1 : aF) : bL SE (C47 Γ γ79) Λ2 J 47 [aF.av p0, aF.av p1] [] [] =
 cond (p0.Topic == p1.Topic) (
 cond (p0.Payload == p1.Payload) (
  cond (p0.Level == p1.Level) (
  cond (p0.Retain == p1.Retain) (
   cond (p0.Priority == p1.Priority) (
   cond (p0.Expires == p1.Expires) (
    cond (p0.From == p1.From) (
    cond (p0.Seq == p1.Seq) (
     γ79 [.d (.sl aB.ks (List.map aB.enc p0.Props)), .d (.sl aB.ks (List.map aB.enc p1.Props))] [] [] fun r0 =>
     (rB r0)) (
    (rB false))) (
    (rB false))) (
   (rB false))) (
   (rB false))) (
  (rB false))) (
  (rB false))) (
 (rB false))) (
 (rB false)) := by kernel_rfl
end
abbrev X47 : aS := C47 gG (cT 79 packet_is_out)
theorem aHB : X47 = aT gG := by unfold X47 C47; rw [bJ fun _ h => h]
theorem xO (p0 p1 : aF) : Le (Option.map packet_is_out (mP p0 p1)) (bH SE 47 [aF.av p0, aF.av p1] [] []) := by
 refine aZ aHB rfl ?_
 refine Le.trans ?_ (le_of_eq (T47 ..).symm)
 unfold mP
 refine lC ?_ ?_
 ·refine lC ?_ ?_
  ·refine lC ?_ ?_
   ·refine lC ?_ ?_
    ·refine lC ?_ ?_
     ·refine lC ?_ ?_
      ·refine lC ?_ ?_
       ·refine lC ?_ ?_
        ·refine lQ eX packet_is_inj (ae3 _ _) fun r0 _ => ?_
         exact aG rfl
        ·exact aG rfl
       ·exact aG rfl
      ·exact aG rfl
     ·exact aG rfl
    ·exact aG rfl
   ·exact aG rfl
  ·exact aG rfl
 ·exact aG rfl
section
variable (Γ : Fun) (γ47 : Gm (Bool)) (Λ2 J : Lam)
def C48 : aS := bG (aT Γ) 47 packet_is_out γ47
theorem T48 (p0 p1 : aY) : bL SE (C48 Γ γ47) Λ2 J 48 [aY.av p0, aY.av p1] [] [] =
 cond (p0.Set == p1.Set) (
 cond (p0.Delay == p1.Delay) (
  γ47 [aF.av p0.Message, aF.av p1.Message] [] [] fun r0 =>
  (rB r0)) (
 (rB false))) (
 (rB false)) := by kernel_rfl
end
abbrev X48 : aS := C48 gG (cT 47 packet_is_out)
theorem aHd : X48 = aT gG := by unfold X48 C48; rw [bJ fun _ h => h]
theorem afh (p0 p1 : aY) : Le (Option.map packet_is_out (rR p0 p1)) (bH SE 48 [aY.av p0, aY.av p1] [] []) := by
 refine aZ aHd rfl ?_
 refine Le.trans ?_ (le_of_eq (T48 ..).symm)
 unfold rR
 refine lC ?_ ?_
 ·refine lC ?_ ?_
  ·refine lQ eX packet_is_inj (xO _ _) fun r0 _ => ?_
   exact aG rfl
  ·exact aG rfl
 ·exact aG rfl
def atU (C : aS) (Λ2 J : Lam) (a0 a1 : List (List D)) (a2 : Int) : Res := lab SE C Λ2 J 49 0 [1, 1, 0, 1, 0] (bA [(0, .d (.sl aH.ks a0)), (1, .d (.sl aH.ks a1)), (5, dIq a2)] [] [] [] [])
section
variable (Γ : Fun)  (Λ2 J : Lam)
def C49 : aS := aT Γ
theorem T49 (p0 p1 : List aH) : bL SE (C49 Γ) Λ2 J 49 [.d (.sl aH.ks (List.map aH.enc p0)), .d (.sl aH.ks (List.map aH.enc p1))] [] [] =
 cond ((lM aH.enc p0 : Int) != (lM aH.enc p1 : Int)) (
 (rB false)) (
 atU (C49 Γ) Λ2 J (List.map aH.enc p0) (List.map aH.enc p1) 0) := by kernel_rfl
theorem aFj (x0 x1 : List aH) (x5 : Int) : cJ SE (C49 Γ) Λ2 J 49 0 [1, 1, 0, 1, 0] (bA [(0, .d (.sl aH.ks (List.map aH.enc x0))), (1, .d (.sl aH.ks (List.map aH.enc x1))), (5, dIq x5)] [] [] [] []) =
 cond (decide (x5 < (lM aH.enc x0 : Int))) (
 cond (iB x5 (lM aH.enc x0 : Int)) (
  cond (iB x5 (lM aH.enc x1 : Int)) (
  cond (!(((bQ (cE aH.enc x0 x5 0)) == (bQ (cE aH.enc x1 x5 0))) && (((bC (cE aH.enc x0 x5 1)) == (bC (cE aH.enc x1 x5 1))) && (((cF (cE aH.enc x0 x5 2)) == (cF (cE aH.enc x1 x5 2))) && true)))) (
   (rB false)) (
  atU (C49 Γ) Λ2 J (List.map aH.enc x0) (List.map aH.enc x1) (w6 (x5 + 1)))) none) none) (
 (rB true)) := by kernel_rfl
end
abbrev X49 : aS := C49 gG
theorem aCl : X49 = aT gG := rfl
abbrev aEu := atU X49 (cC SE gG (SE.hl 49) (SE.hr 49)) (J0 SE X49)
theorem adm : ∀ (fu : Nat) (x0 x1 : List aH) (x5 : Int), Le (Option.map packet_is_out (iI fu x0 x1 x5)) (aEu (List.map aH.enc x0) (List.map aH.enc x1) x5) := by
 intro fu
 induction fu with
 | zero => intros; exact le_none
 | succ fu ih =>
  intro x0 x1 x5
  refine Le.trans ?_ (le_of_eq ((bD aCl).trans (aFj ..)).symm)
  unfold iI
  refine lDe ?_ ?_
  ·refine lGe ?_
   refine lGe ?_
   refine lDe ?_ ?_
   ·exact aG rfl
   ·exact ih x0 x1 (w6 (x5 + 1))
  ·exact aG rfl
theorem afn (p0 p1 : List aH) : Le (Option.map packet_is_out (n8 p0 p1)) (bH SE 49 [.d (.sl aH.ks (List.map aH.enc p0)), .d (.sl aH.ks (List.map aH.enc p1))] [] []) := by
 refine aZ aCl rfl ?_
 refine Le.trans ?_ (le_of_eq (T49 ..).symm)
 unfold n8
 refine lDe ?_ ?_
 ·exact aG rfl
 ·exact adm fuel p0 p1 0
def asH (C : aS) (Λ2 J : Lam) (a0 a1 : List (List D)) (a2 : Int) : Res := lab SE C Λ2 J 50 0 [1, 1, 0, 1, 0] (bA [(0, .d (.sl [.str] a0)), (1, .d (.sl [.str] a1)), (5, dIq a2)] [] [] [] [])
section
variable (Γ : Fun)  (Λ2 J : Lam)
def C50 : aS := aT Γ
theorem T50 (p0 p1 : List Str) : bL SE (C50 Γ) Λ2 J 50 [.d (.sl [.str] (List.map bB p0)), .d (.sl [.str] (List.map bB p1))] [] [] =
 cond ((lM bB p0 : Int) != (lM bB p1 : Int)) (
 (rB false)) (
 asH (C50 Γ) Λ2 J (List.map bB p0) (List.map bB p1) 0) := by kernel_rfl
theorem aEF (x0 x1 : List Str) (x5 : Int) : cJ SE (C50 Γ) Λ2 J 50 0 [1, 1, 0, 1, 0] (bA [(0, .d (.sl [.str] (List.map bB x0))), (1, .d (.sl [.str] (List.map bB x1))), (5, dIq x5)] [] [] [] []) =
 cond (decide (x5 < (lM bB x0 : Int))) (
 cond (iB x5 (lM bB x0 : Int)) (
  cond (iB x5 (lM bB x1 : Int)) (
  cond (!((bQ (cE bB x0 x5 0)) == (bQ (cE bB x1 x5 0)))) (
   (rB false)) (
  asH (C50 Γ) Λ2 J (List.map bB x0) (List.map bB x1) (w6 (x5 + 1)))) none) none) (
 (rB true)) := by kernel_rfl
end
abbrev X50 : aS := C50 gG
theorem aAg : X50 = aT gG := rfl
abbrev aD3 := asH X50 (cC SE gG (SE.hl 50) (SE.hr 50)) (J0 SE X50)
theorem agy : ∀ (fu : Nat) (x0 x1 : List Str) (x5 : Int), Le (Option.map packet_is_out (kF fu x0 x1 x5)) (aD3 (List.map bB x0) (List.map bB x1) x5) := by
 intro fu
 induction fu with
 | zero => intros; exact le_none
 | succ fu ih =>
  intro x0 x1 x5
  refine Le.trans ?_ (le_of_eq ((bD aAg).trans (aEF ..)).symm)
  unfold kF
  refine lDe ?_ ?_
  ·refine lGe ?_
   refine lGe ?_
   refine lDe ?_ ?_
   ·exact aG rfl
   ·exact ih x0 x1 (w6 (x5 + 1))
  ·exact aG rfl
theorem aiE (p0 p1 : List Str) : Le (Option.map packet_is_out (sI p0 p1)) (bH SE 50 [.d (.sl [.str] (List.map bB p0)), .d (.sl [.str] (List.map bB p1))] [] []) := by
 refine aZ aAg rfl ?_
 refine Le.trans ?_ (le_of_eq (T50 ..).symm)
 unfold sI
 refine lDe ?_ ?_
 ·exact aG rfl
 ·exact agy fuel p0 p1 0
def atf (C : aS) (Λ2 J : Lam) (a0 a1 : List (List D)) (a2 : Int) : Res := lab SE C Λ2 J 51 0 [1, 1, 0, 1, 0] (bA [(0, .d (.sl [.int .i64] a0)), (1, .d (.sl [.int .i64] a1)), (5, dIq a2)] [] [] [] [])
section
variable (Γ : Fun)  (Λ2 J : Lam)
def C51 : aS := aT Γ
theorem T51 (p0 p1 : List Int) : bL SE (C51 Γ) Λ2 J 51 [.d (.sl [.int .i64] (List.map eI p0)), .d (.sl [.int .i64] (List.map eI p1))] [] [] =
 cond ((lM eI p0 : Int) != (lM eI p1 : Int)) (
 (rB false)) (
 atf (C51 Γ) Λ2 J (List.map eI p0) (List.map eI p1) 0) := by kernel_rfl
theorem aDa (x0 x1 : List Int) (x5 : Int) : cJ SE (C51 Γ) Λ2 J 51 0 [1, 1, 0, 1, 0] (bA [(0, .d (.sl [.int .i64] (List.map eI x0))), (1, .d (.sl [.int .i64] (List.map eI x1))), (5, dIq x5)] [] [] [] []) =
 cond (decide (x5 < (lM eI x0 : Int))) (
 cond (iB x5 (lM eI x0 : Int)) (
  cond (iB x5 (lM eI x1 : Int)) (
  cond ((bC (cE eI x0 x5 0)) != (bC (cE eI x1 x5 0))) (
   (rB false)) (
  atf (C51 Γ) Λ2 J (List.map eI x0) (List.map eI x1) (w6 (x5 + 1)))) none) none) (
 (rB true)) := by kernel_rfl
end
abbrev X51 : aS := C51 gG
theorem aBX : X51 = aT gG := rfl
abbrev aED := atf X51 (cC SE gG (SE.hl 51) (SE.hr 51)) (J0 SE X51)
theorem ab1 : ∀ (fu : Nat) (x0 x1 : List Int) (x5 : Int), Le (Option.map packet_is_out (gA fu x0 x1 x5)) (aED (List.map eI x0) (List.map eI x1) x5) := by
 intro fu
 induction fu with
 | zero => intros; exact le_none
 | succ fu ih =>
  intro x0 x1 x5
  refine Le.trans ?_ (le_of_eq ((bD aBX).trans (aDa ..)).symm)
  unfold gA
  refine lDe ?_ ?_
  ·refine lGe ?_
   refine lGe ?_
   refine lDe ?_ ?_
   ·exact aG rfl
   ·exact ih x0 x1 (w6 (x5 + 1))
  ·exact aG rfl
theorem adn (p0 p1 : List Int) : Le (Option.map packet_is_out (lP p0 p1)) (bH SE 51 [.d (.sl [.int .i64] (List.map eI p0)), .d (.sl [.int .i64] (List.map eI p1))] [] []) := by
 refine aZ aBX rfl ?_
 refine Le.trans ?_ (le_of_eq (T51 ..).symm)
 unfold lP
 refine lDe ?_ ?_
 ·exact aG rfl
 ·exact ab1 fuel p0 p1 0
def ayi (C : aS) (Λ2 J : Lam) (a0 a1 : List D) : Res := lab SE C Λ2 J 30 0 [1, 1, 1, 0] (bA [(2, .ptr 1000000000 0), (3, .ptr 1000000001 0)] [⟨53, (List.map AV.d a0)⟩, ⟨53, (List.map AV.d a1)⟩] [] [] [])
def ax8 (C : aS) (Λ2 J : Lam) (a0 a1 : List D) : Res := lab SE C Λ2 J 30 0 [1, 1, 0, 0] (bA [(2, .ptr 1000000000 0), (3, .ptr 1000000001 0)] [⟨53, (List.map AV.d a0)⟩, ⟨53, (List.map AV.d a1)⟩] [] [] [])
section
variable (Γ : Fun) (γ47 γ48 γ49 γ50 γ51 : Gm (Bool)) (Λ2 J : Lam)
def C30 : aS := bG (bG (bG (bG (bG (aT Γ) 47 packet_is_out γ47) 48 packet_is_out γ48) 49 packet_is_out γ49) 50 packet_is_out γ50) 51 packet_is_out γ51
theorem T30 (p0 p1 : aA) : bL SE (C30 Γ γ47 γ48 γ49 γ50 γ51) Λ2 J 30 [aA.av p0, aA.av p1] [] [] =
 cond (p0.Kind != p1.Kind) (
 (rB false)) (
 cond (p0.ID != p1.ID) (
 (rB false)) (
 cond (p0.Dup != p1.Dup) (
 (rB false)) (
 γ47 [aF.av p0.Message, aF.av p1.Message] [] [] fun r0 =>
 cond (!r0) (
 (rB false)) (
 cond (!(p0.Client == p1.Client)) (
 (rB false)) (
 cond (!(p0.User == p1.User)) (
 (rB false)) (
 ax8 (C30 Γ γ47 γ48 γ49 γ50 γ51) Λ2 J (aA.enc p0) (aA.enc p1))))))) := by kernel_rfl
theorem aDt (b0 b1 : aA) : cJ SE (C30 Γ γ47 γ48 γ49 γ50 γ51) Λ2 J 30 0 [1, 1, 1, 0] (bA [(2, .ptr 1000000000 0), (3, .ptr 1000000001 0)] [⟨53, (List.map AV.d (aA.enc b0))⟩, ⟨53, (List.map AV.d (aA.enc b1))⟩] [] [] []) =
 cond (b0.Present == b1.Present) (
 cond (b0.Code == b1.Code) (
  γ49 [.d (.sl aH.ks (List.map aH.enc b0.Subs)), .d (.sl aH.ks (List.map aH.enc b1.Subs))] [] [] fun r2 =>
  cond r2 (
  γ50 [.d (.sl [.str] (List.map bB b0.Filters)), .d (.sl [.str] (List.map bB b1.Filters))] [] [] fun r3 =>
  cond r3 (
   γ51 [.d (.sl [.int .i64] (List.map eI b0.Codes)), .d (.sl [.int .i64] (List.map eI b1.Codes))] [] [] fun r4 =>
   (rB r4)) (
  (rB false))) (
  (rB false))) (
 (rB false))) (
 (rB false)) := by kernel_rfl
theorem aEd (b0 b1 : aA) : cJ SE (C30 Γ γ47 γ48 γ49 γ50 γ51) Λ2 J 30 0 [1, 1, 0, 0] (bA [(2, .ptr 1000000000 0), (3, .ptr 1000000001 0)] [⟨53, (List.map AV.d (aA.enc b0))⟩, ⟨53, (List.map AV.d (aA.enc b1))⟩] [] [] []) =
 cond (b0.Clean != b1.Clean) (
 (rB false)) (
 cond (b0.Keep != b1.Keep) (
 (rB false)) (
 cond (b0.Expiry != b1.Expiry) (
 (rB false)) (
 cond (b0.Window != b1.Window) (
 (rB false)) (
 γ48 [aY.av b0.Will, aY.av b1.Will] [] [] fun r1 =>
 cond (!r1) (
 (rB false)) (
 ayi (C30 Γ γ47 γ48 γ49 γ50 γ51) Λ2 J (aA.enc b0) (aA.enc b1)))))) := by kernel_rfl
end
abbrev X30 : aS := C30 gG (cT 47 packet_is_out) (cT 48 packet_is_out) (cT 49 packet_is_out) (cT 50 packet_is_out) (cT 51 packet_is_out)
theorem axG : X30 = aT gG := by unfold X30 C30; repeat rw [bJ fun _ h => h]
abbrev aES := ayi X30 (cC SE gG (SE.hl 30) (SE.hr 30)) (J0 SE X30)
abbrev aEZ := ax8 X30 (cC SE gG (SE.hl 30) (SE.hr 30)) (J0 SE X30)
theorem agO (b0 b1 : aA) : Le (Option.map packet_is_out (tD b0 b1)) (aES (aA.enc b0) (aA.enc b1)) := by
 refine Le.trans ?_ (le_of_eq ((bD axG).trans (aDt ..)).symm)
 unfold tD
 refine lC ?_ ?_
 ·refine lC ?_ ?_
  ·refine lQ eX packet_is_inj (afn _ _) fun r2 _ => ?_
   refine lC ?_ ?_
   ·refine lQ eX packet_is_inj (aiE _ _) fun r3 _ => ?_
    refine lC ?_ ?_
    ·refine lQ eX packet_is_inj (adn _ _) fun r4 _ => ?_
     exact aG rfl
    ·exact aG rfl
   ·exact aG rfl
  ·exact aG rfl
 ·exact aG rfl
theorem agr (b0 b1 : aA) : Le (Option.map packet_is_out (tE b0 b1)) (aEZ (aA.enc b0) (aA.enc b1)) := by
 refine Le.trans ?_ (le_of_eq ((bD axG).trans (aEd ..)).symm)
 unfold tE
 refine lC ?_ ?_
 ·exact aG rfl
 ·refine lC ?_ ?_
  ·exact aG rfl
  ·refine lC ?_ ?_
   ·exact aG rfl
   ·refine lC ?_ ?_
    ·exact aG rfl
    ·refine lQ eX packet_is_inj (afh _ _) fun r1 _ => ?_
     refine lC ?_ ?_
     ·exact aG rfl
     ·exact agO b0 b1
theorem ab2 (p0 p1 : aA) : Le (Option.map packet_is_out (o6 p0 p1)) (bH SE 30 [aA.av p0, aA.av p1] [] []) := by
 refine aZ axG rfl ?_
 refine Le.trans ?_ (le_of_eq (T30 ..).symm)
 unfold o6
 refine lC ?_ ?_
 ·exact aG rfl
 ·refine lC ?_ ?_
  ·exact aG rfl
  ·refine lC ?_ ?_
   ·exact aG rfl
   ·refine lQ eX packet_is_inj (xO _ _) fun r0 _ => ?_
    refine lC ?_ ?_
    ·exact aG rfl
    ·refine lC ?_ ?_
     ·exact aG rfl
     ·refine lC ?_ ?_
      ·exact aG rfl
      ·exact agr p0 p1
section
variable (Γ : Fun)  (Λ2 J : Lam)
def aBW : aS := aT Γ
theorem aFZ (p0 : Int) : bL SE (aBW Γ) Λ2 J 106 [.d (.int .u8 p0)] [] [] =
 cond (decide (p0 ≥ 97)) (
 (rB (decide (p0 ≤ 122)))) (
 (rB false)) := by kernel_rfl
end
abbrev aGx : aS := aBW gG
theorem aEx : aGx = aT gG := rfl
theorem abz (p0 : Int) : Le (Option.map packet_is_out (oJ p0)) (bH SE 106 [.d (.int .u8 p0)] [] []) := by
 refine aZ aEx rfl ?_
 refine Le.trans ?_ (le_of_eq (aFZ ..).symm)
 unfold oJ
 refine lC ?_ ?_
 ·exact aG rfl
 ·exact aG rfl
section
variable (Γ : Fun)  (Λ2 J : Lam)
def aAN : aS := aT Γ
theorem aF7 (p0 : Int) : bL SE (aAN Γ) Λ2 J 107 [.d (.int .u8 p0)] [] [] =
 cond (decide (p0 ≥ 48)) (
 (rB (decide (p0 ≤ 57)))) (
 (rB false)) := by kernel_rfl
end
abbrev aHn : aS := aAN gG
theorem aD9 : aHn = aT gG := rfl
theorem ahG (p0 : Int) : Le (Option.map packet_is_out (rC p0)) (bH SE 107 [.d (.int .u8 p0)] [] []) := by
 refine aZ aD9 rfl ?_
 refine Le.trans ?_ (le_of_eq (aF7 ..).symm)
 unfold rC
 refine lC ?_ ?_
 ·exact aG rfl
 ·exact aG rfl
def ame (C : aS) (Λ2 J : Lam) (a0 : Str) (a1 : Int) : Res := lab SE C Λ2 J 80 0 [1, 1, 0, 1, 0] (bA [(0, dSq a0), (3, dIq a1)] [] [] [] [])
def axY (C : aS) (Λ2 J : Lam) (a0 : Str) : Res := lab SE C Λ2 J 80 0 [1, 1, 0, 0] (bA [(0, dSq a0)] [] [] [] [])
section
variable (Γ : Fun) (γ106 γ107 : Gm (Bool)) (Λ2 J : Lam)
def C80 : aS := bG (bG (aT Γ) 106 packet_is_out γ106) 107 packet_is_out γ107
theorem T80 (p0 : Str) : bL SE (C80 Γ γ106 γ107) Λ2 J 80 [dSq p0] [] [] =
 cond (decide ((List.length p0 : Int) < 1)) (
 (rB false)) (
 cond (decide ((List.length p0 : Int) > 16)) (
 (rB false)) (
 cond (decide (0 ≤ 0) && decide (0 < (List.length p0 : Int))) (
 γ106 [.d (.int .u8 (UInt8.toNat (List.getD p0 (Int.toNat 0) 0) : Int))] [] [] fun r0 =>
 cond (!r0) (
  (rB false)) (
 axY (C80 Γ γ106 γ107) Λ2 J p0)) none)) := by kernel_rfl
theorem aEO (x0 : Str) (x3 : Int) : cJ SE (C80 Γ γ106 γ107) Λ2 J 80 0 [1, 1, 0, 1, 0] (bA [(0, dSq x0), (3, dIq x3)] [] [] [] []) =
 cond (decide (x3 < (List.length x0 : Int))) (
 cond (iB x3 (List.length x0 : Int)) (
  γ106 [.d (.int .u8 (UInt8.toNat (List.getD x0 (Int.toNat x3) 0) : Int))] [] [] fun r1 =>
  cond (!r1) (
  cond (iB x3 (List.length x0 : Int)) (
   γ107 [.d (.int .u8 (UInt8.toNat (List.getD x0 (Int.toNat x3) 0) : Int))] [] [] fun r2 =>
   cond (!r2) (
   cond (iB x3 (List.length x0 : Int)) (
    cond ((UInt8.toNat (List.getD x0 (Int.toNat x3) 0) : Int) != 45) (
    (rB false)) (
    ame (C80 Γ γ106 γ107) Λ2 J x0 (w6 (x3 + 1)))) none) (
   ame (C80 Γ γ106 γ107) Λ2 J x0 (w6 (x3 + 1)))) none) (
  ame (C80 Γ γ106 γ107) Λ2 J x0 (w6 (x3 + 1)))) none) (
 (rB true)) := by kernel_rfl
theorem aDI (x0 : Str) : cJ SE (C80 Γ γ106 γ107) Λ2 J 80 0 [1, 1, 0, 0] (bA [(0, dSq x0)] [] [] [] []) =
 ame (C80 Γ γ106 γ107) Λ2 J x0 0 := by kernel_rfl
end
abbrev X80 : aS := C80 gG (cT 106 packet_is_out) (cT 107 packet_is_out)
theorem awo : X80 = aT gG := by unfold X80 C80; repeat rw [bJ fun _ h => h]
abbrev aC4 := ame X80 (cC SE gG (SE.hl 80) (SE.hr 80)) (J0 SE X80)
abbrev aEk := axY X80 (cC SE gG (SE.hl 80) (SE.hr 80)) (J0 SE X80)
theorem agF : ∀ (fu : Nat) (x0 : Str) (x3 : Int), Le (Option.map packet_is_out (hO fu x0 x3)) (aC4 x0 x3) := by
 intro fu
 induction fu with
 | zero => intros; exact le_none
 | succ fu ih =>
  intro x0 x3
  refine Le.trans ?_ (le_of_eq ((bD awo).trans (aEO ..)).symm)
  unfold hO
  refine lC ?_ ?_
  ·refine lF ?_
   refine lQ eX packet_is_inj (abz _) fun r1 _ => ?_
   refine lC ?_ ?_
   ·refine lF ?_
    refine lQ eX packet_is_inj (ahG _) fun r2 _ => ?_
    refine lC ?_ ?_
    ·refine lF ?_
     refine lC ?_ ?_
     ·exact aG rfl
     ·exact ih x0 (w6 (x3 + 1))
    ·exact ih x0 (w6 (x3 + 1))
   ·exact ih x0 (w6 (x3 + 1))
  ·exact aG rfl
theorem agQ (x0 : Str) : Le (Option.map packet_is_out (tB x0)) (aEk x0) := by
 refine Le.trans ?_ (le_of_eq ((bD awo).trans (aDI ..)).symm)
 unfold tB
 exact agF fuel x0 0
theorem tG (p0 : Str) : Le (Option.map packet_is_out (iW p0)) (bH SE 80 [dSq p0] [] []) := by
 refine aZ awo rfl ?_
 refine Le.trans ?_ (le_of_eq (T80 ..).symm)
 unfold iW
 refine lC ?_ ?_
 ·exact aG rfl
 ·refine lC ?_ ?_
  ·exact aG rfl
  ·refine lF ?_
   refine lQ eX packet_is_inj (abz _) fun r0 _ => ?_
   refine lC ?_ ?_
   ·exact aG rfl
   ·exact agQ p0
def aqM (C : aS) (Λ2 J : Lam) (a0 : Str) (a1 a2 : Int) : Res := lab SE C Λ2 J 129 0 [1, 0, 1, 0] (bA [(0, dSq a0), (1, .d (.int .u8 a1)), (5, dIq a2)] [] [] [] [])
section
variable (Γ : Fun)  (Λ2 J : Lam)
def aqG : aS := aT Γ
theorem aF2 (p0 : Str) (p1 : Int) : bL SE (aqG Γ) Λ2 J 129 [dSq p0, .d (.int .u8 p1)] [] [] =
 aqM (aqG Γ) Λ2 J p0 p1 0 := by kernel_rfl
theorem aA8 (x0 : Str) (x1 x5 : Int) : cJ SE (aqG Γ) Λ2 J 129 0 [1, 0, 1, 0] (bA [(0, dSq x0), (1, .d (.int .u8 x1)), (5, dIq x5)] [] [] [] []) =
 cond (decide (x5 < (List.length x0 : Int))) (
 cond (iB x5 (List.length x0 : Int)) (
  cond ((UInt8.toNat (List.getD x0 (Int.toNat x5) 0) : Int) == x1) (
  (rB true)) (
  aqM (aqG Γ) Λ2 J x0 x1 (w6 (x5 + 1)))) none) (
 (rB false)) := by kernel_rfl
end
abbrev awz : aS := aqG gG
theorem ayg : awz = aT gG := rfl
abbrev aCe := aqM awz (cC SE gG (SE.hl 129) (SE.hr 129)) (J0 SE awz)
theorem ahu : ∀ (fu : Nat) (x0 : Str) (x1 x5 : Int), Le (Option.map packet_is_out (lB fu x0 x1 x5)) (aCe x0 x1 x5) := by
 intro fu
 induction fu with
 | zero => intros; exact le_none
 | succ fu ih =>
  intro x0 x1 x5
  refine Le.trans ?_ (le_of_eq ((bD ayg).trans (aA8 ..)).symm)
  unfold lB
  refine lC ?_ ?_
  ·refine lF ?_
   refine lC ?_ ?_
   ·exact aG rfl
   ·exact ih x0 x1 (w6 (x5 + 1))
  ·exact aG rfl
theorem qA (p0 : Str) (p1 : Int) : Le (Option.map packet_is_out (kL p0 p1)) (bH SE 129 [dSq p0, .d (.int .u8 p1)] [] []) := by
 refine aZ ayg rfl ?_
 refine Le.trans ?_ (le_of_eq (aF2 ..).symm)
 unfold kL
 exact ahu fuel p0 p1 0
def amx (C : aS) (Λ2 J : Lam) (a0 : Str) (a1 a2 : Int) (a3 : List (List D)) : Res := lab SE C Λ2 J 131 0 [1, 1, 1, 0, 1, 0] (bA [(0, dSq a0), (3, .row 3003), (4, dIq a1), (5, dIq a2)] [] [] [] [(3003, ⟨[.str], 9, 16, a3⟩)])
section
variable (Γ : Fun)  (Λ2 J : Lam)
def an0 : aS := aT Γ
theorem aGz (p0 : Str) : bL SE (an0 Γ) Λ2 J 131 [dSq p0] [] [] =
 amx (an0 Γ) Λ2 J p0 0 0 (List.map bB []) := by kernel_rfl
theorem azy (x0 : Str) (x4 x5 : Int) (w3003 : List Str) : cJ SE (an0 Γ) Λ2 J 131 0 [1, 1, 1, 0, 1, 0] (bA [(0, dSq x0), (3, .row 3003), (4, dIq x4), (5, dIq x5)] [] [] [] [(3003, ⟨[.str], 9, 16, (List.map bB w3003)⟩)]) =
 cond (decide (x5 < (List.length x0 : Int))) (
 cond (iB x5 (List.length x0 : Int)) (
  cond ((UInt8.toNat (List.getD x0 (Int.toNat x5) 0) : Int) == 47) (
  cond (decide (0 ≤ x5) && decide (x5 ≤ ((List.length x0) : Int))) (
   cond (decide (0 ≤ x4) && decide (x4 ≤ x5)) (
   cond (decide ((lM bB w3003 + lM bB [(cH x0 (some x4) (some x5))]) * 16 ≤ 140737488355328)) (
    amx (an0 Γ) Λ2 J x0 (w6 (x5 + 1)) (w6 (x5 + 1)) (((List.map bB w3003) ++ (List.map bB [(cH x0 (some x4) (some x5))])))) none) none) none) (
  amx (an0 Γ) Λ2 J x0 x4 (w6 (x5 + 1)) (List.map bB w3003))) none) (
 cond (decide (0 ≤ x4) && decide (x4 ≤ ((List.length x0) : Int))) (
 cond (decide ((lM bB w3003 + lM bB [(cH x0 (some x4) none)]) * 16 ≤ 140737488355328)) (
  (some (.ret [.row 0] [] [⟨[.str], 9, 16, ((List.map bB w3003) ++ (List.map bB [(cH x0 (some x4) none)]))⟩]))) none) none) := by kernel_rfl
end
abbrev axn : aS := an0 gG
theorem ayf : axn = aT gG := rfl
abbrev aBa := amx axn (cC SE gG (SE.hl 131) (SE.hr 131)) (J0 SE axn)
theorem ae4 : ∀ (fu : Nat) (x0 : Str) (x4 x5 : Int) (w3003 : List Str), Le (Option.map eY (iC fu x0 x4 x5 w3003)) (aBa x0 x4 x5 (List.map bB w3003)) := by
 intro fu
 induction fu with
 | zero => intros; exact le_none
 | succ fu ih =>
  intro x0 x4 x5 w3003
  refine Le.trans ?_ (le_of_eq ((bD ayf).trans (azy ..)).symm)
  unfold iC
  refine lC ?_ ?_
  ·refine lF ?_
   refine lC ?_ ?_
   ·refine lF ?_
    refine lF ?_
    refine lGe ?_
    (try simp only [EN]); exact ih x0 (w6 (x5 + 1)) (w6 (x5 + 1)) ((w3003 ++ [(cH x0 (some x4) (some x5))]))
   ·exact ih x0 x4 (w6 (x5 + 1)) w3003
  ·refine lF ?_
   refine lGe ?_
   exact aG (by first | rfl | simp only [EN, eY] <;> rfl)
theorem abb (p0 : Str) : Le (Option.map eY (p7 p0)) (bH SE 131 [dSq p0] [] []) := by
 refine aZ ayf rfl ?_
 refine Le.trans ?_ (le_of_eq (aGz ..).symm)
 unfold p7
 (try simp only [EN]); exact ae4 fuel p0 0 0 []
section
variable (Γ : Fun) (γ129 : Gm (Bool)) (γ131 : Gm ((List Str))) (Λ2 J : Lam)
def axt : aS := bG (bG (aT Γ) 129 packet_is_out γ129) 131 eY γ131
theorem aG8 (p0 : Str) : bL SE (axt Γ γ129 γ131) Λ2 J 128 [dSq p0] [] [] =
 cond (decide ((List.length p0 : Int) ≥ 1)) (
 cond (decide ((List.length p0 : Int) ≤ 64)) (
  γ129 [dSq p0, .d (.int .u8 0)] [] [] fun r0 =>
  cond (!r0) (
  γ131 [dSq p0] [] [] fun r1 =>
  (rB (decide ((lM bB r1 : Int) ≤ 8)))) (
  (rB false))) (
 (rB false))) (
 (rB false)) := by kernel_rfl
end
abbrev aBD : aS := axt gG (cT 129 packet_is_out) (cT 131 eY)
theorem aDg : aBD = aT gG := by unfold aBD axt; repeat rw [bJ fun _ h => h]
theorem abE (p0 : Str) : Le (Option.map packet_is_out (oG p0)) (bH SE 128 [dSq p0] [] []) := by
 refine aZ aDg rfl ?_
 refine Le.trans ?_ (le_of_eq (aG8 ..).symm)
 unfold oG
 refine lC ?_ ?_
 ·refine lC ?_ ?_
  ·refine lQ eX packet_is_inj (qA _ _) fun r0 _ => ?_
   refine lC ?_ ?_
   ·refine lQ eX aao (abb _) fun r1 _ => ?_
    exact aG (by first | rfl | simp only [EN, packet_is_out] <;> rfl)
   ·exact aG rfl
  ·exact aG rfl
 ·exact aG rfl
section
variable (Γ : Fun) (γ128 γ129 : Gm (Bool)) (Λ2 J : Lam)
def awa : aS := bG (bG (aT Γ) 128 packet_is_out γ128) 129 packet_is_out γ129
theorem aHo (p0 : Str) : bL SE (awa Γ γ128 γ129) Λ2 J 108 [dSq p0] [] [] =
 γ128 [dSq p0] [] [] fun r0 =>
 cond r0 (
 γ129 [dSq p0, .d (.int .u8 43)] [] [] fun r1 =>
 cond (!r1) (
  γ129 [dSq p0, .d (.int .u8 35)] [] [] fun r2 =>
  (rB (!r2))) (
 (rB false))) (
 (rB false)) := by kernel_rfl
end
abbrev aBT : aS := awa gG (cT 128 packet_is_out) (cT 129 packet_is_out)
theorem aDM : aBT = aT gG := by unfold aBT awa; repeat rw [bJ fun _ h => h]
theorem aid (p0 : Str) : Le (Option.map packet_is_out (rG p0)) (bH SE 108 [dSq p0] [] []) := by
 refine aZ aDM rfl ?_
 refine Le.trans ?_ (le_of_eq (aHo ..).symm)
 unfold rG
 refine lQ eX packet_is_inj (abE _) fun r0 _ => ?_
 refine lC ?_ ?_
 ·refine lQ eX packet_is_inj (qA _ _) fun r1 _ => ?_
  refine lC ?_ ?_
  ·refine lQ eX packet_is_inj (qA _ _) fun r2 _ => ?_
   exact aG rfl
  ·exact aG rfl
 ·exact aG rfl
def abN (C : aS) (Λ2 J : Lam) (a0 : Str) (a1 : Int) : Res := lab SE C Λ2 J 130 0 [1, 1, 0, 1, 0] (bA [(0, dSq a0), (3, dIq a1)] [] [] [] [])
def au0 (C : aS) (Λ2 J : Lam) (a0 : Str) : Res := lab SE C Λ2 J 130 0 [1, 1, 0, 0] (bA [(0, dSq a0)] [] [] [] [])
section
variable (Γ : Fun)  (Λ2 J : Lam)
def acx : aS := aT Γ
theorem aHR (p0 : Str) : bL SE (acx Γ) Λ2 J 130 [dSq p0] [] [] =
 cond (decide ((List.length p0 : Int) < 1)) (
 (rB false)) (
 cond (decide ((List.length p0 : Int) > 16)) (
 (rB false)) (
 au0 (acx Γ) Λ2 J p0)) := by kernel_rfl
theorem aAD (x0 : Str) (x3 : Int) : cJ SE (acx Γ) Λ2 J 130 0 [1, 1, 0, 1, 0] (bA [(0, dSq x0), (3, dIq x3)] [] [] [] []) =
 cond (decide (x3 < (List.length x0 : Int))) (
 cond (iB x3 (List.length x0 : Int)) (
  cond (decide ((UInt8.toNat (List.getD x0 (Int.toNat x3) 0) : Int) ≥ 97)) (
  cond (!(decide ((UInt8.toNat (List.getD x0 (Int.toNat x3) 0) : Int) ≤ 122))) (
   cond (decide ((UInt8.toNat (List.getD x0 (Int.toNat x3) 0) : Int) ≥ 48)) (
   cond (!(decide ((UInt8.toNat (List.getD x0 (Int.toNat x3) 0) : Int) ≤ 57))) (
    cond ((UInt8.toNat (List.getD x0 (Int.toNat x3) 0) : Int) != 45) (
    (rB false)) (
    abN (acx Γ) Λ2 J x0 (w6 (x3 + 1)))) (
   abN (acx Γ) Λ2 J x0 (w6 (x3 + 1)))) (
   cond ((UInt8.toNat (List.getD x0 (Int.toNat x3) 0) : Int) != 45) (
   (rB false)) (
   abN (acx Γ) Λ2 J x0 (w6 (x3 + 1))))) (
  abN (acx Γ) Λ2 J x0 (w6 (x3 + 1)))) (
  cond (decide ((UInt8.toNat (List.getD x0 (Int.toNat x3) 0) : Int) ≥ 48)) (
  cond (!(decide ((UInt8.toNat (List.getD x0 (Int.toNat x3) 0) : Int) ≤ 57))) (
   cond ((UInt8.toNat (List.getD x0 (Int.toNat x3) 0) : Int) != 45) (
   (rB false)) (
   abN (acx Γ) Λ2 J x0 (w6 (x3 + 1)))) (
  abN (acx Γ) Λ2 J x0 (w6 (x3 + 1)))) (
  cond ((UInt8.toNat (List.getD x0 (Int.toNat x3) 0) : Int) != 45) (
  (rB false)) (
  abN (acx Γ) Λ2 J x0 (w6 (x3 + 1)))))) none) (
 (rB true)) := by kernel_rfl
theorem aCx (x0 : Str) : cJ SE (acx Γ) Λ2 J 130 0 [1, 1, 0, 0] (bA [(0, dSq x0)] [] [] [] []) =
 abN (acx Γ) Λ2 J x0 0 := by kernel_rfl
end
abbrev apQ : aS := acx gG
theorem at6 : apQ = aT gG := rfl
abbrev aA0 := abN apQ (cC SE gG (SE.hl 130) (SE.hr 130)) (J0 SE apQ)
abbrev aB7 := au0 apQ (cC SE gG (SE.hl 130) (SE.hr 130)) (J0 SE apQ)
theorem ahh : ∀ (fu : Nat) (x0 : Str) (x3 : Int), Le (Option.map packet_is_out (eO fu x0 x3)) (aA0 x0 x3) := by
 intro fu
 induction fu with
 | zero => intros; exact le_none
 | succ fu ih =>
  intro x0 x3
  refine Le.trans ?_ (le_of_eq ((bD at6).trans (aAD ..)).symm)
  unfold eO
  refine lC ?_ ?_
  ·refine lF ?_
   refine lC ?_ ?_
   ·refine lC ?_ ?_
    ·refine lC ?_ ?_
     ·refine lC ?_ ?_
      ·refine lC ?_ ?_
       ·exact aG rfl
       ·exact ih x0 (w6 (x3 + 1))
      ·exact ih x0 (w6 (x3 + 1))
     ·refine lC ?_ ?_
      ·exact aG rfl
      ·exact ih x0 (w6 (x3 + 1))
    ·exact ih x0 (w6 (x3 + 1))
   ·refine lC ?_ ?_
    ·refine lC ?_ ?_
     ·refine lC ?_ ?_
      ·exact aG rfl
      ·exact ih x0 (w6 (x3 + 1))
     ·exact ih x0 (w6 (x3 + 1))
    ·refine lC ?_ ?_
     ·exact aG rfl
     ·exact ih x0 (w6 (x3 + 1))
  ·exact aG rfl
theorem ahe (x0 : Str) : Le (Option.map packet_is_out (tT x0)) (aB7 x0) := by
 refine Le.trans ?_ (le_of_eq ((bD at6).trans (aCx ..)).symm)
 unfold tT
 exact ahh fuel x0 0
theorem aj9 (p0 : Str) : Le (Option.map packet_is_out (tO p0)) (bH SE 130 [dSq p0] [] []) := by
 refine aZ at6 rfl ?_
 refine Le.trans ?_ (le_of_eq (aHR ..).symm)
 unfold tO
 refine lC ?_ ?_
 ·exact aG rfl
 ·refine lC ?_ ?_
  ·exact aG rfl
  ·exact ahe p0
def amm (C : aS) (Λ2 J : Lam) (a0 : List (List D)) (a1 : Int) : Res := lab SE C Λ2 J 109 0 [1, 1, 0, 1, 0] (bA [(0, .d (.sl aB.ks a0)), (3, dIq a1)] [] [] [] [])
section
variable (Γ : Fun) (γ130 : Gm (Bool)) (Λ2 J : Lam)
def alA : aS := bG (aT Γ) 130 packet_is_out γ130
theorem aHE (p0 : List aB) : bL SE (alA Γ γ130) Λ2 J 109 [.d (.sl aB.ks (List.map aB.enc p0))] [] [] =
 cond (decide ((lM aB.enc p0 : Int) > 8)) (
 (rI 5)) (
 amm (alA Γ γ130) Λ2 J (List.map aB.enc p0) 0) := by kernel_rfl
theorem aBh (x0 : List aB) (x3 : Int) : cJ SE (alA Γ γ130) Λ2 J 109 0 [1, 1, 0, 1, 0] (bA [(0, .d (.sl aB.ks (List.map aB.enc x0))), (3, dIq x3)] [] [] [] []) =
 cond (decide (x3 < (lM aB.enc x0 : Int))) (
 cond (iB x3 (lM aB.enc x0 : Int)) (
  γ130 [dSq (bQ (cE aB.enc x0 x3 0))] [] [] fun r0 =>
  cond (!r0) (
  (rI 16)) (
  cond (iB x3 (lM aB.enc x0 : Int)) (
  cond (decide ((List.length (bQ (cE aB.enc x0 x3 1)) : Int) > 160)) (
   (rI 5)) (
  cond (decide (x3 > 0)) (
   cond (iB x3 (lM aB.enc x0 : Int)) (
   cond (iB (w6 (x3 - 1)) (lM aB.enc x0 : Int)) (
    cond (Op.bytesLess (bQ (cE aB.enc x0 x3 0)) (bQ (cE aB.enc x0 (w6 (x3 - 1)) 0)) || (bQ (cE aB.enc x0 x3 0)) == (bQ (cE aB.enc x0 (w6 (x3 - 1)) 0))) (
    (rI 16)) (
    amm (alA Γ γ130) Λ2 J (List.map aB.enc x0) (w6 (x3 + 1)))) none) none) (
  amm (alA Γ γ130) Λ2 J (List.map aB.enc x0) (w6 (x3 + 1))))) none)) none) (
 (rI 0)) := by kernel_rfl
end
abbrev atW : aS := alA gG (cT 130 packet_is_out)
theorem ax2 : atW = aT gG := by unfold atW alA; rw [bJ fun _ h => h]
abbrev aAe := amm atW (cC SE gG (SE.hl 109) (SE.hr 109)) (J0 SE atW)
theorem afi : ∀ (fu : Nat) (x0 : List aB) (x3 : Int), Le (Option.map aJ (iN fu x0 x3)) (aAe (List.map aB.enc x0) x3) := by
 intro fu
 induction fu with
 | zero => intros; exact le_none
 | succ fu ih =>
  intro x0 x3
  refine Le.trans ?_ (le_of_eq ((bD ax2).trans (aBh ..)).symm)
  unfold iN
  refine lDe ?_ ?_
  ·refine lGe ?_
   refine lQ eX packet_is_inj (by (try simp only [EN]); exact aj9 ((List.getD x0 (Int.toNat x3) default).Key)) fun r0 _ => ?_
   refine lC ?_ ?_
   ·exact aG rfl
   ·refine lGe ?_
    refine lDe ?_ ?_
    ·exact aG rfl
    ·refine lC ?_ ?_
     ·refine lGe ?_
      refine lGe ?_
      refine lDe ?_ ?_
      ·exact aG rfl
      ·exact ih x0 (w6 (x3 + 1))
     ·exact ih x0 (w6 (x3 + 1))
  ·exact aG rfl
theorem ahz (p0 : List aB) : Le (Option.map aJ (rA p0)) (bH SE 109 [.d (.sl aB.ks (List.map aB.enc p0))] [] []) := by
 refine aZ ax2 rfl ?_
 refine Le.trans ?_ (le_of_eq (aHE ..).symm)
 unfold rA
 refine lDe ?_ ?_
 ·exact aG rfl
 ·exact afi fuel p0 0
def apY (C : aS) (Λ2 J : Lam) (a0 : List D) : Res := lab SE C Λ2 J 82 0 [1, 1, 1, 1, 1, 1, 0, 0] (bA [(1, .ptr 1000000000 0)] [⟨47, (List.map AV.d a0)⟩] [] [] [])
def axT (C : aS) (Λ2 J : Lam) (a0 : List D) : Res := lab SE C Λ2 J 82 0 [1, 1, 1, 1, 1, 0, 0] (bA [(1, .ptr 1000000000 0)] [⟨47, (List.map AV.d a0)⟩] [] [] [])
def axR (C : aS) (Λ2 J : Lam) (a0 : List D) : Res := lab SE C Λ2 J 82 0 [1, 1, 1, 1, 0, 0] (bA [(1, .ptr 1000000000 0)] [⟨47, (List.map AV.d a0)⟩] [] [] [])
section
variable (Γ : Fun) (γ108 γ80 : Gm (Bool)) (γ109 : Gm (Int)) (Λ2 J : Lam)
def C82 : aS := bG (bG (bG (aT Γ) 108 packet_is_out γ108) 80 packet_is_out γ80) 109 aJ γ109
theorem T82 (p0 : aF) : bL SE (C82 Γ γ108 γ80 γ109) Λ2 J 82 [aF.av p0] [] [] =
 γ108 [dSq p0.Topic] [] [] fun r0 =>
 cond (!r0) (
 (rI 12)) (
 cond (decide ((List.length p0.Payload : Int) > 256)) (
 (rI 5)) (
 cond (decide (p0.Level < 0)) (
 (rI 14)) (
 cond (decide (p0.Level > 2)) (
 (rI 14)) (
 axR (C82 Γ γ108 γ80 γ109) Λ2 J (aF.enc p0))))) := by kernel_rfl
theorem aAI (b0 : aF) : cJ SE (C82 Γ γ108 γ80 γ109) Λ2 J 82 0 [1, 1, 1, 1, 1, 1, 0, 0] (bA [(1, .ptr 1000000000 0)] [⟨47, (List.map AV.d (aF.enc b0))⟩] [] [] []) =
 cond (decide (b0.Seq < 0)) (
 (rI 1)) (
 cond (decide (b0.Seq > 1099511627776)) (
 (rI 1)) (
 γ109 [.d (.sl aB.ks (List.map aB.enc b0.Props))] [] [] fun r2 =>
 (rI r2))) := by kernel_rfl
theorem aFf (b0 : aF) : cJ SE (C82 Γ γ108 γ80 γ109) Λ2 J 82 0 [1, 1, 1, 1, 1, 0, 0] (bA [(1, .ptr 1000000000 0)] [⟨47, (List.map AV.d (aF.enc b0))⟩] [] [] []) =
 cond (!(b0.From == ([] : Str))) (
 γ80 [dSq b0.From] [] [] fun r1 =>
 cond (!r1) (
  (rI 11)) (
 apY (C82 Γ γ108 γ80 γ109) Λ2 J (aF.enc b0))) (
 apY (C82 Γ γ108 γ80 γ109) Λ2 J (aF.enc b0)) := by kernel_rfl
theorem aFi (b0 : aF) : cJ SE (C82 Γ γ108 γ80 γ109) Λ2 J 82 0 [1, 1, 1, 1, 0, 0] (bA [(1, .ptr 1000000000 0)] [⟨47, (List.map AV.d (aF.enc b0))⟩] [] [] []) =
 cond (decide (b0.Priority < 0)) (
 (rI 1)) (
 cond (decide (b0.Priority > 9)) (
 (rI 1)) (
 cond (decide (b0.Expires < 0)) (
 (rI 1)) (
 cond (decide (b0.Expires > 1099511627776)) (
 (rI 1)) (
 axT (C82 Γ γ108 γ80 γ109) Λ2 J (aF.enc b0))))) := by kernel_rfl
end
abbrev X82 : aS := C82 gG (cT 108 packet_is_out) (cT 80 packet_is_out) (cT 109 aJ)
theorem asM : X82 = aT gG := by unfold X82 C82; repeat rw [bJ fun _ h => h]
abbrev aBG := apY X82 (cC SE gG (SE.hl 82) (SE.hr 82)) (J0 SE X82)
abbrev aEG := axT X82 (cC SE gG (SE.hl 82) (SE.hr 82)) (J0 SE X82)
abbrev aDq := axR X82 (cC SE gG (SE.hl 82) (SE.hr 82)) (J0 SE X82)
theorem yR (b0 : aF) : Le (Option.map aJ (kU b0)) (aBG (aF.enc b0)) := by
 refine Le.trans ?_ (le_of_eq ((bD asM).trans (aAI ..)).symm)
 unfold kU
 refine lC ?_ ?_
 ·exact aG rfl
 ·refine lC ?_ ?_
  ·exact aG rfl
  ·refine lQ eX bE (ahz _) fun r2 _ => ?_
   exact aG rfl
theorem afg (b0 : aF) : Le (Option.map aJ (nX b0)) (aEG (aF.enc b0)) := by
 refine Le.trans ?_ (le_of_eq ((bD asM).trans (aFf ..)).symm)
 unfold nX
 refine lC ?_ ?_
 ·refine lQ eX packet_is_inj (tG _) fun r1 _ => ?_
  refine lC ?_ ?_
  ·exact aG rfl
  ·exact yR b0
 ·exact yR b0
theorem afq (b0 : aF) : Le (Option.map aJ (nO b0)) (aDq (aF.enc b0)) := by
 refine Le.trans ?_ (le_of_eq ((bD asM).trans (aFi ..)).symm)
 unfold nO
 refine lC ?_ ?_
 ·exact aG rfl
 ·refine lC ?_ ?_
  ·exact aG rfl
  ·refine lC ?_ ?_
   ·exact aG rfl
   ·refine lC ?_ ?_
    ·exact aG rfl
    ·exact afg b0
theorem abH (p0 : aF) : Le (Option.map aJ (kC p0)) (bH SE 82 [aF.av p0] [] []) := by
 refine aZ asM rfl ?_
 refine Le.trans ?_ (le_of_eq (T82 ..).symm)
 unfold kC
 refine lQ eX packet_is_inj (aid _) fun r0 _ => ?_
 refine lC ?_ ?_
 ·exact aG rfl
 ·refine lC ?_ ?_
  ·exact aG rfl
  ·refine lC ?_ ?_
   ·exact aG rfl
   ·refine lC ?_ ?_
    ·exact aG rfl
    ·exact afq p0
section
variable (Γ : Fun) (γ47 : Gm (Bool)) (γ82 : Gm (Int)) (Λ2 J : Lam)
def C81 : aS := bG (bG (aT Γ) 47 packet_is_out γ47) 82 aJ γ82
theorem T81 (p0 : aY) : bL SE (C81 Γ γ47 γ82) Λ2 J 81 [aY.av p0] [] [] =
 cond (!p0.Set) (
 cond (p0.Delay != 0) (
  (rI 28)) (
 γ47 [aF.av p0.Message, .agg [dSq [], dSq [], dIq 0, dBq false, dIq 0, dIq 0, dSq [], dIq 0, .d (.sl aB.ks (List.map aB.enc []))]] [] [] fun r0 =>
 cond (!r0) (
  (rI 28)) (
 (rI 0)))) (
 cond (decide (p0.Delay < 0)) (
 (rI 1)) (
 cond (decide (p0.Delay > 1099511627776)) (
 (rI 1)) (
 γ82 [aF.av p0.Message] [] [] fun r1 =>
 (rI r1)))) := by kernel_rfl
end
abbrev X81 : aS := C81 gG (cT 47 packet_is_out) (cT 82 aJ)
theorem aFA : X81 = aT gG := by unfold X81 C81; repeat rw [bJ fun _ h => h]
theorem aiK (p0 : aY) : Le (Option.map aJ (sN p0)) (bH SE 81 [aY.av p0] [] []) := by
 refine aZ aFA rfl ?_
 refine Le.trans ?_ (le_of_eq (T81 ..).symm)
 unfold sN
 refine lC ?_ ?_
 ·refine lC ?_ ?_
  ·exact aG rfl
  ·refine lQ eX packet_is_inj (by (try simp only [EN]); exact xO p0.Message (zMq)) fun r0 _ => ?_
   refine lC ?_ ?_
   ·exact aG rfl
   ·exact aG rfl
 ·refine lC ?_ ?_
  ·exact aG rfl
  ·refine lC ?_ ?_
   ·exact aG rfl
   ·refine lQ eX bE (abH _) fun r1 _ => ?_
    exact aG rfl
def atn (C : aS) (Λ2 J : Lam) (a0 : List D) : Res := lab SE C Λ2 J 53 0 [1, 1, 0, 0] (bA [(1, .ptr 1000000000 0)] [⟨53, (List.map AV.d a0)⟩] [] [] [])
section
variable (Γ : Fun) (γ80 : Gm (Bool)) (γ81 : Gm (Int)) (Λ2 J : Lam)
def C53 : aS := bG (bG (aT Γ) 80 packet_is_out γ80) 81 aJ γ81
theorem T53 (p0 : aA) : bL SE (C53 Γ γ80 γ81) Λ2 J 53 [aA.av p0] [] [] =
 γ80 [dSq p0.Client] [] [] fun r0 =>
 cond (!r0) (
 (rI 11)) (
 cond (!(p0.User == ([] : Str))) (
 γ80 [dSq p0.User] [] [] fun r1 =>
 cond (!r1) (
  (rI 11)) (
 atn (C53 Γ γ80 γ81) Λ2 J (aA.enc p0))) (
 atn (C53 Γ γ80 γ81) Λ2 J (aA.enc p0))) := by kernel_rfl
theorem aDK (b0 : aA) : cJ SE (C53 Γ γ80 γ81) Λ2 J 53 0 [1, 1, 0, 0] (bA [(1, .ptr 1000000000 0)] [⟨53, (List.map AV.d (aA.enc b0))⟩] [] [] []) =
 cond (decide (b0.Keep < 0)) (
 (rI 1)) (
 cond (decide (b0.Keep > 1099511627776)) (
 (rI 1)) (
 cond (decide (b0.Expiry < 0)) (
 (rI 1)) (
 cond (decide (b0.Expiry > 1099511627776)) (
 (rI 1)) (
 cond (decide (b0.Window < 1)) (
 (rI 1)) (
 cond (decide (b0.Window > 32)) (
 (rI 1)) (
 γ81 [aY.av b0.Will] [] [] fun r2 =>
 (rI r2))))))) := by kernel_rfl
end
abbrev X53 : aS := C53 gG (cT 80 packet_is_out) (cT 81 aJ)
theorem aAb : X53 = aT gG := by unfold X53 C53; repeat rw [bJ fun _ h => h]
abbrev aDV := atn X53 (cC SE gG (SE.hl 53) (SE.hr 53)) (J0 SE X53)
theorem xV (b0 : aA) : Le (Option.map aJ (mJ b0)) (aDV (aA.enc b0)) := by
 refine Le.trans ?_ (le_of_eq ((bD aAb).trans (aDK ..)).symm)
 unfold mJ
 refine lC ?_ ?_
 ·exact aG rfl
 ·refine lC ?_ ?_
  ·exact aG rfl
  ·refine lC ?_ ?_
   ·exact aG rfl
   ·refine lC ?_ ?_
    ·exact aG rfl
    ·refine lC ?_ ?_
     ·exact aG rfl
     ·refine lC ?_ ?_
      ·exact aG rfl
      ·refine lQ eX bE (aiK _) fun r2 _ => ?_
       exact aG rfl
theorem agm (p0 : aA) : Le (Option.map aJ (oS p0)) (bH SE 53 [aA.av p0] [] []) := by
 refine aZ aAb rfl ?_
 refine Le.trans ?_ (le_of_eq (T53 ..).symm)
 unfold oS
 refine lQ eX packet_is_inj (tG _) fun r0 _ => ?_
 refine lC ?_ ?_
 ·exact aG rfl
 ·refine lC ?_ ?_
  ·refine lQ eX packet_is_inj (tG _) fun r1 _ => ?_
   refine lC ?_ ?_
   ·exact aG rfl
   ·exact xV p0
  ·exact xV p0
section
variable (Γ : Fun)  (Λ2 J : Lam)
def C56 : aS := aT Γ
theorem T56 (p0 : Int) : bL SE (C56 Γ) Λ2 J 56 [dIq p0] [] [] =
 cond (decide (p0 < 1)) (
 (rI 15)) (
 cond (decide (p0 > 65535)) (
 (rI 15)) (
 (rI 0))) := by kernel_rfl
end
abbrev X56 : aS := C56 gG
theorem aGS : X56 = aT gG := rfl
theorem abL (p0 : Int) : Le (Option.map aJ (oE p0)) (bH SE 56 [dIq p0] [] []) := by
 refine aZ aGS rfl ?_
 refine Le.trans ?_ (le_of_eq (T56 ..).symm)
 unfold oE
 refine lC ?_ ?_
 ·exact aG rfl
 ·refine lC ?_ ?_
  ·exact aG rfl
  ·exact aG rfl
section
variable (Γ : Fun) (γ82 γ56 : Gm (Int)) (Λ2 J : Lam)
def C54 : aS := bG (bG (aT Γ) 82 aJ γ82) 56 aJ γ56
theorem T54 (p0 : aA) : bL SE (C54 Γ γ82 γ56) Λ2 J 54 [aA.av p0] [] [] =
 γ82 [aF.av p0.Message] [] [] fun r0 =>
 cond (r0 != 0) (
 (rI r0)) (
 cond (p0.Message.Level == 0) (
 cond (p0.ID != 0) (
  (rI 15)) (
 cond p0.Dup (
  (rI 28)) (
 (rI 0)))) (
 γ56 [dIq p0.ID] [] [] fun r1 =>
 (rI r1))) := by kernel_rfl
end
abbrev X54 : aS := C54 gG (cT 82 aJ) (cT 56 aJ)
theorem aGV : X54 = aT gG := by unfold X54 C54; repeat rw [bJ fun _ h => h]
theorem age (p0 : aA) : Le (Option.map aJ (oT p0)) (bH SE 54 [aA.av p0] [] []) := by
 refine aZ aGV rfl ?_
 refine Le.trans ?_ (le_of_eq (T54 ..).symm)
 unfold oT
 refine lQ eX bE (abH _) fun r0 _ => ?_
 refine lC ?_ ?_
 ·exact aG rfl
 ·refine lC ?_ ?_
  ·refine lC ?_ ?_
   ·exact aG rfl
   ·refine lC ?_ ?_
    ·exact aG rfl
    ·exact aG rfl
  ·refine lQ eX bE (abL _) fun r1 _ => ?_
   exact aG rfl
section
variable (Γ : Fun)  (Λ2 J : Lam)
def C55 : aS := aT Γ
theorem T55 (p0 : Int) : bL SE (C55 Γ) Λ2 J 55 [dIq p0] [] [] =
 cond (decide (p0 ≥ 0)) (
 (rB (decide (p0 ≤ 29)))) (
 (rB false)) := by kernel_rfl
end
abbrev X55 : aS := C55 gG
theorem aFE : X55 = aT gG := rfl
theorem xR (p0 : Int) : Le (Option.map packet_is_out (mQ p0)) (bH SE 55 [dIq p0] [] []) := by
 refine aZ aFE rfl ?_
 refine Le.trans ?_ (le_of_eq (T55 ..).symm)
 unfold mQ
 refine lC ?_ ?_
 ·exact aG rfl
 ·exact aG rfl
section
variable (Γ : Fun)  (Λ2 J : Lam)
def C57 : aS := aT Γ
theorem T57 (p0 : Int) : bL SE (C57 Γ) Λ2 J 57 [dIq p0] [] [] =
 cond (p0 == 0) (
 (rI 1)) (
 cond (decide (p0 > 32)) (
 (rI 5)) (
 (rI 0))) := by kernel_rfl
end
abbrev X57 : aS := C57 gG
theorem aGf : X57 = aT gG := rfl
theorem aij (p0 : Int) : Le (Option.map aJ (rF p0)) (bH SE 57 [dIq p0] [] []) := by
 refine aZ aGf rfl ?_
 refine Le.trans ?_ (le_of_eq (T57 ..).symm)
 unfold rF
 refine lC ?_ ?_
 ·exact aG rfl
 ·refine lC ?_ ?_
  ·exact aG rfl
  ·exact aG rfl
section
variable (Γ : Fun)  (Λ2 J : Lam)
def az7 : aS := aT Γ
theorem aFI (p0 p1 : Str) : bL SE (az7 Γ) Λ2 J 112 [dSq p0, dSq p1] [] [] =
 cond (decide ((List.length p0 : Int) ≥ (List.length p1 : Int))) (
 cond (decide (0 ≤ (List.length p1 : Int)) && decide ((List.length p1 : Int) ≤ ((List.length p0) : Int))) (
  (rB ((cH p0 none (some (List.length p1 : Int))) == p1))) none) (
 (rB false)) := by kernel_rfl
end
abbrev aGU : aS := az7 gG
theorem aEy : aGU = aT gG := rfl
theorem vH (p0 p1 : Str) : Le (Option.map packet_is_out (m9 p0 p1)) (bH SE 112 [dSq p0, dSq p1] [] []) := by
 refine aZ aEy rfl ?_
 refine Le.trans ?_ (le_of_eq (aFI ..).symm)
 unfold m9
 refine lC ?_ ?_
 ·refine lF ?_
  exact aG rfl
 ·exact aG rfl
def aqv (C : aS) (Λ2 J : Lam) (a0 : Int) (a1 : List (List D)) : Res := lab SE C Λ2 J 111 0 [1, 1, 1, 0, 1, 0, 0, 1, 0, 0, 1, 0] (bA [(3, .row 3003), (4, dIq a0)] [] [] [] [(3003, ⟨[.str], 9, 16, a1⟩)])
def am7 (C : aS) (Λ2 J : Lam) (a0 : Int) (a1 : List (List D)) : Res := lab SE C Λ2 J 111 0 [1, 1, 1, 0, 1, 0] (bA [(3, .row 3003), (4, dIq a0)] [] [] [] [(3003, ⟨[.str], 9, 16, a1⟩)])
section
variable (Γ : Fun) (γ128 : Gm (Bool)) (γ131 : Gm ((List Str))) (γ129 : Gm (Bool)) (Λ2 J : Lam)
def agw : aS := bG (bG (bG (aT Γ) 128 packet_is_out γ128) 131 eY γ131) 129 packet_is_out γ129
theorem aGK (p0 : Str) : bL SE (agw Γ γ128 γ131 γ129) Λ2 J 111 [dSq p0] [] [] =
 γ128 [dSq p0] [] [] fun r0 =>
 cond (!r0) (
 (rB false)) (
 γ131 [dSq p0] [] [] fun r1 =>
 am7 (agw Γ γ128 γ131 γ129) Λ2 J 0 (List.map bB r1)) := by kernel_rfl
theorem aAW (x4 : Int) (w3003 : List Str) : cJ SE (agw Γ γ128 γ131 γ129) Λ2 J 111 0 [1, 1, 1, 0, 1, 0, 0, 1, 0, 0, 1, 0] (bA [(3, .row 3003), (4, dIq x4)] [] [] [] [(3003, ⟨[.str], 9, 16, (List.map bB w3003)⟩)]) =
 cond (iB x4 (lM bB w3003 : Int)) (
 γ129 [dSq (bQ (cE bB w3003 x4 0)), .d (.int .u8 35)] [] [] fun r3 =>
 cond r3 (
  cond (iB x4 (lM bB w3003 : Int)) (
  cond (!((bQ (cE bB w3003 x4 0)) == ([35] : Str))) (
   (rB false)) (
  cond (x4 != (w6 ((lM bB w3003 : Int) - 1))) (
   (rB false)) (
  am7 (agw Γ γ128 γ131 γ129) Λ2 J (w6 (x4 + 1)) (List.map bB w3003)))) none) (
 am7 (agw Γ γ128 γ131 γ129) Λ2 J (w6 (x4 + 1)) (List.map bB w3003))) none := by kernel_rfl
theorem azJ (x4 : Int) (w3003 : List Str) : cJ SE (agw Γ γ128 γ131 γ129) Λ2 J 111 0 [1, 1, 1, 0, 1, 0] (bA [(3, .row 3003), (4, dIq x4)] [] [] [] [(3003, ⟨[.str], 9, 16, (List.map bB w3003)⟩)]) =
 cond (decide (x4 < (lM bB w3003 : Int))) (
 cond (iB x4 (lM bB w3003 : Int)) (
  γ129 [dSq (bQ (cE bB w3003 x4 0)), .d (.int .u8 43)] [] [] fun r2 =>
  cond r2 (
  cond (iB x4 (lM bB w3003 : Int)) (
   cond (!((bQ (cE bB w3003 x4 0)) == ([43] : Str))) (
   (rB false)) (
   aqv (agw Γ γ128 γ131 γ129) Λ2 J x4 (List.map bB w3003))) none) (
  aqv (agw Γ γ128 γ131 γ129) Λ2 J x4 (List.map bB w3003))) none) (
 (rB true)) := by kernel_rfl
end
abbrev anq : aS := agw gG (cT 128 packet_is_out) (cT 131 eY) (cT 129 packet_is_out)
theorem atq : anq = aT gG := by unfold anq agw; repeat rw [bJ fun _ h => h]
abbrev az2 := aqv anq (cC SE gG (SE.hl 111) (SE.hr 111)) (J0 SE anq)
abbrev au9 := am7 anq (cC SE gG (SE.hl 111) (SE.hr 111)) (J0 SE anq)
theorem zC (k5 : Int → (List Str) → Option (Bool)) (hk5 : ∀ (x4 : Int) (w3003 : List Str), Le (Option.map packet_is_out (k5 x4 w3003)) (au9 x4 (List.map bB w3003))) (x4 : Int) (w3003 : List Str) : Le (Option.map packet_is_out (kR k5 x4 w3003)) (az2 x4 (List.map bB w3003)) := by
 refine Le.trans ?_ (le_of_eq ((bD atq).trans (aAW ..)).symm)
 unfold kR
 refine lGe ?_
 refine lQ eX packet_is_inj (by (try simp only [EN]); exact qA (List.getD w3003 (Int.toNat x4) default) 35) fun r3 _ => ?_
 refine lC ?_ ?_
 ·refine lGe ?_
  refine lDe ?_ ?_
  ·exact aG rfl
  ·refine lDe ?_ ?_
   ·exact aG rfl
   ·exact hk5 (w6 (x4 + 1)) w3003
 ·exact hk5 (w6 (x4 + 1)) w3003
theorem afd : ∀ (fu : Nat) (x4 : Int) (w3003 : List Str), Le (Option.map packet_is_out (iF fu x4 w3003)) (au9 x4 (List.map bB w3003)) := by
 intro fu
 induction fu with
 | zero => intros; exact le_none
 | succ fu ih =>
  intro x4 w3003
  refine Le.trans ?_ (le_of_eq ((bD atq).trans (azJ ..)).symm)
  unfold iF
  refine lDe ?_ ?_
  ·refine lGe ?_
   refine lQ eX packet_is_inj (by (try simp only [EN]); exact qA (List.getD w3003 (Int.toNat x4) default) 43) fun r2 _ => ?_
   refine lC ?_ ?_
   ·refine lGe ?_
    refine lDe ?_ ?_
    ·exact aG rfl
    ·exact zC _ (ih) x4 w3003
   ·exact zC _ (ih) x4 w3003
  ·exact aG rfl
theorem aa1 (p0 : Str) : Le (Option.map packet_is_out (nB p0)) (bH SE 111 [dSq p0] [] []) := by
 refine aZ atq rfl ?_
 refine Le.trans ?_ (le_of_eq (aGK ..).symm)
 unfold nB
 refine lQ eX packet_is_inj (abE _) fun r0 _ => ?_
 refine lC ?_ ?_
 ·exact aG rfl
 ·refine lQ eX aao (abb _) fun r1 _ => ?_
  exact afd fuel 0 r1
def auN (C : aS) (Λ2 J : Lam) (a0 : Str) (a1 : Int) : Res := lab SE C Λ2 J 110 0 [1, 1, 1, 1, 1, 1, 0] (bA [(5, dSq a0), (6, dIq a1)] [] [] [] [])
def apN (C : aS) (Λ2 J : Lam) (a0 : Str) (a1 : Int) : Res := lab SE C Λ2 J 110 0 [1, 1, 1, 1, 1, 0, 0] (bA [(5, dSq a0), (6, dIq a1)] [] [] [] [])
def aqy (C : aS) (Λ2 J : Lam) (a0 : Str) (a1 : Int) : Res := lab SE C Λ2 J 110 0 [1, 1, 1, 1, 0, 0] (bA [(5, dSq a0), (6, dIq a1)] [] [] [] [])
section
variable (Γ : Fun) (γ112 γ80 γ111 : Gm (Bool)) (Λ2 J : Lam)
def aej : aS := bG (bG (bG (aT Γ) 112 packet_is_out γ112) 80 packet_is_out γ80) 111 packet_is_out γ111
theorem aGc (p0 : Str) : bL SE (aej Γ γ112 γ80 γ111) Λ2 J 110 [dSq p0] [] [] =
 γ112 [dSq p0, dSq ([36, 115, 104, 97, 114, 101, 47] : Str)] [] [] fun r0 =>
 cond (!r0) (
 (some (.ret [dSq [], dSq [], dBq false] [] []))) (
 cond (decide (0 ≤ 7) && decide (7 ≤ ((List.length p0) : Int))) (
 aqy (aej Γ γ112 γ80 γ111) Λ2 J (cH p0 (some 7) none) 0) none) := by kernel_rfl
theorem aAk (x5 : Str) (x6 : Int) : cJ SE (aej Γ γ112 γ80 γ111) Λ2 J 110 0 [1, 1, 1, 1, 1, 1, 0] (bA [(5, dSq x5), (6, dIq x6)] [] [] [] []) =
 cond (decide (0 ≤ x6) && decide (x6 ≤ ((List.length x5) : Int))) (
 cond (decide (0 ≤ (w6 (x6 + 1))) && decide ((w6 (x6 + 1)) ≤ ((List.length x5) : Int))) (
  (some (.ret [dSq (cH x5 none (some x6)), dSq (cH x5 (some (w6 (x6 + 1))) none), dBq true] [] []))) none) none := by kernel_rfl
theorem aA3 (x5 : Str) (x6 : Int) : cJ SE (aej Γ γ112 γ80 γ111) Λ2 J 110 0 [1, 1, 1, 1, 1, 0, 0] (bA [(5, dSq x5), (6, dIq x6)] [] [] [] []) =
 cond (x6 == (List.length x5 : Int)) (
 (some (.ret [dSq [], dSq [], dBq false] [] []))) (
 cond (decide (0 ≤ x6) && decide (x6 ≤ ((List.length x5) : Int))) (
 γ80 [dSq (cH x5 none (some x6))] [] [] fun r1 =>
 cond (!r1) (
  (some (.ret [dSq [], dSq [], dBq false] [] []))) (
 cond (decide (0 ≤ (w6 (x6 + 1))) && decide ((w6 (x6 + 1)) ≤ ((List.length x5) : Int))) (
  γ111 [dSq (cH x5 (some (w6 (x6 + 1))) none)] [] [] fun r2 =>
  cond (!r2) (
  (some (.ret [dSq [], dSq [], dBq false] [] []))) (
  cond (decide (0 ≤ (w6 (x6 + 1))) && decide ((w6 (x6 + 1)) ≤ ((List.length x5) : Int))) (
  γ112 [dSq (cH x5 (some (w6 (x6 + 1))) none), dSq ([36, 115, 104, 97, 114, 101, 47] : Str)] [] [] fun r3 =>
  cond r3 (
   (some (.ret [dSq [], dSq [], dBq false] [] []))) (
  auN (aej Γ γ112 γ80 γ111) Λ2 J x5 x6)) none)) none)) none) := by kernel_rfl
theorem aBp (x5 : Str) (x6 : Int) : cJ SE (aej Γ γ112 γ80 γ111) Λ2 J 110 0 [1, 1, 1, 1, 0, 0] (bA [(5, dSq x5), (6, dIq x6)] [] [] [] []) =
 cond (decide (x6 < (List.length x5 : Int))) (
 cond (iB x6 (List.length x5 : Int)) (
  cond ((UInt8.toNat (List.getD x5 (Int.toNat x6) 0) : Int) != 47) (
  aqy (aej Γ γ112 γ80 γ111) Λ2 J x5 (w6 (x6 + 1))) (
  apN (aej Γ γ112 γ80 γ111) Λ2 J x5 x6)) none) (
 apN (aej Γ γ112 γ80 γ111) Λ2 J x5 x6) := by kernel_rfl
end
abbrev ajm : aS := aej gG (cT 112 packet_is_out) (cT 80 packet_is_out) (cT 111 packet_is_out)
theorem apj : ajm = aT gG := by unfold ajm aej; repeat rw [bJ fun _ h => h]
abbrev azU := auN ajm (cC SE gG (SE.hl 110) (SE.hr 110)) (J0 SE ajm)
abbrev aBC := apN ajm (cC SE gG (SE.hl 110) (SE.hr 110)) (J0 SE ajm)
abbrev aBj := aqy ajm (cC SE gG (SE.hl 110) (SE.hr 110)) (J0 SE ajm)
theorem aeP (x5 : Str) (x6 : Int) : Le (Option.map cM (qI x5 x6)) (azU x5 x6) := by
 refine Le.trans ?_ (le_of_eq ((bD apj).trans (aAk ..)).symm)
 unfold qI
 refine lF ?_
 refine lF ?_
 exact aG rfl
theorem y8 (x5 : Str) (x6 : Int) : Le (Option.map cM (kQ x5 x6)) (aBC x5 x6) := by
 refine Le.trans ?_ (le_of_eq ((bD apj).trans (aA3 ..)).symm)
 unfold kQ
 refine lC ?_ ?_
 ·exact aG rfl
 ·refine lF ?_
  refine lQ eX packet_is_inj (tG _) fun r1 _ => ?_
  refine lC ?_ ?_
  ·exact aG rfl
  ·refine lF ?_
   refine lQ eX packet_is_inj (aa1 _) fun r2 _ => ?_
   refine lC ?_ ?_
   ·exact aG rfl
   ·refine lF ?_
    refine lQ eX packet_is_inj (vH _ _) fun r3 _ => ?_
    refine lC ?_ ?_
    ·exact aG rfl
    ·exact aeP x5 x6
theorem ae2 : ∀ (fu : Nat) (x5 : Str) (x6 : Int), Le (Option.map cM (jK fu x5 x6)) (aBj x5 x6) := by
 intro fu
 induction fu with
 | zero => intros; exact le_none
 | succ fu ih =>
  intro x5 x6
  refine Le.trans ?_ (le_of_eq ((bD apj).trans (aBp ..)).symm)
  unfold jK
  refine lC ?_ ?_
  ·refine lF ?_
   refine lC ?_ ?_
   ·exact ih x5 (w6 (x6 + 1))
   ·exact y8 x5 x6
  ·exact y8 x5 x6
theorem abd (p0 : Str) : Le (Option.map cM (m8 p0)) (bH SE 110 [dSq p0] [] []) := by
 refine aZ apj rfl ?_
 refine Le.trans ?_ (le_of_eq (aGc ..).symm)
 unfold m8
 refine lQ eX packet_is_inj (vH _ _) fun r0 _ => ?_
 refine lC ?_ ?_
 ·exact aG rfl
 ·refine lF ?_
  exact ae2 fuel (cH p0 (some 7) none) 0
section
variable (Γ : Fun) (γ110 : Gm (Str × Str × Bool)) (γ111 γ112 : Gm (Bool)) (Λ2 J : Lam)
def C84 : aS := bG (bG (bG (aT Γ) 110 cM γ110) 111 packet_is_out γ111) 112 packet_is_out γ112
theorem T84 (p0 : Str) : bL SE (C84 Γ γ110 γ111 γ112) Λ2 J 84 [dSq p0] [] [] =
 γ110 [dSq p0] [] [] fun r0 =>
 cond r0.2.2 (
 (rB true)) (
 γ111 [dSq p0] [] [] fun r1 =>
 cond r1 (
 γ112 [dSq p0, dSq ([36, 115, 104, 97, 114, 101, 47] : Str)] [] [] fun r2 =>
 (rB (!r2))) (
 (rB false))) := by kernel_rfl
end
abbrev X84 : aS := C84 gG (cT 110 cM) (cT 111 packet_is_out) (cT 112 packet_is_out)
theorem aGD : X84 = aT gG := by unfold X84 C84; repeat rw [bJ fun _ h => h]
theorem aaX (p0 : Str) : Le (Option.map packet_is_out (mZ p0)) (bH SE 84 [dSq p0] [] []) := by
 refine aZ aGD rfl ?_
 refine Le.trans ?_ (le_of_eq (T84 ..).symm)
 unfold mZ
 refine lQ eX oV (abd _) fun r0 _ => ?_
 refine lC ?_ ?_
 ·exact aG rfl
 ·refine lQ eX packet_is_inj (aa1 _) fun r1 _ => ?_
  refine lC ?_ ?_
  ·refine lQ eX packet_is_inj (vH _ _) fun r2 _ => ?_
   exact aG rfl
  ·exact aG rfl
def ax1 (C : aS) (Λ2 J : Lam) (a0 : List D) : Res := lab SE C Λ2 J 83 0 [1, 1, 1, 0] (bA [(1, .ptr 1000000000 0)] [⟨112, (List.map AV.d a0)⟩] [] [] [])
section
variable (Γ : Fun) (γ84 : Gm (Bool)) (γ110 : Gm (Str × Str × Bool)) (Λ2 J : Lam)
def C83 : aS := bG (bG (aT Γ) 84 packet_is_out γ84) 110 cM γ110
theorem T83 (p0 : aH) : bL SE (C83 Γ γ84 γ110) Λ2 J 83 [aH.av p0] [] [] =
 γ84 [dSq p0.Filter] [] [] fun r0 =>
 cond (!r0) (
 (rI 13)) (
 cond (decide (p0.Level < 0)) (
 (rI 14)) (
 cond (decide (p0.Level > 2)) (
 (rI 14)) (
 ax1 (C83 Γ γ84 γ110) Λ2 J (aH.enc p0)))) := by kernel_rfl
theorem aEV (b0 : aH) : cJ SE (C83 Γ γ84 γ110) Λ2 J 83 0 [1, 1, 1, 0] (bA [(1, .ptr 1000000000 0)] [⟨112, (List.map AV.d (aH.enc b0))⟩] [] [] []) =
 γ110 [dSq b0.Filter] [] [] fun r1 =>
 cond b0.NoLocal (
 cond r1.2.2 (
  (rI 28)) (
 (rI 0))) (
 (rI 0)) := by kernel_rfl
end
abbrev X83 : aS := C83 gG (cT 84 packet_is_out) (cT 110 cM)
theorem aB0 : X83 = aT gG := by unfold X83 C83; repeat rw [bJ fun _ h => h]
abbrev aDo := ax1 X83 (cC SE gG (SE.hl 83) (SE.hr 83)) (J0 SE X83)
theorem ahi (b0 : aH) : Le (Option.map aJ (tS b0)) (aDo (aH.enc b0)) := by
 refine Le.trans ?_ (le_of_eq ((bD aB0).trans (aEV ..)).symm)
 unfold tS
 refine lQ eX oV (abd _) fun r1 _ => ?_
 refine lC ?_ ?_
 ·refine lC ?_ ?_
  ·exact aG rfl
  ·exact aG rfl
 ·exact aG rfl
theorem ajN (p0 : aH) : Le (Option.map aJ (tR p0)) (bH SE 83 [aH.av p0] [] []) := by
 refine aZ aB0 rfl ?_
 refine Le.trans ?_ (le_of_eq (T83 ..).symm)
 unfold tR
 refine lQ eX packet_is_inj (aaX _) fun r0 _ => ?_
 refine lC ?_ ?_
 ·exact aG rfl
 ·refine lC ?_ ?_
  ·exact aG rfl
  ·refine lC ?_ ?_
   ·exact aG rfl
   ·exact ahi p0
def aqF (C : aS) (Λ2 J : Lam) (a0 : Int) (a1 : List D) : Res := lab SE C Λ2 J 58 0 [1, 1, 1, 0, 1, 0] (bA [(1, .ptr 1000000000 0), (6, dIq a0)] [⟨53, (List.map AV.d a1)⟩] [] [] [])
def atb (C : aS) (Λ2 J : Lam) (a0 : Int) (a1 : List D) : Res := lab SE C Λ2 J 58 0 [1, 1, 0, 1, 0] (bA [(1, .ptr 1000000000 0), (5, dIq a0)] [⟨53, (List.map AV.d a1)⟩] [] [] [])
def asJ (C : aS) (Λ2 J : Lam) (a0 : Int) (a1 : List D) : Res := lab SE C Λ2 J 58 0 [1, 0, 1, 0] (bA [(1, .ptr 1000000000 0), (3, dIq a0)] [⟨53, (List.map AV.d a1)⟩] [] [] [])
section
variable (Γ : Fun) (γ83 : Gm (Int)) (γ84 γ55 : Gm (Bool)) (Λ2 J : Lam)
def C58 : aS := bG (bG (bG (aT Γ) 83 aJ γ83) 84 packet_is_out γ84) 55 packet_is_out γ55
theorem T58 (p0 : aA) : bL SE (C58 Γ γ83 γ84 γ55) Λ2 J 58 [aA.av p0] [] [] =
 asJ (C58 Γ γ83 γ84 γ55) Λ2 J 0 (aA.enc p0) := by kernel_rfl
theorem aCb (x6 : Int) (b0 : aA) : cJ SE (C58 Γ γ83 γ84 γ55) Λ2 J 58 0 [1, 1, 1, 0, 1, 0] (bA [(1, .ptr 1000000000 0), (6, dIq x6)] [⟨53, (List.map AV.d (aA.enc b0))⟩] [] [] []) =
 cond (decide (x6 < (lM eI b0.Codes : Int))) (
 cond (iB x6 (lM eI b0.Codes : Int)) (
  γ55 [dIq (bC (cE eI b0.Codes x6 0))] [] [] fun r2 =>
  cond (!r2) (
  (rI 1)) (
  aqF (C58 Γ γ83 γ84 γ55) Λ2 J (w6 (x6 + 1)) (aA.enc b0))) none) (
 (rI 0)) := by kernel_rfl
theorem aEl (x5 : Int) (b0 : aA) : cJ SE (C58 Γ γ83 γ84 γ55) Λ2 J 58 0 [1, 1, 0, 1, 0] (bA [(1, .ptr 1000000000 0), (5, dIq x5)] [⟨53, (List.map AV.d (aA.enc b0))⟩] [] [] []) =
 cond (decide (x5 < (lM bB b0.Filters : Int))) (
 cond (iB x5 (lM bB b0.Filters : Int)) (
  γ84 [dSq (bQ (cE bB b0.Filters x5 0))] [] [] fun r1 =>
  cond (!r1) (
  (rI 13)) (
  atb (C58 Γ γ83 γ84 γ55) Λ2 J (w6 (x5 + 1)) (aA.enc b0))) none) (
 aqF (C58 Γ γ83 γ84 γ55) Λ2 J 0 (aA.enc b0)) := by kernel_rfl
theorem aD1 (x3 : Int) (b0 : aA) : cJ SE (C58 Γ γ83 γ84 γ55) Λ2 J 58 0 [1, 0, 1, 0] (bA [(1, .ptr 1000000000 0), (3, dIq x3)] [⟨53, (List.map AV.d (aA.enc b0))⟩] [] [] []) =
 cond (decide (x3 < (lM aH.enc b0.Subs : Int))) (
 cond (iB x3 (lM aH.enc b0.Subs : Int)) (
  γ83 [.agg [dSq (bQ (cE aH.enc b0.Subs x3 0)), dIq (bC (cE aH.enc b0.Subs x3 1)), dBq (cF (cE aH.enc b0.Subs x3 2))]] [] [] fun r0 =>
  cond (r0 != 0) (
  (rI r0)) (
  asJ (C58 Γ γ83 γ84 γ55) Λ2 J (w6 (x3 + 1)) (aA.enc b0))) none) (
 atb (C58 Γ γ83 γ84 γ55) Λ2 J 0 (aA.enc b0)) := by kernel_rfl
end
abbrev X58 : aS := C58 gG (cT 83 aJ) (cT 84 packet_is_out) (cT 55 packet_is_out)
theorem asS : X58 = aT gG := by unfold X58 C58; repeat rw [bJ fun _ h => h]
abbrev azS := aqF X58 (cC SE gG (SE.hl 58) (SE.hr 58)) (J0 SE X58)
abbrev aDR := atb X58 (cC SE gG (SE.hl 58) (SE.hr 58)) (J0 SE X58)
abbrev aDW := asJ X58 (cC SE gG (SE.hl 58) (SE.hr 58)) (J0 SE X58)
theorem ac7 : ∀ (fu : Nat) (x6 : Int) (b0 : aA), Le (Option.map aJ (fT fu x6 b0)) (azS x6 (aA.enc b0)) := by
 intro fu
 induction fu with
 | zero => intros; exact le_none
 | succ fu ih =>
  intro x6 b0
  refine Le.trans ?_ (le_of_eq ((bD asS).trans (aCb ..)).symm)
  unfold fT
  refine lDe ?_ ?_
  ·refine lGe ?_
   refine lQ eX packet_is_inj (by (try simp only [EN]); exact xR (List.getD b0.Codes (Int.toNat x6) default)) fun r2 _ => ?_
   refine lC ?_ ?_
   ·exact aG rfl
   ·exact ih (w6 (x6 + 1)) b0
  ·exact aG rfl
theorem adp : ∀ (fu : Nat) (x5 : Int) (b0 : aA), Le (Option.map aJ (gC fu x5 b0)) (aDR x5 (aA.enc b0)) := by
 intro fu
 induction fu with
 | zero => intros; exact le_none
 | succ fu ih =>
  intro x5 b0
  refine Le.trans ?_ (le_of_eq ((bD asS).trans (aEl ..)).symm)
  unfold gC
  refine lDe ?_ ?_
  ·refine lGe ?_
   refine lQ eX packet_is_inj (by (try simp only [EN]); exact aaX (List.getD b0.Filters (Int.toNat x5) default)) fun r1 _ => ?_
   refine lC ?_ ?_
   ·exact aG rfl
   ·exact ih (w6 (x5 + 1)) b0
  ·exact ac7 fuel 0 b0
theorem adA : ∀ (fu : Nat) (x3 : Int) (b0 : aA), Le (Option.map aJ (iK fu x3 b0)) (aDW x3 (aA.enc b0)) := by
 intro fu
 induction fu with
 | zero => intros; exact le_none
 | succ fu ih =>
  intro x3 b0
  refine Le.trans ?_ (le_of_eq ((bD asS).trans (aD1 ..)).symm)
  unfold iK
  refine lDe ?_ ?_
  ·refine lGe ?_
   refine lQ eX bE (by (try simp only [EN]); exact ajN (List.getD b0.Subs (Int.toNat x3) default)) fun r0 _ => ?_
   refine lC ?_ ?_
   ·exact aG rfl
   ·exact ih (w6 (x3 + 1)) b0
  ·exact adp fuel 0 b0
theorem afp (p0 : aA) : Le (Option.map aJ (nM p0)) (bH SE 58 [aA.av p0] [] []) := by
 refine aZ asS rfl ?_
 refine Le.trans ?_ (le_of_eq (T58 ..).symm)
 unfold nM
 exact adA fuel 0 p0
def auF (C : aS) (Λ2 J : Lam) (a0 : List D) : Res := lab SE C Λ2 J 31 0 [1, 1, 1, 1, 1, 1, 1, 1, 1, 0] (bA [(1, .ptr 1000000000 0)] [⟨53, (List.map AV.d a0)⟩] [] [] [])
def avO (C : aS) (Λ2 J : Lam) (a0 : List D) : Res := lab SE C Λ2 J 31 0 [1, 1, 1, 1, 1, 1, 1, 0] (bA [(1, .ptr 1000000000 0)] [⟨53, (List.map AV.d a0)⟩] [] [] [])
def avw (C : aS) (Λ2 J : Lam) (a0 : List D) : Res := lab SE C Λ2 J 31 0 [1, 1, 1, 1, 1, 1, 0, 0] (bA [(1, .ptr 1000000000 0)] [⟨53, (List.map AV.d a0)⟩] [] [] [])
def axX (C : aS) (Λ2 J : Lam) (a0 : List D) : Res := lab SE C Λ2 J 31 0 [1, 1, 0, 0] (bA [(1, .ptr 1000000000 0)] [⟨53, (List.map AV.d a0)⟩] [] [] [])
section
variable (Γ : Fun) (γ52 : Gm (aA)) (γ30 : Gm (Bool)) (γ53 γ54 : Gm (Int)) (γ55 : Gm (Bool)) (γ56 γ57 γ58 : Gm (Int)) (Λ2 J : Lam)
def C31 : aS := bG (bG (bG (bG (bG (bG (bG (bG (aT Γ) 52 eF γ52) 30 packet_is_out γ30) 53 aJ γ53) 54 aJ γ54) 55 packet_is_out γ55) 56 aJ γ56) 57 aJ γ57) 58 aJ γ58
theorem T31 (p0 : aA) : bL SE (C31 Γ γ52 γ30 γ53 γ54 γ55 γ56 γ57 γ58) Λ2 J 31 [aA.av p0] [] [] =
 cond (decide (p0.Kind < 1)) (
 (rI 10)) (
 cond (decide (p0.Kind > 14)) (
 (rI 10)) (
 axX (C31 Γ γ52 γ30 γ53 γ54 γ55 γ56 γ57 γ58) Λ2 J (aA.enc p0))) := by kernel_rfl
theorem az6 (b0 : aA) : cJ SE (C31 Γ γ52 γ30 γ53 γ54 γ55 γ56 γ57 γ58) Λ2 J 31 0 [1, 1, 1, 1, 1, 1, 1, 1, 1, 0] (bA [(1, .ptr 1000000000 0)] [⟨53, (List.map AV.d (aA.enc b0))⟩] [] [] []) =
 γ57 [dIq (w6 ((w6 ((lM aH.enc b0.Subs : Int) + (lM bB b0.Filters : Int))) + (lM eI b0.Codes : Int)))] [] [] fun r7 =>
 cond (r7 != 0) (
 (rI r7)) (
 γ58 [aA.av b0] [] [] fun r8 =>
 (rI r8)) := by kernel_rfl
theorem azz (b0 : aA) : cJ SE (C31 Γ γ52 γ30 γ53 γ54 γ55 γ56 γ57 γ58) Λ2 J 31 0 [1, 1, 1, 1, 1, 1, 1, 0] (bA [(1, .ptr 1000000000 0)] [⟨53, (List.map AV.d (aA.enc b0))⟩] [] [] []) =
 γ56 [dIq b0.ID] [] [] fun r6 =>
 cond (r6 != 0) (
 (rI r6)) (
 cond (decide (b0.Kind ≤ 7)) (
 (rI r6)) (
 auF (C31 Γ γ52 γ30 γ53 γ54 γ55 γ56 γ57 γ58) Λ2 J (aA.enc b0))) := by kernel_rfl
theorem aCi (b0 : aA) : cJ SE (C31 Γ γ52 γ30 γ53 γ54 γ55 γ56 γ57 γ58) Λ2 J 31 0 [1, 1, 1, 1, 1, 1, 0, 0] (bA [(1, .ptr 1000000000 0)] [⟨53, (List.map AV.d (aA.enc b0))⟩] [] [] []) =
 cond (b0.Kind == 12) (
 (rI 0)) (
 cond (b0.Kind == 13) (
 (rI 0)) (
 avO (C31 Γ γ52 γ30 γ53 γ54 γ55 γ56 γ57 γ58) Λ2 J (aA.enc b0))) := by kernel_rfl
theorem aC2 (b0 : aA) : cJ SE (C31 Γ γ52 γ30 γ53 γ54 γ55 γ56 γ57 γ58) Λ2 J 31 0 [1, 1, 0, 0] (bA [(1, .ptr 1000000000 0)] [⟨53, (List.map AV.d (aA.enc b0))⟩] [] [] []) =
 γ52 [aA.av b0] [] [] fun r0 =>
 γ30 [aA.av b0, aA.av r0] [] [] fun r1 =>
 cond (!r1) (
 (rI 28)) (
 cond (b0.Kind == 1) (
 γ53 [aA.av b0] [] [] fun r2 =>
 (rI r2)) (
 cond (b0.Kind == 3) (
 γ54 [aA.av b0] [] [] fun r3 =>
 (rI r3)) (
 cond (b0.Kind == 2) (
 γ55 [dIq b0.Code] [] [] fun r4 =>
 cond (!r4) (
  (rI 1)) (
 cond b0.Present (
  cond (b0.Code != 0) (
  (rI 28)) (
  (rI 0))) (
 (rI 0)))) (
 cond (b0.Kind == 14) (
 γ55 [dIq b0.Code] [] [] fun r5 =>
 cond (!r5) (
  (rI 1)) (
 cond b0.Present (
  cond (b0.Code != 0) (
  (rI 28)) (
  (rI 0))) (
 (rI 0)))) (
 avw (C31 Γ γ52 γ30 γ53 γ54 γ55 γ56 γ57 γ58) Λ2 J (aA.enc b0)))))) := by kernel_rfl
end
abbrev X31 : aS := C31 gG (cT 52 eF) (cT 30 packet_is_out) (cT 53 aJ) (cT 54 aJ) (cT 55 packet_is_out) (cT 56 aJ) (cT 57 aJ) (cT 58 aJ)
theorem apF : X31 = aT gG := by unfold X31 C31; repeat rw [bJ fun _ h => h]
abbrev aCt := auF X31 (cC SE gG (SE.hl 31) (SE.hr 31)) (J0 SE X31)
abbrev aB6 := avO X31 (cC SE gG (SE.hl 31) (SE.hr 31)) (J0 SE X31)
abbrev aCo := avw X31 (cC SE gG (SE.hl 31) (SE.hr 31)) (J0 SE X31)
abbrev aDl := axX X31 (cC SE gG (SE.hl 31) (SE.hr 31)) (J0 SE X31)
theorem aeX (b0 : aA) : Le (Option.map aJ (qJ b0)) (aCt (aA.enc b0)) := by
 refine Le.trans ?_ (le_of_eq ((bD apF).trans (az6 ..)).symm)
 unfold qJ
 refine lQ eX bE (by (try simp only [EN]); exact aij ((w6 ((w6 ((List.length b0.Subs : Int) + (List.length b0.Filters : Int))) + (List.length b0.Codes : Int))))) fun r7 _ => ?_
 refine lC ?_ ?_
 ·exact aG rfl
 ·refine lQ eX bE (afp _) fun r8 _ => ?_
  exact aG rfl
theorem aeI (b0 : aA) : Le (Option.map aJ (qD b0)) (aB6 (aA.enc b0)) := by
 refine Le.trans ?_ (le_of_eq ((bD apF).trans (azz ..)).symm)
 unfold qD
 refine lQ eX bE (abL _) fun r6 _ => ?_
 refine lC ?_ ?_
 ·exact aG rfl
 ·refine lC ?_ ?_
  ·exact aG rfl
  ·exact aeX b0
theorem aeY (b0 : aA) : Le (Option.map aJ (qB b0)) (aCo (aA.enc b0)) := by
 refine Le.trans ?_ (le_of_eq ((bD apF).trans (aCi ..)).symm)
 unfold qB
 refine lC ?_ ?_
 ·exact aG rfl
 ·refine lC ?_ ?_
  ·exact aG rfl
  ·exact aeI b0
theorem afs (b0 : aA) : Le (Option.map aJ (rZ b0)) (aDl (aA.enc b0)) := by
 refine Le.trans ?_ (le_of_eq ((bD apF).trans (aC2 ..)).symm)
 unfold rZ
 refine lQ eX af0 (aiM _) fun r0 _ => ?_
 refine lQ eX packet_is_inj (ab2 _ _) fun r1 _ => ?_
 refine lC ?_ ?_
 ·exact aG rfl
 ·refine lC ?_ ?_
  ·refine lQ eX bE (agm _) fun r2 _ => ?_
   exact aG rfl
  ·refine lC ?_ ?_
   ·refine lQ eX bE (age _) fun r3 _ => ?_
    exact aG rfl
   ·refine lC ?_ ?_
    ·refine lQ eX packet_is_inj (xR _) fun r4 _ => ?_
     refine lC ?_ ?_
     ·exact aG rfl
     ·refine lC ?_ ?_
      ·refine lC ?_ ?_
       ·exact aG rfl
       ·exact aG rfl
      ·exact aG rfl
    ·refine lC ?_ ?_
     ·refine lQ eX packet_is_inj (xR _) fun r5 _ => ?_
      refine lC ?_ ?_
      ·exact aG rfl
      ·refine lC ?_ ?_
       ·refine lC ?_ ?_
        ·exact aG rfl
        ·exact aG rfl
       ·exact aG rfl
     ·exact aeY b0
theorem wN (p0 : aA) : Le (Option.map aJ (lX p0)) (bH SE 31 [aA.av p0] [] []) := by
 refine aZ apF rfl ?_
 refine Le.trans ?_ (le_of_eq (T31 ..).symm)
 unfold lX
 refine lC ?_ ?_
 ·exact aG rfl
 ·refine lC ?_ ?_
  ·exact aG rfl
  ·exact afs p0
def auh (C : aS) (Λ2 J : Lam) (a0 : List (List D)) (a1 : Int) : Res := lab SE C Λ2 J 16 0 [1, 1, 0, 1, 0] (bA [(0, .d (.sl aA.ks a0)), (3, dIq a1)] [] [] [] [])
section
variable (Γ : Fun) (γ7 : Gm (Bool)) (γ31 : Gm (Int)) (Λ2 J : Lam)
def C16 : aS := bG (bG (aT Γ) 7 packet_is_out γ7) 31 aJ γ31
theorem T16 (p0 : List aA) : bL SE (C16 Γ γ7 γ31) Λ2 J 16 [.d (.sl aA.ks (List.map aA.enc p0))] [] [] =
 γ7 [.d (.sl aA.ks (List.map aA.enc p0))] [] [] fun r0 =>
 cond (!r0) (
 (rB false)) (
 auh (C16 Γ γ7 γ31) Λ2 J (List.map aA.enc p0) 0) := by kernel_rfl
theorem aE0 (x0 : List aA) (x3 : Int) : cJ SE (C16 Γ γ7 γ31) Λ2 J 16 0 [1, 1, 0, 1, 0] (bA [(0, .d (.sl aA.ks (List.map aA.enc x0))), (3, dIq x3)] [] [] [] []) =
 cond (decide (x3 < (lM aA.enc x0 : Int))) (
 cond (iB x3 (lM aA.enc x0 : Int)) (
  γ31 [.agg [dIq (bC (cE aA.enc x0 x3 0)), dIq (bC (cE aA.enc x0 x3 1)), dBq (cF (cE aA.enc x0 x3 2)), dSq (bQ (cE aA.enc x0 x3 3)), dSq (bQ (cE aA.enc x0 x3 4)), dIq (bC (cE aA.enc x0 x3 5)), dBq (cF (cE aA.enc x0 x3 6)), dIq (bC (cE aA.enc x0 x3 7)), dIq (bC (cE aA.enc x0 x3 8)), dSq (bQ (cE aA.enc x0 x3 9)), dIq (bC (cE aA.enc x0 x3 10)), .d (.sl aB.ks (dSl (cE aA.enc x0 x3 11))), dSq (bQ (cE aA.enc x0 x3 12)), dSq (bQ (cE aA.enc x0 x3 13)), dBq (cF (cE aA.enc x0 x3 14)), dIq (bC (cE aA.enc x0 x3 15)), dIq (bC (cE aA.enc x0 x3 16)), dIq (bC (cE aA.enc x0 x3 17)), dBq (cF (cE aA.enc x0 x3 18)), dIq (bC (cE aA.enc x0 x3 19)), dSq (bQ (cE aA.enc x0 x3 20)), dSq (bQ (cE aA.enc x0 x3 21)), dIq (bC (cE aA.enc x0 x3 22)), dBq (cF (cE aA.enc x0 x3 23)), dIq (bC (cE aA.enc x0 x3 24)), dIq (bC (cE aA.enc x0 x3 25)), dSq (bQ (cE aA.enc x0 x3 26)), dIq (bC (cE aA.enc x0 x3 27)), .d (.sl aB.ks (dSl (cE aA.enc x0 x3 28))), dBq (cF (cE aA.enc x0 x3 29)), dIq (bC (cE aA.enc x0 x3 30)), .d (.sl aH.ks (dSl (cE aA.enc x0 x3 31))), .d (.sl [.str] (dSl (cE aA.enc x0 x3 32))), .d (.sl [.int .i64] (dSl (cE aA.enc x0 x3 33)))]] [] [] fun r1 =>
  cond (r1 != 0) (
  (rB false)) (
  auh (C16 Γ γ7 γ31) Λ2 J (List.map aA.enc x0) (w6 (x3 + 1)))) none) (
 (rB true)) := by kernel_rfl
end
abbrev X16 : aS := C16 gG (cT 7 packet_is_out) (cT 31 aJ)
theorem az0 : X16 = aT gG := by unfold X16 C16; repeat rw [bJ fun _ h => h]
abbrev aE7 := auh X16 (cC SE gG (SE.hl 16) (SE.hr 16)) (J0 SE X16)
theorem afj : ∀ (fu : Nat) (x0 : List aA) (x3 : Int), Le (Option.map packet_is_out (jW fu x0 x3)) (aE7 (List.map aA.enc x0) x3) := by
 intro fu
 induction fu with
 | zero => intros; exact le_none
 | succ fu ih =>
  intro x0 x3
  refine Le.trans ?_ (le_of_eq ((bD az0).trans (aE0 ..)).symm)
  unfold jW
  refine lDe ?_ ?_
  ·refine lGe ?_
   refine lQ eX bE (by (try simp only [EN]); exact wN (List.getD x0 (Int.toNat x3) default)) fun r1 _ => ?_
   refine lC ?_ ?_
   ·exact aG rfl
   ·exact ih x0 (w6 (x3 + 1))
  ·exact aG rfl
theorem abt (p0 : List aA) : Le (Option.map packet_is_out (oD p0)) (bH SE 16 [.d (.sl aA.ks (List.map aA.enc p0))] [] []) := by
 refine aZ az0 rfl ?_
 refine Le.trans ?_ (le_of_eq (T16 ..).symm)
 unfold oD
 refine lQ eX packet_is_inj (abo _) fun r0 _ => ?_
 refine lC ?_ ?_
 ·exact aG rfl
 ·exact afj fuel p0 0
def atv (C : aS) (Λ2 J : Lam) (a0 a1 : List (List D)) (a2 : Int) : Res := lab SE C Λ2 J 14 0 [1, 1, 0, 1, 0] (bA [(0, .d (.sl aA.ks a0)), (1, .d (.sl aA.ks a1)), (5, dIq a2)] [] [] [] [])
section
variable (Γ : Fun) (γ30 : Gm (Bool)) (Λ2 J : Lam)
def C14 : aS := bG (aT Γ) 30 packet_is_out γ30
theorem T14 (p0 p1 : List aA) : bL SE (C14 Γ γ30) Λ2 J 14 [.d (.sl aA.ks (List.map aA.enc p0)), .d (.sl aA.ks (List.map aA.enc p1))] [] [] =
 cond ((lM aA.enc p0 : Int) != (lM aA.enc p1 : Int)) (
 (rB false)) (
 atv (C14 Γ γ30) Λ2 J (List.map aA.enc p0) (List.map aA.enc p1) 0) := by kernel_rfl
theorem aDF (x0 x1 : List aA) (x5 : Int) : cJ SE (C14 Γ γ30) Λ2 J 14 0 [1, 1, 0, 1, 0] (bA [(0, .d (.sl aA.ks (List.map aA.enc x0))), (1, .d (.sl aA.ks (List.map aA.enc x1))), (5, dIq x5)] [] [] [] []) =
 cond (decide (x5 < (lM aA.enc x0 : Int))) (
 cond (iB x5 (lM aA.enc x0 : Int)) (
  cond (iB x5 (lM aA.enc x1 : Int)) (
  γ30 [.agg [dIq (bC (cE aA.enc x0 x5 0)), dIq (bC (cE aA.enc x0 x5 1)), dBq (cF (cE aA.enc x0 x5 2)), dSq (bQ (cE aA.enc x0 x5 3)), dSq (bQ (cE aA.enc x0 x5 4)), dIq (bC (cE aA.enc x0 x5 5)), dBq (cF (cE aA.enc x0 x5 6)), dIq (bC (cE aA.enc x0 x5 7)), dIq (bC (cE aA.enc x0 x5 8)), dSq (bQ (cE aA.enc x0 x5 9)), dIq (bC (cE aA.enc x0 x5 10)), .d (.sl aB.ks (dSl (cE aA.enc x0 x5 11))), dSq (bQ (cE aA.enc x0 x5 12)), dSq (bQ (cE aA.enc x0 x5 13)), dBq (cF (cE aA.enc x0 x5 14)), dIq (bC (cE aA.enc x0 x5 15)), dIq (bC (cE aA.enc x0 x5 16)), dIq (bC (cE aA.enc x0 x5 17)), dBq (cF (cE aA.enc x0 x5 18)), dIq (bC (cE aA.enc x0 x5 19)), dSq (bQ (cE aA.enc x0 x5 20)), dSq (bQ (cE aA.enc x0 x5 21)), dIq (bC (cE aA.enc x0 x5 22)), dBq (cF (cE aA.enc x0 x5 23)), dIq (bC (cE aA.enc x0 x5 24)), dIq (bC (cE aA.enc x0 x5 25)), dSq (bQ (cE aA.enc x0 x5 26)), dIq (bC (cE aA.enc x0 x5 27)), .d (.sl aB.ks (dSl (cE aA.enc x0 x5 28))), dBq (cF (cE aA.enc x0 x5 29)), dIq (bC (cE aA.enc x0 x5 30)), .d (.sl aH.ks (dSl (cE aA.enc x0 x5 31))), .d (.sl [.str] (dSl (cE aA.enc x0 x5 32))), .d (.sl [.int .i64] (dSl (cE aA.enc x0 x5 33)))], .agg [dIq (bC (cE aA.enc x1 x5 0)), dIq (bC (cE aA.enc x1 x5 1)), dBq (cF (cE aA.enc x1 x5 2)), dSq (bQ (cE aA.enc x1 x5 3)), dSq (bQ (cE aA.enc x1 x5 4)), dIq (bC (cE aA.enc x1 x5 5)), dBq (cF (cE aA.enc x1 x5 6)), dIq (bC (cE aA.enc x1 x5 7)), dIq (bC (cE aA.enc x1 x5 8)), dSq (bQ (cE aA.enc x1 x5 9)), dIq (bC (cE aA.enc x1 x5 10)), .d (.sl aB.ks (dSl (cE aA.enc x1 x5 11))), dSq (bQ (cE aA.enc x1 x5 12)), dSq (bQ (cE aA.enc x1 x5 13)), dBq (cF (cE aA.enc x1 x5 14)), dIq (bC (cE aA.enc x1 x5 15)), dIq (bC (cE aA.enc x1 x5 16)), dIq (bC (cE aA.enc x1 x5 17)), dBq (cF (cE aA.enc x1 x5 18)), dIq (bC (cE aA.enc x1 x5 19)), dSq (bQ (cE aA.enc x1 x5 20)), dSq (bQ (cE aA.enc x1 x5 21)), dIq (bC (cE aA.enc x1 x5 22)), dBq (cF (cE aA.enc x1 x5 23)), dIq (bC (cE aA.enc x1 x5 24)), dIq (bC (cE aA.enc x1 x5 25)), dSq (bQ (cE aA.enc x1 x5 26)), dIq (bC (cE aA.enc x1 x5 27)), .d (.sl aB.ks (dSl (cE aA.enc x1 x5 28))), dBq (cF (cE aA.enc x1 x5 29)), dIq (bC (cE aA.enc x1 x5 30)), .d (.sl aH.ks (dSl (cE aA.enc x1 x5 31))), .d (.sl [.str] (dSl (cE aA.enc x1 x5 32))), .d (.sl [.int .i64] (dSl (cE aA.enc x1 x5 33)))]] [] [] fun r0 =>
  cond (!r0) (
   (rB false)) (
  atv (C14 Γ γ30) Λ2 J (List.map aA.enc x0) (List.map aA.enc x1) (w6 (x5 + 1)))) none) none) (
 (rB true)) := by kernel_rfl
end
abbrev X14 : aS := C14 gG (cT 30 packet_is_out)
theorem aCd : X14 = aT gG := by unfold X14 C14; rw [bJ fun _ h => h]
abbrev aDU := atv X14 (cC SE gG (SE.hl 14) (SE.hr 14)) (J0 SE X14)
theorem adM : ∀ (fu : Nat) (x0 x1 : List aA) (x5 : Int), Le (Option.map packet_is_out (iX fu x0 x1 x5)) (aDU (List.map aA.enc x0) (List.map aA.enc x1) x5) := by
 intro fu
 induction fu with
 | zero => intros; exact le_none
 | succ fu ih =>
  intro x0 x1 x5
  refine Le.trans ?_ (le_of_eq ((bD aCd).trans (aDF ..)).symm)
  unfold iX
  refine lDe ?_ ?_
  ·refine lGe ?_
   refine lGe ?_
   refine lQ eX packet_is_inj (by (try simp only [EN]); exact ab2 (List.getD x0 (Int.toNat x5) default) (List.getD x1 (Int.toNat x5) default)) fun r0 _ => ?_
   refine lC ?_ ?_
   ·exact aG rfl
   ·exact ih x0 x1 (w6 (x5 + 1))
  ·exact aG rfl
theorem aam (p0 p1 : List aA) : Le (Option.map packet_is_out (mF p0 p1)) (bH SE 14 [.d (.sl aA.ks (List.map aA.enc p0)), .d (.sl aA.ks (List.map aA.enc p1))] [] []) := by
 refine aZ aCd rfl ?_
 refine Le.trans ?_ (le_of_eq (T14 ..).symm)
 unfold mF
 refine lDe ?_ ?_
 ·exact aG rfl
 ·exact adM fuel p0 p1 0
end Te
end PX
