import Derived.Test.YthgmhhgmnegocaaGreatDoorTre1
set_option linter.unusedVariables false
set_option linter.unusedSimpArgs false
set_option maxRecDepth 100000
noncomputable section
namespace PX
open Go
open Md
namespace Te
section
variable (Γ : Fun) (γ11 : Gm ((List Int) × Int)) (γ14 : Gm (aA × Int)) (γ17 : Gm ((List Int) × Int)) (γ19 : Gm ((List aA) × Int)) (γ16 : Gm (Bool)) (Λ2 J : Lam)
def C10 : aR := bE (bE (bE (bE (bE (aS Γ) 11 bV γ11) 14 fB γ14) 17 bV γ17) 19 dM γ19) 16 packet_is_out γ16
theorem T10 : bK SE (C10 Γ γ11 γ14 γ17 γ19 γ16) Λ2 J 10 [] [] [] =
 γ11 [.agg [.d (.int .i64 4), .d (.int .i64 1), .d (.bool false), .d (.str []), .d (.str []), .d (.int .i64 0), .d (.bool false), .d (.int .i64 0), .d (.int .i64 0), .d (.str []), .d (.int .i64 0), .d (.sl aC.ks (List.map aC.enc [])), .d (.str []), .d (.str []), .d (.bool false), .d (.int .i64 0), .d (.int .i64 0), .d (.int .i64 0), .d (.bool false), .d (.int .i64 0), .d (.str []), .d (.str []), .d (.int .i64 0), .d (.bool false), .d (.int .i64 0), .d (.int .i64 0), .d (.str []), .d (.int .i64 0), .d (.sl aC.ks (List.map aC.enc [])), .d (.bool false), .d (.int .i64 0), .d (.sl aH.ks (List.map aH.enc [])), .d (.sl [.str] (List.map aY [])), .d (.sl [.int .i64] (List.map eI []))]] [] [] fun r0 =>
 cond (!(List.isEmpty (List.map (aO .u8) [16, 2, 2, 6, 97, 47, 35, 4, 0]))) (
 γ14 [.d (.sl [.int .u8] (List.map (aO .u8) [16, 2, 2, 6, 97, 47, 35, 4, 0]))] [] [] fun r1 =>
 γ17 [.d (.sl aA.ks [[D.int .i64 12, D.int .i64 0, D.bool false, D.str [], D.str [], D.int .i64 0, D.bool false, D.int .i64 0, D.int .i64 0, D.str [], D.int .i64 0, D.sl aC.ks (List.map aC.enc []), D.str [], D.str [], D.bool false, D.int .i64 0, D.int .i64 0, D.int .i64 0, D.bool false, D.int .i64 0, D.str [], D.str [], D.int .i64 0, D.bool false, D.int .i64 0, D.int .i64 0, D.str [], D.int .i64 0, D.sl aC.ks (List.map aC.enc []), D.bool false, D.int .i64 0, D.sl aH.ks (List.map aH.enc []), D.sl [.str] (List.map aY []), D.sl [.int .i64] (List.map eI [])], [D.int .i64 12, D.int .i64 0, D.bool false, D.str [], D.str [], D.int .i64 0, D.bool false, D.int .i64 0, D.int .i64 0, D.str [], D.int .i64 0, D.sl aC.ks (List.map aC.enc []), D.str [], D.str [], D.bool false, D.int .i64 0, D.int .i64 0, D.int .i64 0, D.bool false, D.int .i64 0, D.str [], D.str [], D.int .i64 0, D.bool false, D.int .i64 0, D.int .i64 0, D.str [], D.int .i64 0, D.sl aC.ks (List.map aC.enc []), D.bool false, D.int .i64 0, D.sl aH.ks (List.map aH.enc []), D.sl [.str] (List.map aY []), D.sl [.int .i64] (List.map eI [])]])] [] [] fun r2 =>
 cond (!(List.isEmpty (List.map (aO .u8) [2, 24, 2, 24]))) (
  γ19 [.d (.sl [.int .u8] (List.map (aO .u8) [2, 24, 2, 24]))] [] [] fun r3 =>
  cond ((uG (List.map (aO .u8) r0.1)) == ([8, 2] : Str)) (
  cond (r0.2 == 0) (
   cond (r1.2 == 0) (
   γ16 [aA.av r1.1, .agg [.d (.int .i64 8), .d (.int .i64 1), .d (.bool false), .d (.str []), .d (.str []), .d (.int .i64 0), .d (.bool false), .d (.int .i64 0), .d (.int .i64 0), .d (.str []), .d (.int .i64 0), .d (.sl aC.ks (List.map aC.enc [])), .d (.str []), .d (.str []), .d (.bool false), .d (.int .i64 0), .d (.int .i64 0), .d (.int .i64 0), .d (.bool false), .d (.int .i64 0), .d (.str []), .d (.str []), .d (.int .i64 0), .d (.bool false), .d (.int .i64 0), .d (.int .i64 0), .d (.str []), .d (.int .i64 0), .d (.sl aC.ks (List.map aC.enc [])), .d (.bool false), .d (.int .i64 0), .d (.sl aH.ks (List.map aH.enc [(aH.mk ([97, 47, 35] : Str) 2 false)])), .d (.sl [.str] (List.map aY [])), .d (.sl [.int .i64] (List.map eI []))]] [] [] fun r4 =>
   cond r4 (
    cond ((uG (List.map (aO .u8) r2.1)) == ([2, 24, 2, 24] : Str)) (
    cond (r2.2 == 0) (
     cond ((lM aA.enc r3.1 : Int) == 2) (
     (rB (r3.2 == 0))) (
     (rB false))) (
    (rB false))) (
    (rB false))) (
   (rB false))) (
   (rB false))) (
  (rB false))) (
  (rB false))) none) none := by kernel_rfl
end
abbrev X10 : aR := C10 gG (cT 11 bV) (cT 14 fB) (cT 17 bV) (cT 19 dM) (cT 16 packet_is_out)
theorem aDq : X10 = aS gG := by unfold X10 C10; repeat rw [bH fun _ h => h]
theorem dG : Le (Option.map packet_is_out (dD)) (bF SE 10 [] [] []) := by
 refine aZ aDq rfl ?_
 refine Le.trans ?_ (le_of_eq (T10 _ _ _ _ _ _ _ _ ).symm)
 unfold dD
 refine lQ eX iC (by (try simp only [EN]); exact tW ((aA.mk 4 1 false (aF.mk [] [] 0 false 0 0 [] 0 []) [] [] false 0 0 0 (aV.mk false 0 (aF.mk [] [] 0 false 0 0 [] 0 [])) false 0 [] [] []))) fun r0 _ => ?_
 refine lG (by simp only [EN] <;> rfl) ?_
 refine lQ eX sU (uJ _) fun r1 _ => ?_
 refine lQ eX iC (by (try simp only [EN]); exact yU [(aA.mk 12 0 false (aF.mk [] [] 0 false 0 0 [] 0 []) [] [] false 0 0 0 (aV.mk false 0 (aF.mk [] [] 0 false 0 0 [] 0 [])) false 0 [] [] []), (aA.mk 12 0 false (aF.mk [] [] 0 false 0 0 [] 0 []) [] [] false 0 0 0 (aV.mk false 0 (aF.mk [] [] 0 false 0 0 [] 0 [])) false 0 [] [] [])]) fun r2 _ => ?_
 refine lG (by simp only [EN] <;> rfl) ?_
 refine lQ eX sJ (yW _) fun r3 _ => ?_
 refine lD (by simp only [EN]) ?_ ?_
 ·refine lC ?_ ?_
  ·refine lC ?_ ?_
   ·refine lQ eX packet_is_inj (by (try simp only [EN]); exact lE r1.1 ((aA.mk 8 1 false (aF.mk [] [] 0 false 0 0 [] 0 []) [] [] false 0 0 0 (aV.mk false 0 (aF.mk [] [] 0 false 0 0 [] 0 [])) false 0 [(aH.mk ([97, 47, 35] : Str) 2 false)] [] []))) fun r4 _ => ?_
    refine lC ?_ ?_
    ·refine lD (by simp only [EN]) ?_ ?_
     ·refine lC ?_ ?_
      ·refine lD (by simp only [EN]) ?_ ?_
       ·exact aG rfl
       ·exact aG rfl
      ·exact aG rfl
     ·exact aG rfl
    ·exact aG rfl
   ·exact aG rfl
  ·exact aG rfl
 ·exact aG rfl
section
variable (Γ : Fun)  (Λ2 J : Lam)
def C24 : aR := aS Γ
theorem T24 (p0 : aF) : bK SE (C24 Γ) Λ2 J 24 [aF.av p0] [] [] =
 cond (decide ((List.length p0.Topic : Int) ≤ 5000)) (
 cond (decide ((List.length p0.Payload : Int) ≤ 5000)) (
  cond (decide ((List.length p0.From : Int) ≤ 5000)) (
  (rB (decide ((lM aC.enc p0.Props : Int) ≤ 100)))) (
  (rB false))) (
 (rB false))) (
 (rB false)) := by kernel_rfl
end
abbrev X24 : aR := C24 gG
theorem aDc : X24 = aS gG := rfl
theorem y7 (p0 : aF) : Le (Option.map packet_is_out (nW p0)) (bF SE 24 [aF.av p0] [] []) := by
 refine aZ aDc rfl ?_
 refine Le.trans ?_ (le_of_eq (T24 ..).symm)
 unfold nW
 refine lC ?_ ?_
 ·refine lC ?_ ?_
  ·refine lC ?_ ?_
   ·exact aG (by first | rfl | simp only [EN, packet_is_out] <;> rfl)
   ·exact aG rfl
  ·exact aG rfl
 ·exact aG rfl
def azv (C : aR) (Λ2 J : Lam) (a0 : List D) : Res := lab SE C Λ2 J 9 0 [1, 1, 0] (bA [(1, .ptr 1000000000 0)] [⟨31, (List.map AV.d a0)⟩] [] [] [])
section
variable (Γ : Fun) (γ24 : Gm (Bool)) (Λ2 J : Lam)
def C9 : aR := bE (aS Γ) 24 packet_is_out γ24
theorem T9 (p0 : aA) : bK SE (C9 Γ γ24) Λ2 J 9 [aA.av p0] [] [] =
 cond (decide ((List.length p0.Client : Int) > 5000)) (
 (rB false)) (
 cond (decide ((List.length p0.User : Int) > 5000)) (
 (rB false)) (
 cond (decide ((lM aH.enc p0.Subs : Int) > 100)) (
 (rB false)) (
 cond (decide ((lM aY p0.Filters : Int) > 100)) (
 (rB false)) (
 cond (decide ((lM eI p0.Codes : Int) > 100)) (
 (rB false)) (
 azv (C9 Γ γ24) Λ2 J (aA.enc p0)))))) := by kernel_rfl
theorem aDs (b0 : aA) : cJ SE (C9 Γ γ24) Λ2 J 9 0 [1, 1, 0] (bA [(1, .ptr 1000000000 0)] [⟨31, (List.map AV.d (aA.enc b0))⟩] [] [] []) =
 γ24 [aF.av b0.Message] [] [] fun r0 =>
 cond r0 (
 γ24 [aF.av b0.Will.Message] [] [] fun r1 =>
 (rB r1)) (
 (rB false)) := by kernel_rfl
end
abbrev X9 : aR := C9 gG (cT 24 packet_is_out)
theorem Cr9 : X9 = aS gG := by unfold X9 C9; rw [bH fun _ h => h]
abbrev aDP := azv X9 (cB SE gG (SE.hl 9) (SE.hr 9)) (J0 SE X9)
theorem aep (b0 : aA) : Le (Option.map packet_is_out (qR b0)) (aDP (aA.enc b0)) := by
 refine Le.trans ?_ (le_of_eq ((bD Cr9).trans (aDs ..)).symm)
 unfold qR
 refine lQ eX packet_is_inj (y7 _) fun r0 _ => ?_
 refine lC ?_ ?_
 ·refine lQ eX packet_is_inj (y7 _) fun r1 _ => ?_
  exact aG rfl
 ·exact aG rfl
theorem aaX (p0 : aA) : Le (Option.map packet_is_out (nM p0)) (bF SE 9 [aA.av p0] [] []) := by
 refine aZ Cr9 rfl ?_
 refine Le.trans ?_ (le_of_eq (T9 ..).symm)
 unfold nM
 refine lC ?_ ?_
 ·exact aG rfl
 ·refine lC ?_ ?_
  ·exact aG rfl
  ·refine lD (by simp only [EN]) ?_ ?_
   ·exact aG rfl
   ·refine lD (by simp only [EN]) ?_ ?_
    ·exact aG rfl
    ·refine lD (by simp only [EN]) ?_ ?_
     ·exact aG rfl
     ·exact aep p0
def aoE (C : aR) (Λ2 J : Lam) (a0 a1 a2 : List D) : Res := lab SE C Λ2 J 51 0 [1, 1, 1, 1, 1, 1, 1, 1, 1, 0, 0] (bA [(1, .ptr 1000000000 0), (2, .ptr 1000000001 0), (3, .ptr 1000000002 0)] [⟨31, (List.map AV.d a0)⟩, ⟨31, (List.map AV.d a1)⟩, ⟨31, (List.map AV.d a2)⟩] [] [] [])
def aoG (C : aR) (Λ2 J : Lam) (a0 a1 a2 : List D) : Res := lab SE C Λ2 J 51 0 [1, 1, 1, 1, 1, 1, 1, 1, 0, 0] (bA [(1, .ptr 1000000000 0), (2, .ptr 1000000001 0), (3, .ptr 1000000002 0)] [⟨31, (List.map AV.d a0)⟩, ⟨31, (List.map AV.d a1)⟩, ⟨31, (List.map AV.d a2)⟩] [] [] [])
def aol (C : aR) (Λ2 J : Lam) (a0 a1 a2 : List D) : Res := lab SE C Λ2 J 51 0 [1, 1, 1, 1, 1, 1, 1, 0, 0] (bA [(1, .ptr 1000000000 0), (2, .ptr 1000000001 0), (3, .ptr 1000000002 0)] [⟨31, (List.map AV.d a0)⟩, ⟨31, (List.map AV.d a1)⟩, ⟨31, (List.map AV.d a2)⟩] [] [] [])
def akY (C : aR) (Λ2 J : Lam) (a0 a1 a2 : List D) : Res := lab SE C Λ2 J 51 0 [1, 1, 1, 1, 1, 1, 0, 0] (bA [(1, .ptr 1000000000 0), (2, .ptr 1000000001 0), (3, .ptr 1000000002 0)] [⟨31, (List.map AV.d a0)⟩, ⟨31, (List.map AV.d a1)⟩, ⟨31, (List.map AV.d a2)⟩] [] [] [])
def an5 (C : aR) (Λ2 J : Lam) (a0 a1 a2 : List D) : Res := lab SE C Λ2 J 51 0 [1, 1, 1, 1, 1, 0, 0] (bA [(1, .ptr 1000000000 0), (2, .ptr 1000000001 0), (3, .ptr 1000000002 0)] [⟨31, (List.map AV.d a0)⟩, ⟨31, (List.map AV.d a1)⟩, ⟨31, (List.map AV.d a2)⟩] [] [] [])
def ao7 (C : aR) (Λ2 J : Lam) (a0 a1 a2 : List D) : Res := lab SE C Λ2 J 51 0 [1, 1, 1, 1, 0, 0] (bA [(1, .ptr 1000000000 0), (2, .ptr 1000000001 0), (3, .ptr 1000000002 0)] [⟨31, (List.map AV.d a0)⟩, ⟨31, (List.map AV.d a1)⟩, ⟨31, (List.map AV.d a2)⟩] [] [] [])
def akK (C : aR) (Λ2 J : Lam) (a0 a1 a2 : List D) : Res := lab SE C Λ2 J 51 0 [1, 1, 1, 0, 0] (bA [(1, .ptr 1000000000 0), (2, .ptr 1000000001 0), (3, .ptr 1000000002 0)] [⟨31, (List.map AV.d a0)⟩, ⟨31, (List.map AV.d a1)⟩, ⟨31, (List.map AV.d a2)⟩] [] [] [])
section
variable (Γ : Fun)  (Λ2 J : Lam)
def C51 : aR := aS Γ
theorem T51 (p0 : aA) : bK SE (C51 Γ) Λ2 J 51 [aA.av p0] [] [] =
 cond (p0.Kind == 3) (
 akK (C51 Γ) Λ2 J (aA.enc p0) [D.int .i64 0, D.int .i64 0, D.bool false, D.str [], D.str [], D.int .i64 0, D.bool false, D.int .i64 0, D.int .i64 0, D.str [], D.int .i64 0, D.sl aC.ks (List.map aC.enc []), D.str [], D.str [], D.bool false, D.int .i64 0, D.int .i64 0, D.int .i64 0, D.bool false, D.int .i64 0, D.str [], D.str [], D.int .i64 0, D.bool false, D.int .i64 0, D.int .i64 0, D.str [], D.int .i64 0, D.sl aC.ks (List.map aC.enc []), D.bool false, D.int .i64 0, D.sl aH.ks (List.map aH.enc []), D.sl [.str] (List.map aY []), D.sl [.int .i64] (List.map eI [])] [D.int .i64 p0.Kind, D.int .i64 p0.ID, D.bool false, D.str [], D.str [], D.int .i64 0, D.bool false, D.int .i64 0, D.int .i64 0, D.str [], D.int .i64 0, D.sl aC.ks (List.map aC.enc []), D.str [], D.str [], D.bool false, D.int .i64 0, D.int .i64 0, D.int .i64 0, D.bool false, D.int .i64 0, D.str [], D.str [], D.int .i64 0, D.bool false, D.int .i64 0, D.int .i64 0, D.str [], D.int .i64 0, D.sl aC.ks (List.map aC.enc []), D.bool false, D.int .i64 0, D.sl aH.ks (List.map aH.enc []), D.sl [.str] (List.map aY []), D.sl [.int .i64] (List.map eI [])]) (
 cond (decide (p0.Kind ≥ 4)) (
 cond (decide (p0.Kind ≤ 11)) (
  akK (C51 Γ) Λ2 J (aA.enc p0) [D.int .i64 0, D.int .i64 0, D.bool false, D.str [], D.str [], D.int .i64 0, D.bool false, D.int .i64 0, D.int .i64 0, D.str [], D.int .i64 0, D.sl aC.ks (List.map aC.enc []), D.str [], D.str [], D.bool false, D.int .i64 0, D.int .i64 0, D.int .i64 0, D.bool false, D.int .i64 0, D.str [], D.str [], D.int .i64 0, D.bool false, D.int .i64 0, D.int .i64 0, D.str [], D.int .i64 0, D.sl aC.ks (List.map aC.enc []), D.bool false, D.int .i64 0, D.sl aH.ks (List.map aH.enc []), D.sl [.str] (List.map aY []), D.sl [.int .i64] (List.map eI [])] [D.int .i64 p0.Kind, D.int .i64 p0.ID, D.bool false, D.str [], D.str [], D.int .i64 0, D.bool false, D.int .i64 0, D.int .i64 0, D.str [], D.int .i64 0, D.sl aC.ks (List.map aC.enc []), D.str [], D.str [], D.bool false, D.int .i64 0, D.int .i64 0, D.int .i64 0, D.bool false, D.int .i64 0, D.str [], D.str [], D.int .i64 0, D.bool false, D.int .i64 0, D.int .i64 0, D.str [], D.int .i64 0, D.sl aC.ks (List.map aC.enc []), D.bool false, D.int .i64 0, D.sl aH.ks (List.map aH.enc []), D.sl [.str] (List.map aY []), D.sl [.int .i64] (List.map eI [])]) (
 akK (C51 Γ) Λ2 J (aA.enc p0) [D.int .i64 0, D.int .i64 0, D.bool false, D.str [], D.str [], D.int .i64 0, D.bool false, D.int .i64 0, D.int .i64 0, D.str [], D.int .i64 0, D.sl aC.ks (List.map aC.enc []), D.str [], D.str [], D.bool false, D.int .i64 0, D.int .i64 0, D.int .i64 0, D.bool false, D.int .i64 0, D.str [], D.str [], D.int .i64 0, D.bool false, D.int .i64 0, D.int .i64 0, D.str [], D.int .i64 0, D.sl aC.ks (List.map aC.enc []), D.bool false, D.int .i64 0, D.sl aH.ks (List.map aH.enc []), D.sl [.str] (List.map aY []), D.sl [.int .i64] (List.map eI [])] [D.int .i64 p0.Kind, D.int .i64 0, D.bool false, D.str [], D.str [], D.int .i64 0, D.bool false, D.int .i64 0, D.int .i64 0, D.str [], D.int .i64 0, D.sl aC.ks (List.map aC.enc []), D.str [], D.str [], D.bool false, D.int .i64 0, D.int .i64 0, D.int .i64 0, D.bool false, D.int .i64 0, D.str [], D.str [], D.int .i64 0, D.bool false, D.int .i64 0, D.int .i64 0, D.str [], D.int .i64 0, D.sl aC.ks (List.map aC.enc []), D.bool false, D.int .i64 0, D.sl aH.ks (List.map aH.enc []), D.sl [.str] (List.map aY []), D.sl [.int .i64] (List.map eI [])])) (
 akK (C51 Γ) Λ2 J (aA.enc p0) [D.int .i64 0, D.int .i64 0, D.bool false, D.str [], D.str [], D.int .i64 0, D.bool false, D.int .i64 0, D.int .i64 0, D.str [], D.int .i64 0, D.sl aC.ks (List.map aC.enc []), D.str [], D.str [], D.bool false, D.int .i64 0, D.int .i64 0, D.int .i64 0, D.bool false, D.int .i64 0, D.str [], D.str [], D.int .i64 0, D.bool false, D.int .i64 0, D.int .i64 0, D.str [], D.int .i64 0, D.sl aC.ks (List.map aC.enc []), D.bool false, D.int .i64 0, D.sl aH.ks (List.map aH.enc []), D.sl [.str] (List.map aY []), D.sl [.int .i64] (List.map eI [])] [D.int .i64 p0.Kind, D.int .i64 0, D.bool false, D.str [], D.str [], D.int .i64 0, D.bool false, D.int .i64 0, D.int .i64 0, D.str [], D.int .i64 0, D.sl aC.ks (List.map aC.enc []), D.str [], D.str [], D.bool false, D.int .i64 0, D.int .i64 0, D.int .i64 0, D.bool false, D.int .i64 0, D.str [], D.str [], D.int .i64 0, D.bool false, D.int .i64 0, D.int .i64 0, D.str [], D.int .i64 0, D.sl aC.ks (List.map aC.enc []), D.bool false, D.int .i64 0, D.sl aH.ks (List.map aH.enc []), D.sl [.str] (List.map aY []), D.sl [.int .i64] (List.map eI [])])) := by kernel_rfl
theorem azc (b0 b1 b2 : aA) : cJ SE (C51 Γ) Λ2 J 51 0 [1, 1, 1, 1, 1, 1, 1, 1, 1, 0, 0] (bA [(1, .ptr 1000000000 0), (2, .ptr 1000000001 0), (3, .ptr 1000000002 0)] [⟨31, (List.map AV.d (aA.enc b0))⟩, ⟨31, (List.map AV.d (aA.enc b1))⟩, ⟨31, (List.map AV.d (aA.enc b2))⟩] [] [] []) =
 cond (b0.Kind == 9) (
 (some (.ret [aA.av (aA.mk b2.Kind b2.ID b2.Dup b2.Message b2.Client b2.User b2.Clean b2.Keep b2.Expiry b2.Window b2.Will b2.Present b2.Code b2.Subs b2.Filters b0.Codes)] [] []))) (
 cond (b0.Kind == 11) (
 (some (.ret [aA.av (aA.mk b2.Kind b2.ID b2.Dup b2.Message b2.Client b2.User b2.Clean b2.Keep b2.Expiry b2.Window b2.Will b2.Present b2.Code b2.Subs b2.Filters b0.Codes)] [] []))) (
 (some (.ret [aA.av b2] [] [])))) := by kernel_rfl
theorem axV (b0 b1 b2 : aA) : cJ SE (C51 Γ) Λ2 J 51 0 [1, 1, 1, 1, 1, 1, 1, 1, 0, 0] (bA [(1, .ptr 1000000000 0), (2, .ptr 1000000001 0), (3, .ptr 1000000002 0)] [⟨31, (List.map AV.d (aA.enc b0))⟩, ⟨31, (List.map AV.d (aA.enc b1))⟩, ⟨31, (List.map AV.d (aA.enc b2))⟩] [] [] []) =
 cond (b0.Kind == 10) (
 aoE (C51 Γ) Λ2 J (aA.enc b0) (aA.enc b1) (aA.enc (aA.mk b2.Kind b2.ID b2.Dup b2.Message b2.Client b2.User b2.Clean b2.Keep b2.Expiry b2.Window b2.Will b2.Present b2.Code b2.Subs b0.Filters b2.Codes))) (
 aoE (C51 Γ) Λ2 J (aA.enc b0) (aA.enc b1) (aA.enc b2)) := by kernel_rfl
theorem ayu (b0 b1 b2 : aA) : cJ SE (C51 Γ) Λ2 J 51 0 [1, 1, 1, 1, 1, 1, 1, 0, 0] (bA [(1, .ptr 1000000000 0), (2, .ptr 1000000001 0), (3, .ptr 1000000002 0)] [⟨31, (List.map AV.d (aA.enc b0))⟩, ⟨31, (List.map AV.d (aA.enc b1))⟩, ⟨31, (List.map AV.d (aA.enc b2))⟩] [] [] []) =
 cond (b0.Kind == 8) (
 aoG (C51 Γ) Λ2 J (aA.enc b0) (aA.enc b1) (aA.enc (aA.mk b2.Kind b2.ID b2.Dup b2.Message b2.Client b2.User b2.Clean b2.Keep b2.Expiry b2.Window b2.Will b2.Present b2.Code b0.Subs b2.Filters b2.Codes))) (
 aoG (C51 Γ) Λ2 J (aA.enc b0) (aA.enc b1) (aA.enc b2)) := by kernel_rfl
theorem ayC (b0 b1 b2 : aA) : cJ SE (C51 Γ) Λ2 J 51 0 [1, 1, 1, 1, 1, 1, 0, 0] (bA [(1, .ptr 1000000000 0), (2, .ptr 1000000001 0), (3, .ptr 1000000002 0)] [⟨31, (List.map AV.d (aA.enc b0))⟩, ⟨31, (List.map AV.d (aA.enc b1))⟩, ⟨31, (List.map AV.d (aA.enc b2))⟩] [] [] []) =
 cond (b0.Kind == 3) (
 aol (C51 Γ) Λ2 J (aA.enc b0) (aA.enc b1) (aA.enc (aA.mk b2.Kind b2.ID b0.Dup b0.Message b2.Client b2.User b2.Clean b2.Keep b2.Expiry b2.Window b2.Will b2.Present b2.Code b2.Subs b2.Filters b2.Codes))) (
 aol (C51 Γ) Λ2 J (aA.enc b0) (aA.enc b1) (aA.enc b2)) := by kernel_rfl
theorem axC (b0 b1 b2 : aA) : cJ SE (C51 Γ) Λ2 J 51 0 [1, 1, 1, 1, 1, 0, 0] (bA [(1, .ptr 1000000000 0), (2, .ptr 1000000001 0), (3, .ptr 1000000002 0)] [⟨31, (List.map AV.d (aA.enc b0))⟩, ⟨31, (List.map AV.d (aA.enc b1))⟩, ⟨31, (List.map AV.d (aA.enc b2))⟩] [] [] []) =
 cond (b0.Kind == 2) (
 akY (C51 Γ) Λ2 J (aA.enc b0) (aA.enc b1) (aA.enc (aA.mk b2.Kind b2.ID b2.Dup b2.Message b2.Client b2.User b2.Clean b2.Keep b2.Expiry b2.Window b2.Will b2.Present b0.Code b2.Subs b2.Filters b2.Codes))) (
 cond (b0.Kind == 14) (
 akY (C51 Γ) Λ2 J (aA.enc b0) (aA.enc b1) (aA.enc (aA.mk b2.Kind b2.ID b2.Dup b2.Message b2.Client b2.User b2.Clean b2.Keep b2.Expiry b2.Window b2.Will b2.Present b0.Code b2.Subs b2.Filters b2.Codes))) (
 akY (C51 Γ) Λ2 J (aA.enc b0) (aA.enc b1) (aA.enc b2))) := by kernel_rfl
theorem ax1 (b0 b1 b2 : aA) : cJ SE (C51 Γ) Λ2 J 51 0 [1, 1, 1, 1, 0, 0] (bA [(1, .ptr 1000000000 0), (2, .ptr 1000000001 0), (3, .ptr 1000000002 0)] [⟨31, (List.map AV.d (aA.enc b0))⟩, ⟨31, (List.map AV.d (aA.enc b1))⟩, ⟨31, (List.map AV.d (aA.enc b2))⟩] [] [] []) =
 cond (b0.Kind == 2) (
 an5 (C51 Γ) Λ2 J (aA.enc b0) (aA.enc b1) (aA.enc (aA.mk b2.Kind b2.ID b2.Dup b2.Message b2.Client b2.User b2.Clean b2.Keep b2.Expiry b2.Window b2.Will b0.Present b2.Code b2.Subs b2.Filters b2.Codes))) (
 an5 (C51 Γ) Λ2 J (aA.enc b0) (aA.enc b1) (aA.enc b2)) := by kernel_rfl
theorem aA0 (b0 b1 b2 : aA) : cJ SE (C51 Γ) Λ2 J 51 0 [1, 1, 1, 0, 0] (bA [(1, .ptr 1000000000 0), (2, .ptr 1000000001 0), (3, .ptr 1000000002 0)] [⟨31, (List.map AV.d (aA.enc b0))⟩, ⟨31, (List.map AV.d (aA.enc b1))⟩, ⟨31, (List.map AV.d (aA.enc b2))⟩] [] [] []) =
 cond (b0.Kind == 1) (
 ao7 (C51 Γ) Λ2 J (aA.enc b0) (aA.enc b1) (aA.enc (aA.mk b2.Kind b2.ID b2.Dup b2.Message b0.Client b0.User b0.Clean b0.Keep b0.Expiry b0.Window b0.Will b2.Present b2.Code b2.Subs b2.Filters b2.Codes))) (
 ao7 (C51 Γ) Λ2 J (aA.enc b0) (aA.enc b1) (aA.enc b2)) := by kernel_rfl
end
abbrev X51 : aR := C51 gG
theorem aij : X51 = aS gG := rfl
abbrev aw5 := aoE X51 (cB SE gG (SE.hl 51) (SE.hr 51)) (J0 SE X51)
abbrev ayN := aoG X51 (cB SE gG (SE.hl 51) (SE.hr 51)) (J0 SE X51)
abbrev axh := aol X51 (cB SE gG (SE.hl 51) (SE.hr 51)) (J0 SE X51)
abbrev ayc := akY X51 (cB SE gG (SE.hl 51) (SE.hr 51)) (J0 SE X51)
abbrev axE := an5 X51 (cB SE gG (SE.hl 51) (SE.hr 51)) (J0 SE X51)
abbrev axn := ao7 X51 (cB SE gG (SE.hl 51) (SE.hr 51)) (J0 SE X51)
abbrev azP := akK X51 (cB SE gG (SE.hl 51) (SE.hr 51)) (J0 SE X51)
theorem yR (b0 b1 b2 : aA) : Le (Option.map dY (qN b0 b1 b2)) (aw5 (aA.enc b0) (aA.enc b1) (aA.enc b2)) := by
 refine Le.trans ?_ (le_of_eq ((bD aij).trans (azc ..)).symm)
 unfold qN
 refine lC ?_ ?_
 ·exact aG rfl
 ·refine lC ?_ ?_
  ·exact aG rfl
  ·exact aG rfl
theorem yQ (b0 b1 b2 : aA) : Le (Option.map dY (qT b0 b1 b2)) (ayN (aA.enc b0) (aA.enc b1) (aA.enc b2)) := by
 refine Le.trans ?_ (le_of_eq ((bD aij).trans (axV ..)).symm)
 unfold qT
 refine lC ?_ ?_
 ·exact yR b0 b1 (aA.mk b2.Kind b2.ID b2.Dup b2.Message b2.Client b2.User b2.Clean b2.Keep b2.Expiry b2.Window b2.Will b2.Present b2.Code b2.Subs b0.Filters b2.Codes)
 ·exact yR b0 b1 b2
theorem yS (b0 b1 b2 : aA) : Le (Option.map dY (qV b0 b1 b2)) (axh (aA.enc b0) (aA.enc b1) (aA.enc b2)) := by
 refine Le.trans ?_ (le_of_eq ((bD aij).trans (ayu ..)).symm)
 unfold qV
 refine lC ?_ ?_
 ·exact yQ b0 b1 (aA.mk b2.Kind b2.ID b2.Dup b2.Message b2.Client b2.User b2.Clean b2.Keep b2.Expiry b2.Window b2.Will b2.Present b2.Code b0.Subs b2.Filters b2.Codes)
 ·exact yQ b0 b1 b2
theorem sD (b0 b1 b2 : aA) : Le (Option.map dY (mZ b0 b1 b2)) (ayc (aA.enc b0) (aA.enc b1) (aA.enc b2)) := by
 refine Le.trans ?_ (le_of_eq ((bD aij).trans (ayC ..)).symm)
 unfold mZ
 refine lC ?_ ?_
 ·exact yS b0 b1 (aA.mk b2.Kind b2.ID b0.Dup b0.Message b2.Client b2.User b2.Clean b2.Keep b2.Expiry b2.Window b2.Will b2.Present b2.Code b2.Subs b2.Filters b2.Codes)
 ·exact yS b0 b1 b2
theorem yN (b0 b1 b2 : aA) : Le (Option.map dY (qH b0 b1 b2)) (axE (aA.enc b0) (aA.enc b1) (aA.enc b2)) := by
 refine Le.trans ?_ (le_of_eq ((bD aij).trans (axC ..)).symm)
 unfold qH
 refine lC ?_ ?_
 ·exact sD b0 b1 (aA.mk b2.Kind b2.ID b2.Dup b2.Message b2.Client b2.User b2.Clean b2.Keep b2.Expiry b2.Window b2.Will b2.Present b0.Code b2.Subs b2.Filters b2.Codes)
 ·refine lC ?_ ?_
  ·exact sD b0 b1 (aA.mk b2.Kind b2.ID b2.Dup b2.Message b2.Client b2.User b2.Clean b2.Keep b2.Expiry b2.Window b2.Will b2.Present b0.Code b2.Subs b2.Filters b2.Codes)
  ·exact sD b0 b1 b2
theorem yO (b0 b1 b2 : aA) : Le (Option.map dY (qU b0 b1 b2)) (axn (aA.enc b0) (aA.enc b1) (aA.enc b2)) := by
 refine Le.trans ?_ (le_of_eq ((bD aij).trans (ax1 ..)).symm)
 unfold qU
 refine lC ?_ ?_
 ·exact yN b0 b1 (aA.mk b2.Kind b2.ID b2.Dup b2.Message b2.Client b2.User b2.Clean b2.Keep b2.Expiry b2.Window b2.Will b0.Present b2.Code b2.Subs b2.Filters b2.Codes)
 ·exact yN b0 b1 b2
theorem oJ (b0 b1 b2 : aA) : Le (Option.map dY (lH b0 b1 b2)) (azP (aA.enc b0) (aA.enc b1) (aA.enc b2)) := by
 refine Le.trans ?_ (le_of_eq ((bD aij).trans (aA0 ..)).symm)
 unfold lH
 refine lC ?_ ?_
 ·exact yO b0 b1 (aA.mk b2.Kind b2.ID b2.Dup b2.Message b0.Client b0.User b0.Clean b0.Keep b0.Expiry b0.Window b0.Will b2.Present b2.Code b2.Subs b2.Filters b2.Codes)
 ·exact yO b0 b1 b2
theorem ahE (p0 : aA) : Le (Option.map dY (uS p0)) (bF SE 51 [aA.av p0] [] []) := by
 refine aZ aij rfl ?_
 refine Le.trans ?_ (le_of_eq (T51 ..).symm)
 unfold uS
 refine lC ?_ ?_
 ·(try simp only [EN]); exact oJ p0 ((aA.mk 0 0 false (aF.mk [] [] 0 false 0 0 [] 0 []) [] [] false 0 0 0 (aV.mk false 0 (aF.mk [] [] 0 false 0 0 [] 0 [])) false 0 [] [] [])) ((aA.mk p0.Kind p0.ID false (aF.mk [] [] 0 false 0 0 [] 0 []) [] [] false 0 0 0 (aV.mk false 0 (aF.mk [] [] 0 false 0 0 [] 0 [])) false 0 [] [] []))
 ·refine lC ?_ ?_
  ·refine lC ?_ ?_
   ·(try simp only [EN]); exact oJ p0 ((aA.mk 0 0 false (aF.mk [] [] 0 false 0 0 [] 0 []) [] [] false 0 0 0 (aV.mk false 0 (aF.mk [] [] 0 false 0 0 [] 0 [])) false 0 [] [] [])) ((aA.mk p0.Kind p0.ID false (aF.mk [] [] 0 false 0 0 [] 0 []) [] [] false 0 0 0 (aV.mk false 0 (aF.mk [] [] 0 false 0 0 [] 0 [])) false 0 [] [] []))
   ·(try simp only [EN]); exact oJ p0 ((aA.mk 0 0 false (aF.mk [] [] 0 false 0 0 [] 0 []) [] [] false 0 0 0 (aV.mk false 0 (aF.mk [] [] 0 false 0 0 [] 0 [])) false 0 [] [] [])) ((aA.mk p0.Kind 0 false (aF.mk [] [] 0 false 0 0 [] 0 []) [] [] false 0 0 0 (aV.mk false 0 (aF.mk [] [] 0 false 0 0 [] 0 [])) false 0 [] [] []))
  ·(try simp only [EN]); exact oJ p0 ((aA.mk 0 0 false (aF.mk [] [] 0 false 0 0 [] 0 []) [] [] false 0 0 0 (aV.mk false 0 (aF.mk [] [] 0 false 0 0 [] 0 [])) false 0 [] [] [])) ((aA.mk p0.Kind 0 false (aF.mk [] [] 0 false 0 0 [] 0 []) [] [] false 0 0 0 (aV.mk false 0 (aF.mk [] [] 0 false 0 0 [] 0 [])) false 0 [] [] []))
section
variable (Γ : Fun)  (Λ2 J : Lam)
def ay3 : aR := aS Γ
theorem aDW (p0 : Int) : bK SE (ay3 Γ) Λ2 J 108 [.d (.int .u8 p0)] [] [] =
 cond (decide (p0 ≥ 97)) (
 (rB (decide (p0 ≤ 122)))) (
 (rB false)) := by kernel_rfl
end
abbrev aCO : aR := ay3 gG
theorem aAl : aCO = aS gG := rfl
theorem aaQ (p0 : Int) : Le (Option.map packet_is_out (nK p0)) (bF SE 108 [.d (.int .u8 p0)] [] []) := by
 refine aZ aAl rfl ?_
 refine Le.trans ?_ (le_of_eq (aDW ..).symm)
 unfold nK
 refine lC ?_ ?_
 ·exact aG rfl
 ·exact aG rfl
section
variable (Γ : Fun)  (Λ2 J : Lam)
def ayP : aR := aS Γ
theorem aEo (p0 : Int) : bK SE (ayP Γ) Λ2 J 109 [.d (.int .u8 p0)] [] [] =
 cond (decide (p0 ≥ 48)) (
 (rB (decide (p0 ≤ 57)))) (
 (rB false)) := by kernel_rfl
end
abbrev aDH : aR := ayP gG
theorem aAv : aDH = aS gG := rfl
theorem agy (p0 : Int) : Le (Option.map packet_is_out (p7 p0)) (bF SE 109 [.d (.int .u8 p0)] [] []) := by
 refine aZ aAv rfl ?_
 refine Le.trans ?_ (le_of_eq (aEo ..).symm)
 unfold p7
 refine lC ?_ ?_
 ·exact aG rfl
 ·exact aG rfl
def ak6 (C : aR) (Λ2 J : Lam) (a0 : Str) (a1 : Int) : Res := lab SE C Λ2 J 86 0 [1, 1, 0, 1, 0] (bA [(0, .d (.str a0)), (3, .d (.int .i64 a1))] [] [] [] [])
def avq (C : aR) (Λ2 J : Lam) (a0 : Str) : Res := lab SE C Λ2 J 86 0 [1, 1, 0, 0] (bA [(0, .d (.str a0))] [] [] [] [])
section
variable (Γ : Fun) (γ108 γ109 : Gm (Bool)) (Λ2 J : Lam)
def C86 : aR := bE (bE (aS Γ) 108 packet_is_out γ108) 109 packet_is_out γ109
theorem T86 (p0 : Str) : bK SE (C86 Γ γ108 γ109) Λ2 J 86 [.d (.str p0)] [] [] =
 cond (decide ((List.length p0 : Int) < 1)) (
 (rB false)) (
 cond (decide ((List.length p0 : Int) > 16)) (
 (rB false)) (
 cond (decide (0 ≤ 0) && decide (0 < (List.length p0 : Int))) (
 γ108 [.d (.int .u8 (UInt8.toNat (List.getD p0 (Int.toNat 0) 0) : Int))] [] [] fun r0 =>
 cond (!r0) (
  (rB false)) (
 avq (C86 Γ γ108 γ109) Λ2 J p0)) none)) := by kernel_rfl
theorem aAP (x0 : Str) (x3 : Int) : cJ SE (C86 Γ γ108 γ109) Λ2 J 86 0 [1, 1, 0, 1, 0] (bA [(0, .d (.str x0)), (3, .d (.int .i64 x3))] [] [] [] []) =
 cond (decide (x3 < (List.length x0 : Int))) (
 cond (iB x3 (List.length x0 : Int)) (
  γ108 [.d (.int .u8 (UInt8.toNat (List.getD x0 (Int.toNat x3) 0) : Int))] [] [] fun r1 =>
  cond (!r1) (
  cond (iB x3 (List.length x0 : Int)) (
   γ109 [.d (.int .u8 (UInt8.toNat (List.getD x0 (Int.toNat x3) 0) : Int))] [] [] fun r2 =>
   cond (!r2) (
   cond (iB x3 (List.length x0 : Int)) (
    cond ((UInt8.toNat (List.getD x0 (Int.toNat x3) 0) : Int) != 45) (
    (rB false)) (
    ak6 (C86 Γ γ108 γ109) Λ2 J x0 (w6 (x3 + 1)))) none) (
   ak6 (C86 Γ γ108 γ109) Λ2 J x0 (w6 (x3 + 1)))) none) (
  ak6 (C86 Γ γ108 γ109) Λ2 J x0 (w6 (x3 + 1)))) none) (
 (rB true)) := by kernel_rfl
theorem aBX (x0 : Str) : cJ SE (C86 Γ γ108 γ109) Λ2 J 86 0 [1, 1, 0, 0] (bA [(0, .d (.str x0))] [] [] [] []) =
 ak6 (C86 Γ γ108 γ109) Λ2 J x0 0 := by kernel_rfl
end
abbrev X86 : aR := C86 gG (cT 108 packet_is_out) (cT 109 packet_is_out)
theorem at7 : X86 = aS gG := by unfold X86 C86; repeat rw [bH fun _ h => h]
abbrev aBt := ak6 X86 (cB SE gG (SE.hl 86) (SE.hr 86)) (J0 SE X86)
abbrev aB4 := avq X86 (cB SE gG (SE.hl 86) (SE.hr 86)) (J0 SE X86)
theorem afr : ∀ (fu : Nat) (x0 : Str) (x3 : Int), Le (Option.map packet_is_out (gM fu x0 x3)) (aBt x0 x3) := by
 intro fu
 induction fu with
 | zero => intros; exact le_none
 | succ fu ih =>
  intro x0 x3
  refine Le.trans ?_ (le_of_eq ((bD at7).trans (aAP ..)).symm)
  unfold gM
  refine lC ?_ ?_
  ·refine lF ?_
   refine lQ eX packet_is_inj (aaQ _) fun r1 _ => ?_
   refine lC ?_ ?_
   ·refine lF ?_
    refine lQ eX packet_is_inj (agy _) fun r2 _ => ?_
    refine lC ?_ ?_
    ·refine lF ?_
     refine lC ?_ ?_
     ·exact aG rfl
     ·exact ih x0 (w6 (x3 + 1))
    ·exact ih x0 (w6 (x3 + 1))
   ·exact ih x0 (w6 (x3 + 1))
  ·exact aG rfl
theorem afN (x0 : Str) : Le (Option.map packet_is_out (rZ x0)) (aB4 x0) := by
 refine Le.trans ?_ (le_of_eq ((bD at7).trans (aBX ..)).symm)
 unfold rZ
 exact afr fuel x0 0
theorem rY (p0 : Str) : Le (Option.map packet_is_out (iG p0)) (bF SE 86 [.d (.str p0)] [] []) := by
 refine aZ at7 rfl ?_
 refine Le.trans ?_ (le_of_eq (T86 ..).symm)
 unfold iG
 refine lC ?_ ?_
 ·exact aG rfl
 ·refine lC ?_ ?_
  ·exact aG rfl
  ·refine lF ?_
   refine lQ eX packet_is_inj (aaQ _) fun r0 _ => ?_
   refine lC ?_ ?_
   ·exact aG rfl
   ·exact afN p0
def aob (C : aR) (Λ2 J : Lam) (a0 : Str) (a1 a2 : Int) : Res := lab SE C Λ2 J 123 0 [1, 0, 1, 0] (bA [(0, .d (.str a0)), (1, .d (.int .u8 a1)), (5, .d (.int .i64 a2))] [] [] [] [])
section
variable (Γ : Fun)  (Λ2 J : Lam)
def ao2 : aR := aS Γ
theorem aC0 (p0 : Str) (p1 : Int) : bK SE (ao2 Γ) Λ2 J 123 [.d (.str p0), .d (.int .u8 p1)] [] [] =
 aob (ao2 Γ) Λ2 J p0 p1 0 := by kernel_rfl
theorem azF (x0 : Str) (x1 x5 : Int) : cJ SE (ao2 Γ) Λ2 J 123 0 [1, 0, 1, 0] (bA [(0, .d (.str x0)), (1, .d (.int .u8 x1)), (5, .d (.int .i64 x5))] [] [] [] []) =
 cond (decide (x5 < (List.length x0 : Int))) (
 cond (iB x5 (List.length x0 : Int)) (
  cond ((UInt8.toNat (List.getD x0 (Int.toNat x5) 0) : Int) == x1) (
  (rB true)) (
  aob (ao2 Γ) Λ2 J x0 x1 (w6 (x5 + 1)))) none) (
 (rB false)) := by kernel_rfl
end
abbrev auy : aR := ao2 gG
theorem avR : auy = aS gG := rfl
abbrev azp := aob auy (cB SE gG (SE.hl 123) (SE.hr 123)) (J0 SE auy)
theorem agc : ∀ (fu : Nat) (x0 : Str) (x1 x5 : Int), Le (Option.map packet_is_out (kD fu x0 x1 x5)) (azp x0 x1 x5) := by
 intro fu
 induction fu with
 | zero => intros; exact le_none
 | succ fu ih =>
  intro x0 x1 x5
  refine Le.trans ?_ (le_of_eq ((bD avR).trans (azF ..)).symm)
  unfold kD
  refine lC ?_ ?_
  ·refine lF ?_
   refine lC ?_ ?_
   ·exact aG rfl
   ·exact ih x0 x1 (w6 (x5 + 1))
  ·exact aG rfl
theorem oV (p0 : Str) (p1 : Int) : Le (Option.map packet_is_out (jX p0 p1)) (bF SE 123 [.d (.str p0), .d (.int .u8 p1)] [] []) := by
 refine aZ avR rfl ?_
 refine Le.trans ?_ (le_of_eq (aC0 ..).symm)
 unfold jX
 exact agc fuel p0 p1 0
def alQ (C : aR) (Λ2 J : Lam) (a0 : Str) (a1 a2 : Int) (a3 : List (List D)) : Res := lab SE C Λ2 J 125 0 [1, 1, 1, 0, 1, 0] (bA [(0, .d (.str a0)), (3, .row 3003), (4, .d (.int .i64 a1)), (5, .d (.int .i64 a2))] [] [] [] [(3003, ⟨[.str], 9, 16, a3⟩)])
section
variable (Γ : Fun)  (Λ2 J : Lam)
def aml : aR := aS Γ
theorem aDm (p0 : Str) : bK SE (aml Γ) Λ2 J 125 [.d (.str p0)] [] [] =
 alQ (aml Γ) Λ2 J p0 0 0 (List.map aY []) := by kernel_rfl
theorem awZ (x0 : Str) (x4 x5 : Int) (w3003 : List Str) : cJ SE (aml Γ) Λ2 J 125 0 [1, 1, 1, 0, 1, 0] (bA [(0, .d (.str x0)), (3, .row 3003), (4, .d (.int .i64 x4)), (5, .d (.int .i64 x5))] [] [] [] [(3003, ⟨[.str], 9, 16, (List.map aY w3003)⟩)]) =
 cond (decide (x5 < (List.length x0 : Int))) (
 cond (iB x5 (List.length x0 : Int)) (
  cond ((UInt8.toNat (List.getD x0 (Int.toNat x5) 0) : Int) == 47) (
  cond (decide (0 ≤ x5) && decide (x5 ≤ ((List.length x0) : Int))) (
   cond (decide (0 ≤ x4) && decide (x4 ≤ x5)) (
   cond (decide ((lM aY w3003 + lM aY [(dI x0 (some x4) (some x5))]) * 16 ≤ 140737488355328)) (
    alQ (aml Γ) Λ2 J x0 (w6 (x5 + 1)) (w6 (x5 + 1)) (((List.map aY w3003) ++ (List.map aY [(dI x0 (some x4) (some x5))])))) none) none) none) (
  alQ (aml Γ) Λ2 J x0 x4 (w6 (x5 + 1)) (List.map aY w3003))) none) (
 cond (decide (0 ≤ x4) && decide (x4 ≤ ((List.length x0) : Int))) (
 cond (decide ((lM aY w3003 + lM aY [(dI x0 (some x4) none)]) * 16 ≤ 140737488355328)) (
  (some (.ret [.row 0] [] [⟨[.str], 9, 16, ((List.map aY w3003) ++ (List.map aY [(dI x0 (some x4) none)]))⟩]))) none) none) := by kernel_rfl
end
abbrev aua : aR := aml gG
theorem avp : aua = aS gG := rfl
abbrev azl := alQ aua (cB SE gG (SE.hl 125) (SE.hr 125)) (J0 SE aua)
theorem adv : ∀ (fu : Nat) (x0 : Str) (x4 x5 : Int) (w3003 : List Str), Le (Option.map eQ (gR fu x0 x4 x5 w3003)) (azl x0 x4 x5 (List.map aY w3003)) := by
 intro fu
 induction fu with
 | zero => intros; exact le_none
 | succ fu ih =>
  intro x0 x4 x5 w3003
  refine Le.trans ?_ (le_of_eq ((bD avp).trans (awZ ..)).symm)
  unfold gR
  refine lC ?_ ?_
  ·refine lF ?_
   refine lC ?_ ?_
   ·refine lF ?_
    refine lF ?_
    refine lG (by simp only [EN]) ?_
    (try simp only [EN]); exact ih x0 (w6 (x5 + 1)) (w6 (x5 + 1)) ((w3003 ++ [(dI x0 (some x4) (some x5))]))
   ·exact ih x0 x4 (w6 (x5 + 1)) w3003
  ·refine lF ?_
   refine lG (by simp only [EN]) ?_
   exact aG (by first | rfl | simp only [EN, eQ] <;> rfl)
theorem aax (p0 : Str) : Le (Option.map eQ (oX p0)) (bF SE 125 [.d (.str p0)] [] []) := by
 refine aZ avp rfl ?_
 refine Le.trans ?_ (le_of_eq (aDm ..).symm)
 unfold oX
 (try simp only [EN]); exact adv fuel p0 0 0 []
section
variable (Γ : Fun) (γ123 : Gm (Bool)) (γ125 : Gm ((List Str))) (Λ2 J : Lam)
def avf : aR := bE (bE (aS Γ) 123 packet_is_out γ123) 125 eQ γ125
theorem aC7 (p0 : Str) : bK SE (avf Γ γ123 γ125) Λ2 J 122 [.d (.str p0)] [] [] =
 cond (decide ((List.length p0 : Int) ≥ 1)) (
 cond (decide ((List.length p0 : Int) ≤ 64)) (
  γ123 [.d (.str p0), .d (.int .u8 0)] [] [] fun r0 =>
  cond (!r0) (
  γ125 [.d (.str p0)] [] [] fun r1 =>
  (rB (decide ((lM aY r1 : Int) ≤ 8)))) (
  (rB false))) (
 (rB false))) (
 (rB false)) := by kernel_rfl
end
abbrev azn : aR := avf gG (cT 123 packet_is_out) (cT 125 eQ)
theorem aBx : azn = aS gG := by unfold azn avf; repeat rw [bH fun _ h => h]
theorem aaE (p0 : Str) : Le (Option.map packet_is_out (nH p0)) (bF SE 122 [.d (.str p0)] [] []) := by
 refine aZ aBx rfl ?_
 refine Le.trans ?_ (le_of_eq (aC7 ..).symm)
 unfold nH
 refine lC ?_ ?_
 ·refine lC ?_ ?_
  ·refine lQ eX packet_is_inj (oV _ _) fun r0 _ => ?_
   refine lC ?_ ?_
   ·refine lQ eX y8 (aax _) fun r1 _ => ?_
    exact aG (by first | rfl | simp only [EN, packet_is_out] <;> rfl)
   ·exact aG rfl
  ·exact aG rfl
 ·exact aG rfl
section
variable (Γ : Fun) (γ122 γ123 : Gm (Bool)) (Λ2 J : Lam)
def atM : aR := bE (bE (aS Γ) 122 packet_is_out γ122) 123 packet_is_out γ123
theorem aD0 (p0 : Str) : bK SE (atM Γ γ122 γ123) Λ2 J 110 [.d (.str p0)] [] [] =
 γ122 [.d (.str p0)] [] [] fun r0 =>
 cond r0 (
 γ123 [.d (.str p0), .d (.int .u8 43)] [] [] fun r1 =>
 cond (!r1) (
  γ123 [.d (.str p0), .d (.int .u8 35)] [] [] fun r2 =>
  (rB (!r2))) (
 (rB false))) (
 (rB false)) := by kernel_rfl
end
abbrev aw9 : aR := atM gG (cT 122 packet_is_out) (cT 123 packet_is_out)
theorem aBQ : aw9 = aS gG := by unfold aw9 atM; repeat rw [bH fun _ h => h]
theorem ag8 (p0 : Str) : Le (Option.map packet_is_out (p8 p0)) (bF SE 110 [.d (.str p0)] [] []) := by
 refine aZ aBQ rfl ?_
 refine Le.trans ?_ (le_of_eq (aD0 ..).symm)
 unfold p8
 refine lQ eX packet_is_inj (aaE _) fun r0 _ => ?_
 refine lC ?_ ?_
 ·refine lQ eX packet_is_inj (oV _ _) fun r1 _ => ?_
  refine lC ?_ ?_
  ·refine lQ eX packet_is_inj (oV _ _) fun r2 _ => ?_
   exact aG rfl
  ·exact aG rfl
 ·exact aG rfl
def aaS (C : aR) (Λ2 J : Lam) (a0 : Str) (a1 : Int) : Res := lab SE C Λ2 J 124 0 [1, 1, 0, 1, 0] (bA [(0, .d (.str a0)), (3, .d (.int .i64 a1))] [] [] [] [])
def atp (C : aR) (Λ2 J : Lam) (a0 : Str) : Res := lab SE C Λ2 J 124 0 [1, 1, 0, 0] (bA [(0, .d (.str a0))] [] [] [] [])
section
variable (Γ : Fun)  (Λ2 J : Lam)
def abl : aR := aS Γ
theorem aDJ (p0 : Str) : bK SE (abl Γ) Λ2 J 124 [.d (.str p0)] [] [] =
 cond (decide ((List.length p0 : Int) < 1)) (
 (rB false)) (
 cond (decide ((List.length p0 : Int) > 16)) (
 (rB false)) (
 atp (abl Γ) Λ2 J p0)) := by kernel_rfl
theorem azf (x0 : Str) (x3 : Int) : cJ SE (abl Γ) Λ2 J 124 0 [1, 1, 0, 1, 0] (bA [(0, .d (.str x0)), (3, .d (.int .i64 x3))] [] [] [] []) =
 cond (decide (x3 < (List.length x0 : Int))) (
 cond (iB x3 (List.length x0 : Int)) (
  cond (decide ((UInt8.toNat (List.getD x0 (Int.toNat x3) 0) : Int) ≥ 97)) (
  cond (!(decide ((UInt8.toNat (List.getD x0 (Int.toNat x3) 0) : Int) ≤ 122))) (
   cond (decide ((UInt8.toNat (List.getD x0 (Int.toNat x3) 0) : Int) ≥ 48)) (
   cond (!(decide ((UInt8.toNat (List.getD x0 (Int.toNat x3) 0) : Int) ≤ 57))) (
    cond ((UInt8.toNat (List.getD x0 (Int.toNat x3) 0) : Int) != 45) (
    (rB false)) (
    aaS (abl Γ) Λ2 J x0 (w6 (x3 + 1)))) (
   aaS (abl Γ) Λ2 J x0 (w6 (x3 + 1)))) (
   cond ((UInt8.toNat (List.getD x0 (Int.toNat x3) 0) : Int) != 45) (
   (rB false)) (
   aaS (abl Γ) Λ2 J x0 (w6 (x3 + 1))))) (
  aaS (abl Γ) Λ2 J x0 (w6 (x3 + 1)))) (
  cond (decide ((UInt8.toNat (List.getD x0 (Int.toNat x3) 0) : Int) ≥ 48)) (
  cond (!(decide ((UInt8.toNat (List.getD x0 (Int.toNat x3) 0) : Int) ≤ 57))) (
   cond ((UInt8.toNat (List.getD x0 (Int.toNat x3) 0) : Int) != 45) (
   (rB false)) (
   aaS (abl Γ) Λ2 J x0 (w6 (x3 + 1)))) (
  aaS (abl Γ) Λ2 J x0 (w6 (x3 + 1)))) (
  cond ((UInt8.toNat (List.getD x0 (Int.toNat x3) 0) : Int) != 45) (
  (rB false)) (
  aaS (abl Γ) Λ2 J x0 (w6 (x3 + 1)))))) none) (
 (rB true)) := by kernel_rfl
theorem azr (x0 : Str) : cJ SE (abl Γ) Λ2 J 124 0 [1, 1, 0, 0] (bA [(0, .d (.str x0))] [] [] [] []) =
 aaS (abl Γ) Λ2 J x0 0 := by kernel_rfl
end
abbrev aov : aR := abl gG
theorem ary : aov = aS gG := rfl
abbrev ayT := aaS aov (cB SE gG (SE.hl 124) (SE.hr 124)) (J0 SE aov)
abbrev axY := atp aov (cB SE gG (SE.hl 124) (SE.hr 124)) (J0 SE aov)
theorem af2 : ∀ (fu : Nat) (x0 : Str) (x3 : Int), Le (Option.map packet_is_out (eL fu x0 x3)) (ayT x0 x3) := by
 intro fu
 induction fu with
 | zero => intros; exact le_none
 | succ fu ih =>
  intro x0 x3
  refine Le.trans ?_ (le_of_eq ((bD ary).trans (azf ..)).symm)
  unfold eL
  refine lC ?_ ?_
  ·refine lF ?_
   refine lC ?_ ?_
   ·refine lC ?_ ?_
    ·refine lC ?_ ?_
     ·refine lC ?_ ?_
      ·refine lC ?_ ?_
       ·exact aG rfl
       ·exact ih x0 (w6 (x3 + 1))
      ·exact ih x0 (w6 (x3 + 1))
     ·refine lC ?_ ?_
      ·exact aG rfl
      ·exact ih x0 (w6 (x3 + 1))
    ·exact ih x0 (w6 (x3 + 1))
   ·refine lC ?_ ?_
    ·refine lC ?_ ?_
     ·refine lC ?_ ?_
      ·exact aG rfl
      ·exact ih x0 (w6 (x3 + 1))
     ·exact ih x0 (w6 (x3 + 1))
    ·refine lC ?_ ?_
     ·exact aG rfl
     ·exact ih x0 (w6 (x3 + 1))
  ·exact aG rfl
theorem agr (x0 : Str) : Le (Option.map packet_is_out (sO x0)) (axY x0) := by
 refine Le.trans ?_ (le_of_eq ((bD ary).trans (azr ..)).symm)
 unfold sO
 exact af2 fuel x0 0
theorem aiL (p0 : Str) : Le (Option.map packet_is_out (sX p0)) (bF SE 124 [.d (.str p0)] [] []) := by
 refine aZ ary rfl ?_
 refine Le.trans ?_ (le_of_eq (aDJ ..).symm)
 unfold sX
 refine lC ?_ ?_
 ·exact aG rfl
 ·refine lC ?_ ?_
  ·exact aG rfl
  ·exact agr p0
def akQ (C : aR) (Λ2 J : Lam) (a0 : List (List D)) (a1 : Int) : Res := lab SE C Λ2 J 111 0 [1, 1, 0, 1, 0] (bA [(0, .d (.sl aC.ks a0)), (3, .d (.int .i64 a1))] [] [] [] [])
section
variable (Γ : Fun) (γ124 : Gm (Bool)) (Λ2 J : Lam)
def akD : aR := bE (aS Γ) 124 packet_is_out γ124
theorem aDy (p0 : List aC) : bK SE (akD Γ γ124) Λ2 J 111 [.d (.sl aC.ks (List.map aC.enc p0))] [] [] =
 cond (decide ((lM aC.enc p0 : Int) > 8)) (
 (rI 5)) (
 akQ (akD Γ γ124) Λ2 J (List.map aC.enc p0) 0) := by kernel_rfl
theorem ay4 (x0 : List aC) (x3 : Int) : cJ SE (akD Γ γ124) Λ2 J 111 0 [1, 1, 0, 1, 0] (bA [(0, .d (.sl aC.ks (List.map aC.enc x0))), (3, .d (.int .i64 x3))] [] [] [] []) =
 cond (decide (x3 < (lM aC.enc x0 : Int))) (
 cond (iB x3 (lM aC.enc x0 : Int)) (
  γ124 [.d (.str (bJ (cE aC.enc x0 x3 0)))] [] [] fun r0 =>
  cond (!r0) (
  (rI 16)) (
  cond (iB x3 (lM aC.enc x0 : Int)) (
  cond (decide ((List.length (bJ (cE aC.enc x0 x3 1)) : Int) > 160)) (
   (rI 5)) (
  cond (decide (x3 > 0)) (
   cond (iB x3 (lM aC.enc x0 : Int)) (
   cond (iB (w6 (x3 - 1)) (lM aC.enc x0 : Int)) (
    cond (Op.bytesLess (bJ (cE aC.enc x0 x3 0)) (bJ (cE aC.enc x0 (w6 (x3 - 1)) 0)) || (bJ (cE aC.enc x0 x3 0)) == (bJ (cE aC.enc x0 (w6 (x3 - 1)) 0))) (
    (rI 16)) (
    akQ (akD Γ γ124) Λ2 J (List.map aC.enc x0) (w6 (x3 + 1)))) none) none) (
  akQ (akD Γ γ124) Λ2 J (List.map aC.enc x0) (w6 (x3 + 1))))) none)) none) (
 (rI 0)) := by kernel_rfl
end
abbrev arE : aR := akD gG (cT 124 packet_is_out)
theorem avS : arE = aS gG := by unfold arE akD; rw [bH fun _ h => h]
abbrev awY := akQ arE (cB SE gG (SE.hl 111) (SE.hr 111)) (J0 SE arE)
theorem aeC : ∀ (fu : Nat) (x0 : List aC) (x3 : Int), Le (Option.map aJ (hX fu x0 x3)) (awY (List.map aC.enc x0) x3) := by
 intro fu
 induction fu with
 | zero => intros; exact le_none
 | succ fu ih =>
  intro x0 x3
  refine Le.trans ?_ (le_of_eq ((bD avS).trans (ay4 ..)).symm)
  unfold hX
  refine lD (by simp only [EN]) ?_ ?_
  ·refine lG (by simp only [EN]) ?_
   refine lQ eX packet_is_inj (by (try simp only [EN]); exact aiL ((List.getD x0 (Int.toNat x3) default).Key)) fun r0 _ => ?_
   refine lC ?_ ?_
   ·exact aG rfl
   ·refine lG (by simp only [EN]) ?_
    refine lD (by simp only [EN]) ?_ ?_
    ·exact aG rfl
    ·refine lC ?_ ?_
     ·refine lG (by simp only [EN]) ?_
      refine lG (by simp only [EN]) ?_
      refine lD (by simp only [EN]) ?_ ?_
      ·exact aG rfl
      ·exact ih x0 (w6 (x3 + 1))
     ·exact ih x0 (w6 (x3 + 1))
  ·exact aG rfl
theorem ahj (p0 : List aC) : Le (Option.map aJ (pZ p0)) (bF SE 111 [.d (.sl aC.ks (List.map aC.enc p0))] [] []) := by
 refine aZ avS rfl ?_
 refine Le.trans ?_ (le_of_eq (aDy ..).symm)
 unfold pZ
 refine lD (by simp only [EN]) ?_ ?_
 ·exact aG rfl
 ·exact aeC fuel p0 0
def apy (C : aR) (Λ2 J : Lam) (a0 : List D) : Res := lab SE C Λ2 J 88 0 [1, 1, 1, 1, 1, 1, 0, 0] (bA [(1, .ptr 1000000000 0)] [⟨24, (List.map AV.d a0)⟩] [] [] [])
def avW (C : aR) (Λ2 J : Lam) (a0 : List D) : Res := lab SE C Λ2 J 88 0 [1, 1, 1, 1, 1, 0, 0] (bA [(1, .ptr 1000000000 0)] [⟨24, (List.map AV.d a0)⟩] [] [] [])
def avu (C : aR) (Λ2 J : Lam) (a0 : List D) : Res := lab SE C Λ2 J 88 0 [1, 1, 1, 1, 0, 0] (bA [(1, .ptr 1000000000 0)] [⟨24, (List.map AV.d a0)⟩] [] [] [])
section
variable (Γ : Fun) (γ110 γ86 : Gm (Bool)) (γ111 : Gm (Int)) (Λ2 J : Lam)
def C88 : aR := bE (bE (bE (aS Γ) 110 packet_is_out γ110) 86 packet_is_out γ86) 111 aJ γ111
theorem T88 (p0 : aF) : bK SE (C88 Γ γ110 γ86 γ111) Λ2 J 88 [aF.av p0] [] [] =
 γ110 [.d (.str p0.Topic)] [] [] fun r0 =>
 cond (!r0) (
 (rI 12)) (
 cond (decide ((List.length p0.Payload : Int) > 256)) (
 (rI 5)) (
 cond (decide (p0.Level < 0)) (
 (rI 14)) (
 cond (decide (p0.Level > 2)) (
 (rI 14)) (
 avu (C88 Γ γ110 γ86 γ111) Λ2 J (aF.enc p0))))) := by kernel_rfl
theorem azG (b0 : aF) : cJ SE (C88 Γ γ110 γ86 γ111) Λ2 J 88 0 [1, 1, 1, 1, 1, 1, 0, 0] (bA [(1, .ptr 1000000000 0)] [⟨24, (List.map AV.d (aF.enc b0))⟩] [] [] []) =
 cond (decide (b0.Seq < 0)) (
 (rI 1)) (
 cond (decide (b0.Seq > 1099511627776)) (
 (rI 1)) (
 γ111 [.d (.sl aC.ks (List.map aC.enc b0.Props))] [] [] fun r2 =>
 (rI r2))) := by kernel_rfl
theorem aAX (b0 : aF) : cJ SE (C88 Γ γ110 γ86 γ111) Λ2 J 88 0 [1, 1, 1, 1, 1, 0, 0] (bA [(1, .ptr 1000000000 0)] [⟨24, (List.map AV.d (aF.enc b0))⟩] [] [] []) =
 cond (!(b0.From == ([] : Str))) (
 γ86 [.d (.str b0.From)] [] [] fun r1 =>
 cond (!r1) (
  (rI 11)) (
 apy (C88 Γ γ110 γ86 γ111) Λ2 J (aF.enc b0))) (
 apy (C88 Γ γ110 γ86 γ111) Λ2 J (aF.enc b0)) := by kernel_rfl
theorem aCe (b0 : aF) : cJ SE (C88 Γ γ110 γ86 γ111) Λ2 J 88 0 [1, 1, 1, 1, 0, 0] (bA [(1, .ptr 1000000000 0)] [⟨24, (List.map AV.d (aF.enc b0))⟩] [] [] []) =
 cond (decide (b0.Priority < 0)) (
 (rI 1)) (
 cond (decide (b0.Priority > 9)) (
 (rI 1)) (
 cond (decide (b0.Expires < 0)) (
 (rI 1)) (
 cond (decide (b0.Expires > 1099511627776)) (
 (rI 1)) (
 avW (C88 Γ γ110 γ86 γ111) Λ2 J (aF.enc b0))))) := by kernel_rfl
end
abbrev X88 : aR := C88 gG (cT 110 packet_is_out) (cT 86 packet_is_out) (cT 111 aJ)
theorem arB : X88 = aS gG := by unfold X88 C88; repeat rw [bH fun _ h => h]
abbrev ayj := apy X88 (cB SE gG (SE.hl 88) (SE.hr 88)) (J0 SE X88)
abbrev aA2 := avW X88 (cB SE gG (SE.hl 88) (SE.hr 88)) (J0 SE X88)
abbrev aBa := avu X88 (cB SE gG (SE.hl 88) (SE.hr 88)) (J0 SE X88)
theorem wW (b0 : aF) : Le (Option.map aJ (kC b0)) (ayj (aF.enc b0)) := by
 refine Le.trans ?_ (le_of_eq ((bD arB).trans (azG ..)).symm)
 unfold kC
 refine lC ?_ ?_
 ·exact aG rfl
 ·refine lC ?_ ?_
  ·exact aG rfl
  ·refine lQ eX bB (ahj _) fun r2 _ => ?_
   exact aG rfl
theorem aeA (b0 : aF) : Le (Option.map aJ (mR b0)) (aA2 (aF.enc b0)) := by
 refine Le.trans ?_ (le_of_eq ((bD arB).trans (aAX ..)).symm)
 unfold mR
 refine lC ?_ ?_
 ·refine lQ eX packet_is_inj (rY _) fun r1 _ => ?_
  refine lC ?_ ?_
  ·exact aG rfl
  ·exact wW b0
 ·exact wW b0
theorem aez (b0 : aF) : Le (Option.map aJ (nC b0)) (aBa (aF.enc b0)) := by
 refine Le.trans ?_ (le_of_eq ((bD arB).trans (aCe ..)).symm)
 unfold nC
 refine lC ?_ ?_
 ·exact aG rfl
 ·refine lC ?_ ?_
  ·exact aG rfl
  ·refine lC ?_ ?_
   ·exact aG rfl
   ·refine lC ?_ ?_
    ·exact aG rfl
    ·exact aeA b0
theorem aaW (p0 : aF) : Le (Option.map aJ (jS p0)) (bF SE 88 [aF.av p0] [] []) := by
 refine aZ arB rfl ?_
 refine Le.trans ?_ (le_of_eq (T88 ..).symm)
 unfold jS
 refine lQ eX packet_is_inj (ag8 _) fun r0 _ => ?_
 refine lC ?_ ?_
 ·exact aG rfl
 ·refine lC ?_ ?_
  ·exact aG rfl
  ·refine lC ?_ ?_
   ·exact aG rfl
   ·refine lC ?_ ?_
    ·exact aG rfl
    ·exact aez p0
section
variable (Γ : Fun) (γ43 : Gm (Bool)) (γ88 : Gm (Int)) (Λ2 J : Lam)
def C87 : aR := bE (bE (aS Γ) 43 packet_is_out γ43) 88 aJ γ88
theorem T87 (p0 : aV) : bK SE (C87 Γ γ43 γ88) Λ2 J 87 [aV.av p0] [] [] =
 cond (!p0.Set) (
 cond (p0.Delay != 0) (
  (rI 28)) (
 γ43 [aF.av p0.Message, .agg [.d (.str []), .d (.str []), .d (.int .i64 0), .d (.bool false), .d (.int .i64 0), .d (.int .i64 0), .d (.str []), .d (.int .i64 0), .d (.sl aC.ks (List.map aC.enc []))]] [] [] fun r0 =>
 cond (!r0) (
  (rI 28)) (
 (rI 0)))) (
 cond (decide (p0.Delay < 0)) (
 (rI 1)) (
 cond (decide (p0.Delay > 1099511627776)) (
 (rI 1)) (
 γ88 [aF.av p0.Message] [] [] fun r1 =>
 (rI r1)))) := by kernel_rfl
end
abbrev X87 : aR := C87 gG (cT 43 packet_is_out) (cT 88 aJ)
theorem aDA : X87 = aS gG := by unfold X87 C87; repeat rw [bH fun _ h => h]
theorem ahJ (p0 : aV) : Le (Option.map aJ (rT p0)) (bF SE 87 [aV.av p0] [] []) := by
 refine aZ aDA rfl ?_
 refine Le.trans ?_ (le_of_eq (T87 ..).symm)
 unfold rT
 refine lC ?_ ?_
 ·refine lC ?_ ?_
  ·exact aG rfl
  ·refine lQ eX packet_is_inj (by (try simp only [EN]); exact wH p0.Message ((aF.mk [] [] 0 false 0 0 [] 0 []))) fun r0 _ => ?_
   refine lC ?_ ?_
   ·exact aG rfl
   ·exact aG rfl
 ·refine lC ?_ ?_
  ·exact aG rfl
  ·refine lC ?_ ?_
   ·exact aG rfl
   ·refine lQ eX bB (aaW _) fun r1 _ => ?_
    exact aG rfl
def aqJ (C : aR) (Λ2 J : Lam) (a0 : List D) : Res := lab SE C Λ2 J 52 0 [1, 1, 0, 0] (bA [(1, .ptr 1000000000 0)] [⟨31, (List.map AV.d a0)⟩] [] [] [])
section
variable (Γ : Fun) (γ86 : Gm (Bool)) (γ87 : Gm (Int)) (Λ2 J : Lam)
def C52 : aR := bE (bE (aS Γ) 86 packet_is_out γ86) 87 aJ γ87
theorem T52 (p0 : aA) : bK SE (C52 Γ γ86 γ87) Λ2 J 52 [aA.av p0] [] [] =
 γ86 [.d (.str p0.Client)] [] [] fun r0 =>
 cond (!r0) (
 (rI 11)) (
 cond (!(p0.User == ([] : Str))) (
 γ86 [.d (.str p0.User)] [] [] fun r1 =>
 cond (!r1) (
  (rI 11)) (
 aqJ (C52 Γ γ86 γ87) Λ2 J (aA.enc p0))) (
 aqJ (C52 Γ γ86 γ87) Λ2 J (aA.enc p0))) := by kernel_rfl
theorem aBD (b0 : aA) : cJ SE (C52 Γ γ86 γ87) Λ2 J 52 0 [1, 1, 0, 0] (bA [(1, .ptr 1000000000 0)] [⟨31, (List.map AV.d (aA.enc b0))⟩] [] [] []) =
 cond (decide (b0.Keep < 0)) (
 (rI 1)) (
 cond (decide (b0.Keep > 1099511627776)) (
 (rI 1)) (
 cond (decide (b0.Expiry < 0)) (
 (rI 1)) (
 cond (decide (b0.Expiry > 1099511627776)) (
 (rI 1)) (
 cond (decide (b0.Window < 1)) (
 (rI 1)) (
 cond (decide (b0.Window > 32)) (
 (rI 1)) (
 γ87 [aV.av b0.Will] [] [] fun r2 =>
 (rI r2))))))) := by kernel_rfl
end
abbrev X52 : aR := C52 gG (cT 86 packet_is_out) (cT 87 aJ)
theorem ayA : X52 = aS gG := by unfold X52 C52; repeat rw [bH fun _ h => h]
abbrev aBo := aqJ X52 (cB SE gG (SE.hl 52) (SE.hr 52)) (J0 SE X52)
theorem wK (b0 : aA) : Le (Option.map aJ (lK b0)) (aBo (aA.enc b0)) := by
 refine Le.trans ?_ (le_of_eq ((bD ayA).trans (aBD ..)).symm)
 unfold lK
 refine lC ?_ ?_
 ·exact aG rfl
 ·refine lC ?_ ?_
  ·exact aG rfl
  ·refine lC ?_ ?_
   ·exact aG rfl
   ·refine lC ?_ ?_
    ·exact aG rfl
    ·refine lC ?_ ?_
     ·exact aG rfl
     ·refine lC ?_ ?_
      ·exact aG rfl
      ·refine lQ eX bB (ahJ _) fun r2 _ => ?_
       exact aG rfl
theorem afI (p0 : aA) : Le (Option.map aJ (nX p0)) (bF SE 52 [aA.av p0] [] []) := by
 refine aZ ayA rfl ?_
 refine Le.trans ?_ (le_of_eq (T52 ..).symm)
 unfold nX
 refine lQ eX packet_is_inj (rY _) fun r0 _ => ?_
 refine lC ?_ ?_
 ·exact aG rfl
 ·refine lC ?_ ?_
  ·refine lQ eX packet_is_inj (rY _) fun r1 _ => ?_
   refine lC ?_ ?_
   ·exact aG rfl
   ·exact wK p0
  ·exact wK p0
section
variable (Γ : Fun)  (Λ2 J : Lam)
def C55 : aR := aS Γ
theorem T55 (p0 : Int) : bK SE (C55 Γ) Λ2 J 55 [.d (.int .i64 p0)] [] [] =
 cond (decide (p0 < 1)) (
 (rI 15)) (
 cond (decide (p0 > 65535)) (
 (rI 15)) (
 (rI 0))) := by kernel_rfl
end
abbrev X55 : aR := C55 gG
theorem aDL : X55 = aS gG := rfl
theorem aaU (p0 : Int) : Le (Option.map aJ (nJ p0)) (bF SE 55 [.d (.int .i64 p0)] [] []) := by
 refine aZ aDL rfl ?_
 refine Le.trans ?_ (le_of_eq (T55 ..).symm)
 unfold nJ
 refine lC ?_ ?_
 ·exact aG rfl
 ·refine lC ?_ ?_
  ·exact aG rfl
  ·exact aG rfl
section
variable (Γ : Fun) (γ88 γ55 : Gm (Int)) (Λ2 J : Lam)
def C53 : aR := bE (bE (aS Γ) 88 aJ γ88) 55 aJ γ55
theorem T53 (p0 : aA) : bK SE (C53 Γ γ88 γ55) Λ2 J 53 [aA.av p0] [] [] =
 γ88 [aF.av p0.Message] [] [] fun r0 =>
 cond (r0 != 0) (
 (rI r0)) (
 cond (p0.Message.Level == 0) (
 cond (p0.ID != 0) (
  (rI 15)) (
 cond p0.Dup (
  (rI 28)) (
 (rI 0)))) (
 γ55 [.d (.int .i64 p0.ID)] [] [] fun r1 =>
 (rI r1))) := by kernel_rfl
end
abbrev X53 : aR := C53 gG (cT 88 aJ) (cT 55 aJ)
theorem aCK : X53 = aS gG := by unfold X53 C53; repeat rw [bH fun _ h => h]
theorem afL (p0 : aA) : Le (Option.map aJ (n4 p0)) (bF SE 53 [aA.av p0] [] []) := by
 refine aZ aCK rfl ?_
 refine Le.trans ?_ (le_of_eq (T53 ..).symm)
 unfold n4
 refine lQ eX bB (aaW _) fun r0 _ => ?_
 refine lC ?_ ?_
 ·exact aG rfl
 ·refine lC ?_ ?_
  ·refine lC ?_ ?_
   ·exact aG rfl
   ·refine lC ?_ ?_
    ·exact aG rfl
    ·exact aG rfl
  ·refine lQ eX bB (aaU _) fun r1 _ => ?_
   exact aG rfl
section
variable (Γ : Fun)  (Λ2 J : Lam)
def C54 : aR := aS Γ
theorem T54 (p0 : Int) : bK SE (C54 Γ) Λ2 J 54 [.d (.int .i64 p0)] [] [] =
 cond (decide (p0 ≥ 0)) (
 (rB (decide (p0 ≤ 29)))) (
 (rB false)) := by kernel_rfl
end
abbrev X54 : aR := C54 gG
theorem aEn : X54 = aS gG := rfl
theorem wI (p0 : Int) : Le (Option.map packet_is_out (lT p0)) (bF SE 54 [.d (.int .i64 p0)] [] []) := by
 refine aZ aEn rfl ?_
 refine Le.trans ?_ (le_of_eq (T54 ..).symm)
 unfold lT
 refine lC ?_ ?_
 ·exact aG rfl
 ·exact aG rfl
section
variable (Γ : Fun)  (Λ2 J : Lam)
def C56 : aR := aS Γ
theorem T56 (p0 : Int) : bK SE (C56 Γ) Λ2 J 56 [.d (.int .i64 p0)] [] [] =
 cond (p0 == 0) (
 (rI 1)) (
 cond (decide (p0 > 32)) (
 (rI 5)) (
 (rI 0))) := by kernel_rfl
end
abbrev X56 : aR := C56 gG
theorem aDx : X56 = aS gG := rfl
theorem ahc (p0 : Int) : Le (Option.map aJ (pW p0)) (bF SE 56 [.d (.int .i64 p0)] [] []) := by
 refine aZ aDx rfl ?_
 refine Le.trans ?_ (le_of_eq (T56 ..).symm)
 unfold pW
 refine lC ?_ ?_
 ·exact aG rfl
 ·refine lC ?_ ?_
  ·exact aG rfl
  ·exact aG rfl
section
variable (Γ : Fun)  (Λ2 J : Lam)
def axZ : aR := aS Γ
theorem aDV (p0 p1 : Str) : bK SE (axZ Γ) Λ2 J 114 [.d (.str p0), .d (.str p1)] [] [] =
 cond (decide ((List.length p0 : Int) ≥ (List.length p1 : Int))) (
 cond (decide (0 ≤ (List.length p1 : Int)) && decide ((List.length p1 : Int) ≤ ((List.length p0) : Int))) (
  (rB ((dI p0 none (some (List.length p1 : Int))) == p1))) none) (
 (rB false)) := by kernel_rfl
end
abbrev aCR : aR := axZ gG
theorem aA8 : aCR = aS gG := rfl
theorem tU (p0 p1 : Str) : Le (Option.map packet_is_out (mH p0 p1)) (bF SE 114 [.d (.str p0), .d (.str p1)] [] []) := by
 refine aZ aA8 rfl ?_
 refine Le.trans ?_ (le_of_eq (aDV ..).symm)
 unfold mH
 refine lC ?_ ?_
 ·refine lF ?_
  exact aG rfl
 ·exact aG rfl
def apf (C : aR) (Λ2 J : Lam) (a0 : Int) (a1 : List (List D)) : Res := lab SE C Λ2 J 113 0 [1, 1, 1, 0, 1, 0, 0, 1, 0, 0, 1, 0] (bA [(3, .row 3003), (4, .d (.int .i64 a0))] [] [] [] [(3003, ⟨[.str], 9, 16, a1⟩)])
def alH (C : aR) (Λ2 J : Lam) (a0 : Int) (a1 : List (List D)) : Res := lab SE C Λ2 J 113 0 [1, 1, 1, 0, 1, 0] (bA [(3, .row 3003), (4, .d (.int .i64 a0))] [] [] [] [(3003, ⟨[.str], 9, 16, a1⟩)])
section
variable (Γ : Fun) (γ122 : Gm (Bool)) (γ125 : Gm ((List Str))) (γ123 : Gm (Bool)) (Λ2 J : Lam)
def afz : aR := bE (bE (bE (aS Γ) 122 packet_is_out γ122) 125 eQ γ125) 123 packet_is_out γ123
theorem aD7 (p0 : Str) : bK SE (afz Γ γ122 γ125 γ123) Λ2 J 113 [.d (.str p0)] [] [] =
 γ122 [.d (.str p0)] [] [] fun r0 =>
 cond (!r0) (
 (rB false)) (
 γ125 [.d (.str p0)] [] [] fun r1 =>
 alH (afz Γ γ122 γ125 γ123) Λ2 J 0 (List.map aY r1)) := by kernel_rfl
theorem axM (x4 : Int) (w3003 : List Str) : cJ SE (afz Γ γ122 γ125 γ123) Λ2 J 113 0 [1, 1, 1, 0, 1, 0, 0, 1, 0, 0, 1, 0] (bA [(3, .row 3003), (4, .d (.int .i64 x4))] [] [] [] [(3003, ⟨[.str], 9, 16, (List.map aY w3003)⟩)]) =
 cond (iB x4 (lM aY w3003 : Int)) (
 γ123 [.d (.str (bJ (cE aY w3003 x4 0))), .d (.int .u8 35)] [] [] fun r3 =>
 cond r3 (
  cond (iB x4 (lM aY w3003 : Int)) (
  cond (!((bJ (cE aY w3003 x4 0)) == ([35] : Str))) (
   (rB false)) (
  cond (x4 != (w6 ((lM aY w3003 : Int) - 1))) (
   (rB false)) (
  alH (afz Γ γ122 γ125 γ123) Λ2 J (w6 (x4 + 1)) (List.map aY w3003)))) none) (
 alH (afz Γ γ122 γ125 γ123) Λ2 J (w6 (x4 + 1)) (List.map aY w3003))) none := by kernel_rfl
theorem azj (x4 : Int) (w3003 : List Str) : cJ SE (afz Γ γ122 γ125 γ123) Λ2 J 113 0 [1, 1, 1, 0, 1, 0] (bA [(3, .row 3003), (4, .d (.int .i64 x4))] [] [] [] [(3003, ⟨[.str], 9, 16, (List.map aY w3003)⟩)]) =
 cond (decide (x4 < (lM aY w3003 : Int))) (
 cond (iB x4 (lM aY w3003 : Int)) (
  γ123 [.d (.str (bJ (cE aY w3003 x4 0))), .d (.int .u8 43)] [] [] fun r2 =>
  cond r2 (
  cond (iB x4 (lM aY w3003 : Int)) (
   cond (!((bJ (cE aY w3003 x4 0)) == ([43] : Str))) (
   (rB false)) (
   apf (afz Γ γ122 γ125 γ123) Λ2 J x4 (List.map aY w3003))) none) (
  apf (afz Γ γ122 γ125 γ123) Λ2 J x4 (List.map aY w3003))) none) (
 (rB true)) := by kernel_rfl
end
abbrev amy : aR := afz gG (cT 122 packet_is_out) (cT 125 eQ) (cT 123 packet_is_out)
theorem aq8 : amy = aS gG := by unfold amy afz; repeat rw [bH fun _ h => h]
abbrev axJ := apf amy (cB SE gG (SE.hl 113) (SE.hr 113)) (J0 SE amy)
abbrev atu := alH amy (cB SE gG (SE.hl 113) (SE.hr 113)) (J0 SE amy)
theorem xE (k5 : Int → (List Str) → Option (Bool)) (hk5 : ∀ (x4 : Int) (w3003 : List Str), Le (Option.map packet_is_out (k5 x4 w3003)) (atu x4 (List.map aY w3003))) (x4 : Int) (w3003 : List Str) : Le (Option.map packet_is_out (kB k5 x4 w3003)) (axJ x4 (List.map aY w3003)) := by
 refine Le.trans ?_ (le_of_eq ((bD aq8).trans (axM ..)).symm)
 unfold kB
 refine lG (by simp only [EN]) ?_
 refine lQ eX packet_is_inj (by (try simp only [EN]); exact oV (List.getD w3003 (Int.toNat x4) default) 35) fun r3 _ => ?_
 refine lC ?_ ?_
 ·refine lG (by simp only [EN]) ?_
  refine lD (by simp only [EN]) ?_ ?_
  ·exact aG rfl
  ·refine lD (by simp only [EN]) ?_ ?_
   ·exact aG rfl
   ·exact hk5 (w6 (x4 + 1)) w3003
 ·exact hk5 (w6 (x4 + 1)) w3003
theorem adu : ∀ (fu : Nat) (x4 : Int) (w3003 : List Str), Le (Option.map packet_is_out (gV fu x4 w3003)) (atu x4 (List.map aY w3003)) := by
 intro fu
 induction fu with
 | zero => intros; exact le_none
 | succ fu ih =>
  intro x4 w3003
  refine Le.trans ?_ (le_of_eq ((bD aq8).trans (azj ..)).symm)
  unfold gV
  refine lD (by simp only [EN]) ?_ ?_
  ·refine lG (by simp only [EN]) ?_
   refine lQ eX packet_is_inj (by (try simp only [EN]); exact oV (List.getD w3003 (Int.toNat x4) default) 43) fun r2 _ => ?_
   refine lC ?_ ?_
   ·refine lG (by simp only [EN]) ?_
    refine lD (by simp only [EN]) ?_ ?_
    ·exact aG rfl
    ·exact xE _ (ih) x4 w3003
   ·exact xE _ (ih) x4 w3003
  ·exact aG rfl
theorem aaf (p0 : Str) : Le (Option.map packet_is_out (lX p0)) (bF SE 113 [.d (.str p0)] [] []) := by
 refine aZ aq8 rfl ?_
 refine Le.trans ?_ (le_of_eq (aD7 ..).symm)
 unfold lX
 refine lQ eX packet_is_inj (aaE _) fun r0 _ => ?_
 refine lC ?_ ?_
 ·exact aG rfl
 ·refine lQ eX y8 (aax _) fun r1 _ => ?_
  exact adu fuel 0 r1
def asn (C : aR) (Λ2 J : Lam) (a0 : Str) (a1 : Int) : Res := lab SE C Λ2 J 112 0 [1, 1, 1, 1, 1, 1, 0] (bA [(5, .d (.str a0)), (6, .d (.int .i64 a1))] [] [] [] [])
def anZ (C : aR) (Λ2 J : Lam) (a0 : Str) (a1 : Int) : Res := lab SE C Λ2 J 112 0 [1, 1, 1, 1, 1, 0, 0] (bA [(5, .d (.str a0)), (6, .d (.int .i64 a1))] [] [] [] [])
def aou (C : aR) (Λ2 J : Lam) (a0 : Str) (a1 : Int) : Res := lab SE C Λ2 J 112 0 [1, 1, 1, 1, 0, 0] (bA [(5, .d (.str a0)), (6, .d (.int .i64 a1))] [] [] [] [])
section
variable (Γ : Fun) (γ114 γ86 γ113 : Gm (Bool)) (Λ2 J : Lam)
def ad9 : aR := bE (bE (bE (aS Γ) 114 packet_is_out γ114) 86 packet_is_out γ86) 113 packet_is_out γ113
theorem aCD (p0 : Str) : bK SE (ad9 Γ γ114 γ86 γ113) Λ2 J 112 [.d (.str p0)] [] [] =
 γ114 [.d (.str p0), .d (.str ([36, 115, 104, 97, 114, 101, 47] : Str))] [] [] fun r0 =>
 cond (!r0) (
 (some (.ret [.d (.str []), .d (.str []), .d (.bool false)] [] []))) (
 cond (decide (0 ≤ 7) && decide (7 ≤ ((List.length p0) : Int))) (
 aou (ad9 Γ γ114 γ86 γ113) Λ2 J (dI p0 (some 7) none) 0) none) := by kernel_rfl
theorem azq (x5 : Str) (x6 : Int) : cJ SE (ad9 Γ γ114 γ86 γ113) Λ2 J 112 0 [1, 1, 1, 1, 1, 1, 0] (bA [(5, .d (.str x5)), (6, .d (.int .i64 x6))] [] [] [] []) =
 cond (decide (0 ≤ x6) && decide (x6 ≤ ((List.length x5) : Int))) (
 cond (decide (0 ≤ (w6 (x6 + 1))) && decide ((w6 (x6 + 1)) ≤ ((List.length x5) : Int))) (
  (some (.ret [.d (.str (dI x5 none (some x6))), .d (.str (dI x5 (some (w6 (x6 + 1))) none)), .d (.bool true)] [] []))) none) none := by kernel_rfl
theorem awU (x5 : Str) (x6 : Int) : cJ SE (ad9 Γ γ114 γ86 γ113) Λ2 J 112 0 [1, 1, 1, 1, 1, 0, 0] (bA [(5, .d (.str x5)), (6, .d (.int .i64 x6))] [] [] [] []) =
 cond (x6 == (List.length x5 : Int)) (
 (some (.ret [.d (.str []), .d (.str []), .d (.bool false)] [] []))) (
 cond (decide (0 ≤ x6) && decide (x6 ≤ ((List.length x5) : Int))) (
 γ86 [.d (.str (dI x5 none (some x6)))] [] [] fun r1 =>
 cond (!r1) (
  (some (.ret [.d (.str []), .d (.str []), .d (.bool false)] [] []))) (
 cond (decide (0 ≤ (w6 (x6 + 1))) && decide ((w6 (x6 + 1)) ≤ ((List.length x5) : Int))) (
  γ113 [.d (.str (dI x5 (some (w6 (x6 + 1))) none))] [] [] fun r2 =>
  cond (!r2) (
  (some (.ret [.d (.str []), .d (.str []), .d (.bool false)] [] []))) (
  cond (decide (0 ≤ (w6 (x6 + 1))) && decide ((w6 (x6 + 1)) ≤ ((List.length x5) : Int))) (
  γ114 [.d (.str (dI x5 (some (w6 (x6 + 1))) none)), .d (.str ([36, 115, 104, 97, 114, 101, 47] : Str))] [] [] fun r3 =>
  cond r3 (
   (some (.ret [.d (.str []), .d (.str []), .d (.bool false)] [] []))) (
  asn (ad9 Γ γ114 γ86 γ113) Λ2 J x5 x6)) none)) none)) none) := by kernel_rfl
theorem ayY (x5 : Str) (x6 : Int) : cJ SE (ad9 Γ γ114 γ86 γ113) Λ2 J 112 0 [1, 1, 1, 1, 0, 0] (bA [(5, .d (.str x5)), (6, .d (.int .i64 x6))] [] [] [] []) =
 cond (decide (x6 < (List.length x5 : Int))) (
 cond (iB x6 (List.length x5 : Int)) (
  cond ((UInt8.toNat (List.getD x5 (Int.toNat x6) 0) : Int) != 47) (
  aou (ad9 Γ γ114 γ86 γ113) Λ2 J x5 (w6 (x6 + 1))) (
  anZ (ad9 Γ γ114 γ86 γ113) Λ2 J x5 x6)) none) (
 anZ (ad9 Γ γ114 γ86 γ113) Λ2 J x5 x6) := by kernel_rfl
end
abbrev ait : aR := ad9 gG (cT 114 packet_is_out) (cT 86 packet_is_out) (cT 113 packet_is_out)
theorem anU : ait = aS gG := by unfold ait ad9; repeat rw [bH fun _ h => h]
abbrev ayb := asn ait (cB SE gG (SE.hl 112) (SE.hr 112)) (J0 SE ait)
abbrev aym := anZ ait (cB SE gG (SE.hl 112) (SE.hr 112)) (J0 SE ait)
abbrev azz := aou ait (cB SE gG (SE.hl 112) (SE.hr 112)) (J0 SE ait)
theorem adB (x5 : Str) (x6 : Int) : Le (Option.map cC (pI x5 x6)) (ayb x5 x6) := by
 refine Le.trans ?_ (le_of_eq ((bD anU).trans (azq ..)).symm)
 unfold pI
 refine lF ?_
 refine lF ?_
 exact aG rfl
theorem xJ (x5 : Str) (x6 : Int) : Le (Option.map cC (j9 x5 x6)) (aym x5 x6) := by
 refine Le.trans ?_ (le_of_eq ((bD anU).trans (awU ..)).symm)
 unfold j9
 refine lC ?_ ?_
 ·exact aG rfl
 ·refine lF ?_
  refine lQ eX packet_is_inj (rY _) fun r1 _ => ?_
  refine lC ?_ ?_
  ·exact aG rfl
  ·refine lF ?_
   refine lQ eX packet_is_inj (aaf _) fun r2 _ => ?_
   refine lC ?_ ?_
   ·exact aG rfl
   ·refine lF ?_
    refine lQ eX packet_is_inj (tU _ _) fun r3 _ => ?_
    refine lC ?_ ?_
    ·exact aG rfl
    ·exact adB x5 x6
theorem adr : ∀ (fu : Nat) (x5 : Str) (x6 : Int), Le (Option.map cC (iW fu x5 x6)) (azz x5 x6) := by
 intro fu
 induction fu with
 | zero => intros; exact le_none
 | succ fu ih =>
  intro x5 x6
  refine Le.trans ?_ (le_of_eq ((bD anU).trans (ayY ..)).symm)
  unfold iW
  refine lC ?_ ?_
  ·refine lF ?_
   refine lC ?_ ?_
   ·exact ih x5 (w6 (x6 + 1))
   ·exact xJ x5 x6
  ·exact xJ x5 x6
theorem aah (p0 : Str) : Le (Option.map cC (mJ p0)) (bF SE 112 [.d (.str p0)] [] []) := by
 refine aZ anU rfl ?_
 refine Le.trans ?_ (le_of_eq (aCD ..).symm)
 unfold mJ
 refine lQ eX packet_is_inj (tU _ _) fun r0 _ => ?_
 refine lC ?_ ?_
 ·exact aG rfl
 ·refine lF ?_
  exact adr fuel (dI p0 (some 7) none) 0
section
variable (Γ : Fun) (γ112 : Gm (Str × Str × Bool)) (γ113 γ114 : Gm (Bool)) (Λ2 J : Lam)
def C90 : aR := bE (bE (bE (aS Γ) 112 cC γ112) 113 packet_is_out γ113) 114 packet_is_out γ114
theorem T90 (p0 : Str) : bK SE (C90 Γ γ112 γ113 γ114) Λ2 J 90 [.d (.str p0)] [] [] =
 γ112 [.d (.str p0)] [] [] fun r0 =>
 cond r0.2.2 (
 (rB true)) (
 γ113 [.d (.str p0)] [] [] fun r1 =>
 cond r1 (
 γ114 [.d (.str p0), .d (.str ([36, 115, 104, 97, 114, 101, 47] : Str))] [] [] fun r2 =>
 (rB (!r2))) (
 (rB false))) := by kernel_rfl
end
abbrev X90 : aR := C90 gG (cT 112 cC) (cT 113 packet_is_out) (cT 114 packet_is_out)
theorem aD4 : X90 = aS gG := by unfold X90 C90; repeat rw [bH fun _ h => h]
theorem aaq (p0 : Str) : Le (Option.map packet_is_out (lY p0)) (bF SE 90 [.d (.str p0)] [] []) := by
 refine aZ aD4 rfl ?_
 refine Le.trans ?_ (le_of_eq (T90 ..).symm)
 unfold lY
 refine lQ eX n3 (aah _) fun r0 _ => ?_
 refine lC ?_ ?_
 ·exact aG rfl
 ·refine lQ eX packet_is_inj (aaf _) fun r1 _ => ?_
  refine lC ?_ ?_
  ·refine lQ eX packet_is_inj (tU _ _) fun r2 _ => ?_
   exact aG rfl
  ·exact aG rfl
def avU (C : aR) (Λ2 J : Lam) (a0 : List D) : Res := lab SE C Λ2 J 89 0 [1, 1, 1, 0] (bA [(1, .ptr 1000000000 0)] [⟨53, (List.map AV.d a0)⟩] [] [] [])
section
variable (Γ : Fun) (γ90 : Gm (Bool)) (γ112 : Gm (Str × Str × Bool)) (Λ2 J : Lam)
def C89 : aR := bE (bE (aS Γ) 90 packet_is_out γ90) 112 cC γ112
theorem T89 (p0 : aH) : bK SE (C89 Γ γ90 γ112) Λ2 J 89 [aH.av p0] [] [] =
 γ90 [.d (.str p0.Filter)] [] [] fun r0 =>
 cond (!r0) (
 (rI 13)) (
 cond (decide (p0.Level < 0)) (
 (rI 14)) (
 cond (decide (p0.Level > 2)) (
 (rI 14)) (
 avU (C89 Γ γ90 γ112) Λ2 J (aH.enc p0)))) := by kernel_rfl
theorem aBw (b0 : aH) : cJ SE (C89 Γ γ90 γ112) Λ2 J 89 0 [1, 1, 1, 0] (bA [(1, .ptr 1000000000 0)] [⟨53, (List.map AV.d (aH.enc b0))⟩] [] [] []) =
 γ112 [.d (.str b0.Filter)] [] [] fun r1 =>
 cond b0.NoLocal (
 cond r1.2.2 (
  (rI 28)) (
 (rI 0))) (
 (rI 0)) := by kernel_rfl
end
abbrev X89 : aR := C89 gG (cT 90 packet_is_out) (cT 112 cC)
theorem axu : X89 = aS gG := by unfold X89 C89; repeat rw [bH fun _ h => h]
abbrev aBK := avU X89 (cB SE gG (SE.hl 89) (SE.hr 89)) (J0 SE X89)
theorem agh (b0 : aH) : Le (Option.map aJ (sV b0)) (aBK (aH.enc b0)) := by
 refine Le.trans ?_ (le_of_eq ((bD axu).trans (aBw ..)).symm)
 unfold sV
 refine lQ eX n3 (aah _) fun r1 _ => ?_
 refine lC ?_ ?_
 ·refine lC ?_ ?_
  ·exact aG rfl
  ·exact aG rfl
 ·exact aG rfl
theorem aiX (p0 : aH) : Le (Option.map aJ (sP p0)) (bF SE 89 [aH.av p0] [] []) := by
 refine aZ axu rfl ?_
 refine Le.trans ?_ (le_of_eq (T89 ..).symm)
 unfold sP
 refine lQ eX packet_is_inj (aaq _) fun r0 _ => ?_
 refine lC ?_ ?_
 ·exact aG rfl
 ·refine lC ?_ ?_
  ·exact aG rfl
  ·refine lC ?_ ?_
   ·exact aG rfl
   ·exact agh p0
def aoq (C : aR) (Λ2 J : Lam) (a0 : Int) (a1 : List D) : Res := lab SE C Λ2 J 57 0 [1, 1, 1, 0, 1, 0] (bA [(1, .ptr 1000000000 0), (6, .d (.int .i64 a0))] [⟨31, (List.map AV.d a1)⟩] [] [] [])
def arX (C : aR) (Λ2 J : Lam) (a0 : Int) (a1 : List D) : Res := lab SE C Λ2 J 57 0 [1, 1, 0, 1, 0] (bA [(1, .ptr 1000000000 0), (5, .d (.int .i64 a0))] [⟨31, (List.map AV.d a1)⟩] [] [] [])
def ar9 (C : aR) (Λ2 J : Lam) (a0 : Int) (a1 : List D) : Res := lab SE C Λ2 J 57 0 [1, 0, 1, 0] (bA [(1, .ptr 1000000000 0), (3, .d (.int .i64 a0))] [⟨31, (List.map AV.d a1)⟩] [] [] [])
section
variable (Γ : Fun) (γ89 : Gm (Int)) (γ90 γ54 : Gm (Bool)) (Λ2 J : Lam)
def C57 : aR := bE (bE (bE (aS Γ) 89 aJ γ89) 90 packet_is_out γ90) 54 packet_is_out γ54
theorem T57 (p0 : aA) : bK SE (C57 Γ γ89 γ90 γ54) Λ2 J 57 [aA.av p0] [] [] =
 ar9 (C57 Γ γ89 γ90 γ54) Λ2 J 0 (aA.enc p0) := by kernel_rfl
theorem ayo (x6 : Int) (b0 : aA) : cJ SE (C57 Γ γ89 γ90 γ54) Λ2 J 57 0 [1, 1, 1, 0, 1, 0] (bA [(1, .ptr 1000000000 0), (6, .d (.int .i64 x6))] [⟨31, (List.map AV.d (aA.enc b0))⟩] [] [] []) =
 cond (decide (x6 < (lM eI b0.Codes : Int))) (
 cond (iB x6 (lM eI b0.Codes : Int)) (
  γ54 [.d (.int .i64 (aX (cE eI b0.Codes x6 0)))] [] [] fun r2 =>
  cond (!r2) (
  (rI 1)) (
  aoq (C57 Γ γ89 γ90 γ54) Λ2 J (w6 (x6 + 1)) (aA.enc b0))) none) (
 (rI 0)) := by kernel_rfl
theorem aBz (x5 : Int) (b0 : aA) : cJ SE (C57 Γ γ89 γ90 γ54) Λ2 J 57 0 [1, 1, 0, 1, 0] (bA [(1, .ptr 1000000000 0), (5, .d (.int .i64 x5))] [⟨31, (List.map AV.d (aA.enc b0))⟩] [] [] []) =
 cond (decide (x5 < (lM aY b0.Filters : Int))) (
 cond (iB x5 (lM aY b0.Filters : Int)) (
  γ90 [.d (.str (bJ (cE aY b0.Filters x5 0)))] [] [] fun r1 =>
  cond (!r1) (
  (rI 13)) (
  arX (C57 Γ γ89 γ90 γ54) Λ2 J (w6 (x5 + 1)) (aA.enc b0))) none) (
 aoq (C57 Γ γ89 γ90 γ54) Λ2 J 0 (aA.enc b0)) := by kernel_rfl
theorem aBG (x3 : Int) (b0 : aA) : cJ SE (C57 Γ γ89 γ90 γ54) Λ2 J 57 0 [1, 0, 1, 0] (bA [(1, .ptr 1000000000 0), (3, .d (.int .i64 x3))] [⟨31, (List.map AV.d (aA.enc b0))⟩] [] [] []) =
 cond (decide (x3 < (lM aH.enc b0.Subs : Int))) (
 cond (iB x3 (lM aH.enc b0.Subs : Int)) (
  γ89 [.agg [.d (.str (bJ (cE aH.enc b0.Subs x3 0))), .d (.int .i64 (aX (cE aH.enc b0.Subs x3 1))), .d (.bool (bT (cE aH.enc b0.Subs x3 2)))]] [] [] fun r0 =>
  cond (r0 != 0) (
  (rI r0)) (
  ar9 (C57 Γ γ89 γ90 γ54) Λ2 J (w6 (x3 + 1)) (aA.enc b0))) none) (
 arX (C57 Γ γ89 γ90 γ54) Λ2 J 0 (aA.enc b0)) := by kernel_rfl
end
abbrev X57 : aR := C57 gG (cT 89 aJ) (cT 90 packet_is_out) (cT 54 packet_is_out)
theorem arP : X57 = aS gG := by unfold X57 C57; repeat rw [bH fun _ h => h]
abbrev ayL := aoq X57 (cB SE gG (SE.hl 57) (SE.hr 57)) (J0 SE X57)
abbrev aAV := arX X57 (cB SE gG (SE.hl 57) (SE.hr 57)) (J0 SE X57)
abbrev aAw := ar9 X57 (cB SE gG (SE.hl 57) (SE.hr 57)) (J0 SE X57)
theorem abT : ∀ (fu : Nat) (x6 : Int) (b0 : aA), Le (Option.map aJ (fI fu x6 b0)) (ayL x6 (aA.enc b0)) := by
 intro fu
 induction fu with
 | zero => intros; exact le_none
 | succ fu ih =>
  intro x6 b0
  refine Le.trans ?_ (le_of_eq ((bD arP).trans (ayo ..)).symm)
  unfold fI
  refine lD (by simp only [EN]) ?_ ?_
  ·refine lG (by simp only [EN]) ?_
   refine lQ eX packet_is_inj (by (try simp only [EN]); exact wI (List.getD b0.Codes (Int.toNat x6) default)) fun r2 _ => ?_
   refine lC ?_ ?_
   ·exact aG rfl
   ·exact ih (w6 (x6 + 1)) b0
  ·exact aG rfl
theorem acr : ∀ (fu : Nat) (x5 : Int) (b0 : aA), Le (Option.map aJ (fR fu x5 b0)) (aAV x5 (aA.enc b0)) := by
 intro fu
 induction fu with
 | zero => intros; exact le_none
 | succ fu ih =>
  intro x5 b0
  refine Le.trans ?_ (le_of_eq ((bD arP).trans (aBz ..)).symm)
  unfold fR
  refine lD (by simp only [EN]) ?_ ?_
  ·refine lG (by simp only [EN]) ?_
   refine lQ eX packet_is_inj (by (try simp only [EN]); exact aaq (List.getD b0.Filters (Int.toNat x5) default)) fun r1 _ => ?_
   refine lC ?_ ?_
   ·exact aG rfl
   ·exact ih (w6 (x5 + 1)) b0
  ·exact abT fuel 0 b0
theorem acm : ∀ (fu : Nat) (x3 : Int) (b0 : aA), Le (Option.map aJ (gY fu x3 b0)) (aAw x3 (aA.enc b0)) := by
 intro fu
 induction fu with
 | zero => intros; exact le_none
 | succ fu ih =>
  intro x3 b0
  refine Le.trans ?_ (le_of_eq ((bD arP).trans (aBG ..)).symm)
  unfold gY
  refine lD (by simp only [EN]) ?_ ?_
  ·refine lG (by simp only [EN]) ?_
   refine lQ eX bB (by (try simp only [EN]); exact aiX (List.getD b0.Subs (Int.toNat x3) default)) fun r0 _ => ?_
   refine lC ?_ ?_
   ·exact aG rfl
   ·exact ih (w6 (x3 + 1)) b0
  ·exact acr fuel 0 b0
theorem aex (p0 : aA) : Le (Option.map aJ (nD p0)) (bF SE 57 [aA.av p0] [] []) := by
 refine aZ arP rfl ?_
 refine Le.trans ?_ (le_of_eq (T57 ..).symm)
 unfold nD
 exact acm fuel 0 p0
def asP (C : aR) (Λ2 J : Lam) (a0 : List D) : Res := lab SE C Λ2 J 23 0 [1, 1, 1, 1, 1, 1, 1, 1, 1, 0] (bA [(1, .ptr 1000000000 0)] [⟨31, (List.map AV.d a0)⟩] [] [] [])
def as0 (C : aR) (Λ2 J : Lam) (a0 : List D) : Res := lab SE C Λ2 J 23 0 [1, 1, 1, 1, 1, 1, 1, 0] (bA [(1, .ptr 1000000000 0)] [⟨31, (List.map AV.d a0)⟩] [] [] [])
def atf (C : aR) (Λ2 J : Lam) (a0 : List D) : Res := lab SE C Λ2 J 23 0 [1, 1, 1, 1, 1, 1, 0, 0] (bA [(1, .ptr 1000000000 0)] [⟨31, (List.map AV.d a0)⟩] [] [] [])
def av1 (C : aR) (Λ2 J : Lam) (a0 : List D) : Res := lab SE C Λ2 J 23 0 [1, 1, 0, 0] (bA [(1, .ptr 1000000000 0)] [⟨31, (List.map AV.d a0)⟩] [] [] [])
section
variable (Γ : Fun) (γ51 : Gm (aA)) (γ16 : Gm (Bool)) (γ52 γ53 : Gm (Int)) (γ54 : Gm (Bool)) (γ55 γ56 γ57 : Gm (Int)) (Λ2 J : Lam)
def C23 : aR := bE (bE (bE (bE (bE (bE (bE (bE (aS Γ) 51 dY γ51) 16 packet_is_out γ16) 52 aJ γ52) 53 aJ γ53) 54 packet_is_out γ54) 55 aJ γ55) 56 aJ γ56) 57 aJ γ57
theorem T23 (p0 : aA) : bK SE (C23 Γ γ51 γ16 γ52 γ53 γ54 γ55 γ56 γ57) Λ2 J 23 [aA.av p0] [] [] =
 cond (decide (p0.Kind < 1)) (
 (rI 10)) (
 cond (decide (p0.Kind > 14)) (
 (rI 10)) (
 av1 (C23 Γ γ51 γ16 γ52 γ53 γ54 γ55 γ56 γ57) Λ2 J (aA.enc p0))) := by kernel_rfl
theorem axN (b0 : aA) : cJ SE (C23 Γ γ51 γ16 γ52 γ53 γ54 γ55 γ56 γ57) Λ2 J 23 0 [1, 1, 1, 1, 1, 1, 1, 1, 1, 0] (bA [(1, .ptr 1000000000 0)] [⟨31, (List.map AV.d (aA.enc b0))⟩] [] [] []) =
 γ56 [.d (.int .i64 (w6 ((w6 ((lM aH.enc b0.Subs : Int) + (lM aY b0.Filters : Int))) + (lM eI b0.Codes : Int))))] [] [] fun r7 =>
 cond (r7 != 0) (
 (rI r7)) (
 γ57 [aA.av b0] [] [] fun r8 =>
 (rI r8)) := by kernel_rfl
theorem axR (b0 : aA) : cJ SE (C23 Γ γ51 γ16 γ52 γ53 γ54 γ55 γ56 γ57) Λ2 J 23 0 [1, 1, 1, 1, 1, 1, 1, 0] (bA [(1, .ptr 1000000000 0)] [⟨31, (List.map AV.d (aA.enc b0))⟩] [] [] []) =
 γ55 [.d (.int .i64 b0.ID)] [] [] fun r6 =>
 cond (r6 != 0) (
 (rI r6)) (
 cond (decide (b0.Kind ≤ 7)) (
 (rI r6)) (
 asP (C23 Γ γ51 γ16 γ52 γ53 γ54 γ55 γ56 γ57) Λ2 J (aA.enc b0))) := by kernel_rfl
theorem ax7 (b0 : aA) : cJ SE (C23 Γ γ51 γ16 γ52 γ53 γ54 γ55 γ56 γ57) Λ2 J 23 0 [1, 1, 1, 1, 1, 1, 0, 0] (bA [(1, .ptr 1000000000 0)] [⟨31, (List.map AV.d (aA.enc b0))⟩] [] [] []) =
 cond (b0.Kind == 12) (
 (rI 0)) (
 cond (b0.Kind == 13) (
 (rI 0)) (
 as0 (C23 Γ γ51 γ16 γ52 γ53 γ54 γ55 γ56 γ57) Λ2 J (aA.enc b0))) := by kernel_rfl
theorem aAp (b0 : aA) : cJ SE (C23 Γ γ51 γ16 γ52 γ53 γ54 γ55 γ56 γ57) Λ2 J 23 0 [1, 1, 0, 0] (bA [(1, .ptr 1000000000 0)] [⟨31, (List.map AV.d (aA.enc b0))⟩] [] [] []) =
 γ51 [aA.av b0] [] [] fun r0 =>
 γ16 [aA.av b0, aA.av r0] [] [] fun r1 =>
 cond (!r1) (
 (rI 28)) (
 cond (b0.Kind == 1) (
 γ52 [aA.av b0] [] [] fun r2 =>
 (rI r2)) (
 cond (b0.Kind == 3) (
 γ53 [aA.av b0] [] [] fun r3 =>
 (rI r3)) (
 cond (b0.Kind == 2) (
 γ54 [.d (.int .i64 b0.Code)] [] [] fun r4 =>
 cond (!r4) (
  (rI 1)) (
 cond b0.Present (
  cond (b0.Code != 0) (
  (rI 28)) (
  (rI 0))) (
 (rI 0)))) (
 cond (b0.Kind == 14) (
 γ54 [.d (.int .i64 b0.Code)] [] [] fun r5 =>
 cond (!r5) (
  (rI 1)) (
 cond b0.Present (
  cond (b0.Code != 0) (
  (rI 28)) (
  (rI 0))) (
 (rI 0)))) (
 atf (C23 Γ γ51 γ16 γ52 γ53 γ54 γ55 γ56 γ57) Λ2 J (aA.enc b0)))))) := by kernel_rfl
end
abbrev X23 : aR := C23 gG (cT 51 dY) (cT 16 packet_is_out) (cT 52 aJ) (cT 53 aJ) (cT 54 packet_is_out) (cT 55 aJ) (cT 56 aJ) (cT 57 aJ)
theorem aoT : X23 = aS gG := by unfold X23 C23; repeat rw [bH fun _ h => h]
abbrev axd := asP X23 (cB SE gG (SE.hl 23) (SE.hr 23)) (J0 SE X23)
abbrev aya := as0 X23 (cB SE gG (SE.hl 23) (SE.hr 23)) (J0 SE X23)
abbrev axz := atf X23 (cB SE gG (SE.hl 23) (SE.hr 23)) (J0 SE X23)
abbrev aAZ := av1 X23 (cB SE gG (SE.hl 23) (SE.hr 23)) (J0 SE X23)
theorem ad1 (b0 : aA) : Le (Option.map aJ (pA b0)) (axd (aA.enc b0)) := by
 refine Le.trans ?_ (le_of_eq ((bD aoT).trans (axN ..)).symm)
 unfold pA
 refine lQ eX bB (by (try simp only [EN]); exact ahc ((w6 ((w6 ((List.length b0.Subs : Int) + (List.length b0.Filters : Int))) + (List.length b0.Codes : Int))))) fun r7 _ => ?_
 refine lC ?_ ?_
 ·exact aG rfl
 ·refine lQ eX bB (aex _) fun r8 _ => ?_
  exact aG rfl
theorem ady (b0 : aA) : Le (Option.map aJ (pL b0)) (aya (aA.enc b0)) := by
 refine Le.trans ?_ (le_of_eq ((bD aoT).trans (axR ..)).symm)
 unfold pL
 refine lQ eX bB (aaU _) fun r6 _ => ?_
 refine lC ?_ ?_
 ·exact aG rfl
 ·refine lC ?_ ?_
  ·exact aG rfl
  ·exact ad1 b0
theorem adG (b0 : aA) : Le (Option.map aJ (o9 b0)) (axz (aA.enc b0)) := by
 refine Le.trans ?_ (le_of_eq ((bD aoT).trans (ax7 ..)).symm)
 unfold o9
 refine lC ?_ ?_
 ·exact aG rfl
 ·refine lC ?_ ?_
  ·exact aG rfl
  ·exact ady b0
theorem aeu (b0 : aA) : Le (Option.map aJ (qB b0)) (aAZ (aA.enc b0)) := by
 refine Le.trans ?_ (le_of_eq ((bD aoT).trans (aAp ..)).symm)
 unfold qB
 refine lQ eX aeM (ahE _) fun r0 _ => ?_
 refine lQ eX packet_is_inj (lE _ _) fun r1 _ => ?_
 refine lC ?_ ?_
 ·exact aG rfl
 ·refine lC ?_ ?_
  ·refine lQ eX bB (afI _) fun r2 _ => ?_
   exact aG rfl
  ·refine lC ?_ ?_
   ·refine lQ eX bB (afL _) fun r3 _ => ?_
    exact aG rfl
   ·refine lC ?_ ?_
    ·refine lQ eX packet_is_inj (wI _) fun r4 _ => ?_
     refine lC ?_ ?_
     ·exact aG rfl
     ·refine lC ?_ ?_
      ·refine lC ?_ ?_
       ·exact aG rfl
       ·exact aG rfl
      ·exact aG rfl
    ·refine lC ?_ ?_
     ·refine lQ eX packet_is_inj (wI _) fun r5 _ => ?_
      refine lC ?_ ?_
      ·exact aG rfl
      ·refine lC ?_ ?_
       ·refine lC ?_ ?_
        ·exact aG rfl
        ·exact aG rfl
       ·exact aG rfl
     ·exact adG b0
theorem qO (p0 : aA) : Le (Option.map aJ (jT p0)) (bF SE 23 [aA.av p0] [] []) := by
 refine aZ aoT rfl ?_
 refine Le.trans ?_ (le_of_eq (T23 ..).symm)
 unfold jT
 refine lC ?_ ?_
 ·exact aG rfl
 ·refine lC ?_ ?_
  ·exact aG rfl
  ·exact aeu p0
section
variable (Γ : Fun)  (Λ2 J : Lam)
def C71 : aR := aS Γ
theorem T71 (p0 : Int) : bK SE (C71 Γ) Λ2 J 71 [.d (.int .i64 p0)] [] [] =
 cond (decide (p0 ≥ 0)) (
 (some (.ret [.d (.int .u64 (IntKind.wrap .u64 ((IntKind.wrap .u64 p0) * 2)))] [] []))) (
 (some (.ret [.d (.int .u64 (IntKind.wrap .u64 ((IntKind.wrap .u64 ((IntKind.wrap .u64 (w6 (0 - (w6 (p0 + 1))))) * 2)) + 1)))] [] []))) := by kernel_rfl
end
abbrev X71 : aR := C71 gG
theorem aCW : X71 = aS gG := rfl
theorem ahC (p0 : Int) : Le (Option.map kM (rK p0)) (bF SE 71 [.d (.int .i64 p0)] [] []) := by
 refine aZ aCW rfl ?_
 refine Le.trans ?_ (le_of_eq (T71 ..).symm)
 unfold rK
 refine lC ?_ ?_
 ·exact aG rfl
 ·exact aG rfl
def aq4 (C : aR) (Λ2 J : Lam) (a0 : Int) (a1 : List (List D)) : Res := lab SE C Λ2 J 32 0 [1, 1, 1, 0, 0] (bA [(5, .row 3005), (6, .d (.int .u64 a0))] [] [] [] [(3005, ⟨[.int .u8], 5, 1, a1⟩)])
section
variable (Γ : Fun) (γ71 : Gm (Int)) (Λ2 J : Lam)
def C32 : aR := bE (aS Γ) 71 kM γ71
theorem T32 (p0 : List Int) (p1 : Int) : bK SE (C32 Γ γ71) Λ2 J 32 [.d (.sl [.int .u8] (List.map (aO .u8) p0)), .d (.int .i64 p1)] [] [] =
 cond (decide ((lM (aO .u8) [] + lM (aO .u8) p0) * 1 ≤ 140737488355328)) (
 γ71 [.d (.int .i64 p1)] [] [] fun r0 =>
 aq4 (C32 Γ γ71) Λ2 J r0 (((List.map (aO .u8) []) ++ (List.map (aO .u8) p0)))) none := by kernel_rfl
theorem aBu (x6 : Int) (w3005 : List Int) : cJ SE (C32 Γ γ71) Λ2 J 32 0 [1, 1, 1, 0, 0] (bA [(5, .row 3005), (6, .d (.int .u64 x6))] [] [] [] [(3005, ⟨[.int .u8], 5, 1, (List.map (aO .u8) w3005)⟩)]) =
 cond (decide (x6 ≥ 128)) (
 cond (decide ((lM (aO .u8) w3005 + lM (aO .u8) [(IntKind.wrap .u8 ((IntKind.wrap .u8 (Int.tmod x6 128)) + 128))]) * 1 ≤ 140737488355328)) (
  aq4 (C32 Γ γ71) Λ2 J (IntKind.wrap .u64 (Int.tdiv x6 128)) (((List.map (aO .u8) w3005) ++ (List.map (aO .u8) [(IntKind.wrap .u8 ((IntKind.wrap .u8 (Int.tmod x6 128)) + 128))])))) none) (
 cond (decide ((lM (aO .u8) w3005 + lM (aO .u8) [(IntKind.wrap .u8 x6)]) * 1 ≤ 140737488355328)) (
 (some (.ret [.row 0] [] [⟨[.int .u8], 5, 1, ((List.map (aO .u8) w3005) ++ (List.map (aO .u8) [(IntKind.wrap .u8 x6)]))⟩]))) none) := by kernel_rfl
end
abbrev X32 : aR := C32 gG (cT 71 kM)
theorem axl : X32 = aS gG := by unfold X32 C32; rw [bH fun _ h => h]
abbrev aB7 := aq4 X32 (cB SE gG (SE.hl 32) (SE.hr 32)) (J0 SE X32)
theorem ad7 : ∀ (fu : Nat) (x6 : Int) (w3005 : List Int), Le (Option.map aP (gQ fu x6 w3005)) (aB7 x6 (List.map (aO .u8) w3005)) := by
 intro fu
 induction fu with
 | zero => intros; exact le_none
 | succ fu ih =>
  intro x6 w3005
  refine Le.trans ?_ (le_of_eq ((bD axl).trans (aBu ..)).symm)
  unfold gQ
  refine lC ?_ ?_
  ·refine lG (by simp only [EN]) ?_
   (try simp only [EN]); exact ih (IntKind.wrap .u64 (Int.tdiv x6 128)) (w3005 ++ [(IntKind.wrap .u8 ((IntKind.wrap .u8 (Int.tmod x6 128)) + 128))])
  ·refine lG (by simp only [EN]) ?_
   exact aG (by first | rfl | simp only [EN, aP] <;> rfl)
theorem bX (p0 : List Int) (p1 : Int) : Le (Option.map aP (bP p0 p1)) (bF SE 32 [.d (.sl [.int .u8] (List.map (aO .u8) p0)), .d (.int .i64 p1)] [] []) := by
 refine aZ axl rfl ?_
 refine Le.trans ?_ (le_of_eq (T32 ..).symm)
 unfold bP
 refine lG (by simp only [EN]) ?_
 refine lQ eX ahr (ahC _) fun r0 _ => ?_
 (try simp only [EN]); exact ad7 fuel r0 (([] : List Int) ++ p0)
section
variable (Γ : Fun) (γ32 : Gm ((List Int))) (Λ2 J : Lam)
def C48 : aR := bE (aS Γ) 32 aP γ32
theorem T48 (p0 : List Int) (p1 : Str) : bK SE (C48 Γ γ32) Λ2 J 48 [.d (.sl [.int .u8] (List.map (aO .u8) p0)), .d (.str p1)] [] [] =
 γ32 [.d (.sl [.int .u8] (List.map (aO .u8) p0)), .d (.int .i64 (List.length p1 : Int))] [] [] fun r0 =>
 cond (decide ((lM (aO .u8) r0 + List.length (fP p1)) * 1 ≤ 140737488355328)) (
 (some (.ret [.row 0] [] [⟨[.int .u8], 5, 1, ((List.map (aO .u8) r0) ++ (fP p1))⟩]))) none := by kernel_rfl
end
abbrev X48 : aR := C48 gG (cT 32 aP)
theorem aDd : X48 = aS gG := by unfold X48 C48; rw [bH fun _ h => h]
theorem eR (p0 : List Int) (p1 : Str) : Le (Option.map aP (dS p0 p1)) (bF SE 48 [.d (.sl [.int .u8] (List.map (aO .u8) p0)), .d (.str p1)] [] []) := by
 refine aZ aDd rfl ?_
 refine Le.trans ?_ (le_of_eq (T48 ..).symm)
 unfold dS
 refine lQ eX aW (bX _ _) fun r0 _ => ?_
 refine lG (by simp only [EN]) ?_
 exact aG (by first | rfl | simp only [EN, aP] <;> rfl)
def avA (C : aR) (Λ2 J : Lam) (a0 : List (List D)) (a1 a2 a3 a4 : Int) (a5 : Bool) : Res := lab SE C Λ2 J 72 0 [1, 1, 1, 0, 1, 0, 0, 1, 0, 0, 0, 0] (bA [(0, .d (.sl [.bool] a0)), (3, .d (.int .i64 a1)), (4, .d (.int .i64 a2)), (5, .d (.int .i64 a3)), (11, .d (.int .i64 a4)), (12, .d (.bool a5))] [] [] [] [])
def anI (C : aR) (Λ2 J : Lam) (a0 : List (List D)) (a1 a2 a3 : Int) : Res := lab SE C Λ2 J 72 0 [1, 1, 1, 0, 1, 0] (bA [(0, .d (.sl [.bool] a0)), (3, .d (.int .i64 a1)), (4, .d (.int .i64 a2)), (5, .d (.int .i64 a3))] [] [] [] [])
section
variable (Γ : Fun)  (Λ2 J : Lam)
def C72 : aR := aS Γ
theorem T72 (p0 : List Bool) : bK SE (C72 Γ) Λ2 J 72 [.d (.sl [.bool] (List.map gH p0))] [] [] =
 anI (C72 Γ) Λ2 J (List.map gH p0) 0 1 0 := by kernel_rfl
theorem aAQ (x0 : List Bool) (x3 x4 x5 x11 : Int) (x12 : Bool) : cJ SE (C72 Γ) Λ2 J 72 0 [1, 1, 1, 0, 1, 0, 0, 1, 0, 0, 0, 0] (bA [(0, .d (.sl [.bool] (List.map gH x0))), (3, .d (.int .i64 x3)), (4, .d (.int .i64 x4)), (5, .d (.int .i64 x5)), (11, .d (.int .i64 x11)), (12, .d (.bool x12))] [] [] [] []) =
 cond (iB x5 (lM gH x0 : Int)) (
 cond (bT (cE gH x0 x5 0)) (
  anI (C72 Γ) Λ2 J (List.map gH x0) (w6 (x3 + x4)) (w6 (x4 * 2)) (w6 (x5 + 1))) (
 anI (C72 Γ) Λ2 J (List.map gH x0) x3 (w6 (x4 * 2)) (w6 (x5 + 1)))) none := by kernel_rfl
theorem aBh (x0 : List Bool) (x3 x4 x5 : Int) : cJ SE (C72 Γ) Λ2 J 72 0 [1, 1, 1, 0, 1, 0] (bA [(0, .d (.sl [.bool] (List.map gH x0))), (3, .d (.int .i64 x3)), (4, .d (.int .i64 x4)), (5, .d (.int .i64 x5))] [] [] [] []) =
 cond (decide (x5 < (lM gH x0 : Int))) (
 cond (decide (x5 < 32)) (
  avA (C72 Γ) Λ2 J (List.map gH x0) x3 x4 x5 x5 (decide (x5 < 32))) (
 (rI x3))) (
 (rI x3)) := by kernel_rfl
end
abbrev X72 : aR := C72 gG
theorem avg : X72 = aS gG := rfl
abbrev aBV := avA X72 (cB SE gG (SE.hl 72) (SE.hr 72)) (J0 SE X72)
abbrev avO := anI X72 (cB SE gG (SE.hl 72) (SE.hr 72)) (J0 SE X72)
theorem aen (k4 : (List Bool) → Int → Int → Int → Option (Int)) (hk4 : ∀ (x0 : List Bool) (x3 x4 x5 : Int), Le (Option.map aJ (k4 x0 x3 x4 x5)) (avO (List.map gH x0) x3 x4 x5)) (x0 : List Bool) (x3 x4 x5 x11 : Int) (x12 : Bool) : Le (Option.map aJ (vA k4 x0 x3 x4 x5 x11 x12)) (aBV (List.map gH x0) x3 x4 x5 x11 x12) := by
 refine Le.trans ?_ (le_of_eq ((bD avg).trans (aAQ ..)).symm)
 unfold vA
 refine lG (by simp only [EN]) ?_
 refine lD (by simp only [EN]) ?_ ?_
 ·exact hk4 x0 (w6 (x3 + x4)) (w6 (x4 * 2)) (w6 (x5 + 1))
 ·exact hk4 x0 x3 (w6 (x4 * 2)) (w6 (x5 + 1))
theorem aer : ∀ (fu : Nat) (x0 : List Bool) (x3 x4 x5 : Int), Le (Option.map aJ (qW fu x0 x3 x4 x5)) (avO (List.map gH x0) x3 x4 x5) := by
 intro fu
 induction fu with
 | zero => intros; exact le_none
 | succ fu ih =>
  intro x0 x3 x4 x5
  refine Le.trans ?_ (le_of_eq ((bD avg).trans (aBh ..)).symm)
  unfold qW
  refine lD (by simp only [EN]) ?_ ?_
  ·refine lC ?_ ?_
   ·exact aen _ (ih) x0 x3 x4 x5 x5 (decide (x5 < 32))
   ·exact aG rfl
  ·exact aG rfl
theorem agA (p0 : List Bool) : Le (Option.map aJ (yT p0)) (bF SE 72 [.d (.sl [.bool] (List.map gH p0))] [] []) := by
 refine aZ avg rfl ?_
 refine Le.trans ?_ (le_of_eq (T72 ..).symm)
 unfold yT
 exact aer fuel p0 0 1 0
section
variable (Γ : Fun) (γ72 : Gm (Int)) (Λ2 J : Lam)
def C34 : aR := bE (aS Γ) 72 aJ γ72
theorem T34 (p0 p1 : Bool) : bK SE (C34 Γ γ72) Λ2 J 34 [.d (.bool p0), .d (.bool p1)] [] [] =
 γ72 [.d (.sl [.bool] (List.map gH [p0, p1]))] [] [] fun r0 =>
 (rI r0) := by kernel_rfl
end
abbrev X34 : aR := C34 gG (cT 72 aJ)
theorem aCP : X34 = aS gG := by unfold X34 C34; rw [bH fun _ h => h]
theorem qG (p0 p1 : Bool) : Le (Option.map aJ (kV p0 p1)) (bF SE 34 [.d (.bool p0), .d (.bool p1)] [] []) := by
 refine aZ aCP rfl ?_
 refine Le.trans ?_ (le_of_eq (T34 ..).symm)
 unfold kV
 refine lQ eX bB (agA _) fun r0 _ => ?_
 exact aG rfl
def apg (C : aR) (Λ2 J : Lam) (a0 : Int) (a1 : List D) (a2 : List (List D)) : Res := lab SE C Λ2 J 35 0 [1, 1, 1, 1, 1, 1, 1, 1, 0, 1, 0] (bA [(3, .ptr 1000000000 0), (6, .row 3006), (7, .d (.int .i64 a0))] [⟨24, (List.map AV.d a1)⟩] [] [] [(3006, ⟨[.int .u8], 5, 1, a2⟩)])
def arM (C : aR) (Λ2 J : Lam) (a0 : List (List D)) (a1 : Int) (a2 : List D) : Res := lab SE C Λ2 J 35 0 [1, 1, 1, 0] (bA [(0, .d (.sl [.int .u8] a0)), (3, .ptr 1000000000 0), (5, .d (.int .i64 a1))] [⟨24, (List.map AV.d a2)⟩] [] [] [])
section
variable (Γ : Fun) (γ48 γ32 : Gm ((List Int))) (Λ2 J : Lam)
def C35 : aR := bE (bE (aS Γ) 48 aP γ48) 32 aP γ32
theorem T35 (p0 : List Int) (p1 : aF) : bK SE (C35 Γ γ48 γ32) Λ2 J 35 [.d (.sl [.int .u8] (List.map (aO .u8) p0)), aF.av p1] [] [] =
 cond p1.Retain (
 arM (C35 Γ γ48 γ32) Λ2 J (List.map (aO .u8) p0) 1 (aF.enc p1)) (
 arM (C35 Γ γ48 γ32) Λ2 J (List.map (aO .u8) p0) 0 (aF.enc p1)) := by kernel_rfl
theorem axj (x7 : Int) (b0 : aF) (w3006 : List Int) : cJ SE (C35 Γ γ48 γ32) Λ2 J 35 0 [1, 1, 1, 1, 1, 1, 1, 1, 0, 1, 0] (bA [(3, .ptr 1000000000 0), (6, .row 3006), (7, .d (.int .i64 x7))] [⟨24, (List.map AV.d (aF.enc b0))⟩] [] [] [(3006, ⟨[.int .u8], 5, 1, (List.map (aO .u8) w3006)⟩)]) =
 cond (decide (x7 < (lM aC.enc b0.Props : Int))) (
 cond (iB x7 (lM aC.enc b0.Props : Int)) (
  γ48 [.d (.sl [.int .u8] (List.map (aO .u8) w3006)), .d (.str (bJ (cE aC.enc b0.Props x7 0)))] [] [] fun r9 =>
  cond (iB x7 (lM aC.enc b0.Props : Int)) (
  γ48 [.d (.sl [.int .u8] (List.map (aO .u8) r9)), .d (.str (bJ (cE aC.enc b0.Props x7 1)))] [] [] fun r10 =>
  apg (C35 Γ γ48 γ32) Λ2 J (w6 (x7 + 1)) (aF.enc b0) (List.map (aO .u8) r10)) none) none) (
 (some (.ret [.row 0] [] [⟨[.int .u8], 5, 1, (List.map (aO .u8) w3006)⟩]))) := by kernel_rfl
theorem azS (x0 : List Int) (x5 : Int) (b0 : aF) : cJ SE (C35 Γ γ48 γ32) Λ2 J 35 0 [1, 1, 1, 0] (bA [(0, .d (.sl [.int .u8] (List.map (aO .u8) x0))), (3, .ptr 1000000000 0), (5, .d (.int .i64 x5))] [⟨24, (List.map AV.d (aF.enc b0))⟩] [] [] []) =
 γ48 [.d (.sl [.int .u8] (List.map (aO .u8) x0)), .d (.str b0.Topic)] [] [] fun r0 =>
 γ48 [.d (.sl [.int .u8] (List.map (aO .u8) r0)), .d (.str b0.Payload)] [] [] fun r1 =>
 γ32 [.d (.sl [.int .u8] (List.map (aO .u8) r1)), .d (.int .i64 b0.Level)] [] [] fun r2 =>
 γ32 [.d (.sl [.int .u8] (List.map (aO .u8) r2)), .d (.int .i64 x5)] [] [] fun r3 =>
 γ32 [.d (.sl [.int .u8] (List.map (aO .u8) r3)), .d (.int .i64 b0.Priority)] [] [] fun r4 =>
 γ32 [.d (.sl [.int .u8] (List.map (aO .u8) r4)), .d (.int .i64 b0.Expires)] [] [] fun r5 =>
 γ48 [.d (.sl [.int .u8] (List.map (aO .u8) r5)), .d (.str b0.From)] [] [] fun r6 =>
 γ32 [.d (.sl [.int .u8] (List.map (aO .u8) r6)), .d (.int .i64 b0.Seq)] [] [] fun r7 =>
 γ32 [.d (.sl [.int .u8] (List.map (aO .u8) r7)), .d (.int .i64 (lM aC.enc b0.Props : Int))] [] [] fun r8 =>
 apg (C35 Γ γ48 γ32) Λ2 J 0 (aF.enc b0) (List.map (aO .u8) r8) := by kernel_rfl
end
abbrev X35 : aR := C35 gG (cT 48 aP) (cT 32 aP)
theorem auP : X35 = aS gG := by unfold X35 C35; repeat rw [bH fun _ h => h]
abbrev ay1 := apg X35 (cB SE gG (SE.hl 35) (SE.hr 35)) (J0 SE X35)
abbrev aCf := arM X35 (cB SE gG (SE.hl 35) (SE.hr 35)) (J0 SE X35)
theorem afs : ∀ (fu : Nat) (x7 : Int) (b0 : aF) (w3006 : List Int), Le (Option.map aP (iM fu x7 b0 w3006)) (ay1 x7 (aF.enc b0) (List.map (aO .u8) w3006)) := by
 intro fu
 induction fu with
 | zero => intros; exact le_none
 | succ fu ih =>
  intro x7 b0 w3006
  refine Le.trans ?_ (le_of_eq ((bD auP).trans (axj ..)).symm)
  unfold iM
  refine lD (by simp only [EN]) ?_ ?_
  ·refine lG (by simp only [EN]) ?_
   refine lQ eX aW (by (try simp only [EN]); exact eR w3006 ((List.getD b0.Props (Int.toNat x7) default).Key)) fun r9 _ => ?_
   refine lG (by simp only [EN]) ?_
   refine lQ eX aW (by (try simp only [EN]); exact eR r9 ((List.getD b0.Props (Int.toNat x7) default).Value)) fun r10 _ => ?_
   exact ih (w6 (x7 + 1)) b0 r10
  ·exact aG rfl
theorem aak (x0 : List Int) (x5 : Int) (b0 : aF) : Le (Option.map aP (mG x0 x5 b0)) (aCf (List.map (aO .u8) x0) x5 (aF.enc b0)) := by
 refine Le.trans ?_ (le_of_eq ((bD auP).trans (azS ..)).symm)
 unfold mG
 refine lQ eX aW (eR _ _) fun r0 _ => ?_
 refine lQ eX aW (eR _ _) fun r1 _ => ?_
 refine lQ eX aW (bX _ _) fun r2 _ => ?_
 refine lQ eX aW (bX _ _) fun r3 _ => ?_
 refine lQ eX aW (bX _ _) fun r4 _ => ?_
 refine lQ eX aW (bX _ _) fun r5 _ => ?_
 refine lQ eX aW (eR _ _) fun r6 _ => ?_
 refine lQ eX aW (bX _ _) fun r7 _ => ?_
 refine lQ eX aW (by (try simp only [EN]); exact bX r7 (List.length b0.Props : Int)) fun r8 _ => ?_
 exact afs fuel 0 b0 r8
theorem ab9 (p0 : List Int) (p1 : aF) : Le (Option.map aP (nF p0 p1)) (bF SE 35 [.d (.sl [.int .u8] (List.map (aO .u8) p0)), aF.av p1] [] []) := by
 refine aZ auP rfl ?_
 refine Le.trans ?_ (le_of_eq (T35 ..).symm)
 unfold nF
 refine lC ?_ ?_
 ·exact aak p0 1 p1
 ·exact aak p0 0 p1
section
variable (Γ : Fun) (γ48 : Gm ((List Int))) (γ34 : Gm (Int)) (γ32 γ35 : Gm ((List Int))) (Λ2 J : Lam)
def C33 : aR := bE (bE (bE (bE (aS Γ) 48 aP γ48) 34 aJ γ34) 32 aP γ32) 35 aP γ35
theorem T33 (p0 : List Int) (p1 : aA) : bK SE (C33 Γ γ48 γ34 γ32 γ35) Λ2 J 33 [.d (.sl [.int .u8] (List.map (aO .u8) p0)), aA.av p1] [] [] =
 γ48 [.d (.sl [.int .u8] (List.map (aO .u8) p0)), .d (.str p1.Client)] [] [] fun r0 =>
 γ48 [.d (.sl [.int .u8] (List.map (aO .u8) r0)), .d (.str p1.User)] [] [] fun r1 =>
 γ34 [.d (.bool p1.Clean), .d (.bool p1.Will.Set)] [] [] fun r2 =>
 γ32 [.d (.sl [.int .u8] (List.map (aO .u8) r1)), .d (.int .i64 r2)] [] [] fun r3 =>
 γ32 [.d (.sl [.int .u8] (List.map (aO .u8) r3)), .d (.int .i64 p1.Keep)] [] [] fun r4 =>
 γ32 [.d (.sl [.int .u8] (List.map (aO .u8) r4)), .d (.int .i64 p1.Expiry)] [] [] fun r5 =>
 γ32 [.d (.sl [.int .u8] (List.map (aO .u8) r5)), .d (.int .i64 p1.Window)] [] [] fun r6 =>
 cond p1.Will.Set (
 γ32 [.d (.sl [.int .u8] (List.map (aO .u8) r6)), .d (.int .i64 p1.Will.Delay)] [] [] fun r7 =>
 γ35 [.d (.sl [.int .u8] (List.map (aO .u8) r7)), aF.av p1.Will.Message] [] [] fun r8 =>
 (some (.ret [.row 0] [] [⟨[.int .u8], 5, 1, (List.map (aO .u8) r8)⟩]))) (
 (some (.ret [.row 0] [] [⟨[.int .u8], 5, 1, (List.map (aO .u8) r6)⟩]))) := by kernel_rfl
end
abbrev X33 : aR := C33 gG (cT 48 aP) (cT 34 aJ) (cT 32 aP) (cT 35 aP)
theorem aEk : X33 = aS gG := by unfold X33 C33; repeat rw [bH fun _ h => h]
theorem afA (p0 : List Int) (p1 : aA) : Le (Option.map aP (nZ p0 p1)) (bF SE 33 [.d (.sl [.int .u8] (List.map (aO .u8) p0)), aA.av p1] [] []) := by
 refine aZ aEk rfl ?_
 refine Le.trans ?_ (le_of_eq (T33 ..).symm)
 unfold nZ
 refine lQ eX aW (eR _ _) fun r0 _ => ?_
 refine lQ eX aW (eR _ _) fun r1 _ => ?_
 refine lQ eX bB (qG _ _) fun r2 _ => ?_
 refine lQ eX aW (bX _ _) fun r3 _ => ?_
 refine lQ eX aW (bX _ _) fun r4 _ => ?_
 refine lQ eX aW (bX _ _) fun r5 _ => ?_
 refine lQ eX aW (bX _ _) fun r6 _ => ?_
 refine lC ?_ ?_
 ·refine lQ eX aW (bX _ _) fun r7 _ => ?_
  refine lQ eX aW (ab9 _ _) fun r8 _ => ?_
  exact aG rfl
 ·exact aG rfl
def aqZ (C : aR) (Λ2 J : Lam) (a0 : List (List D)) (a1 : Int) (a2 : List (List D)) : Res := lab SE C Λ2 J 73 0 [1, 1, 0, 1, 0] (bA [(1, .d (.sl [.str] a0)), (5, .row 3005), (6, .d (.int .i64 a1))] [] [] [] [(3005, ⟨[.int .u8], 5, 1, a2⟩)])
section
variable (Γ : Fun) (γ32 γ48 : Gm ((List Int))) (Λ2 J : Lam)
def C73 : aR := bE (bE (aS Γ) 32 aP γ32) 48 aP γ48
theorem T73 (p0 : List Int) (p1 : List Str) : bK SE (C73 Γ γ32 γ48) Λ2 J 73 [.d (.sl [.int .u8] (List.map (aO .u8) p0)), .d (.sl [.str] (List.map aY p1))] [] [] =
 γ32 [.d (.sl [.int .u8] (List.map (aO .u8) p0)), .d (.int .i64 (lM aY p1 : Int))] [] [] fun r0 =>
 aqZ (C73 Γ γ32 γ48) Λ2 J (List.map aY p1) 0 (List.map (aO .u8) r0) := by kernel_rfl
theorem azX (x1 : List Str) (x6 : Int) (w3005 : List Int) : cJ SE (C73 Γ γ32 γ48) Λ2 J 73 0 [1, 1, 0, 1, 0] (bA [(1, .d (.sl [.str] (List.map aY x1))), (5, .row 3005), (6, .d (.int .i64 x6))] [] [] [] [(3005, ⟨[.int .u8], 5, 1, (List.map (aO .u8) w3005)⟩)]) =
 cond (decide (x6 < (lM aY x1 : Int))) (
 cond (iB x6 (lM aY x1 : Int)) (
  γ48 [.d (.sl [.int .u8] (List.map (aO .u8) w3005)), .d (.str (bJ (cE aY x1 x6 0)))] [] [] fun r1 =>
  aqZ (C73 Γ γ32 γ48) Λ2 J (List.map aY x1) (w6 (x6 + 1)) (List.map (aO .u8) r1)) none) (
 (some (.ret [.row 0] [] [⟨[.int .u8], 5, 1, (List.map (aO .u8) w3005)⟩]))) := by kernel_rfl
end
abbrev X73 : aR := C73 gG (cT 32 aP) (cT 48 aP)
theorem ayd : X73 = aS gG := by unfold X73 C73; repeat rw [bH fun _ h => h]
abbrev aBR := aqZ X73 (cB SE gG (SE.hl 73) (SE.hr 73)) (J0 SE X73)
theorem acy : ∀ (fu : Nat) (x1 : List Str) (x6 : Int) (w3005 : List Int), Le (Option.map aP (gX fu x1 x6 w3005)) (aBR (List.map aY x1) x6 (List.map (aO .u8) w3005)) := by
 intro fu
 induction fu with
 | zero => intros; exact le_none
 | succ fu ih =>
  intro x1 x6 w3005
  refine Le.trans ?_ (le_of_eq ((bD ayd).trans (azX ..)).symm)
  unfold gX
  refine lD (by simp only [EN]) ?_ ?_
  ·refine lG (by simp only [EN]) ?_
   refine lQ eX aW (by (try simp only [EN]); exact eR w3005 (List.getD x1 (Int.toNat x6) default)) fun r1 _ => ?_
   exact ih x1 (w6 (x6 + 1)) r1
  ·exact aG rfl
theorem aev (p0 : List Int) (p1 : List Str) : Le (Option.map aP (mX p0 p1)) (bF SE 73 [.d (.sl [.int .u8] (List.map (aO .u8) p0)), .d (.sl [.str] (List.map aY p1))] [] []) := by
 refine aZ ayd rfl ?_
 refine Le.trans ?_ (le_of_eq (T73 ..).symm)
 unfold mX
 refine lQ eX aW (by (try simp only [EN]); exact bX p0 (List.length p1 : Int)) fun r0 _ => ?_
 exact acy fuel p1 0 r0
def aqM (C : aR) (Λ2 J : Lam) (a0 : Int) (a1 : List D) (a2 : List (List D)) : Res := lab SE C Λ2 J 36 0 [1, 1, 0, 1, 0, 1, 0, 1, 0] (bA [(0, .row 3000), (3, .ptr 1000000000 0), (5, .d (.int .i64 a0))] [⟨31, (List.map AV.d a1)⟩] [] [] [(3000, ⟨[.int .u8], 5, 1, a2⟩)])
def an0 (C : aR) (Λ2 J : Lam) (a0 : Int) (a1 : List D) (a2 : List (List D)) : Res := lab SE C Λ2 J 36 0 [1, 1, 1, 1, 0, 1, 0] (bA [(0, .row 3000), (3, .ptr 1000000000 0), (6, .d (.int .i64 a0))] [⟨31, (List.map AV.d a1)⟩] [] [] [(3000, ⟨[.int .u8], 5, 1, a2⟩)])
section
variable (Γ : Fun) (γ73 γ32 γ48 : Gm ((List Int))) (γ34 : Gm (Int)) (Λ2 J : Lam)
def C36 : aR := bE (bE (bE (bE (aS Γ) 73 aP γ73) 32 aP γ32) 48 aP γ48) 34 aJ γ34
theorem T36 (p0 : List Int) (p1 : aA) : bK SE (C36 Γ γ73 γ32 γ48 γ34) Λ2 J 36 [.d (.sl [.int .u8] (List.map (aO .u8) p0)), aA.av p1] [] [] =
 cond (p1.Kind == 10) (
 γ73 [.d (.sl [.int .u8] (List.map (aO .u8) p0)), .d (.sl [.str] (List.map aY p1.Filters))] [] [] fun r0 =>
 (some (.ret [.row 0] [] [⟨[.int .u8], 5, 1, (List.map (aO .u8) r0)⟩]))) (
 cond (p1.Kind == 8) (
 γ32 [.d (.sl [.int .u8] (List.map (aO .u8) p0)), .d (.int .i64 (lM aH.enc p1.Subs : Int))] [] [] fun r1 =>
 aqM (C36 Γ γ73 γ32 γ48 γ34) Λ2 J 0 (aA.enc p1) (List.map (aO .u8) r1)) (
 γ32 [.d (.sl [.int .u8] (List.map (aO .u8) p0)), .d (.int .i64 (lM eI p1.Codes : Int))] [] [] fun r2 =>
 an0 (C36 Γ γ73 γ32 γ48 γ34) Λ2 J 0 (aA.enc p1) (List.map (aO .u8) r2))) := by kernel_rfl
theorem aAO (x5 : Int) (b0 : aA) (w3000 : List Int) : cJ SE (C36 Γ γ73 γ32 γ48 γ34) Λ2 J 36 0 [1, 1, 0, 1, 0, 1, 0, 1, 0] (bA [(0, .row 3000), (3, .ptr 1000000000 0), (5, .d (.int .i64 x5))] [⟨31, (List.map AV.d (aA.enc b0))⟩] [] [] [(3000, ⟨[.int .u8], 5, 1, (List.map (aO .u8) w3000)⟩)]) =
 cond (decide (x5 < (lM aH.enc b0.Subs : Int))) (
 cond (iB x5 (lM aH.enc b0.Subs : Int)) (
  γ48 [.d (.sl [.int .u8] (List.map (aO .u8) w3000)), .d (.str (bJ (cE aH.enc b0.Subs x5 0)))] [] [] fun r3 =>
  cond (iB x5 (lM aH.enc b0.Subs : Int)) (
  γ32 [.d (.sl [.int .u8] (List.map (aO .u8) r3)), .d (.int .i64 (aX (cE aH.enc b0.Subs x5 1)))] [] [] fun r4 =>
  cond (iB x5 (lM aH.enc b0.Subs : Int)) (
   γ34 [.d (.bool (bT (cE aH.enc b0.Subs x5 2))), .d (.bool false)] [] [] fun r5 =>
   γ32 [.d (.sl [.int .u8] (List.map (aO .u8) r4)), .d (.int .i64 r5)] [] [] fun r6 =>
   aqM (C36 Γ γ73 γ32 γ48 γ34) Λ2 J (w6 (x5 + 1)) (aA.enc b0) (List.map (aO .u8) r6)) none) none) none) (
 (some (.ret [.row 0] [] [⟨[.int .u8], 5, 1, (List.map (aO .u8) w3000)⟩]))) := by kernel_rfl
theorem ax2 (x6 : Int) (b0 : aA) (w3000 : List Int) : cJ SE (C36 Γ γ73 γ32 γ48 γ34) Λ2 J 36 0 [1, 1, 1, 1, 0, 1, 0] (bA [(0, .row 3000), (3, .ptr 1000000000 0), (6, .d (.int .i64 x6))] [⟨31, (List.map AV.d (aA.enc b0))⟩] [] [] [(3000, ⟨[.int .u8], 5, 1, (List.map (aO .u8) w3000)⟩)]) =
 cond (decide (x6 < (lM eI b0.Codes : Int))) (
 cond (iB x6 (lM eI b0.Codes : Int)) (
  γ32 [.d (.sl [.int .u8] (List.map (aO .u8) w3000)), .d (.int .i64 (aX (cE eI b0.Codes x6 0)))] [] [] fun r7 =>
  an0 (C36 Γ γ73 γ32 γ48 γ34) Λ2 J (w6 (x6 + 1)) (aA.enc b0) (List.map (aO .u8) r7)) none) (
 (some (.ret [.row 0] [] [⟨[.int .u8], 5, 1, (List.map (aO .u8) w3000)⟩]))) := by kernel_rfl
end
abbrev X36 : aR := C36 gG (cT 73 aP) (cT 32 aP) (cT 48 aP) (cT 34 aJ)
theorem atS : X36 = aS gG := by unfold X36 C36; repeat rw [bH fun _ h => h]
abbrev aAu := aqM X36 (cB SE gG (SE.hl 36) (SE.hr 36)) (J0 SE X36)
abbrev axp := an0 X36 (cB SE gG (SE.hl 36) (SE.hr 36)) (J0 SE X36)
theorem aes : ∀ (fu : Nat) (x5 : Int) (b0 : aA) (w3000 : List Int), Le (Option.map aP (hY fu x5 b0 w3000)) (aAu x5 (aA.enc b0) (List.map (aO .u8) w3000)) := by
 intro fu
 induction fu with
 | zero => intros; exact le_none
 | succ fu ih =>
  intro x5 b0 w3000
  refine Le.trans ?_ (le_of_eq ((bD atS).trans (aAO ..)).symm)
  unfold hY
  refine lD (by simp only [EN]) ?_ ?_
  ·refine lG (by simp only [EN]) ?_
   refine lQ eX aW (by (try simp only [EN]); exact eR w3000 ((List.getD b0.Subs (Int.toNat x5) default).Filter)) fun r3 _ => ?_
   refine lG (by simp only [EN]) ?_
   refine lQ eX aW (by (try simp only [EN]); exact bX r3 ((List.getD b0.Subs (Int.toNat x5) default).Level)) fun r4 _ => ?_
   refine lG (by simp only [EN]) ?_
   refine lQ eX bB (by (try simp only [EN]); exact qG ((List.getD b0.Subs (Int.toNat x5) default).NoLocal) false) fun r5 _ => ?_
   refine lQ eX aW (bX _ _) fun r6 _ => ?_
   exact ih (w6 (x5 + 1)) b0 r6
  ·exact aG rfl
theorem adJ : ∀ (fu : Nat) (x6 : Int) (b0 : aA) (w3000 : List Int), Le (Option.map aP (gS fu x6 b0 w3000)) (axp x6 (aA.enc b0) (List.map (aO .u8) w3000)) := by
 intro fu
 induction fu with
 | zero => intros; exact le_none
 | succ fu ih =>
  intro x6 b0 w3000
  refine Le.trans ?_ (le_of_eq ((bD atS).trans (ax2 ..)).symm)
  unfold gS
  refine lD (by simp only [EN]) ?_ ?_
  ·refine lG (by simp only [EN]) ?_
   refine lQ eX aW (by (try simp only [EN]); exact bX w3000 (List.getD b0.Codes (Int.toNat x6) default)) fun r7 _ => ?_
   exact ih (w6 (x6 + 1)) b0 r7
  ·exact aG rfl
theorem agB (p0 : List Int) (p1 : aA) : Le (Option.map aP (tM p0 p1)) (bF SE 36 [.d (.sl [.int .u8] (List.map (aO .u8) p0)), aA.av p1] [] []) := by
 refine aZ atS rfl ?_
 refine Le.trans ?_ (le_of_eq (T36 ..).symm)
 unfold tM
 refine lC ?_ ?_
 ·refine lQ eX aW (aev _ _) fun r0 _ => ?_
  exact aG rfl
 ·refine lC ?_ ?_
  ·refine lQ eX aW (by (try simp only [EN]); exact bX p0 (List.length p1.Subs : Int)) fun r1 _ => ?_
   exact aes fuel 0 p1 r1
  ·refine lQ eX aW (by (try simp only [EN]); exact bX p0 (List.length p1.Codes : Int)) fun r2 _ => ?_
   exact adJ fuel 0 p1 r2
def atD (C : aR) (Λ2 J : Lam) (a0 : List D) (a1 : List (List D)) : Res := lab SE C Λ2 J 12 0 [1, 1, 1, 1, 1, 1, 1, 1, 0] (bA [(1, .ptr 1000000000 0), (5, .row 3005)] [⟨31, (List.map AV.d a0)⟩] [] [] [(3005, ⟨[.int .u8], 5, 1, a1⟩)])
section
variable (Γ : Fun) (γ23 : Gm (Int)) (γ32 γ33 : Gm ((List Int))) (γ34 : Gm (Int)) (γ35 γ36 : Gm ((List Int))) (Λ2 J : Lam)
def C12 : aR := bE (bE (bE (bE (bE (bE (aS Γ) 23 aJ γ23) 32 aP γ32) 33 aP γ33) 34 aJ γ34) 35 aP γ35) 36 aP γ36
theorem T12 (p0 : aA) : bK SE (C12 Γ γ23 γ32 γ33 γ34 γ35 γ36) Λ2 J 12 [aA.av p0] [] [] =
 γ23 [aA.av p0] [] [] fun r0 =>
 cond (r0 != 0) (
 (some (.ret [.row 0, .d (.int .i64 r0)] [] [⟨[.int .u8], 5, 1, []⟩]))) (
 γ32 [.d (.sl [.int .u8] (List.map (aO .u8) [])), .d (.int .i64 p0.Kind)] [] [] fun r1 =>
 cond (p0.Kind == 1) (
 γ33 [.d (.sl [.int .u8] (List.map (aO .u8) r1)), aA.av p0] [] [] fun r2 =>
 (some (.ret [.row 0, .d (.int .i64 0)] [] [⟨[.int .u8], 5, 1, (List.map (aO .u8) r2)⟩]))) (
 cond (p0.Kind == 2) (
 γ34 [.d (.bool p0.Present), .d (.bool false)] [] [] fun r3 =>
 γ32 [.d (.sl [.int .u8] (List.map (aO .u8) r1)), .d (.int .i64 r3)] [] [] fun r4 =>
 γ32 [.d (.sl [.int .u8] (List.map (aO .u8) r4)), .d (.int .i64 p0.Code)] [] [] fun r5 =>
 (some (.ret [.row 0, .d (.int .i64 0)] [] [⟨[.int .u8], 5, 1, (List.map (aO .u8) r5)⟩]))) (
 cond (p0.Kind == 14) (
 γ32 [.d (.sl [.int .u8] (List.map (aO .u8) r1)), .d (.int .i64 p0.Code)] [] [] fun r6 =>
 (some (.ret [.row 0, .d (.int .i64 0)] [] [⟨[.int .u8], 5, 1, (List.map (aO .u8) r6)⟩]))) (
 cond (p0.Kind == 12) (
 (some (.ret [.row 0, .d (.int .i64 0)] [] [⟨[.int .u8], 5, 1, (List.map (aO .u8) r1)⟩]))) (
 cond (p0.Kind == 13) (
 (some (.ret [.row 0, .d (.int .i64 0)] [] [⟨[.int .u8], 5, 1, (List.map (aO .u8) r1)⟩]))) (
 atD (C12 Γ γ23 γ32 γ33 γ34 γ35 γ36) Λ2 J (aA.enc p0) (List.map (aO .u8) r1))))))) := by kernel_rfl
theorem ayv (b0 : aA) (w3005 : List Int) : cJ SE (C12 Γ γ23 γ32 γ33 γ34 γ35 γ36) Λ2 J 12 0 [1, 1, 1, 1, 1, 1, 1, 1, 0] (bA [(1, .ptr 1000000000 0), (5, .row 3005)] [⟨31, (List.map AV.d (aA.enc b0))⟩] [] [] [(3005, ⟨[.int .u8], 5, 1, (List.map (aO .u8) w3005)⟩)]) =
 γ32 [.d (.sl [.int .u8] (List.map (aO .u8) w3005)), .d (.int .i64 b0.ID)] [] [] fun r7 =>
 cond (b0.Kind == 3) (
 γ34 [.d (.bool b0.Dup), .d (.bool false)] [] [] fun r8 =>
 γ32 [.d (.sl [.int .u8] (List.map (aO .u8) r7)), .d (.int .i64 r8)] [] [] fun r9 =>
 γ35 [.d (.sl [.int .u8] (List.map (aO .u8) r9)), aF.av b0.Message] [] [] fun r10 =>
 (some (.ret [.row 0, .d (.int .i64 0)] [] [⟨[.int .u8], 5, 1, (List.map (aO .u8) r10)⟩]))) (
 cond (decide (b0.Kind ≤ 7)) (
 (some (.ret [.row 0, .d (.int .i64 0)] [] [⟨[.int .u8], 5, 1, (List.map (aO .u8) r7)⟩]))) (
 γ36 [.d (.sl [.int .u8] (List.map (aO .u8) r7)), aA.av b0] [] [] fun r11 =>
 (some (.ret [.row 0, .d (.int .i64 0)] [] [⟨[.int .u8], 5, 1, (List.map (aO .u8) r11)⟩])))) := by kernel_rfl
end
abbrev X12 : aR := C12 gG (cT 23 aJ) (cT 32 aP) (cT 33 aP) (cT 34 aJ) (cT 35 aP) (cT 36 aP)
theorem ay9 : X12 = aS gG := by unfold X12 C12; repeat rw [bH fun _ h => h]
abbrev azB := atD X12 (cB SE gG (SE.hl 12) (SE.hr 12)) (J0 SE X12)
theorem acM (b0 : aA) (w3005 : List Int) : Le (Option.map bV (oN b0 w3005)) (azB (aA.enc b0) (List.map (aO .u8) w3005)) := by
 refine Le.trans ?_ (le_of_eq ((bD ay9).trans (ayv ..)).symm)
 unfold oN
 refine lQ eX aW (bX _ _) fun r7 _ => ?_
 refine lC ?_ ?_
 ·refine lQ eX bB (qG _ _) fun r8 _ => ?_
  refine lQ eX aW (bX _ _) fun r9 _ => ?_
  refine lQ eX aW (ab9 _ _) fun r10 _ => ?_
  exact aG rfl
 ·refine lC ?_ ?_
  ·exact aG rfl
  ·refine lQ eX aW (agB _ _) fun r11 _ => ?_
   exact aG rfl
theorem aau (p0 : aA) : Le (Option.map bV (mC p0)) (bF SE 12 [aA.av p0] [] []) := by
 refine aZ ay9 rfl ?_
 refine Le.trans ?_ (le_of_eq (T12 ..).symm)
 unfold mC
 refine lQ eX bB (qO _) fun r0 _ => ?_
 refine lC ?_ ?_
 ·exact aG rfl
 ·refine lQ eX aW (by (try simp only [EN]); exact bX [] p0.Kind) fun r1 _ => ?_
  refine lC ?_ ?_
  ·refine lQ eX aW (afA _ _) fun r2 _ => ?_
   exact aG rfl
  ·refine lC ?_ ?_
   ·refine lQ eX bB (qG _ _) fun r3 _ => ?_
    refine lQ eX aW (bX _ _) fun r4 _ => ?_
    refine lQ eX aW (bX _ _) fun r5 _ => ?_
    exact aG rfl
   ·refine lC ?_ ?_
    ·refine lQ eX aW (bX _ _) fun r6 _ => ?_
     exact aG rfl
    ·refine lC ?_ ?_
     ·exact aG rfl
     ·refine lC ?_ ?_
      ·exact aG rfl
      ·exact acM p0 r1
end Te
end PX
