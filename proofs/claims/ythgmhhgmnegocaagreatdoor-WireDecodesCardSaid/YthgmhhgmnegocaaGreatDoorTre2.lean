import Derived.Test.YthgmhhgmnegocaaGreatDoorTre1
set_option linter.unusedVariables false
set_option linter.unusedSimpArgs false
set_option maxRecDepth 100000
noncomputable section
namespace PX
open Go
open Md
namespace Te
section
variable (Γ : Fun) (γ11 : Gm ((List Int) × Int)) (γ14 : Gm (aA × Int)) (γ17 : Gm ((List Int) × Int)) (γ19 : Gm ((List aA) × Int)) (γ16 : Gm (Bool)) (Λ2 J : Lam)
def C10 : aR := bE (bE (bE (bE (bE (aS Γ) 11 bV γ11) 14 fB γ14) 17 bV γ17) 19 dM γ19) 16 packet_is_out γ16
theorem T10 : bK SE (C10 Γ γ11 γ14 γ17 γ19 γ16) Λ2 J 10 [] [] [] =
 γ11 [.agg [.d (.int .i64 4), .d (.int .i64 1), .d (.bool false), .d (.str []), .d (.str []), .d (.int .i64 0), .d (.bool false), .d (.int .i64 0), .d (.int .i64 0), .d (.str []), .d (.int .i64 0), .d (.sl aC.ks (List.map aC.enc [])), .d (.str []), .d (.str []), .d (.bool false), .d (.int .i64 0), .d (.int .i64 0), .d (.int .i64 0), .d (.bool false), .d (.int .i64 0), .d (.str []), .d (.str []), .d (.int .i64 0), .d (.bool false), .d (.int .i64 0), .d (.int .i64 0), .d (.str []), .d (.int .i64 0), .d (.sl aC.ks (List.map aC.enc [])), .d (.bool false), .d (.int .i64 0), .d (.sl aH.ks (List.map aH.enc [])), .d (.sl [.str] (List.map aY [])), .d (.sl [.int .i64] (List.map eI []))]] [] [] fun r0 =>
 cond (!(List.isEmpty (List.map (aO .u8) [16, 2, 2, 6, 97, 47, 35, 4, 0]))) (
 γ14 [.d (.sl [.int .u8] (List.map (aO .u8) [16, 2, 2, 6, 97, 47, 35, 4, 0]))] [] [] fun r1 =>
 γ17 [.d (.sl aA.ks [[D.int .i64 12, D.int .i64 0, D.bool false, D.str [], D.str [], D.int .i64 0, D.bool false, D.int .i64 0, D.int .i64 0, D.str [], D.int .i64 0, D.sl aC.ks (List.map aC.enc []), D.str [], D.str [], D.bool false, D.int .i64 0, D.int .i64 0, D.int .i64 0, D.bool false, D.int .i64 0, D.str [], D.str [], D.int .i64 0, D.bool false, D.int .i64 0, D.int .i64 0, D.str [], D.int .i64 0, D.sl aC.ks (List.map aC.enc []), D.bool false, D.int .i64 0, D.sl aH.ks (List.map aH.enc []), D.sl [.str] (List.map aY []), D.sl [.int .i64] (List.map eI [])], [D.int .i64 12, D.int .i64 0, D.bool false, D.str [], D.str [], D.int .i64 0, D.bool false, D.int .i64 0, D.int .i64 0, D.str [], D.int .i64 0, D.sl aC.ks (List.map aC.enc []), D.str [], D.str [], D.bool false, D.int .i64 0, D.int .i64 0, D.int .i64 0, D.bool false, D.int .i64 0, D.str [], D.str [], D.int .i64 0, D.bool false, D.int .i64 0, D.int .i64 0, D.str [], D.int .i64 0, D.sl aC.ks (List.map aC.enc []), D.bool false, D.int .i64 0, D.sl aH.ks (List.map aH.enc []), D.sl [.str] (List.map aY []), D.sl [.int .i64] (List.map eI [])]])] [] [] fun r2 =>
 cond (!(List.isEmpty (List.map (aO .u8) [2, 24, 2, 24]))) (
  γ19 [.d (.sl [.int .u8] (List.map (aO .u8) [2, 24, 2, 24]))] [] [] fun r3 =>
  cond ((uG (List.map (aO .u8) r0.1)) == ([8, 2] : Str)) (
  cond (r0.2 == 0) (
   cond (r1.2 == 0) (
   γ16 [aA.av r1.1, .agg [.d (.int .i64 8), .d (.int .i64 1), .d (.bool false), .d (.str []), .d (.str []), .d (.int .i64 0), .d (.bool false), .d (.int .i64 0), .d (.int .i64 0), .d (.str []), .d (.int .i64 0), .d (.sl aC.ks (List.map aC.enc [])), .d (.str []), .d (.str []), .d (.bool false), .d (.int .i64 0), .d (.int .i64 0), .d (.int .i64 0), .d (.bool false), .d (.int .i64 0), .d (.str []), .d (.str []), .d (.int .i64 0), .d (.bool false), .d (.int .i64 0), .d (.int .i64 0), .d (.str []), .d (.int .i64 0), .d (.sl aC.ks (List.map aC.enc [])), .d (.bool false), .d (.int .i64 0), .d (.sl aH.ks (List.map aH.enc [(aH.mk ([97, 47, 35] : Str) 2 false)])), .d (.sl [.str] (List.map aY [])), .d (.sl [.int .i64] (List.map eI []))]] [] [] fun r4 =>
   cond r4 (
    cond ((uG (List.map (aO .u8) r2.1)) == ([2, 24, 2, 24] : Str)) (
    cond (r2.2 == 0) (
     cond ((lM aA.enc r3.1 : Int) == 2) (
     (rB (r3.2 == 0))) (
     (rB false))) (
    (rB false))) (
    (rB false))) (
   (rB false))) (
   (rB false))) (
  (rB false))) (
  (rB false))) none) none := by kernel_rfl
end
abbrev X10 : aR := C10 gG (cT 11 bV) (cT 14 fB) (cT 17 bV) (cT 19 dM) (cT 16 packet_is_out)
theorem aDq : X10 = aS gG := by unfold X10 C10; repeat rw [bH fun _ h => h]
theorem dG : Le (Option.map packet_is_out (dD)) (bF SE 10 [] [] []) := by
 refine aZ aDq rfl ?_
 refine Le.trans ?_ (le_of_eq (T10 _ _ _ _ _ _ _ _ ).symm)
 unfold dD
 refine lQ eX iC (by (try simp only [EN]); exact tW ((aA.mk 4 1 false (aF.mk [] [] 0 false 0 0 [] 0 []) [] [] false 0 0 0 (aV.mk false 0 (aF.mk [] [] 0 false 0 0 [] 0 [])) false 0 [] [] []))) fun r0 _ => ?_
 refine lG (by simp only [EN] <;> rfl) ?_
 refine lQ eX sU (uJ _) fun r1 _ => ?_
 refine lQ eX iC (by (try simp only [EN]); exact yU [(aA.mk 12 0 false (aF.mk [] [] 0 false 0 0 [] 0 []) [] [] false 0 0 0 (aV.mk false 0 (aF.mk [] [] 0 false 0 0 [] 0 [])) false 0 [] [] []), (aA.mk 12 0 false (aF.mk [] [] 0 false 0 0 [] 0 []) [] [] false 0 0 0 (aV.mk false 0 (aF.mk [] [] 0 false 0 0 [] 0 [])) false 0 [] [] [])]) fun r2 _ => ?_
 refine lG (by simp only [EN] <;> rfl) ?_
 refine lQ eX sJ (yW _) fun r3 _ => ?_
 refine lD (by simp only [EN]) ?_ ?_
 ·refine lC ?_ ?_
  ·refine lC ?_ ?_
   ·refine lQ eX packet_is_inj (by (try simp only [EN]); exact lE r1.1 ((aA.mk 8 1 false (aF.mk [] [] 0 false 0 0 [] 0 []) [] [] false 0 0 0 (aV.mk false 0 (aF.mk [] [] 0 false 0 0 [] 0 [])) false 0 [(aH.mk ([97, 47, 35] : Str) 2 false)] [] []))) fun r4 _ => ?_
    refine lC ?_ ?_
    ·refine lD (by simp only [EN]) ?_ ?_
     ·refine lC ?_ ?_
      ·refine lD (by simp only [EN]) ?_ ?_
       ·exact aG rfl
       ·exact aG rfl
      ·exact aG rfl
     ·exact aG rfl
    ·exact aG rfl
   ·exact aG rfl
  ·exact aG rfl
 ·exact aG rfl
section
variable (Γ : Fun)  (Λ2 J : Lam)
def ay7 : aR := aS Γ
theorem aDl (p0 : Int) : bK SE (ay7 Γ) Λ2 J 104 [.d (.int .u64 p0)] [] [] =
 cond ((Int.tmod p0 2) == 0) (
 (rI (w6 (IntKind.wrap .u64 (Int.tdiv p0 2))))) (
 (rI (w6 ((w6 (0 - (w6 (IntKind.wrap .u64 (Int.tdiv p0 2))))) - 1)))) := by kernel_rfl
end
abbrev aC8 : aR := ay7 gG
theorem azO : aC8 = aS gG := rfl
theorem aga (p0 : Int) : Le (Option.map aJ (oZ p0)) (bF SE 104 [.d (.int .u64 p0)] [] []) := by
 refine aZ azO rfl ?_
 refine Le.trans ?_ (le_of_eq (aDl ..).symm)
 unfold oZ
 refine lC ?_ ?_
 ·exact aG rfl
 ·exact aG rfl
def ah5 (C : aR) (Λ2 J : Lam) (a0 : List (List D)) (a1 a2 a3 a4 a5 a6 : Int) (a7 a8 a9 : Bool) : Res := lab SE C Λ2 J 78 0 [1, 1, 1, 1, 0, 1, 0, 0, 1, 0, 0, 1, 1, 1, 0] (bA [(0, .d (.sl [.int .u8] a0)), (1, .d (.int .i64 a1)), (7, .d (.int .u64 a2)), (8, .d (.int .u64 a3)), (9, .d (.int .i64 a4)), (10, .d (.int .u8 a5)), (42, .d (.int .i64 a6)), (43, .d (.bool a7)), (44, .d (.bool a8)), (47, .d (.bool a9))] [] [] [] [])
def aru (C : aR) (Λ2 J : Lam) (a0 : List (List D)) (a1 a2 a3 a4 : Int) : Res := lab SE C Λ2 J 78 0 [1, 1, 1, 1, 0, 1, 0] (bA [(0, .d (.sl [.int .u8] a0)), (1, .d (.int .i64 a1)), (7, .d (.int .u64 a2)), (8, .d (.int .u64 a3)), (9, .d (.int .i64 a4))] [] [] [] [])
def avw (C : aR) (Λ2 J : Lam) (a0 : List (List D)) (a1 : Int) : Res := lab SE C Λ2 J 78 0 [1, 1, 0] (bA [(0, .d (.sl [.int .u8] a0)), (1, .d (.int .i64 a1))] [] [] [] [])
section
variable (Γ : Fun) (γ104 : Gm (Int)) (Λ2 J : Lam)
def C78 : aR := bE (aS Γ) 104 aJ γ104
theorem T78 (p0 : List Int) (p1 : Int) : bK SE (C78 Γ γ104) Λ2 J 78 [.d (.sl [.int .u8] (List.map (aO .u8) p0)), .d (.int .i64 p1)] [] [] =
 cond (decide (p1 < 0)) (
 (some (.ret [.d (.int .i64 0), .d (.int .i64 0), .d (.int .i64 1)] [] []))) (
 cond (decide (p1 > (lM (aO .u8) p0 : Int))) (
 (some (.ret [.d (.int .i64 0), .d (.int .i64 0), .d (.int .i64 1)] [] []))) (
 avw (C78 Γ γ104) Λ2 J (List.map (aO .u8) p0) p1)) := by kernel_rfl
theorem azu (x0 : List Int) (x1 x7 x8 x9 x10 x42 : Int) (x43 x44 x47 : Bool) : cJ SE (C78 Γ γ104) Λ2 J 78 0 [1, 1, 1, 1, 0, 1, 0, 0, 1, 0, 0, 1, 1, 1, 0] (bA [(0, .d (.sl [.int .u8] (List.map (aO .u8) x0))), (1, .d (.int .i64 x1)), (7, .d (.int .u64 x7)), (8, .d (.int .u64 x8)), (9, .d (.int .i64 x9)), (10, .d (.int .u8 x10)), (42, .d (.int .i64 x42)), (43, .d (.bool x43)), (44, .d (.bool x44)), (47, .d (.bool x47))] [] [] [] []) =
 cond (decide (x10 < 128)) (
 γ104 [.d (.int .u64 (IntKind.wrap .u64 (x7 + (IntKind.wrap .u64 ((IntKind.wrap .u64 (Int.tmod x10 128)) * x8)))))] [] [] fun r0 =>
 (some (.ret [.d (.int .i64 r0), .d (.int .i64 (w6 ((w6 (x1 + x9)) + 1))), .d (.int .i64 0)] [] []))) (
 aru (C78 Γ γ104) Λ2 J (List.map (aO .u8) x0) x1 (IntKind.wrap .u64 (x7 + (IntKind.wrap .u64 ((IntKind.wrap .u64 (Int.tmod x10 128)) * x8)))) (IntKind.wrap .u64 (x8 * 128)) (w6 (x9 + 1))) := by kernel_rfl
theorem az5 (x0 : List Int) (x1 x7 x8 x9 : Int) : cJ SE (C78 Γ γ104) Λ2 J 78 0 [1, 1, 1, 1, 0, 1, 0] (bA [(0, .d (.sl [.int .u8] (List.map (aO .u8) x0))), (1, .d (.int .i64 x1)), (7, .d (.int .u64 x7)), (8, .d (.int .u64 x8)), (9, .d (.int .i64 x9))] [] [] [] []) =
 cond (decide (x9 < 10)) (
 cond (decide (x9 ≥ (w6 ((lM (aO .u8) x0 : Int) - x1)))) (
  (some (.ret [.d (.int .i64 0), .d (.int .i64 0), .d (.int .i64 3)] [] []))) (
 cond (iB (w6 (x1 + x9)) (lM (aO .u8) x0 : Int)) (
  cond (x9 == 9) (
  cond ((aX (cE (aO .u8) x0 (w6 (x1 + x9)) 0)) != 1) (
   (some (.ret [.d (.int .i64 0), .d (.int .i64 0), .d (.int .i64 2)] [] []))) (
  cond (decide (x9 > 0)) (
   cond ((aX (cE (aO .u8) x0 (w6 (x1 + x9)) 0)) == 0) (
   (some (.ret [.d (.int .i64 0), .d (.int .i64 0), .d (.int .i64 2)] [] []))) (
   ah5 (C78 Γ γ104) Λ2 J (List.map (aO .u8) x0) x1 x7 x8 x9 ((aX (cE (aO .u8) x0 (w6 (x1 + x9)) 0))) x9 (decide (x9 > 0)) true (((aX (cE (aO .u8) x0 (w6 (x1 + x9)) 0)) == 0)))) (
  ah5 (C78 Γ γ104) Λ2 J (List.map (aO .u8) x0) x1 x7 x8 x9 ((aX (cE (aO .u8) x0 (w6 (x1 + x9)) 0))) x9 (decide (x9 > 0)) false false))) (
  cond (decide (x9 > 0)) (
  cond ((aX (cE (aO .u8) x0 (w6 (x1 + x9)) 0)) == 0) (
   (some (.ret [.d (.int .i64 0), .d (.int .i64 0), .d (.int .i64 2)] [] []))) (
  ah5 (C78 Γ γ104) Λ2 J (List.map (aO .u8) x0) x1 x7 x8 x9 ((aX (cE (aO .u8) x0 (w6 (x1 + x9)) 0))) x9 (decide (x9 > 0)) true (((aX (cE (aO .u8) x0 (w6 (x1 + x9)) 0)) == 0)))) (
  ah5 (C78 Γ γ104) Λ2 J (List.map (aO .u8) x0) x1 x7 x8 x9 ((aX (cE (aO .u8) x0 (w6 (x1 + x9)) 0))) x9 (decide (x9 > 0)) false false))) none)) (
 (some (.ret [.d (.int .i64 0), .d (.int .i64 0), .d (.int .i64 2)] [] []))) := by kernel_rfl
theorem aB1 (x0 : List Int) (x1 : Int) : cJ SE (C78 Γ γ104) Λ2 J 78 0 [1, 1, 0] (bA [(0, .d (.sl [.int .u8] (List.map (aO .u8) x0))), (1, .d (.int .i64 x1))] [] [] [] []) =
 aru (C78 Γ γ104) Λ2 J (List.map (aO .u8) x0) x1 0 1 0 := by kernel_rfl
end
abbrev X78 : aR := C78 gG (cT 104 aJ)
theorem aq0 : X78 = aS gG := by unfold X78 C78; rw [bH fun _ h => h]
abbrev ax4 := ah5 X78 (cB SE gG (SE.hl 78) (SE.hr 78)) (J0 SE X78)
abbrev avJ := aru X78 (cB SE gG (SE.hl 78) (SE.hr 78)) (J0 SE X78)
abbrev aAG := avw X78 (cB SE gG (SE.hl 78) (SE.hr 78)) (J0 SE X78)
theorem oM (k6 : (List Int) → Int → Int → Int → Int → Option (Int × Int × Int)) (hk6 : ∀ (x0 : List Int) (x1 x7 x8 x9 : Int), Le (Option.map cS (k6 x0 x1 x7 x8 x9)) (avJ (List.map (aO .u8) x0) x1 x7 x8 x9)) (x0 : List Int) (x1 x7 x8 x9 x10 x42 : Int) (x43 x44 x47 : Bool) : Le (Option.map cS (fN k6 x0 x1 x7 x8 x9 x10 x42 x43 x44 x47)) (ax4 (List.map (aO .u8) x0) x1 x7 x8 x9 x10 x42 x43 x44 x47) := by
 refine Le.trans ?_ (le_of_eq ((bD aq0).trans (azu ..)).symm)
 unfold fN
 refine lC ?_ ?_
 ·refine lQ eX bB (aga _) fun r0 _ => ?_
  exact aG rfl
 ·exact hk6 x0 x1 (IntKind.wrap .u64 (x7 + (IntKind.wrap .u64 ((IntKind.wrap .u64 (Int.tmod x10 128)) * x8)))) (IntKind.wrap .u64 (x8 * 128)) (w6 (x9 + 1))
theorem afX : ∀ (fu : Nat) (x0 : List Int) (x1 x7 x8 x9 : Int), Le (Option.map cS (cL fu x0 x1 x7 x8 x9)) (avJ (List.map (aO .u8) x0) x1 x7 x8 x9) := by
 intro fu
 induction fu with
 | zero => intros; exact le_none
 | succ fu ih =>
  intro x0 x1 x7 x8 x9
  refine Le.trans ?_ (le_of_eq ((bD aq0).trans (az5 ..)).symm)
  unfold cL
  refine lC ?_ ?_
  ·refine lD (by simp only [EN]) ?_ ?_
   ·exact aG rfl
   ·refine lG (by simp only [EN]) ?_
    refine lC ?_ ?_
    ·refine lD (by simp only [EN]) ?_ ?_
     ·exact aG rfl
     ·refine lC ?_ ?_
      ·refine lD (by simp only [EN]) ?_ ?_
       ·exact aG rfl
       ·(try simp only [EN]); exact oM _ (ih) x0 x1 x7 x8 x9 (List.getD x0 (Int.toNat (w6 (x1 + x9))) default) x9 (decide (x9 > 0)) true ((List.getD x0 (Int.toNat (w6 (x1 + x9))) default) == 0)
      ·(try simp only [EN]); exact oM _ (ih) x0 x1 x7 x8 x9 (List.getD x0 (Int.toNat (w6 (x1 + x9))) default) x9 (decide (x9 > 0)) false false
    ·refine lC ?_ ?_
     ·refine lD (by simp only [EN]) ?_ ?_
      ·exact aG rfl
      ·(try simp only [EN]); exact oM _ (ih) x0 x1 x7 x8 x9 (List.getD x0 (Int.toNat (w6 (x1 + x9))) default) x9 (decide (x9 > 0)) true ((List.getD x0 (Int.toNat (w6 (x1 + x9))) default) == 0)
     ·(try simp only [EN]); exact oM _ (ih) x0 x1 x7 x8 x9 (List.getD x0 (Int.toNat (w6 (x1 + x9))) default) x9 (decide (x9 > 0)) false false
  ·exact aG rfl
theorem af5 (x0 : List Int) (x1 : Int) : Le (Option.map cS (sW x0 x1)) (aAG (List.map (aO .u8) x0) x1) := by
 refine Le.trans ?_ (le_of_eq ((bD aq0).trans (aB1 ..)).symm)
 unfold sW
 exact afX fuel x0 x1 0 1 0
theorem abP (p0 : List Int) (p1 : Int) : Le (Option.map cS (pE p0 p1)) (bF SE 78 [.d (.sl [.int .u8] (List.map (aO .u8) p0)), .d (.int .i64 p1)] [] []) := by
 refine aZ aq0 rfl ?_
 refine Le.trans ?_ (le_of_eq (T78 ..).symm)
 unfold pE
 refine lC ?_ ?_
 ·exact aG rfl
 ·refine lD (by simp only [EN]) ?_ ?_
  ·exact aG rfl
  ·exact af5 p0 p1
section
variable (Γ : Fun) (γ78 : Gm (Int × Int × Int)) (Λ2 J : Lam)
def C41 : aR := bE (aS Γ) 78 cS γ78
theorem T41 (p0 : aE) : bK SE (C41 Γ γ78) Λ2 J 41 [.ptr 2000000000 0] [⟨72, (aE.avs p0)⟩] [] =
 cond (p0.E != 0) (
 (some (.ret [.d (.int .i64 0)] [⟨72, (aE.avs p0)⟩] []))) (
 γ78 [.d (.sl [.int .u8] (List.map (aO .u8) p0.B)), .d (.int .i64 p0.At)] [] [] fun r0 =>
 cond (r0.2.2 != 0) (
 (some (.ret [.d (.int .i64 0)] [⟨72, (aE.avs (aE.mk p0.B p0.At r0.2.2))⟩] []))) (
 (some (.ret [.d (.int .i64 r0.1)] [⟨72, (aE.avs (aE.mk p0.B r0.2.1 p0.E))⟩] [])))) := by kernel_rfl
end
abbrev X41 : aR := C41 gG (cT 78 cS)
theorem aEp : X41 = aS gG := by unfold X41 C41; rw [bH fun _ h => h]
theorem cF (p0 : aE) : Le (Option.map bC (bO p0)) (bF SE 41 [.ptr 2000000000 0] [⟨72, (aE.avs p0)⟩] []) := by
 refine aZ aEp rfl ?_
 refine Le.trans ?_ (le_of_eq (T41 ..).symm)
 unfold bO
 refine lC ?_ ?_
 ·exact aG rfl
 ·refine lQ eX rL (abP _ _) fun r0 _ => ?_
  refine lC ?_ ?_
  ·exact aG rfl
  ·exact aG rfl
section
variable (Γ : Fun) (γ78 : Gm (Int × Int × Int)) (Λ2 J : Lam)
def C85 : aR := bE (aS Γ) 78 cS γ78
theorem T85 (p0 : List Int) (p1 p2 : Int) : bK SE (C85 Γ γ78) Λ2 J 85 [.d (.sl [.int .u8] (List.map (aO .u8) p0)), .d (.int .i64 p1), .d (.int .i64 p2)] [] [] =
 γ78 [.d (.sl [.int .u8] (List.map (aO .u8) p0)), .d (.int .i64 p1)] [] [] fun r0 =>
 cond (r0.2.2 != 0) (
 (some (.ret [.d (.int .i64 0), .d (.int .i64 0), .d (.int .i64 r0.2.2)] [] []))) (
 cond (decide (r0.1 < 0)) (
 (some (.ret [.d (.int .i64 0), .d (.int .i64 0), .d (.int .i64 2)] [] []))) (
 cond (decide (r0.1 > p2)) (
 (some (.ret [.d (.int .i64 0), .d (.int .i64 0), .d (.int .i64 5)] [] []))) (
 (some (.ret [.d (.int .i64 r0.1), .d (.int .i64 r0.2.1), .d (.int .i64 0)] [] []))))) := by kernel_rfl
end
abbrev X85 : aR := C85 gG (cT 78 cS)
theorem aCH : X85 = aS gG := by unfold X85 C85; rw [bH fun _ h => h]
theorem aaO (p0 : List Int) (p1 p2 : Int) : Le (Option.map cS (iO p0 p1 p2)) (bF SE 85 [.d (.sl [.int .u8] (List.map (aO .u8) p0)), .d (.int .i64 p1), .d (.int .i64 p2)] [] []) := by
 refine aZ aCH rfl ?_
 refine Le.trans ?_ (le_of_eq (T85 ..).symm)
 unfold iO
 refine lQ eX rL (abP _ _) fun r0 _ => ?_
 refine lC ?_ ?_
 ·exact aG rfl
 ·refine lC ?_ ?_
  ·exact aG rfl
  ·refine lC ?_ ?_
   ·exact aG rfl
   ·exact aG rfl
section
variable (Γ : Fun) (γ85 : Gm (Int × Int × Int)) (Λ2 J : Lam)
def C50 : aR := bE (aS Γ) 85 cS γ85
theorem T50 (p0 : List Int) (p1 p2 : Int) : bK SE (C50 Γ γ85) Λ2 J 50 [.d (.sl [.int .u8] (List.map (aO .u8) p0)), .d (.int .i64 p1), .d (.int .i64 p2)] [] [] =
 γ85 [.d (.sl [.int .u8] (List.map (aO .u8) p0)), .d (.int .i64 p1), .d (.int .i64 p2)] [] [] fun r0 =>
 cond (r0.2.2 != 0) (
 (some (.ret [.d (.str []), .d (.int .i64 0), .d (.int .i64 r0.2.2)] [] []))) (
 cond (decide (r0.1 > (w6 ((lM (aO .u8) p0 : Int) - r0.2.1)))) (
 (some (.ret [.d (.str []), .d (.int .i64 0), .d (.int .i64 3)] [] []))) (
 cond (decide (0 ≤ (w6 (r0.2.1 + r0.1))) && decide ((w6 (r0.2.1 + r0.1)) ≤ ((lM (aO .u8) p0) : Int))) (
 cond (decide (0 ≤ r0.2.1) && decide (r0.2.1 ≤ (w6 (r0.2.1 + r0.1)))) (
  (some (.ret [.d (.str (uG (dI (List.map (aO .u8) p0) (some r0.2.1) (some (w6 (r0.2.1 + r0.1)))))), .d (.int .i64 (w6 (r0.2.1 + r0.1))), .d (.int .i64 0)] [] []))) none) none)) := by kernel_rfl
end
abbrev X50 : aR := C50 gG (cT 85 cS)
theorem aEv : X50 = aS gG := by unfold X50 C50; rw [bH fun _ h => h]
theorem aa8 (p0 : List Int) (p1 p2 : Int) : Le (Option.map gA (jG p0 p1 p2)) (bF SE 50 [.d (.sl [.int .u8] (List.map (aO .u8) p0)), .d (.int .i64 p1), .d (.int .i64 p2)] [] []) := by
 refine aZ aEv rfl ?_
 refine Le.trans ?_ (le_of_eq (T50 ..).symm)
 unfold jG
 refine lQ eX rL (aaO _ _ _) fun r0 _ => ?_
 refine lC ?_ ?_
 ·exact aG rfl
 ·refine lD (by simp only [EN]) ?_ ?_
  ·exact aG rfl
  ·refine lG (by simp only [EN]) ?_
   refine lF ?_
   exact aG (by first | rfl | simp only [EN, gA] <;> rfl)
section
variable (Γ : Fun) (γ50 : Gm (Str × Int × Int)) (Λ2 J : Lam)
def auB : aR := bE (aS Γ) 50 gA γ50
theorem aEg (p0 : aE) (p1 : Int) : bK SE (auB Γ γ50) Λ2 J 105 [.ptr 2000000000 0, .d (.int .i64 p1)] [⟨72, (aE.avs p0)⟩] [] =
 cond (p0.E != 0) (
 (some (.ret [.d (.str [])] [⟨72, (aE.avs p0)⟩] []))) (
 γ50 [.d (.sl [.int .u8] (List.map (aO .u8) p0.B)), .d (.int .i64 p0.At), .d (.int .i64 p1)] [] [] fun r0 =>
 cond (r0.2.2 != 0) (
 (some (.ret [.d (.str [])] [⟨72, (aE.avs (aE.mk p0.B p0.At r0.2.2))⟩] []))) (
 (some (.ret [.d (.str r0.1)] [⟨72, (aE.avs (aE.mk p0.B r0.2.1 p0.E))⟩] [])))) := by kernel_rfl
end
abbrev ax9 : aR := auB gG (cT 50 gA)
theorem aBv : ax9 = aS gG := by unfold ax9 auB; rw [bH fun _ h => h]
theorem dQ (p0 : aE) (p1 : Int) : Le (Option.map cX (bZ p0 p1)) (bF SE 105 [.ptr 2000000000 0, .d (.int .i64 p1)] [⟨72, (aE.avs p0)⟩] []) := by
 refine aZ aBv rfl ?_
 refine Le.trans ?_ (le_of_eq (aEg ..).symm)
 unfold bZ
 refine lC ?_ ?_
 ·exact aG rfl
 ·refine lQ eX ack (aa8 _ _ _) fun r0 _ => ?_
  refine lC ?_ ?_
  ·exact aG rfl
  ·exact aG rfl
def alK (C : aR) (Λ2 J : Lam) (a0 : Int) (a1 : List D) : Res := lab SE C Λ2 J 80 1 [1, 1, 1, 0, 0] (bA [(0, .ptr 2000000000 0), (5, .d (.int .i64 a0))] [] [⟨72, (List.map AV.d a1)⟩] [] [])
section
variable (Γ : Fun) (γ41 : Gm (Int × aE)) (Λ2 J : Lam)
def C80 : aR := bE (aS Γ) 41 bC γ41
theorem T80 (p0 : aE) (p1 : Int) : bK SE (C80 Γ γ41) Λ2 J 80 [.ptr 2000000000 0, .d (.int .i64 p1)] [⟨72, (aE.avs p0)⟩] [] =
 γ41 [.ptr 2000000000 0] [⟨72, (aE.avs p0)⟩] [] fun r0 =>
 cond (r0.2.E == 0) (
 cond (decide (r0.1 < 0)) (
  alK (C80 Γ γ41) Λ2 J r0.1 (aE.enc (aE.mk r0.2.B r0.2.At 2))) (
 cond (decide (r0.1 ≥ p1)) (
  alK (C80 Γ γ41) Λ2 J r0.1 (aE.enc (aE.mk r0.2.B r0.2.At 2))) (
 alK (C80 Γ γ41) Λ2 J r0.1 (aE.enc r0.2)))) (
 alK (C80 Γ γ41) Λ2 J r0.1 (aE.enc r0.2)) := by kernel_rfl
theorem aBc (x5 : Int) (q0 : aE) : cJ SE (C80 Γ γ41) Λ2 J 80 1 [1, 1, 1, 0, 0] (bA [(0, .ptr 2000000000 0), (5, .d (.int .i64 x5))] [] [⟨72, (List.map AV.d (aE.enc q0))⟩] [] []) =
 cond (q0.E != 0) (
 (some (.ret [.d (.int .i64 0)] [⟨72, (aE.avs q0)⟩] []))) (
 (some (.ret [.d (.int .i64 x5)] [⟨72, (aE.avs q0)⟩] []))) := by kernel_rfl
end
abbrev X80 : aR := C80 gG (cT 41 bC)
theorem ayJ : X80 = aS gG := by unfold X80 C80; rw [bH fun _ h => h]
abbrev aBA := alK X80 (cB SE gG (SE.hl 80) (SE.hr 80)) (J0 SE X80)
theorem jA (x5 : Int) (q0 : aE) : Le (Option.map bC (cU x5 q0)) (aBA x5 (aE.enc q0)) := by
 refine Le.trans ?_ (le_of_eq ((bD ayJ).trans (aBc ..)).symm)
 unfold cU
 refine lC ?_ ?_
 ·exact aG rfl
 ·exact aG rfl
theorem iF (p0 : aE) (p1 : Int) : Le (Option.map bC (dB p0 p1)) (bF SE 80 [.ptr 2000000000 0, .d (.int .i64 p1)] [⟨72, (aE.avs p0)⟩] []) := by
 refine aZ ayJ rfl ?_
 refine Le.trans ?_ (le_of_eq (T80 ..).symm)
 unfold dB
 refine lQ eX bL (cF _) fun r0 _ => ?_
 refine lC ?_ ?_
 ·refine lC ?_ ?_
  ·exact jA r0.1 (aE.mk r0.2.B r0.2.At 2)
  ·refine lC ?_ ?_
   ·exact jA r0.1 (aE.mk r0.2.B r0.2.At 2)
   ·exact jA r0.1 r0.2
 ·exact jA r0.1 r0.2
section
variable (Γ : Fun)  (Λ2 J : Lam)
def ayO : aR := aS Γ
theorem aC3 (p0 p1 : Int) : bK SE (ayO Γ) Λ2 J 106 [.d (.int .i64 p0), .d (.int .i64 p1)] [] [] =
 cond (decide (p1 ≥ 0)) (
 cond (decide (p1 < 32)) (
  cond (decide (0 ≤ (IntKind.wrap .u64 p1))) (
  (rB ((eF .and .i64 (shr .i64 p0 (IntKind.wrap .u64 p1)) 1) == 1))) none) (
 (rB false))) (
 (rB false)) := by kernel_rfl
end
abbrev aDn : aR := ayO gG
theorem aBB : aDn = aS gG := rfl
theorem aa6 (p0 p1 : Int) : Le (Option.map packet_is_out (kE p0 p1)) (bF SE 106 [.d (.int .i64 p0), .d (.int .i64 p1)] [] []) := by
 refine aZ aBB rfl ?_
 refine Le.trans ?_ (le_of_eq (aC3 ..).symm)
 unfold kE
 refine lC ?_ ?_
 ·refine lC ?_ ?_
  ·refine lF ?_
   exact aG rfl
  ·exact aG rfl
 ·exact aG rfl
section
variable (Γ : Fun) (γ85 : Gm (Int × Int × Int)) (Λ2 J : Lam)
def aut : aR := bE (aS Γ) 85 cS γ85
theorem aDS (p0 : aE) (p1 : Int) : bK SE (aut Γ γ85) Λ2 J 107 [.ptr 2000000000 0, .d (.int .i64 p1)] [⟨72, (aE.avs p0)⟩] [] =
 cond (p0.E != 0) (
 (some (.ret [.d (.int .i64 0)] [⟨72, (aE.avs p0)⟩] []))) (
 γ85 [.d (.sl [.int .u8] (List.map (aO .u8) p0.B)), .d (.int .i64 p0.At), .d (.int .i64 p1)] [] [] fun r0 =>
 cond (r0.2.2 != 0) (
 (some (.ret [.d (.int .i64 0)] [⟨72, (aE.avs (aE.mk p0.B p0.At r0.2.2))⟩] []))) (
 (some (.ret [.d (.int .i64 r0.1)] [⟨72, (aE.avs (aE.mk p0.B r0.2.1 p0.E))⟩] [])))) := by kernel_rfl
end
abbrev ayG : aR := aut gG (cT 85 cS)
theorem aBe : ayG = aS gG := by unfold ayG aut; rw [bH fun _ h => h]
theorem sR (p0 : aE) (p1 : Int) : Le (Option.map bC (dW p0 p1)) (bF SE 107 [.ptr 2000000000 0, .d (.int .i64 p1)] [⟨72, (aE.avs p0)⟩] []) := by
 refine aZ aBe rfl ?_
 refine Le.trans ?_ (le_of_eq (aDS ..).symm)
 unfold dW
 refine lC ?_ ?_
 ·exact aG rfl
 ·refine lQ eX rL (aaO _ _ _) fun r0 _ => ?_
  refine lC ?_ ?_
  ·exact aG rfl
  ·exact aG rfl
def atx (C : aR) (Λ2 J : Lam) (a0 a1 a2 : Int) (a3 : Bool) (a4 : List D) (a5 a6 : Str) (a7 : Int) (a8 : Bool) (a9 a10 : Int) (a11 : Str) (a12 : Int) (a13 : List D) (a14 : List (List D)) : Res := lab SE C Λ2 J 81 1 [1, 1, 1, 1, 1, 1, 1, 1, 1, 1, 1, 0, 1, 0, 0, 1, 0, 0, 0] (bA [(0, .ptr 2000000000 0), (2, .ptr 1000000000 0), (3, .ptr 1000000001 0), (4, .d (.int .i64 a0)), (5, .d (.int .i64 a1)), (39, .ptr 2000000000 0), (40, .ptr 2000000000 0), (41, .ptr 2000000000 2), (42, .d (.int .i64 a2)), (43, .d (.bool a3))] [⟨24, (List.map AV.d a4)⟩, ⟨24, [.d (.str a5), .d (.str a6), .d (.int .i64 a7), .d (.bool a8), .d (.int .i64 a9), .d (.int .i64 a10), .d (.str a11), .d (.int .i64 a12), .row 50108]⟩] [⟨72, (List.map AV.d a13)⟩] [] [(50108, ⟨aC.ks, 89, 32, a14⟩)])
def anY (C : aR) (Λ2 J : Lam) (a0 a1 : Int) (a2 : List D) (a3 a4 : Str) (a5 : Int) (a6 : Bool) (a7 a8 : Int) (a9 : Str) (a10 : Int) (a11 : List D) (a12 : List (List D)) : Res := lab SE C Λ2 J 81 1 [1, 1, 1, 1, 1, 1, 1, 1, 1, 1, 1, 0, 1, 0] (bA [(0, .ptr 2000000000 0), (2, .ptr 1000000000 0), (3, .ptr 1000000001 0), (4, .d (.int .i64 a0)), (5, .d (.int .i64 a1))] [⟨24, (List.map AV.d a2)⟩, ⟨24, [.d (.str a3), .d (.str a4), .d (.int .i64 a5), .d (.bool a6), .d (.int .i64 a7), .d (.int .i64 a8), .d (.str a9), .d (.int .i64 a10), .row 50108]⟩] [⟨72, (List.map AV.d a11)⟩] [] [(50108, ⟨aC.ks, 89, 32, a12⟩)])
section
variable (Γ : Fun) (γ105 : Gm (Str × aE)) (γ41 γ80 γ107 : Gm (Int × aE)) (Λ2 J : Lam)
def C81 : aR := bE (bE (bE (bE (aS Γ) 105 cX γ105) 41 bC γ41) 80 bC γ80) 107 bC γ107
theorem T81 (p0 : aE) : bK SE (C81 Γ γ105 γ41 γ80 γ107) Λ2 J 81 [.ptr 2000000000 0] [⟨72, (aE.avs p0)⟩] [] =
 γ105 [.ptr 2000000000 0, .d (.int .i64 64)] [⟨72, (aE.avs p0)⟩] [] fun r0 =>
 γ105 [.ptr 2000000000 0, .d (.int .i64 256)] [⟨72, (aE.avs r0.2)⟩] [] fun r1 =>
 γ41 [.ptr 2000000000 0] [⟨72, (aE.avs r1.2)⟩] [] fun r2 =>
 γ80 [.ptr 2000000000 0, .d (.int .i64 2)] [⟨72, (aE.avs r2.2)⟩] [] fun r3 =>
 γ41 [.ptr 2000000000 0] [⟨72, (aE.avs r3.2)⟩] [] fun r4 =>
 γ41 [.ptr 2000000000 0] [⟨72, (aE.avs r4.2)⟩] [] fun r5 =>
 γ105 [.ptr 2000000000 0, .d (.int .i64 16)] [⟨72, (aE.avs r5.2)⟩] [] fun r6 =>
 γ41 [.ptr 2000000000 0] [⟨72, (aE.avs r6.2)⟩] [] fun r7 =>
 γ107 [.ptr 2000000000 0, .d (.int .i64 8)] [⟨72, (aE.avs r7.2)⟩] [] fun r8 =>
 anY (C81 Γ γ105 γ41 γ80 γ107) Λ2 J r8.1 0 [D.str [], D.str [], D.int .i64 0, D.bool false, D.int .i64 0, D.int .i64 0, D.str [], D.int .i64 0, D.sl aC.ks (List.map aC.enc [])] r0.1 r1.1 r2.1 (r3.1 == 1) r4.1 r5.1 r6.1 r7.1 (aE.enc r8.2) (List.map aC.enc []) := by kernel_rfl
theorem aze (x4 x5 x42 : Int) (x43 : Bool) (b0 : aF) (b1_0 b1_1 : Str) (b1_2 : Int) (b1_3 : Bool) (b1_4 b1_5 : Int) (b1_6 : Str) (b1_7 : Int) (q0 : aE) (w50108 : List aC) : cJ SE (C81 Γ γ105 γ41 γ80 γ107) Λ2 J 81 1 [1, 1, 1, 1, 1, 1, 1, 1, 1, 1, 1, 0, 1, 0, 0, 1, 0, 0, 0] (bA [(0, .ptr 2000000000 0), (2, .ptr 1000000000 0), (3, .ptr 1000000001 0), (4, .d (.int .i64 x4)), (5, .d (.int .i64 x5)), (39, .ptr 2000000000 0), (40, .ptr 2000000000 0), (41, .ptr 2000000000 2), (42, .d (.int .i64 x42)), (43, .d (.bool x43))] [⟨24, (List.map AV.d (aF.enc b0))⟩, ⟨24, [.d (.str b1_0), .d (.str b1_1), .d (.int .i64 b1_2), .d (.bool b1_3), .d (.int .i64 b1_4), .d (.int .i64 b1_5), .d (.str b1_6), .d (.int .i64 b1_7), .row 50108]⟩] [⟨72, (List.map AV.d (aE.enc q0))⟩] [] [(50108, ⟨aC.ks, 89, 32, (List.map aC.enc w50108)⟩)]) =
 γ105 [.ptr 2000000000 0, .d (.int .i64 16)] [⟨72, (aE.avs q0)⟩] [] fun r9 =>
 γ105 [.ptr 2000000000 0, .d (.int .i64 160)] [⟨72, (aE.avs r9.2)⟩] [] fun r10 =>
 cond (decide ((lM aC.enc w50108 + lM aC.enc [(aC.mk r9.1 r10.1)]) * 32 ≤ 140737488355328)) (
 anY (C81 Γ γ105 γ41 γ80 γ107) Λ2 J x4 (w6 (x5 + 1)) (aF.enc b0) b1_0 b1_1 b1_2 b1_3 b1_4 b1_5 b1_6 b1_7 (aE.enc r10.2) (((List.map aC.enc w50108) ++ (List.map aC.enc [(aC.mk r9.1 r10.1)])))) none := by kernel_rfl
theorem ays (x4 x5 : Int) (b0 : aF) (b1_0 b1_1 : Str) (b1_2 : Int) (b1_3 : Bool) (b1_4 b1_5 : Int) (b1_6 : Str) (b1_7 : Int) (q0 : aE) (w50108 : List aC) : cJ SE (C81 Γ γ105 γ41 γ80 γ107) Λ2 J 81 1 [1, 1, 1, 1, 1, 1, 1, 1, 1, 1, 1, 0, 1, 0] (bA [(0, .ptr 2000000000 0), (2, .ptr 1000000000 0), (3, .ptr 1000000001 0), (4, .d (.int .i64 x4)), (5, .d (.int .i64 x5))] [⟨24, (List.map AV.d (aF.enc b0))⟩, ⟨24, [.d (.str b1_0), .d (.str b1_1), .d (.int .i64 b1_2), .d (.bool b1_3), .d (.int .i64 b1_4), .d (.int .i64 b1_5), .d (.str b1_6), .d (.int .i64 b1_7), .row 50108]⟩] [⟨72, (List.map AV.d (aE.enc q0))⟩] [] [(50108, ⟨aC.ks, 89, 32, (List.map aC.enc w50108)⟩)]) =
 cond (decide (x5 < x4)) (
 cond (q0.E == 0) (
  atx (C81 Γ γ105 γ41 γ80 γ107) Λ2 J x4 x5 q0.E (q0.E == 0) (aF.enc b0) b1_0 b1_1 b1_2 b1_3 b1_4 b1_5 b1_6 b1_7 (aE.enc q0) (List.map aC.enc w50108)) (
 (some (.ret [.agg [.d (.str b1_0), .d (.str b1_1), .d (.int .i64 b1_2), .d (.bool b1_3), .d (.int .i64 b1_4), .d (.int .i64 b1_5), .d (.str b1_6), .d (.int .i64 b1_7), .row 0]] [⟨72, (aE.avs q0)⟩] [⟨aC.ks, 89, 32, (List.map aC.enc w50108)⟩])))) (
 (some (.ret [.agg [.d (.str b1_0), .d (.str b1_1), .d (.int .i64 b1_2), .d (.bool b1_3), .d (.int .i64 b1_4), .d (.int .i64 b1_5), .d (.str b1_6), .d (.int .i64 b1_7), .row 0]] [⟨72, (aE.avs q0)⟩] [⟨aC.ks, 89, 32, (List.map aC.enc w50108)⟩]))) := by kernel_rfl
end
abbrev X81 : aR := C81 gG (cT 105 cX) (cT 41 bC) (cT 80 bC) (cT 107 bC)
theorem atU : X81 = aS gG := by unfold X81 C81; repeat rw [bH fun _ h => h]
abbrev axS := atx X81 (cB SE gG (SE.hl 81) (SE.hr 81)) (J0 SE X81)
abbrev asw := anY X81 (cB SE gG (SE.hl 81) (SE.hr 81)) (J0 SE X81)
theorem xR (k12 : Int → Int → aF → Str → Str → Int → Bool → Int → Int → Str → Int → aE → (List aC) → Option (aF × aE)) (hk12 : ∀ (x4 x5 : Int) (b0 : aF) (b1_0 b1_1 : Str) (b1_2 : Int) (b1_3 : Bool) (b1_4 b1_5 : Int) (b1_6 : Str) (b1_7 : Int) (q0 : aE) (w50108 : List aC), Le (Option.map cM (k12 x4 x5 b0 b1_0 b1_1 b1_2 b1_3 b1_4 b1_5 b1_6 b1_7 q0 w50108)) (asw x4 x5 (aF.enc b0) b1_0 b1_1 b1_2 b1_3 b1_4 b1_5 b1_6 b1_7 (aE.enc q0) (List.map aC.enc w50108))) (x4 x5 x42 : Int) (x43 : Bool) (b0 : aF) (b1_0 b1_1 : Str) (b1_2 : Int) (b1_3 : Bool) (b1_4 b1_5 : Int) (b1_6 : Str) (b1_7 : Int) (q0 : aE) (w50108 : List aC) : Le (Option.map cM (iZ k12 x4 x5 x42 x43 b0 b1_0 b1_1 b1_2 b1_3 b1_4 b1_5 b1_6 b1_7 q0 w50108)) (axS x4 x5 x42 x43 (aF.enc b0) b1_0 b1_1 b1_2 b1_3 b1_4 b1_5 b1_6 b1_7 (aE.enc q0) (List.map aC.enc w50108)) := by
 refine Le.trans ?_ (le_of_eq ((bD atU).trans (aze ..)).symm)
 unfold iZ
 refine lQ eX dN (dQ _ _) fun r9 _ => ?_
 refine lQ eX dN (dQ _ _) fun r10 _ => ?_
 refine lG (by simp only [EN]) ?_
 (try simp only [EN]); exact hk12 x4 (w6 (x5 + 1)) b0 b1_0 b1_1 b1_2 b1_3 b1_4 b1_5 b1_6 b1_7 r10.2 (w50108 ++ [(aC.mk r9.1 r10.1)])
theorem xF : ∀ (fu : Nat) (x4 x5 : Int) (b0 : aF) (b1_0 b1_1 : Str) (b1_2 : Int) (b1_3 : Bool) (b1_4 b1_5 : Int) (b1_6 : Str) (b1_7 : Int) (q0 : aE) (w50108 : List aC), Le (Option.map cM (eY fu x4 x5 b0 b1_0 b1_1 b1_2 b1_3 b1_4 b1_5 b1_6 b1_7 q0 w50108)) (asw x4 x5 (aF.enc b0) b1_0 b1_1 b1_2 b1_3 b1_4 b1_5 b1_6 b1_7 (aE.enc q0) (List.map aC.enc w50108)) := by
 intro fu
 induction fu with
 | zero => intros; exact le_none
 | succ fu ih =>
  intro x4 x5 b0 b1_0 b1_1 b1_2 b1_3 b1_4 b1_5 b1_6 b1_7 q0 w50108
  refine Le.trans ?_ (le_of_eq ((bD atU).trans (ays ..)).symm)
  unfold eY
  refine lC ?_ ?_
  ·refine lC ?_ ?_
   ·exact xR _ (ih) x4 x5 q0.E (q0.E == 0) b0 b1_0 b1_1 b1_2 b1_3 b1_4 b1_5 b1_6 b1_7 q0 w50108
   ·exact aG rfl
  ·exact aG rfl
theorem rM (p0 : aE) : Le (Option.map cM (eW p0)) (bF SE 81 [.ptr 2000000000 0] [⟨72, (aE.avs p0)⟩] []) := by
 refine aZ atU rfl ?_
 refine Le.trans ?_ (le_of_eq (T81 ..).symm)
 unfold eW
 refine lQ eX dN (dQ _ _) fun r0 _ => ?_
 refine lQ eX dN (dQ _ _) fun r1 _ => ?_
 refine lQ eX bL (cF _) fun r2 _ => ?_
 refine lQ eX bL (iF _ _) fun r3 _ => ?_
 refine lQ eX bL (cF _) fun r4 _ => ?_
 refine lQ eX bL (cF _) fun r5 _ => ?_
 refine lQ eX dN (dQ _ _) fun r6 _ => ?_
 refine lQ eX bL (cF _) fun r7 _ => ?_
 refine lQ eX bL (sR _ _) fun r8 _ => ?_
 (try simp only [EN]); exact xF fuel r8.1 0 ((aF.mk [] [] 0 false 0 0 [] 0 [])) r0.1 r1.1 r2.1 (r3.1 == 1) r4.1 r5.1 r6.1 r7.1 r8.2 []
section
variable (Γ : Fun) (γ105 : Gm (Str × aE)) (γ80 : Gm (Int × aE)) (γ106 : Gm (Bool)) (γ41 : Gm (Int × aE)) (γ81 : Gm (aF × aE)) (Λ2 J : Lam)
def C79 : aR := bE (bE (bE (bE (bE (aS Γ) 105 cX γ105) 80 bC γ80) 106 packet_is_out γ106) 41 bC γ41) 81 cM γ81
theorem T79 (p0 : aE) (p1 : aA) : bK SE (C79 Γ γ105 γ80 γ106 γ41 γ81) Λ2 J 79 [.ptr 2000000000 0, aA.av p1] [⟨72, (aE.avs p0)⟩] [] =
 γ105 [.ptr 2000000000 0, .d (.int .i64 16)] [⟨72, (aE.avs p0)⟩] [] fun r0 =>
 γ105 [.ptr 2000000000 0, .d (.int .i64 16)] [⟨72, (aE.avs r0.2)⟩] [] fun r1 =>
 γ80 [.ptr 2000000000 0, .d (.int .i64 4)] [⟨72, (aE.avs r1.2)⟩] [] fun r2 =>
 γ106 [.d (.int .i64 r2.1), .d (.int .i64 0)] [] [] fun r3 =>
 γ106 [.d (.int .i64 r2.1), .d (.int .i64 1)] [] [] fun r4 =>
 γ41 [.ptr 2000000000 0] [⟨72, (aE.avs r2.2)⟩] [] fun r5 =>
 γ41 [.ptr 2000000000 0] [⟨72, (aE.avs r5.2)⟩] [] fun r6 =>
 γ41 [.ptr 2000000000 0] [⟨72, (aE.avs r6.2)⟩] [] fun r7 =>
 cond r4 (
 cond (r7.2.E == 0) (
  γ41 [.ptr 2000000000 0] [⟨72, (aE.avs r7.2)⟩] [] fun r8 =>
  γ81 [.ptr 2000000000 0] [⟨72, (aE.avs r8.2)⟩] [] fun r9 =>
  (some (.ret [aA.av (aA.mk p1.Kind p1.ID p1.Dup p1.Message r0.1 r1.1 r3 r5.1 r6.1 r7.1 (aV.mk r4 r8.1 r9.1) p1.Present p1.Code p1.Subs p1.Filters p1.Codes)] [⟨72, (aE.avs r9.2)⟩] []))) (
 (some (.ret [aA.av (aA.mk p1.Kind p1.ID p1.Dup p1.Message r0.1 r1.1 r3 r5.1 r6.1 r7.1 (aV.mk r4 p1.Will.Delay p1.Will.Message) p1.Present p1.Code p1.Subs p1.Filters p1.Codes)] [⟨72, (aE.avs r7.2)⟩] [])))) (
 (some (.ret [aA.av (aA.mk p1.Kind p1.ID p1.Dup p1.Message r0.1 r1.1 r3 r5.1 r6.1 r7.1 (aV.mk r4 p1.Will.Delay p1.Will.Message) p1.Present p1.Code p1.Subs p1.Filters p1.Codes)] [⟨72, (aE.avs r7.2)⟩] []))) := by kernel_rfl
end
abbrev X79 : aR := C79 gG (cT 105 cX) (cT 80 bC) (cT 106 packet_is_out) (cT 41 bC) (cT 81 cM)
theorem aD1 : X79 = aS gG := by unfold X79 C79; repeat rw [bH fun _ h => h]
theorem acd (p0 : aE) (p1 : aA) : Le (Option.map dC (kQ p0 p1)) (bF SE 79 [.ptr 2000000000 0, aA.av p1] [⟨72, (aE.avs p0)⟩] []) := by
 refine aZ aD1 rfl ?_
 refine Le.trans ?_ (le_of_eq (T79 ..).symm)
 unfold kQ
 refine lQ eX dN (dQ _ _) fun r0 _ => ?_
 refine lQ eX dN (dQ _ _) fun r1 _ => ?_
 refine lQ eX bL (iF _ _) fun r2 _ => ?_
 refine lQ eX packet_is_inj (aa6 _ _) fun r3 _ => ?_
 refine lQ eX packet_is_inj (aa6 _ _) fun r4 _ => ?_
 refine lQ eX bL (cF _) fun r5 _ => ?_
 refine lQ eX bL (cF _) fun r6 _ => ?_
 refine lQ eX bL (cF _) fun r7 _ => ?_
 refine lC ?_ ?_
 ·refine lC ?_ ?_
  ·refine lQ eX bL (cF _) fun r8 _ => ?_
   refine lQ eX qZ (rM _) fun r9 _ => ?_
   exact aG rfl
  ·exact aG rfl
 ·exact aG rfl
def avx (C : aR) (Λ2 J : Lam) (a0 a1 a2 : Int) (a3 : Bool) (a4 a5 : List D) (a6 a7 : Int) (a8 : Bool) (a9 a10 : Str) (a11 : Int) (a12 : Bool) (a13 a14 : Int) (a15 : Str) (a16 : Int) (a17 : List (List D)) (a18 a19 : Str) (a20 : Bool) (a21 a22 a23 : Int) (a24 : Bool) (a25 : Int) (a26 a27 : Str) (a28 : Int) (a29 : Bool) (a30 a31 : Int) (a32 : Str) (a33 : Int) (a34 : List (List D)) (a35 : Bool) (a36 : Int) (a37 : List D) (a38 a39 a40 : List (List D)) : Res := lab SE C Λ2 J 82 1 [1, 1, 1, 0, 1, 0, 0, 1, 0, 0, 0] (bA [(0, .ptr 2000000000 0), (3, .ptr 1000000000 0), (4, .ptr 1000000001 0), (5, .ptr 1000000002 0), (6, .d (.int .i64 a0)), (7, .d (.int .i64 a1)), (16, .ptr 2000000000 0), (17, .ptr 2000000000 0), (18, .ptr 2000000000 2), (19, .d (.int .i64 a2)), (20, .d (.bool a3))] [⟨31, (List.map AV.d a4)⟩, ⟨31, (List.map AV.d a5)⟩, ⟨31, [.d (.int .i64 a6), .d (.int .i64 a7), .d (.bool a8), .d (.str a9), .d (.str a10), .d (.int .i64 a11), .d (.bool a12), .d (.int .i64 a13), .d (.int .i64 a14), .d (.str a15), .d (.int .i64 a16), .d (.sl aC.ks a17), .d (.str a18), .d (.str a19), .d (.bool a20), .d (.int .i64 a21), .d (.int .i64 a22), .d (.int .i64 a23), .d (.bool a24), .d (.int .i64 a25), .d (.str a26), .d (.str a27), .d (.int .i64 a28), .d (.bool a29), .d (.int .i64 a30), .d (.int .i64 a31), .d (.str a32), .d (.int .i64 a33), .d (.sl aC.ks a34), .d (.bool a35), .d (.int .i64 a36), .row 50231, .row 50232, .row 50233]⟩] [⟨72, (List.map AV.d a37)⟩] [] [(50231, ⟨aH.ks, 53, 32, a38⟩), (50232, ⟨[.str], 9, 16, a39⟩), (50233, ⟨[.int .i64], 3, 8, a40⟩)])
def ale (C : aR) (Λ2 J : Lam) (a0 a1 : Int) (a2 a3 : List D) (a4 a5 : Int) (a6 : Bool) (a7 a8 : Str) (a9 : Int) (a10 : Bool) (a11 a12 : Int) (a13 : Str) (a14 : Int) (a15 : List (List D)) (a16 a17 : Str) (a18 : Bool) (a19 a20 a21 : Int) (a22 : Bool) (a23 : Int) (a24 a25 : Str) (a26 : Int) (a27 : Bool) (a28 a29 : Int) (a30 : Str) (a31 : Int) (a32 : List (List D)) (a33 : Bool) (a34 : Int) (a35 : List D) (a36 a37 a38 : List (List D)) : Res := lab SE C Λ2 J 82 1 [1, 1, 1, 0, 1, 0] (bA [(0, .ptr 2000000000 0), (3, .ptr 1000000000 0), (4, .ptr 1000000001 0), (5, .ptr 1000000002 0), (6, .d (.int .i64 a0)), (7, .d (.int .i64 a1))] [⟨31, (List.map AV.d a2)⟩, ⟨31, (List.map AV.d a3)⟩, ⟨31, [.d (.int .i64 a4), .d (.int .i64 a5), .d (.bool a6), .d (.str a7), .d (.str a8), .d (.int .i64 a9), .d (.bool a10), .d (.int .i64 a11), .d (.int .i64 a12), .d (.str a13), .d (.int .i64 a14), .d (.sl aC.ks a15), .d (.str a16), .d (.str a17), .d (.bool a18), .d (.int .i64 a19), .d (.int .i64 a20), .d (.int .i64 a21), .d (.bool a22), .d (.int .i64 a23), .d (.str a24), .d (.str a25), .d (.int .i64 a26), .d (.bool a27), .d (.int .i64 a28), .d (.int .i64 a29), .d (.str a30), .d (.int .i64 a31), .d (.sl aC.ks a32), .d (.bool a33), .d (.int .i64 a34), .row 50231, .row 50232, .row 50233]⟩] [⟨72, (List.map AV.d a35)⟩] [] [(50231, ⟨aH.ks, 53, 32, a36⟩), (50232, ⟨[.str], 9, 16, a37⟩), (50233, ⟨[.int .i64], 3, 8, a38⟩)])
section
variable (Γ : Fun) (γ107 : Gm (Int × aE)) (γ105 : Gm (Str × aE)) (γ41 γ80 : Gm (Int × aE)) (Λ2 J : Lam)
def C82 : aR := bE (bE (bE (bE (aS Γ) 107 bC γ107) 105 cX γ105) 41 bC γ41) 80 bC γ80
theorem T82 (p0 : aE) (p1 : aA) : bK SE (C82 Γ γ107 γ105 γ41 γ80) Λ2 J 82 [.ptr 2000000000 0, .agg [.d (.int .i64 p1.Kind), .d (.int .i64 p1.ID), .d (.bool p1.Dup), .d (.str p1.Message.Topic), .d (.str p1.Message.Payload), .d (.int .i64 p1.Message.Level), .d (.bool p1.Message.Retain), .d (.int .i64 p1.Message.Priority), .d (.int .i64 p1.Message.Expires), .d (.str p1.Message.From), .d (.int .i64 p1.Message.Seq), .nil, .d (.str p1.Client), .d (.str p1.User), .d (.bool p1.Clean), .d (.int .i64 p1.Keep), .d (.int .i64 p1.Expiry), .d (.int .i64 p1.Window), .d (.bool p1.Will.Set), .d (.int .i64 p1.Will.Delay), .d (.str p1.Will.Message.Topic), .d (.str p1.Will.Message.Payload), .d (.int .i64 p1.Will.Message.Level), .d (.bool p1.Will.Message.Retain), .d (.int .i64 p1.Will.Message.Priority), .d (.int .i64 p1.Will.Message.Expires), .d (.str p1.Will.Message.From), .d (.int .i64 p1.Will.Message.Seq), .nil, .d (.bool p1.Present), .d (.int .i64 p1.Code), .nil, .nil, .nil]] [⟨72, (aE.avs p0)⟩] [] =
 γ107 [.ptr 2000000000 0, .d (.int .i64 32)] [⟨72, (aE.avs p0)⟩] [] fun r0 =>
 ale (C82 Γ γ107 γ105 γ41 γ80) Λ2 J r0.1 0 [D.int .i64 p1.Kind, D.int .i64 p1.ID, D.bool p1.Dup, D.str p1.Message.Topic, D.str p1.Message.Payload, D.int .i64 p1.Message.Level, D.bool p1.Message.Retain, D.int .i64 p1.Message.Priority, D.int .i64 p1.Message.Expires, D.str p1.Message.From, D.int .i64 p1.Message.Seq, D.sl aC.ks (List.map aC.enc []), D.str p1.Client, D.str p1.User, D.bool p1.Clean, D.int .i64 p1.Keep, D.int .i64 p1.Expiry, D.int .i64 p1.Window, D.bool p1.Will.Set, D.int .i64 p1.Will.Delay, D.str p1.Will.Message.Topic, D.str p1.Will.Message.Payload, D.int .i64 p1.Will.Message.Level, D.bool p1.Will.Message.Retain, D.int .i64 p1.Will.Message.Priority, D.int .i64 p1.Will.Message.Expires, D.str p1.Will.Message.From, D.int .i64 p1.Will.Message.Seq, D.sl aC.ks (List.map aC.enc []), D.bool p1.Present, D.int .i64 p1.Code, D.sl aH.ks (List.map aH.enc []), D.sl [.str] (List.map aY []), D.sl [.int .i64] (List.map eI [])] [D.int .i64 0, D.int .i64 0, D.bool false, D.str [], D.str [], D.int .i64 0, D.bool false, D.int .i64 0, D.int .i64 0, D.str [], D.int .i64 0, D.sl aC.ks (List.map aC.enc []), D.str [], D.str [], D.bool false, D.int .i64 0, D.int .i64 0, D.int .i64 0, D.bool false, D.int .i64 0, D.str [], D.str [], D.int .i64 0, D.bool false, D.int .i64 0, D.int .i64 0, D.str [], D.int .i64 0, D.sl aC.ks (List.map aC.enc []), D.bool false, D.int .i64 0, D.sl aH.ks (List.map aH.enc []), D.sl [.str] (List.map aY []), D.sl [.int .i64] (List.map eI [])] p1.Kind p1.ID p1.Dup p1.Message.Topic p1.Message.Payload p1.Message.Level p1.Message.Retain p1.Message.Priority p1.Message.Expires p1.Message.From p1.Message.Seq (List.map aC.enc []) p1.Client p1.User p1.Clean p1.Keep p1.Expiry p1.Window p1.Will.Set p1.Will.Delay p1.Will.Message.Topic p1.Will.Message.Payload p1.Will.Message.Level p1.Will.Message.Retain p1.Will.Message.Priority p1.Will.Message.Expires p1.Will.Message.From p1.Will.Message.Seq (List.map aC.enc []) p1.Present p1.Code (aE.enc r0.2) (List.map aH.enc []) (List.map aY []) (List.map eI []) := by kernel_rfl
theorem aAT (x6 x7 x19 : Int) (x20 : Bool) (b0 b1 : aA) (b2_0 b2_1 : Int) (b2_2 : Bool) (b2_3 b2_4 : Str) (b2_5 : Int) (b2_6 : Bool) (b2_7 b2_8 : Int) (b2_9 : Str) (b2_10 : Int) (b2_11 : List aC) (b2_12 b2_13 : Str) (b2_14 : Bool) (b2_15 b2_16 b2_17 : Int) (b2_18 : Bool) (b2_19 : Int) (b2_20 b2_21 : Str) (b2_22 : Int) (b2_23 : Bool) (b2_24 b2_25 : Int) (b2_26 : Str) (b2_27 : Int) (b2_28 : List aC) (b2_29 : Bool) (b2_30 : Int) (q0 : aE) (w50231 : List aH) (w50232 : List Str) (w50233 : List Int) : cJ SE (C82 Γ γ107 γ105 γ41 γ80) Λ2 J 82 1 [1, 1, 1, 0, 1, 0, 0, 1, 0, 0, 0] (bA [(0, .ptr 2000000000 0), (3, .ptr 1000000000 0), (4, .ptr 1000000001 0), (5, .ptr 1000000002 0), (6, .d (.int .i64 x6)), (7, .d (.int .i64 x7)), (16, .ptr 2000000000 0), (17, .ptr 2000000000 0), (18, .ptr 2000000000 2), (19, .d (.int .i64 x19)), (20, .d (.bool x20))] [⟨31, (List.map AV.d (aA.enc b0))⟩, ⟨31, (List.map AV.d (aA.enc b1))⟩, ⟨31, [.d (.int .i64 b2_0), .d (.int .i64 b2_1), .d (.bool b2_2), .d (.str b2_3), .d (.str b2_4), .d (.int .i64 b2_5), .d (.bool b2_6), .d (.int .i64 b2_7), .d (.int .i64 b2_8), .d (.str b2_9), .d (.int .i64 b2_10), .d (.sl aC.ks (List.map aC.enc b2_11)), .d (.str b2_12), .d (.str b2_13), .d (.bool b2_14), .d (.int .i64 b2_15), .d (.int .i64 b2_16), .d (.int .i64 b2_17), .d (.bool b2_18), .d (.int .i64 b2_19), .d (.str b2_20), .d (.str b2_21), .d (.int .i64 b2_22), .d (.bool b2_23), .d (.int .i64 b2_24), .d (.int .i64 b2_25), .d (.str b2_26), .d (.int .i64 b2_27), .d (.sl aC.ks (List.map aC.enc b2_28)), .d (.bool b2_29), .d (.int .i64 b2_30), .row 50231, .row 50232, .row 50233]⟩] [⟨72, (List.map AV.d (aE.enc q0))⟩] [] [(50231, ⟨aH.ks, 53, 32, (List.map aH.enc w50231)⟩), (50232, ⟨[.str], 9, 16, (List.map aY w50232)⟩), (50233, ⟨[.int .i64], 3, 8, (List.map eI w50233)⟩)]) =
 cond (b0.Kind == 10) (
 γ105 [.ptr 2000000000 0, .d (.int .i64 88)] [⟨72, (aE.avs q0)⟩] [] fun r1 =>
 cond (decide ((lM aY w50232 + lM aY [r1.1]) * 16 ≤ 140737488355328)) (
  ale (C82 Γ γ107 γ105 γ41 γ80) Λ2 J x6 (w6 (x7 + 1)) (aA.enc b0) (aA.enc b1) b2_0 b2_1 b2_2 b2_3 b2_4 b2_5 b2_6 b2_7 b2_8 b2_9 b2_10 (List.map aC.enc b2_11) b2_12 b2_13 b2_14 b2_15 b2_16 b2_17 b2_18 b2_19 b2_20 b2_21 b2_22 b2_23 b2_24 b2_25 b2_26 b2_27 (List.map aC.enc b2_28) b2_29 b2_30 (aE.enc r1.2) (List.map aH.enc w50231) (((List.map aY w50232) ++ (List.map aY [r1.1]))) (List.map eI w50233)) none) (
 cond (b0.Kind == 8) (
 γ105 [.ptr 2000000000 0, .d (.int .i64 88)] [⟨72, (aE.avs q0)⟩] [] fun r2 =>
 γ41 [.ptr 2000000000 0] [⟨72, (aE.avs r2.2)⟩] [] fun r3 =>
 γ80 [.ptr 2000000000 0, .d (.int .i64 2)] [⟨72, (aE.avs r3.2)⟩] [] fun r4 =>
 cond (decide ((lM aH.enc w50231 + lM aH.enc [(aH.mk r2.1 r3.1 (r4.1 == 1))]) * 32 ≤ 140737488355328)) (
  ale (C82 Γ γ107 γ105 γ41 γ80) Λ2 J x6 (w6 (x7 + 1)) (aA.enc b0) (aA.enc b1) b2_0 b2_1 b2_2 b2_3 b2_4 b2_5 b2_6 b2_7 b2_8 b2_9 b2_10 (List.map aC.enc b2_11) b2_12 b2_13 b2_14 b2_15 b2_16 b2_17 b2_18 b2_19 b2_20 b2_21 b2_22 b2_23 b2_24 b2_25 b2_26 b2_27 (List.map aC.enc b2_28) b2_29 b2_30 (aE.enc r4.2) (((List.map aH.enc w50231) ++ (List.map aH.enc [(aH.mk r2.1 r3.1 (r4.1 == 1))]))) (List.map aY w50232) (List.map eI w50233)) none) (
 γ41 [.ptr 2000000000 0] [⟨72, (aE.avs q0)⟩] [] fun r5 =>
 cond (decide ((lM eI w50233 + lM eI [r5.1]) * 8 ≤ 140737488355328)) (
 ale (C82 Γ γ107 γ105 γ41 γ80) Λ2 J x6 (w6 (x7 + 1)) (aA.enc b0) (aA.enc b1) b2_0 b2_1 b2_2 b2_3 b2_4 b2_5 b2_6 b2_7 b2_8 b2_9 b2_10 (List.map aC.enc b2_11) b2_12 b2_13 b2_14 b2_15 b2_16 b2_17 b2_18 b2_19 b2_20 b2_21 b2_22 b2_23 b2_24 b2_25 b2_26 b2_27 (List.map aC.enc b2_28) b2_29 b2_30 (aE.enc r5.2) (List.map aH.enc w50231) (List.map aY w50232) (((List.map eI w50233) ++ (List.map eI [r5.1])))) none)) := by kernel_rfl
theorem aAI (x6 x7 : Int) (b0 b1 : aA) (b2_0 b2_1 : Int) (b2_2 : Bool) (b2_3 b2_4 : Str) (b2_5 : Int) (b2_6 : Bool) (b2_7 b2_8 : Int) (b2_9 : Str) (b2_10 : Int) (b2_11 : List aC) (b2_12 b2_13 : Str) (b2_14 : Bool) (b2_15 b2_16 b2_17 : Int) (b2_18 : Bool) (b2_19 : Int) (b2_20 b2_21 : Str) (b2_22 : Int) (b2_23 : Bool) (b2_24 b2_25 : Int) (b2_26 : Str) (b2_27 : Int) (b2_28 : List aC) (b2_29 : Bool) (b2_30 : Int) (q0 : aE) (w50231 : List aH) (w50232 : List Str) (w50233 : List Int) : cJ SE (C82 Γ γ107 γ105 γ41 γ80) Λ2 J 82 1 [1, 1, 1, 0, 1, 0] (bA [(0, .ptr 2000000000 0), (3, .ptr 1000000000 0), (4, .ptr 1000000001 0), (5, .ptr 1000000002 0), (6, .d (.int .i64 x6)), (7, .d (.int .i64 x7))] [⟨31, (List.map AV.d (aA.enc b0))⟩, ⟨31, (List.map AV.d (aA.enc b1))⟩, ⟨31, [.d (.int .i64 b2_0), .d (.int .i64 b2_1), .d (.bool b2_2), .d (.str b2_3), .d (.str b2_4), .d (.int .i64 b2_5), .d (.bool b2_6), .d (.int .i64 b2_7), .d (.int .i64 b2_8), .d (.str b2_9), .d (.int .i64 b2_10), .d (.sl aC.ks (List.map aC.enc b2_11)), .d (.str b2_12), .d (.str b2_13), .d (.bool b2_14), .d (.int .i64 b2_15), .d (.int .i64 b2_16), .d (.int .i64 b2_17), .d (.bool b2_18), .d (.int .i64 b2_19), .d (.str b2_20), .d (.str b2_21), .d (.int .i64 b2_22), .d (.bool b2_23), .d (.int .i64 b2_24), .d (.int .i64 b2_25), .d (.str b2_26), .d (.int .i64 b2_27), .d (.sl aC.ks (List.map aC.enc b2_28)), .d (.bool b2_29), .d (.int .i64 b2_30), .row 50231, .row 50232, .row 50233]⟩] [⟨72, (List.map AV.d (aE.enc q0))⟩] [] [(50231, ⟨aH.ks, 53, 32, (List.map aH.enc w50231)⟩), (50232, ⟨[.str], 9, 16, (List.map aY w50232)⟩), (50233, ⟨[.int .i64], 3, 8, (List.map eI w50233)⟩)]) =
 cond (decide (x7 < x6)) (
 cond (q0.E == 0) (
  avx (C82 Γ γ107 γ105 γ41 γ80) Λ2 J x6 x7 q0.E (q0.E == 0) (aA.enc b0) (aA.enc b1) b2_0 b2_1 b2_2 b2_3 b2_4 b2_5 b2_6 b2_7 b2_8 b2_9 b2_10 (List.map aC.enc b2_11) b2_12 b2_13 b2_14 b2_15 b2_16 b2_17 b2_18 b2_19 b2_20 b2_21 b2_22 b2_23 b2_24 b2_25 b2_26 b2_27 (List.map aC.enc b2_28) b2_29 b2_30 (aE.enc q0) (List.map aH.enc w50231) (List.map aY w50232) (List.map eI w50233)) (
 (some (.ret [.agg [.d (.int .i64 b2_0), .d (.int .i64 b2_1), .d (.bool b2_2), .d (.str b2_3), .d (.str b2_4), .d (.int .i64 b2_5), .d (.bool b2_6), .d (.int .i64 b2_7), .d (.int .i64 b2_8), .d (.str b2_9), .d (.int .i64 b2_10), .d (.sl aC.ks (List.map aC.enc b2_11)), .d (.str b2_12), .d (.str b2_13), .d (.bool b2_14), .d (.int .i64 b2_15), .d (.int .i64 b2_16), .d (.int .i64 b2_17), .d (.bool b2_18), .d (.int .i64 b2_19), .d (.str b2_20), .d (.str b2_21), .d (.int .i64 b2_22), .d (.bool b2_23), .d (.int .i64 b2_24), .d (.int .i64 b2_25), .d (.str b2_26), .d (.int .i64 b2_27), .d (.sl aC.ks (List.map aC.enc b2_28)), .d (.bool b2_29), .d (.int .i64 b2_30), .row 0, .row 1, .row 2]] [⟨72, (aE.avs q0)⟩] [⟨aH.ks, 53, 32, (List.map aH.enc w50231)⟩, ⟨[.str], 9, 16, (List.map aY w50232)⟩, ⟨[.int .i64], 3, 8, (List.map eI w50233)⟩])))) (
 (some (.ret [.agg [.d (.int .i64 b2_0), .d (.int .i64 b2_1), .d (.bool b2_2), .d (.str b2_3), .d (.str b2_4), .d (.int .i64 b2_5), .d (.bool b2_6), .d (.int .i64 b2_7), .d (.int .i64 b2_8), .d (.str b2_9), .d (.int .i64 b2_10), .d (.sl aC.ks (List.map aC.enc b2_11)), .d (.str b2_12), .d (.str b2_13), .d (.bool b2_14), .d (.int .i64 b2_15), .d (.int .i64 b2_16), .d (.int .i64 b2_17), .d (.bool b2_18), .d (.int .i64 b2_19), .d (.str b2_20), .d (.str b2_21), .d (.int .i64 b2_22), .d (.bool b2_23), .d (.int .i64 b2_24), .d (.int .i64 b2_25), .d (.str b2_26), .d (.int .i64 b2_27), .d (.sl aC.ks (List.map aC.enc b2_28)), .d (.bool b2_29), .d (.int .i64 b2_30), .row 0, .row 1, .row 2]] [⟨72, (aE.avs q0)⟩] [⟨aH.ks, 53, 32, (List.map aH.enc w50231)⟩, ⟨[.str], 9, 16, (List.map aY w50232)⟩, ⟨[.int .i64], 3, 8, (List.map eI w50233)⟩]))) := by kernel_rfl
end
abbrev X82 : aR := C82 gG (cT 107 bC) (cT 105 cX) (cT 41 bC) (cT 80 bC)
theorem ava : X82 = aS gG := by unfold X82 C82; repeat rw [bH fun _ h => h]
abbrev aAM := avx X82 (cB SE gG (SE.hl 82) (SE.hr 82)) (J0 SE X82)
abbrev avo := ale X82 (cB SE gG (SE.hl 82) (SE.hr 82)) (J0 SE X82)
theorem abN (k4 : Int → Int → aA → aA → Int → Int → Bool → Str → Str → Int → Bool → Int → Int → Str → Int → (List aC) → Str → Str → Bool → Int → Int → Int → Bool → Int → Str → Str → Int → Bool → Int → Int → Str → Int → (List aC) → Bool → Int → aE → (List aH) → (List Str) → (List Int) → Option (aA × aE)) (hk4 : ∀ (x6 x7 : Int) (b0 b1 : aA) (b2_0 b2_1 : Int) (b2_2 : Bool) (b2_3 b2_4 : Str) (b2_5 : Int) (b2_6 : Bool) (b2_7 b2_8 : Int) (b2_9 : Str) (b2_10 : Int) (b2_11 : List aC) (b2_12 b2_13 : Str) (b2_14 : Bool) (b2_15 b2_16 b2_17 : Int) (b2_18 : Bool) (b2_19 : Int) (b2_20 b2_21 : Str) (b2_22 : Int) (b2_23 : Bool) (b2_24 b2_25 : Int) (b2_26 : Str) (b2_27 : Int) (b2_28 : List aC) (b2_29 : Bool) (b2_30 : Int) (q0 : aE) (w50231 : List aH) (w50232 : List Str) (w50233 : List Int), Le (Option.map eN (k4 x6 x7 b0 b1 b2_0 b2_1 b2_2 b2_3 b2_4 b2_5 b2_6 b2_7 b2_8 b2_9 b2_10 b2_11 b2_12 b2_13 b2_14 b2_15 b2_16 b2_17 b2_18 b2_19 b2_20 b2_21 b2_22 b2_23 b2_24 b2_25 b2_26 b2_27 b2_28 b2_29 b2_30 q0 w50231 w50232 w50233)) (avo x6 x7 (aA.enc b0) (aA.enc b1) b2_0 b2_1 b2_2 b2_3 b2_4 b2_5 b2_6 b2_7 b2_8 b2_9 b2_10 (List.map aC.enc b2_11) b2_12 b2_13 b2_14 b2_15 b2_16 b2_17 b2_18 b2_19 b2_20 b2_21 b2_22 b2_23 b2_24 b2_25 b2_26 b2_27 (List.map aC.enc b2_28) b2_29 b2_30 (aE.enc q0) (List.map aH.enc w50231) (List.map aY w50232) (List.map eI w50233))) (x6 x7 x19 : Int) (x20 : Bool) (b0 b1 : aA) (b2_0 b2_1 : Int) (b2_2 : Bool) (b2_3 b2_4 : Str) (b2_5 : Int) (b2_6 : Bool) (b2_7 b2_8 : Int) (b2_9 : Str) (b2_10 : Int) (b2_11 : List aC) (b2_12 b2_13 : Str) (b2_14 : Bool) (b2_15 b2_16 b2_17 : Int) (b2_18 : Bool) (b2_19 : Int) (b2_20 b2_21 : Str) (b2_22 : Int) (b2_23 : Bool) (b2_24 b2_25 : Int) (b2_26 : Str) (b2_27 : Int) (b2_28 : List aC) (b2_29 : Bool) (b2_30 : Int) (q0 : aE) (w50231 : List aH) (w50232 : List Str) (w50233 : List Int) : Le (Option.map eN (iS k4 x6 x7 x19 x20 b0 b1 b2_0 b2_1 b2_2 b2_3 b2_4 b2_5 b2_6 b2_7 b2_8 b2_9 b2_10 b2_11 b2_12 b2_13 b2_14 b2_15 b2_16 b2_17 b2_18 b2_19 b2_20 b2_21 b2_22 b2_23 b2_24 b2_25 b2_26 b2_27 b2_28 b2_29 b2_30 q0 w50231 w50232 w50233)) (aAM x6 x7 x19 x20 (aA.enc b0) (aA.enc b1) b2_0 b2_1 b2_2 b2_3 b2_4 b2_5 b2_6 b2_7 b2_8 b2_9 b2_10 (List.map aC.enc b2_11) b2_12 b2_13 b2_14 b2_15 b2_16 b2_17 b2_18 b2_19 b2_20 b2_21 b2_22 b2_23 b2_24 b2_25 b2_26 b2_27 (List.map aC.enc b2_28) b2_29 b2_30 (aE.enc q0) (List.map aH.enc w50231) (List.map aY w50232) (List.map eI w50233)) := by
 refine Le.trans ?_ (le_of_eq ((bD ava).trans (aAT ..)).symm)
 unfold iS
 refine lC ?_ ?_
 ·refine lQ eX dN (dQ _ _) fun r1 _ => ?_
  refine lG (by simp only [EN]) ?_
  (try simp only [EN]); exact hk4 x6 (w6 (x7 + 1)) b0 b1 b2_0 b2_1 b2_2 b2_3 b2_4 b2_5 b2_6 b2_7 b2_8 b2_9 b2_10 b2_11 b2_12 b2_13 b2_14 b2_15 b2_16 b2_17 b2_18 b2_19 b2_20 b2_21 b2_22 b2_23 b2_24 b2_25 b2_26 b2_27 b2_28 b2_29 b2_30 r1.2 w50231 (w50232 ++ [r1.1]) w50233
 ·refine lC ?_ ?_
  ·refine lQ eX dN (dQ _ _) fun r2 _ => ?_
   refine lQ eX bL (cF _) fun r3 _ => ?_
   refine lQ eX bL (iF _ _) fun r4 _ => ?_
   refine lG (by simp only [EN]) ?_
   (try simp only [EN]); exact hk4 x6 (w6 (x7 + 1)) b0 b1 b2_0 b2_1 b2_2 b2_3 b2_4 b2_5 b2_6 b2_7 b2_8 b2_9 b2_10 b2_11 b2_12 b2_13 b2_14 b2_15 b2_16 b2_17 b2_18 b2_19 b2_20 b2_21 b2_22 b2_23 b2_24 b2_25 b2_26 b2_27 b2_28 b2_29 b2_30 r4.2 (w50231 ++ [(aH.mk r2.1 r3.1 (r4.1 == 1))]) w50232 w50233
  ·refine lQ eX bL (cF _) fun r5 _ => ?_
   refine lG (by simp only [EN]) ?_
   (try simp only [EN]); exact hk4 x6 (w6 (x7 + 1)) b0 b1 b2_0 b2_1 b2_2 b2_3 b2_4 b2_5 b2_6 b2_7 b2_8 b2_9 b2_10 b2_11 b2_12 b2_13 b2_14 b2_15 b2_16 b2_17 b2_18 b2_19 b2_20 b2_21 b2_22 b2_23 b2_24 b2_25 b2_26 b2_27 b2_28 b2_29 b2_30 r5.2 w50231 w50232 (w50233 ++ [r5.1])
theorem abM : ∀ (fu : Nat) (x6 x7 : Int) (b0 b1 : aA) (b2_0 b2_1 : Int) (b2_2 : Bool) (b2_3 b2_4 : Str) (b2_5 : Int) (b2_6 : Bool) (b2_7 b2_8 : Int) (b2_9 : Str) (b2_10 : Int) (b2_11 : List aC) (b2_12 b2_13 : Str) (b2_14 : Bool) (b2_15 b2_16 b2_17 : Int) (b2_18 : Bool) (b2_19 : Int) (b2_20 b2_21 : Str) (b2_22 : Int) (b2_23 : Bool) (b2_24 b2_25 : Int) (b2_26 : Str) (b2_27 : Int) (b2_28 : List aC) (b2_29 : Bool) (b2_30 : Int) (q0 : aE) (w50231 : List aH) (w50232 : List Str) (w50233 : List Int), Le (Option.map eN (cW fu x6 x7 b0 b1 b2_0 b2_1 b2_2 b2_3 b2_4 b2_5 b2_6 b2_7 b2_8 b2_9 b2_10 b2_11 b2_12 b2_13 b2_14 b2_15 b2_16 b2_17 b2_18 b2_19 b2_20 b2_21 b2_22 b2_23 b2_24 b2_25 b2_26 b2_27 b2_28 b2_29 b2_30 q0 w50231 w50232 w50233)) (avo x6 x7 (aA.enc b0) (aA.enc b1) b2_0 b2_1 b2_2 b2_3 b2_4 b2_5 b2_6 b2_7 b2_8 b2_9 b2_10 (List.map aC.enc b2_11) b2_12 b2_13 b2_14 b2_15 b2_16 b2_17 b2_18 b2_19 b2_20 b2_21 b2_22 b2_23 b2_24 b2_25 b2_26 b2_27 (List.map aC.enc b2_28) b2_29 b2_30 (aE.enc q0) (List.map aH.enc w50231) (List.map aY w50232) (List.map eI w50233)) := by
 intro fu
 induction fu with
 | zero => intros; exact le_none
 | succ fu ih =>
  intro x6 x7 b0 b1 b2_0 b2_1 b2_2 b2_3 b2_4 b2_5 b2_6 b2_7 b2_8 b2_9 b2_10 b2_11 b2_12 b2_13 b2_14 b2_15 b2_16 b2_17 b2_18 b2_19 b2_20 b2_21 b2_22 b2_23 b2_24 b2_25 b2_26 b2_27 b2_28 b2_29 b2_30 q0 w50231 w50232 w50233
  refine Le.trans ?_ (le_of_eq ((bD ava).trans (aAI ..)).symm)
  unfold cW
  refine lC ?_ ?_
  ·refine lC ?_ ?_
   ·exact abN _ (ih) x6 x7 q0.E (q0.E == 0) b0 b1 b2_0 b2_1 b2_2 b2_3 b2_4 b2_5 b2_6 b2_7 b2_8 b2_9 b2_10 b2_11 b2_12 b2_13 b2_14 b2_15 b2_16 b2_17 b2_18 b2_19 b2_20 b2_21 b2_22 b2_23 b2_24 b2_25 b2_26 b2_27 b2_28 b2_29 b2_30 q0 w50231 w50232 w50233
   ·exact aG rfl
  ·exact aG rfl
theorem adY (p0 : aE) (p1 : aA) : Le (Option.map eN (fM p0 p1)) (bF SE 82 [.ptr 2000000000 0, .agg [.d (.int .i64 p1.Kind), .d (.int .i64 p1.ID), .d (.bool p1.Dup), .d (.str p1.Message.Topic), .d (.str p1.Message.Payload), .d (.int .i64 p1.Message.Level), .d (.bool p1.Message.Retain), .d (.int .i64 p1.Message.Priority), .d (.int .i64 p1.Message.Expires), .d (.str p1.Message.From), .d (.int .i64 p1.Message.Seq), .nil, .d (.str p1.Client), .d (.str p1.User), .d (.bool p1.Clean), .d (.int .i64 p1.Keep), .d (.int .i64 p1.Expiry), .d (.int .i64 p1.Window), .d (.bool p1.Will.Set), .d (.int .i64 p1.Will.Delay), .d (.str p1.Will.Message.Topic), .d (.str p1.Will.Message.Payload), .d (.int .i64 p1.Will.Message.Level), .d (.bool p1.Will.Message.Retain), .d (.int .i64 p1.Will.Message.Priority), .d (.int .i64 p1.Will.Message.Expires), .d (.str p1.Will.Message.From), .d (.int .i64 p1.Will.Message.Seq), .nil, .d (.bool p1.Present), .d (.int .i64 p1.Code), .nil, .nil, .nil]] [⟨72, (aE.avs p0)⟩] []) := by
 refine aZ ava rfl ?_
 refine Le.trans ?_ (le_of_eq (T82 ..).symm)
 unfold fM
 refine lQ eX bL (sR _ _) fun r0 _ => ?_
 (try simp only [EN]); exact abM fuel r0.1 0 ((aA.mk p1.Kind p1.ID p1.Dup (aF.mk p1.Message.Topic p1.Message.Payload p1.Message.Level p1.Message.Retain p1.Message.Priority p1.Message.Expires p1.Message.From p1.Message.Seq []) p1.Client p1.User p1.Clean p1.Keep p1.Expiry p1.Window (aV.mk p1.Will.Set p1.Will.Delay (aF.mk p1.Will.Message.Topic p1.Will.Message.Payload p1.Will.Message.Level p1.Will.Message.Retain p1.Will.Message.Priority p1.Will.Message.Expires p1.Will.Message.From p1.Will.Message.Seq [])) p1.Present p1.Code [] [] [])) ((aA.mk 0 0 false (aF.mk [] [] 0 false 0 0 [] 0 []) [] [] false 0 0 0 (aV.mk false 0 (aF.mk [] [] 0 false 0 0 [] 0 [])) false 0 [] [] [])) p1.Kind p1.ID p1.Dup p1.Message.Topic p1.Message.Payload p1.Message.Level p1.Message.Retain p1.Message.Priority p1.Message.Expires p1.Message.From p1.Message.Seq [] p1.Client p1.User p1.Clean p1.Keep p1.Expiry p1.Window p1.Will.Set p1.Will.Delay p1.Will.Message.Topic p1.Will.Message.Payload p1.Will.Message.Level p1.Will.Message.Retain p1.Will.Message.Priority p1.Will.Message.Expires p1.Will.Message.From p1.Will.Message.Seq [] p1.Present p1.Code r0.2 [] [] []
def ath (C : aR) (Λ2 J : Lam) (a0 a1 a2 : Int) (a3 : Bool) (a4 a5 : Str) (a6 : Int) (a7 : Bool) (a8 a9 : Int) (a10 : Str) (a11 : Int) (a12 a13 : Str) (a14 : Bool) (a15 a16 a17 : Int) (a18 : Bool) (a19 : Int) (a20 a21 : Str) (a22 : Int) (a23 : Bool) (a24 a25 : Int) (a26 : Str) (a27 : Int) (a28 : Bool) (a29 a30 a31 : Int) (a32 : Bool) (a33 a34 : Str) (a35 : Int) (a36 : Bool) (a37 a38 : Int) (a39 : Str) (a40 : Int) (a41 a42 : Str) (a43 : Bool) (a44 a45 a46 : Int) (a47 : Bool) (a48 : Int) (a49 a50 : Str) (a51 : Int) (a52 : Bool) (a53 a54 : Int) (a55 : Str) (a56 : Int) (a57 : Bool) (a58 : Int) (a59 : List D) : Res := lab SE C Λ2 J 42 1 [1, 1, 1, 1, 1, 1, 0] (bA [(0, .ptr 2000000000 0), (1, .d (.int .i64 a0)), (4, .ptr 1000000000 0), (5, .ptr 1000000001 0)] [⟨31, [.d (.int .i64 a1), .d (.int .i64 a2), .d (.bool a3), .d (.str a4), .d (.str a5), .d (.int .i64 a6), .d (.bool a7), .d (.int .i64 a8), .d (.int .i64 a9), .d (.str a10), .d (.int .i64 a11), .nil, .d (.str a12), .d (.str a13), .d (.bool a14), .d (.int .i64 a15), .d (.int .i64 a16), .d (.int .i64 a17), .d (.bool a18), .d (.int .i64 a19), .d (.str a20), .d (.str a21), .d (.int .i64 a22), .d (.bool a23), .d (.int .i64 a24), .d (.int .i64 a25), .d (.str a26), .d (.int .i64 a27), .nil, .d (.bool a28), .d (.int .i64 a29), .nil, .nil, .nil]⟩, ⟨31, [.d (.int .i64 a30), .d (.int .i64 a31), .d (.bool a32), .d (.str a33), .d (.str a34), .d (.int .i64 a35), .d (.bool a36), .d (.int .i64 a37), .d (.int .i64 a38), .d (.str a39), .d (.int .i64 a40), .nil, .d (.str a41), .d (.str a42), .d (.bool a43), .d (.int .i64 a44), .d (.int .i64 a45), .d (.int .i64 a46), .d (.bool a47), .d (.int .i64 a48), .d (.str a49), .d (.str a50), .d (.int .i64 a51), .d (.bool a52), .d (.int .i64 a53), .d (.int .i64 a54), .d (.str a55), .d (.int .i64 a56), .nil, .d (.bool a57), .d (.int .i64 a58), .nil, .nil, .nil]⟩] [⟨72, (List.map AV.d a59)⟩] [] [])
section
variable (Γ : Fun) (γ79 : Gm (aA × aE)) (γ80 γ41 : Gm (Int × aE)) (γ81 : Gm (aF × aE)) (γ82 : Gm (aA × aE)) (Λ2 J : Lam)
def C42 : aR := bE (bE (bE (bE (bE (aS Γ) 79 dC γ79) 80 bC γ80) 41 bC γ41) 81 cM γ81) 82 eN γ82
theorem T42 (p0 : aE) (p1 : Int) : bK SE (C42 Γ γ79 γ80 γ41 γ81 γ82) Λ2 J 42 [.ptr 2000000000 0, .d (.int .i64 p1)] [⟨72, (aE.avs p0)⟩] [] =
 cond (p1 == 1) (
 γ79 [.ptr 2000000000 0, .agg [.d (.int .i64 p1), .d (.int .i64 0), .d (.bool false), .d (.str []), .d (.str []), .d (.int .i64 0), .d (.bool false), .d (.int .i64 0), .d (.int .i64 0), .d (.str []), .d (.int .i64 0), .d (.sl aC.ks (List.map aC.enc [])), .d (.str []), .d (.str []), .d (.bool false), .d (.int .i64 0), .d (.int .i64 0), .d (.int .i64 0), .d (.bool false), .d (.int .i64 0), .d (.str []), .d (.str []), .d (.int .i64 0), .d (.bool false), .d (.int .i64 0), .d (.int .i64 0), .d (.str []), .d (.int .i64 0), .d (.sl aC.ks (List.map aC.enc [])), .d (.bool false), .d (.int .i64 0), .d (.sl aH.ks (List.map aH.enc [])), .d (.sl [.str] (List.map aY [])), .d (.sl [.int .i64] (List.map eI []))]] [⟨72, (aE.avs p0)⟩] [] fun r0 =>
 (some (.ret [aA.av r0.1] [⟨72, (aE.avs r0.2)⟩] []))) (
 cond (p1 == 2) (
 γ80 [.ptr 2000000000 0, .d (.int .i64 2)] [⟨72, (aE.avs p0)⟩] [] fun r1 =>
 γ41 [.ptr 2000000000 0] [⟨72, (aE.avs r1.2)⟩] [] fun r2 =>
 (some (.ret [.agg [.d (.int .i64 p1), .d (.int .i64 0), .d (.bool false), .d (.str []), .d (.str []), .d (.int .i64 0), .d (.bool false), .d (.int .i64 0), .d (.int .i64 0), .d (.str []), .d (.int .i64 0), .d (.sl aC.ks (List.map aC.enc [])), .d (.str []), .d (.str []), .d (.bool false), .d (.int .i64 0), .d (.int .i64 0), .d (.int .i64 0), .d (.bool false), .d (.int .i64 0), .d (.str []), .d (.str []), .d (.int .i64 0), .d (.bool false), .d (.int .i64 0), .d (.int .i64 0), .d (.str []), .d (.int .i64 0), .d (.sl aC.ks (List.map aC.enc [])), .d (.bool (r1.1 == 1)), .d (.int .i64 r2.1), .d (.sl aH.ks (List.map aH.enc [])), .d (.sl [.str] (List.map aY [])), .d (.sl [.int .i64] (List.map eI []))]] [⟨72, (aE.avs r2.2)⟩] []))) (
 cond (p1 == 14) (
 γ41 [.ptr 2000000000 0] [⟨72, (aE.avs p0)⟩] [] fun r3 =>
 (some (.ret [.agg [.d (.int .i64 p1), .d (.int .i64 0), .d (.bool false), .d (.str []), .d (.str []), .d (.int .i64 0), .d (.bool false), .d (.int .i64 0), .d (.int .i64 0), .d (.str []), .d (.int .i64 0), .d (.sl aC.ks (List.map aC.enc [])), .d (.str []), .d (.str []), .d (.bool false), .d (.int .i64 0), .d (.int .i64 0), .d (.int .i64 0), .d (.bool false), .d (.int .i64 0), .d (.str []), .d (.str []), .d (.int .i64 0), .d (.bool false), .d (.int .i64 0), .d (.int .i64 0), .d (.str []), .d (.int .i64 0), .d (.sl aC.ks (List.map aC.enc [])), .d (.bool false), .d (.int .i64 r3.1), .d (.sl aH.ks (List.map aH.enc [])), .d (.sl [.str] (List.map aY [])), .d (.sl [.int .i64] (List.map eI []))]] [⟨72, (aE.avs r3.2)⟩] []))) (
 cond (p1 == 12) (
 (some (.ret [.agg [.d (.int .i64 p1), .d (.int .i64 0), .d (.bool false), .d (.str []), .d (.str []), .d (.int .i64 0), .d (.bool false), .d (.int .i64 0), .d (.int .i64 0), .d (.str []), .d (.int .i64 0), .d (.sl aC.ks (List.map aC.enc [])), .d (.str []), .d (.str []), .d (.bool false), .d (.int .i64 0), .d (.int .i64 0), .d (.int .i64 0), .d (.bool false), .d (.int .i64 0), .d (.str []), .d (.str []), .d (.int .i64 0), .d (.bool false), .d (.int .i64 0), .d (.int .i64 0), .d (.str []), .d (.int .i64 0), .d (.sl aC.ks (List.map aC.enc [])), .d (.bool false), .d (.int .i64 0), .d (.sl aH.ks (List.map aH.enc [])), .d (.sl [.str] (List.map aY [])), .d (.sl [.int .i64] (List.map eI []))]] [⟨72, (aE.avs p0)⟩] []))) (
 cond (p1 == 13) (
 (some (.ret [.agg [.d (.int .i64 p1), .d (.int .i64 0), .d (.bool false), .d (.str []), .d (.str []), .d (.int .i64 0), .d (.bool false), .d (.int .i64 0), .d (.int .i64 0), .d (.str []), .d (.int .i64 0), .d (.sl aC.ks (List.map aC.enc [])), .d (.str []), .d (.str []), .d (.bool false), .d (.int .i64 0), .d (.int .i64 0), .d (.int .i64 0), .d (.bool false), .d (.int .i64 0), .d (.str []), .d (.str []), .d (.int .i64 0), .d (.bool false), .d (.int .i64 0), .d (.int .i64 0), .d (.str []), .d (.int .i64 0), .d (.sl aC.ks (List.map aC.enc [])), .d (.bool false), .d (.int .i64 0), .d (.sl aH.ks (List.map aH.enc [])), .d (.sl [.str] (List.map aY [])), .d (.sl [.int .i64] (List.map eI []))]] [⟨72, (aE.avs p0)⟩] []))) (
 ath (C42 Γ γ79 γ80 γ41 γ81 γ82) Λ2 J p1 0 0 false [] [] 0 false 0 0 [] 0 [] [] false 0 0 0 false 0 [] [] 0 false 0 0 [] 0 false 0 p1 0 false [] [] 0 false 0 0 [] 0 [] [] false 0 0 0 false 0 [] [] 0 false 0 0 [] 0 false 0 (aE.enc p0)))))) := by kernel_rfl
theorem aye (x1 b0_0 b0_1 : Int) (b0_2 : Bool) (b0_3 b0_4 : Str) (b0_5 : Int) (b0_6 : Bool) (b0_7 b0_8 : Int) (b0_9 : Str) (b0_10 : Int) (b0_12 b0_13 : Str) (b0_14 : Bool) (b0_15 b0_16 b0_17 : Int) (b0_18 : Bool) (b0_19 : Int) (b0_20 b0_21 : Str) (b0_22 : Int) (b0_23 : Bool) (b0_24 b0_25 : Int) (b0_26 : Str) (b0_27 : Int) (b0_29 : Bool) (b0_30 b1_0 b1_1 : Int) (b1_2 : Bool) (b1_3 b1_4 : Str) (b1_5 : Int) (b1_6 : Bool) (b1_7 b1_8 : Int) (b1_9 : Str) (b1_10 : Int) (b1_12 b1_13 : Str) (b1_14 : Bool) (b1_15 b1_16 b1_17 : Int) (b1_18 : Bool) (b1_19 : Int) (b1_20 b1_21 : Str) (b1_22 : Int) (b1_23 : Bool) (b1_24 b1_25 : Int) (b1_26 : Str) (b1_27 : Int) (b1_29 : Bool) (b1_30 : Int) (q0 : aE) : cJ SE (C42 Γ γ79 γ80 γ41 γ81 γ82) Λ2 J 42 1 [1, 1, 1, 1, 1, 1, 0] (bA [(0, .ptr 2000000000 0), (1, .d (.int .i64 x1)), (4, .ptr 1000000000 0), (5, .ptr 1000000001 0)] [⟨31, [.d (.int .i64 b0_0), .d (.int .i64 b0_1), .d (.bool b0_2), .d (.str b0_3), .d (.str b0_4), .d (.int .i64 b0_5), .d (.bool b0_6), .d (.int .i64 b0_7), .d (.int .i64 b0_8), .d (.str b0_9), .d (.int .i64 b0_10), .nil, .d (.str b0_12), .d (.str b0_13), .d (.bool b0_14), .d (.int .i64 b0_15), .d (.int .i64 b0_16), .d (.int .i64 b0_17), .d (.bool b0_18), .d (.int .i64 b0_19), .d (.str b0_20), .d (.str b0_21), .d (.int .i64 b0_22), .d (.bool b0_23), .d (.int .i64 b0_24), .d (.int .i64 b0_25), .d (.str b0_26), .d (.int .i64 b0_27), .nil, .d (.bool b0_29), .d (.int .i64 b0_30), .nil, .nil, .nil]⟩, ⟨31, [.d (.int .i64 b1_0), .d (.int .i64 b1_1), .d (.bool b1_2), .d (.str b1_3), .d (.str b1_4), .d (.int .i64 b1_5), .d (.bool b1_6), .d (.int .i64 b1_7), .d (.int .i64 b1_8), .d (.str b1_9), .d (.int .i64 b1_10), .nil, .d (.str b1_12), .d (.str b1_13), .d (.bool b1_14), .d (.int .i64 b1_15), .d (.int .i64 b1_16), .d (.int .i64 b1_17), .d (.bool b1_18), .d (.int .i64 b1_19), .d (.str b1_20), .d (.str b1_21), .d (.int .i64 b1_22), .d (.bool b1_23), .d (.int .i64 b1_24), .d (.int .i64 b1_25), .d (.str b1_26), .d (.int .i64 b1_27), .nil, .d (.bool b1_29), .d (.int .i64 b1_30), .nil, .nil, .nil]⟩] [⟨72, (List.map AV.d (aE.enc q0))⟩] [] []) =
 γ41 [.ptr 2000000000 0] [⟨72, (aE.avs q0)⟩] [] fun r4 =>
 cond (x1 == 3) (
 γ80 [.ptr 2000000000 0, .d (.int .i64 2)] [⟨72, (aE.avs r4.2)⟩] [] fun r5 =>
 γ81 [.ptr 2000000000 0] [⟨72, (aE.avs r5.2)⟩] [] fun r6 =>
 (some (.ret [.agg [.d (.int .i64 b1_0), .d (.int .i64 r4.1), .d (.bool (r5.1 == 1)), .d (.str r6.1.Topic), .d (.str r6.1.Payload), .d (.int .i64 r6.1.Level), .d (.bool r6.1.Retain), .d (.int .i64 r6.1.Priority), .d (.int .i64 r6.1.Expires), .d (.str r6.1.From), .d (.int .i64 r6.1.Seq), .d (.sl aC.ks (List.map aC.enc r6.1.Props)), .d (.str b1_12), .d (.str b1_13), .d (.bool b1_14), .d (.int .i64 b1_15), .d (.int .i64 b1_16), .d (.int .i64 b1_17), .d (.bool b1_18), .d (.int .i64 b1_19), .d (.str b1_20), .d (.str b1_21), .d (.int .i64 b1_22), .d (.bool b1_23), .d (.int .i64 b1_24), .d (.int .i64 b1_25), .d (.str b1_26), .d (.int .i64 b1_27), .d (.sl aC.ks (List.map aC.enc [])), .d (.bool b1_29), .d (.int .i64 b1_30), .d (.sl aH.ks (List.map aH.enc [])), .d (.sl [.str] (List.map aY [])), .d (.sl [.int .i64] (List.map eI []))]] [⟨72, (aE.avs r6.2)⟩] []))) (
 cond (decide (x1 ≤ 7)) (
 (some (.ret [.agg [.d (.int .i64 b1_0), .d (.int .i64 r4.1), .d (.bool b1_2), .d (.str b1_3), .d (.str b1_4), .d (.int .i64 b1_5), .d (.bool b1_6), .d (.int .i64 b1_7), .d (.int .i64 b1_8), .d (.str b1_9), .d (.int .i64 b1_10), .d (.sl aC.ks (List.map aC.enc [])), .d (.str b1_12), .d (.str b1_13), .d (.bool b1_14), .d (.int .i64 b1_15), .d (.int .i64 b1_16), .d (.int .i64 b1_17), .d (.bool b1_18), .d (.int .i64 b1_19), .d (.str b1_20), .d (.str b1_21), .d (.int .i64 b1_22), .d (.bool b1_23), .d (.int .i64 b1_24), .d (.int .i64 b1_25), .d (.str b1_26), .d (.int .i64 b1_27), .d (.sl aC.ks (List.map aC.enc [])), .d (.bool b1_29), .d (.int .i64 b1_30), .d (.sl aH.ks (List.map aH.enc [])), .d (.sl [.str] (List.map aY [])), .d (.sl [.int .i64] (List.map eI []))]] [⟨72, (aE.avs r4.2)⟩] []))) (
 γ82 [.ptr 2000000000 0, .agg [.d (.int .i64 b1_0), .d (.int .i64 r4.1), .d (.bool b1_2), .d (.str b1_3), .d (.str b1_4), .d (.int .i64 b1_5), .d (.bool b1_6), .d (.int .i64 b1_7), .d (.int .i64 b1_8), .d (.str b1_9), .d (.int .i64 b1_10), .nil, .d (.str b1_12), .d (.str b1_13), .d (.bool b1_14), .d (.int .i64 b1_15), .d (.int .i64 b1_16), .d (.int .i64 b1_17), .d (.bool b1_18), .d (.int .i64 b1_19), .d (.str b1_20), .d (.str b1_21), .d (.int .i64 b1_22), .d (.bool b1_23), .d (.int .i64 b1_24), .d (.int .i64 b1_25), .d (.str b1_26), .d (.int .i64 b1_27), .nil, .d (.bool b1_29), .d (.int .i64 b1_30), .nil, .nil, .nil]] [⟨72, (aE.avs r4.2)⟩] [] fun r7 =>
 (some (.ret [aA.av r7.1] [⟨72, (aE.avs r7.2)⟩] [])))) := by kernel_rfl
end
abbrev X42 : aR := C42 gG (cT 79 dC) (cT 80 bC) (cT 41 bC) (cT 81 cM) (cT 82 eN)
theorem awV : X42 = aS gG := by unfold X42 C42; repeat rw [bH fun _ h => h]
abbrev azy := ath X42 (cB SE gG (SE.hl 42) (SE.hr 42)) (J0 SE X42)
theorem aeB (x1 b0_0 b0_1 : Int) (b0_2 : Bool) (b0_3 b0_4 : Str) (b0_5 : Int) (b0_6 : Bool) (b0_7 b0_8 : Int) (b0_9 : Str) (b0_10 : Int) (b0_12 b0_13 : Str) (b0_14 : Bool) (b0_15 b0_16 b0_17 : Int) (b0_18 : Bool) (b0_19 : Int) (b0_20 b0_21 : Str) (b0_22 : Int) (b0_23 : Bool) (b0_24 b0_25 : Int) (b0_26 : Str) (b0_27 : Int) (b0_29 : Bool) (b0_30 b1_0 b1_1 : Int) (b1_2 : Bool) (b1_3 b1_4 : Str) (b1_5 : Int) (b1_6 : Bool) (b1_7 b1_8 : Int) (b1_9 : Str) (b1_10 : Int) (b1_12 b1_13 : Str) (b1_14 : Bool) (b1_15 b1_16 b1_17 : Int) (b1_18 : Bool) (b1_19 : Int) (b1_20 b1_21 : Str) (b1_22 : Int) (b1_23 : Bool) (b1_24 b1_25 : Int) (b1_26 : Str) (b1_27 : Int) (b1_29 : Bool) (b1_30 : Int) (q0 : aE) : Le (Option.map dC (qD x1 b0_0 b0_1 b0_2 b0_3 b0_4 b0_5 b0_6 b0_7 b0_8 b0_9 b0_10 b0_12 b0_13 b0_14 b0_15 b0_16 b0_17 b0_18 b0_19 b0_20 b0_21 b0_22 b0_23 b0_24 b0_25 b0_26 b0_27 b0_29 b0_30 b1_0 b1_1 b1_2 b1_3 b1_4 b1_5 b1_6 b1_7 b1_8 b1_9 b1_10 b1_12 b1_13 b1_14 b1_15 b1_16 b1_17 b1_18 b1_19 b1_20 b1_21 b1_22 b1_23 b1_24 b1_25 b1_26 b1_27 b1_29 b1_30 q0)) (azy x1 b0_0 b0_1 b0_2 b0_3 b0_4 b0_5 b0_6 b0_7 b0_8 b0_9 b0_10 b0_12 b0_13 b0_14 b0_15 b0_16 b0_17 b0_18 b0_19 b0_20 b0_21 b0_22 b0_23 b0_24 b0_25 b0_26 b0_27 b0_29 b0_30 b1_0 b1_1 b1_2 b1_3 b1_4 b1_5 b1_6 b1_7 b1_8 b1_9 b1_10 b1_12 b1_13 b1_14 b1_15 b1_16 b1_17 b1_18 b1_19 b1_20 b1_21 b1_22 b1_23 b1_24 b1_25 b1_26 b1_27 b1_29 b1_30 (aE.enc q0)) := by
 refine Le.trans ?_ (le_of_eq ((bD awV).trans (aye ..)).symm)
 unfold qD
 refine lQ eX bL (cF _) fun r4 _ => ?_
 refine lC ?_ ?_
 ·refine lQ eX bL (iF _ _) fun r5 _ => ?_
  refine lQ eX qZ (rM _) fun r6 _ => ?_
  exact aG rfl
 ·refine lC ?_ ?_
  ·exact aG rfl
  ·refine lQ eX ac3 (by (try simp only [EN]); exact adY r4.2 ((aA.mk b1_0 r4.1 b1_2 (aF.mk b1_3 b1_4 b1_5 b1_6 b1_7 b1_8 b1_9 b1_10 []) b1_12 b1_13 b1_14 b1_15 b1_16 b1_17 (aV.mk b1_18 b1_19 (aF.mk b1_20 b1_21 b1_22 b1_23 b1_24 b1_25 b1_26 b1_27 [])) b1_29 b1_30 [] [] []))) fun r7 _ => ?_
   exact aG rfl
theorem ahA (p0 : aE) (p1 : Int) : Le (Option.map dC (rP p0 p1)) (bF SE 42 [.ptr 2000000000 0, .d (.int .i64 p1)] [⟨72, (aE.avs p0)⟩] []) := by
 refine aZ awV rfl ?_
 refine Le.trans ?_ (le_of_eq (T42 ..).symm)
 unfold rP
 refine lC ?_ ?_
 ·refine lQ eX uQ (by (try simp only [EN]); exact acd p0 ((aA.mk p1 0 false (aF.mk [] [] 0 false 0 0 [] 0 []) [] [] false 0 0 0 (aV.mk false 0 (aF.mk [] [] 0 false 0 0 [] 0 [])) false 0 [] [] []))) fun r0 _ => ?_
  exact aG rfl
 ·refine lC ?_ ?_
  ·refine lQ eX bL (iF _ _) fun r1 _ => ?_
   refine lQ eX bL (cF _) fun r2 _ => ?_
   exact aG rfl
  ·refine lC ?_ ?_
   ·refine lQ eX bL (cF _) fun r3 _ => ?_
    exact aG rfl
   ·refine lC ?_ ?_
    ·exact aG rfl
    ·refine lC ?_ ?_
     ·exact aG rfl
     ·exact aeB p1 0 0 false [] [] 0 false 0 0 [] 0 [] [] false 0 0 0 false 0 [] [] 0 false 0 0 [] 0 false 0 p1 0 false [] [] 0 false 0 0 [] 0 [] [] false 0 0 0 false 0 [] [] 0 false 0 0 [] 0 false 0 p0
def aoE (C : aR) (Λ2 J : Lam) (a0 a1 a2 : List D) : Res := lab SE C Λ2 J 51 0 [1, 1, 1, 1, 1, 1, 1, 1, 1, 0, 0] (bA [(1, .ptr 1000000000 0), (2, .ptr 1000000001 0), (3, .ptr 1000000002 0)] [⟨31, (List.map AV.d a0)⟩, ⟨31, (List.map AV.d a1)⟩, ⟨31, (List.map AV.d a2)⟩] [] [] [])
def aoG (C : aR) (Λ2 J : Lam) (a0 a1 a2 : List D) : Res := lab SE C Λ2 J 51 0 [1, 1, 1, 1, 1, 1, 1, 1, 0, 0] (bA [(1, .ptr 1000000000 0), (2, .ptr 1000000001 0), (3, .ptr 1000000002 0)] [⟨31, (List.map AV.d a0)⟩, ⟨31, (List.map AV.d a1)⟩, ⟨31, (List.map AV.d a2)⟩] [] [] [])
def aol (C : aR) (Λ2 J : Lam) (a0 a1 a2 : List D) : Res := lab SE C Λ2 J 51 0 [1, 1, 1, 1, 1, 1, 1, 0, 0] (bA [(1, .ptr 1000000000 0), (2, .ptr 1000000001 0), (3, .ptr 1000000002 0)] [⟨31, (List.map AV.d a0)⟩, ⟨31, (List.map AV.d a1)⟩, ⟨31, (List.map AV.d a2)⟩] [] [] [])
def akY (C : aR) (Λ2 J : Lam) (a0 a1 a2 : List D) : Res := lab SE C Λ2 J 51 0 [1, 1, 1, 1, 1, 1, 0, 0] (bA [(1, .ptr 1000000000 0), (2, .ptr 1000000001 0), (3, .ptr 1000000002 0)] [⟨31, (List.map AV.d a0)⟩, ⟨31, (List.map AV.d a1)⟩, ⟨31, (List.map AV.d a2)⟩] [] [] [])
def an5 (C : aR) (Λ2 J : Lam) (a0 a1 a2 : List D) : Res := lab SE C Λ2 J 51 0 [1, 1, 1, 1, 1, 0, 0] (bA [(1, .ptr 1000000000 0), (2, .ptr 1000000001 0), (3, .ptr 1000000002 0)] [⟨31, (List.map AV.d a0)⟩, ⟨31, (List.map AV.d a1)⟩, ⟨31, (List.map AV.d a2)⟩] [] [] [])
def ao7 (C : aR) (Λ2 J : Lam) (a0 a1 a2 : List D) : Res := lab SE C Λ2 J 51 0 [1, 1, 1, 1, 0, 0] (bA [(1, .ptr 1000000000 0), (2, .ptr 1000000001 0), (3, .ptr 1000000002 0)] [⟨31, (List.map AV.d a0)⟩, ⟨31, (List.map AV.d a1)⟩, ⟨31, (List.map AV.d a2)⟩] [] [] [])
def akK (C : aR) (Λ2 J : Lam) (a0 a1 a2 : List D) : Res := lab SE C Λ2 J 51 0 [1, 1, 1, 0, 0] (bA [(1, .ptr 1000000000 0), (2, .ptr 1000000001 0), (3, .ptr 1000000002 0)] [⟨31, (List.map AV.d a0)⟩, ⟨31, (List.map AV.d a1)⟩, ⟨31, (List.map AV.d a2)⟩] [] [] [])
section
variable (Γ : Fun)  (Λ2 J : Lam)
def C51 : aR := aS Γ
theorem T51 (p0 : aA) : bK SE (C51 Γ) Λ2 J 51 [aA.av p0] [] [] =
 cond (p0.Kind == 3) (
 akK (C51 Γ) Λ2 J (aA.enc p0) [D.int .i64 0, D.int .i64 0, D.bool false, D.str [], D.str [], D.int .i64 0, D.bool false, D.int .i64 0, D.int .i64 0, D.str [], D.int .i64 0, D.sl aC.ks (List.map aC.enc []), D.str [], D.str [], D.bool false, D.int .i64 0, D.int .i64 0, D.int .i64 0, D.bool false, D.int .i64 0, D.str [], D.str [], D.int .i64 0, D.bool false, D.int .i64 0, D.int .i64 0, D.str [], D.int .i64 0, D.sl aC.ks (List.map aC.enc []), D.bool false, D.int .i64 0, D.sl aH.ks (List.map aH.enc []), D.sl [.str] (List.map aY []), D.sl [.int .i64] (List.map eI [])] [D.int .i64 p0.Kind, D.int .i64 p0.ID, D.bool false, D.str [], D.str [], D.int .i64 0, D.bool false, D.int .i64 0, D.int .i64 0, D.str [], D.int .i64 0, D.sl aC.ks (List.map aC.enc []), D.str [], D.str [], D.bool false, D.int .i64 0, D.int .i64 0, D.int .i64 0, D.bool false, D.int .i64 0, D.str [], D.str [], D.int .i64 0, D.bool false, D.int .i64 0, D.int .i64 0, D.str [], D.int .i64 0, D.sl aC.ks (List.map aC.enc []), D.bool false, D.int .i64 0, D.sl aH.ks (List.map aH.enc []), D.sl [.str] (List.map aY []), D.sl [.int .i64] (List.map eI [])]) (
 cond (decide (p0.Kind ≥ 4)) (
 cond (decide (p0.Kind ≤ 11)) (
  akK (C51 Γ) Λ2 J (aA.enc p0) [D.int .i64 0, D.int .i64 0, D.bool false, D.str [], D.str [], D.int .i64 0, D.bool false, D.int .i64 0, D.int .i64 0, D.str [], D.int .i64 0, D.sl aC.ks (List.map aC.enc []), D.str [], D.str [], D.bool false, D.int .i64 0, D.int .i64 0, D.int .i64 0, D.bool false, D.int .i64 0, D.str [], D.str [], D.int .i64 0, D.bool false, D.int .i64 0, D.int .i64 0, D.str [], D.int .i64 0, D.sl aC.ks (List.map aC.enc []), D.bool false, D.int .i64 0, D.sl aH.ks (List.map aH.enc []), D.sl [.str] (List.map aY []), D.sl [.int .i64] (List.map eI [])] [D.int .i64 p0.Kind, D.int .i64 p0.ID, D.bool false, D.str [], D.str [], D.int .i64 0, D.bool false, D.int .i64 0, D.int .i64 0, D.str [], D.int .i64 0, D.sl aC.ks (List.map aC.enc []), D.str [], D.str [], D.bool false, D.int .i64 0, D.int .i64 0, D.int .i64 0, D.bool false, D.int .i64 0, D.str [], D.str [], D.int .i64 0, D.bool false, D.int .i64 0, D.int .i64 0, D.str [], D.int .i64 0, D.sl aC.ks (List.map aC.enc []), D.bool false, D.int .i64 0, D.sl aH.ks (List.map aH.enc []), D.sl [.str] (List.map aY []), D.sl [.int .i64] (List.map eI [])]) (
 akK (C51 Γ) Λ2 J (aA.enc p0) [D.int .i64 0, D.int .i64 0, D.bool false, D.str [], D.str [], D.int .i64 0, D.bool false, D.int .i64 0, D.int .i64 0, D.str [], D.int .i64 0, D.sl aC.ks (List.map aC.enc []), D.str [], D.str [], D.bool false, D.int .i64 0, D.int .i64 0, D.int .i64 0, D.bool false, D.int .i64 0, D.str [], D.str [], D.int .i64 0, D.bool false, D.int .i64 0, D.int .i64 0, D.str [], D.int .i64 0, D.sl aC.ks (List.map aC.enc []), D.bool false, D.int .i64 0, D.sl aH.ks (List.map aH.enc []), D.sl [.str] (List.map aY []), D.sl [.int .i64] (List.map eI [])] [D.int .i64 p0.Kind, D.int .i64 0, D.bool false, D.str [], D.str [], D.int .i64 0, D.bool false, D.int .i64 0, D.int .i64 0, D.str [], D.int .i64 0, D.sl aC.ks (List.map aC.enc []), D.str [], D.str [], D.bool false, D.int .i64 0, D.int .i64 0, D.int .i64 0, D.bool false, D.int .i64 0, D.str [], D.str [], D.int .i64 0, D.bool false, D.int .i64 0, D.int .i64 0, D.str [], D.int .i64 0, D.sl aC.ks (List.map aC.enc []), D.bool false, D.int .i64 0, D.sl aH.ks (List.map aH.enc []), D.sl [.str] (List.map aY []), D.sl [.int .i64] (List.map eI [])])) (
 akK (C51 Γ) Λ2 J (aA.enc p0) [D.int .i64 0, D.int .i64 0, D.bool false, D.str [], D.str [], D.int .i64 0, D.bool false, D.int .i64 0, D.int .i64 0, D.str [], D.int .i64 0, D.sl aC.ks (List.map aC.enc []), D.str [], D.str [], D.bool false, D.int .i64 0, D.int .i64 0, D.int .i64 0, D.bool false, D.int .i64 0, D.str [], D.str [], D.int .i64 0, D.bool false, D.int .i64 0, D.int .i64 0, D.str [], D.int .i64 0, D.sl aC.ks (List.map aC.enc []), D.bool false, D.int .i64 0, D.sl aH.ks (List.map aH.enc []), D.sl [.str] (List.map aY []), D.sl [.int .i64] (List.map eI [])] [D.int .i64 p0.Kind, D.int .i64 0, D.bool false, D.str [], D.str [], D.int .i64 0, D.bool false, D.int .i64 0, D.int .i64 0, D.str [], D.int .i64 0, D.sl aC.ks (List.map aC.enc []), D.str [], D.str [], D.bool false, D.int .i64 0, D.int .i64 0, D.int .i64 0, D.bool false, D.int .i64 0, D.str [], D.str [], D.int .i64 0, D.bool false, D.int .i64 0, D.int .i64 0, D.str [], D.int .i64 0, D.sl aC.ks (List.map aC.enc []), D.bool false, D.int .i64 0, D.sl aH.ks (List.map aH.enc []), D.sl [.str] (List.map aY []), D.sl [.int .i64] (List.map eI [])])) := by kernel_rfl
theorem azc (b0 b1 b2 : aA) : cJ SE (C51 Γ) Λ2 J 51 0 [1, 1, 1, 1, 1, 1, 1, 1, 1, 0, 0] (bA [(1, .ptr 1000000000 0), (2, .ptr 1000000001 0), (3, .ptr 1000000002 0)] [⟨31, (List.map AV.d (aA.enc b0))⟩, ⟨31, (List.map AV.d (aA.enc b1))⟩, ⟨31, (List.map AV.d (aA.enc b2))⟩] [] [] []) =
 cond (b0.Kind == 9) (
 (some (.ret [aA.av (aA.mk b2.Kind b2.ID b2.Dup b2.Message b2.Client b2.User b2.Clean b2.Keep b2.Expiry b2.Window b2.Will b2.Present b2.Code b2.Subs b2.Filters b0.Codes)] [] []))) (
 cond (b0.Kind == 11) (
 (some (.ret [aA.av (aA.mk b2.Kind b2.ID b2.Dup b2.Message b2.Client b2.User b2.Clean b2.Keep b2.Expiry b2.Window b2.Will b2.Present b2.Code b2.Subs b2.Filters b0.Codes)] [] []))) (
 (some (.ret [aA.av b2] [] [])))) := by kernel_rfl
theorem axV (b0 b1 b2 : aA) : cJ SE (C51 Γ) Λ2 J 51 0 [1, 1, 1, 1, 1, 1, 1, 1, 0, 0] (bA [(1, .ptr 1000000000 0), (2, .ptr 1000000001 0), (3, .ptr 1000000002 0)] [⟨31, (List.map AV.d (aA.enc b0))⟩, ⟨31, (List.map AV.d (aA.enc b1))⟩, ⟨31, (List.map AV.d (aA.enc b2))⟩] [] [] []) =
 cond (b0.Kind == 10) (
 aoE (C51 Γ) Λ2 J (aA.enc b0) (aA.enc b1) (aA.enc (aA.mk b2.Kind b2.ID b2.Dup b2.Message b2.Client b2.User b2.Clean b2.Keep b2.Expiry b2.Window b2.Will b2.Present b2.Code b2.Subs b0.Filters b2.Codes))) (
 aoE (C51 Γ) Λ2 J (aA.enc b0) (aA.enc b1) (aA.enc b2)) := by kernel_rfl
theorem ayu (b0 b1 b2 : aA) : cJ SE (C51 Γ) Λ2 J 51 0 [1, 1, 1, 1, 1, 1, 1, 0, 0] (bA [(1, .ptr 1000000000 0), (2, .ptr 1000000001 0), (3, .ptr 1000000002 0)] [⟨31, (List.map AV.d (aA.enc b0))⟩, ⟨31, (List.map AV.d (aA.enc b1))⟩, ⟨31, (List.map AV.d (aA.enc b2))⟩] [] [] []) =
 cond (b0.Kind == 8) (
 aoG (C51 Γ) Λ2 J (aA.enc b0) (aA.enc b1) (aA.enc (aA.mk b2.Kind b2.ID b2.Dup b2.Message b2.Client b2.User b2.Clean b2.Keep b2.Expiry b2.Window b2.Will b2.Present b2.Code b0.Subs b2.Filters b2.Codes))) (
 aoG (C51 Γ) Λ2 J (aA.enc b0) (aA.enc b1) (aA.enc b2)) := by kernel_rfl
theorem ayC (b0 b1 b2 : aA) : cJ SE (C51 Γ) Λ2 J 51 0 [1, 1, 1, 1, 1, 1, 0, 0] (bA [(1, .ptr 1000000000 0), (2, .ptr 1000000001 0), (3, .ptr 1000000002 0)] [⟨31, (List.map AV.d (aA.enc b0))⟩, ⟨31, (List.map AV.d (aA.enc b1))⟩, ⟨31, (List.map AV.d (aA.enc b2))⟩] [] [] []) =
 cond (b0.Kind == 3) (
 aol (C51 Γ) Λ2 J (aA.enc b0) (aA.enc b1) (aA.enc (aA.mk b2.Kind b2.ID b0.Dup b0.Message b2.Client b2.User b2.Clean b2.Keep b2.Expiry b2.Window b2.Will b2.Present b2.Code b2.Subs b2.Filters b2.Codes))) (
 aol (C51 Γ) Λ2 J (aA.enc b0) (aA.enc b1) (aA.enc b2)) := by kernel_rfl
theorem axC (b0 b1 b2 : aA) : cJ SE (C51 Γ) Λ2 J 51 0 [1, 1, 1, 1, 1, 0, 0] (bA [(1, .ptr 1000000000 0), (2, .ptr 1000000001 0), (3, .ptr 1000000002 0)] [⟨31, (List.map AV.d (aA.enc b0))⟩, ⟨31, (List.map AV.d (aA.enc b1))⟩, ⟨31, (List.map AV.d (aA.enc b2))⟩] [] [] []) =
 cond (b0.Kind == 2) (
 akY (C51 Γ) Λ2 J (aA.enc b0) (aA.enc b1) (aA.enc (aA.mk b2.Kind b2.ID b2.Dup b2.Message b2.Client b2.User b2.Clean b2.Keep b2.Expiry b2.Window b2.Will b2.Present b0.Code b2.Subs b2.Filters b2.Codes))) (
 cond (b0.Kind == 14) (
 akY (C51 Γ) Λ2 J (aA.enc b0) (aA.enc b1) (aA.enc (aA.mk b2.Kind b2.ID b2.Dup b2.Message b2.Client b2.User b2.Clean b2.Keep b2.Expiry b2.Window b2.Will b2.Present b0.Code b2.Subs b2.Filters b2.Codes))) (
 akY (C51 Γ) Λ2 J (aA.enc b0) (aA.enc b1) (aA.enc b2))) := by kernel_rfl
theorem ax1 (b0 b1 b2 : aA) : cJ SE (C51 Γ) Λ2 J 51 0 [1, 1, 1, 1, 0, 0] (bA [(1, .ptr 1000000000 0), (2, .ptr 1000000001 0), (3, .ptr 1000000002 0)] [⟨31, (List.map AV.d (aA.enc b0))⟩, ⟨31, (List.map AV.d (aA.enc b1))⟩, ⟨31, (List.map AV.d (aA.enc b2))⟩] [] [] []) =
 cond (b0.Kind == 2) (
 an5 (C51 Γ) Λ2 J (aA.enc b0) (aA.enc b1) (aA.enc (aA.mk b2.Kind b2.ID b2.Dup b2.Message b2.Client b2.User b2.Clean b2.Keep b2.Expiry b2.Window b2.Will b0.Present b2.Code b2.Subs b2.Filters b2.Codes))) (
 an5 (C51 Γ) Λ2 J (aA.enc b0) (aA.enc b1) (aA.enc b2)) := by kernel_rfl
theorem aA0 (b0 b1 b2 : aA) : cJ SE (C51 Γ) Λ2 J 51 0 [1, 1, 1, 0, 0] (bA [(1, .ptr 1000000000 0), (2, .ptr 1000000001 0), (3, .ptr 1000000002 0)] [⟨31, (List.map AV.d (aA.enc b0))⟩, ⟨31, (List.map AV.d (aA.enc b1))⟩, ⟨31, (List.map AV.d (aA.enc b2))⟩] [] [] []) =
 cond (b0.Kind == 1) (
 ao7 (C51 Γ) Λ2 J (aA.enc b0) (aA.enc b1) (aA.enc (aA.mk b2.Kind b2.ID b2.Dup b2.Message b0.Client b0.User b0.Clean b0.Keep b0.Expiry b0.Window b0.Will b2.Present b2.Code b2.Subs b2.Filters b2.Codes))) (
 ao7 (C51 Γ) Λ2 J (aA.enc b0) (aA.enc b1) (aA.enc b2)) := by kernel_rfl
end
abbrev X51 : aR := C51 gG
theorem aij : X51 = aS gG := rfl
abbrev aw5 := aoE X51 (cB SE gG (SE.hl 51) (SE.hr 51)) (J0 SE X51)
abbrev ayN := aoG X51 (cB SE gG (SE.hl 51) (SE.hr 51)) (J0 SE X51)
abbrev axh := aol X51 (cB SE gG (SE.hl 51) (SE.hr 51)) (J0 SE X51)
abbrev ayc := akY X51 (cB SE gG (SE.hl 51) (SE.hr 51)) (J0 SE X51)
abbrev axE := an5 X51 (cB SE gG (SE.hl 51) (SE.hr 51)) (J0 SE X51)
abbrev axn := ao7 X51 (cB SE gG (SE.hl 51) (SE.hr 51)) (J0 SE X51)
abbrev azP := akK X51 (cB SE gG (SE.hl 51) (SE.hr 51)) (J0 SE X51)
theorem yR (b0 b1 b2 : aA) : Le (Option.map dY (qN b0 b1 b2)) (aw5 (aA.enc b0) (aA.enc b1) (aA.enc b2)) := by
 refine Le.trans ?_ (le_of_eq ((bD aij).trans (azc ..)).symm)
 unfold qN
 refine lC ?_ ?_
 ·exact aG rfl
 ·refine lC ?_ ?_
  ·exact aG rfl
  ·exact aG rfl
theorem yQ (b0 b1 b2 : aA) : Le (Option.map dY (qT b0 b1 b2)) (ayN (aA.enc b0) (aA.enc b1) (aA.enc b2)) := by
 refine Le.trans ?_ (le_of_eq ((bD aij).trans (axV ..)).symm)
 unfold qT
 refine lC ?_ ?_
 ·exact yR b0 b1 (aA.mk b2.Kind b2.ID b2.Dup b2.Message b2.Client b2.User b2.Clean b2.Keep b2.Expiry b2.Window b2.Will b2.Present b2.Code b2.Subs b0.Filters b2.Codes)
 ·exact yR b0 b1 b2
theorem yS (b0 b1 b2 : aA) : Le (Option.map dY (qV b0 b1 b2)) (axh (aA.enc b0) (aA.enc b1) (aA.enc b2)) := by
 refine Le.trans ?_ (le_of_eq ((bD aij).trans (ayu ..)).symm)
 unfold qV
 refine lC ?_ ?_
 ·exact yQ b0 b1 (aA.mk b2.Kind b2.ID b2.Dup b2.Message b2.Client b2.User b2.Clean b2.Keep b2.Expiry b2.Window b2.Will b2.Present b2.Code b0.Subs b2.Filters b2.Codes)
 ·exact yQ b0 b1 b2
theorem sD (b0 b1 b2 : aA) : Le (Option.map dY (mZ b0 b1 b2)) (ayc (aA.enc b0) (aA.enc b1) (aA.enc b2)) := by
 refine Le.trans ?_ (le_of_eq ((bD aij).trans (ayC ..)).symm)
 unfold mZ
 refine lC ?_ ?_
 ·exact yS b0 b1 (aA.mk b2.Kind b2.ID b0.Dup b0.Message b2.Client b2.User b2.Clean b2.Keep b2.Expiry b2.Window b2.Will b2.Present b2.Code b2.Subs b2.Filters b2.Codes)
 ·exact yS b0 b1 b2
theorem yN (b0 b1 b2 : aA) : Le (Option.map dY (qH b0 b1 b2)) (axE (aA.enc b0) (aA.enc b1) (aA.enc b2)) := by
 refine Le.trans ?_ (le_of_eq ((bD aij).trans (axC ..)).symm)
 unfold qH
 refine lC ?_ ?_
 ·exact sD b0 b1 (aA.mk b2.Kind b2.ID b2.Dup b2.Message b2.Client b2.User b2.Clean b2.Keep b2.Expiry b2.Window b2.Will b2.Present b0.Code b2.Subs b2.Filters b2.Codes)
 ·refine lC ?_ ?_
  ·exact sD b0 b1 (aA.mk b2.Kind b2.ID b2.Dup b2.Message b2.Client b2.User b2.Clean b2.Keep b2.Expiry b2.Window b2.Will b2.Present b0.Code b2.Subs b2.Filters b2.Codes)
  ·exact sD b0 b1 b2
theorem yO (b0 b1 b2 : aA) : Le (Option.map dY (qU b0 b1 b2)) (axn (aA.enc b0) (aA.enc b1) (aA.enc b2)) := by
 refine Le.trans ?_ (le_of_eq ((bD aij).trans (ax1 ..)).symm)
 unfold qU
 refine lC ?_ ?_
 ·exact yN b0 b1 (aA.mk b2.Kind b2.ID b2.Dup b2.Message b2.Client b2.User b2.Clean b2.Keep b2.Expiry b2.Window b2.Will b0.Present b2.Code b2.Subs b2.Filters b2.Codes)
 ·exact yN b0 b1 b2
theorem oJ (b0 b1 b2 : aA) : Le (Option.map dY (lH b0 b1 b2)) (azP (aA.enc b0) (aA.enc b1) (aA.enc b2)) := by
 refine Le.trans ?_ (le_of_eq ((bD aij).trans (aA0 ..)).symm)
 unfold lH
 refine lC ?_ ?_
 ·exact yO b0 b1 (aA.mk b2.Kind b2.ID b2.Dup b2.Message b0.Client b0.User b0.Clean b0.Keep b0.Expiry b0.Window b0.Will b2.Present b2.Code b2.Subs b2.Filters b2.Codes)
 ·exact yO b0 b1 b2
theorem ahE (p0 : aA) : Le (Option.map dY (uS p0)) (bF SE 51 [aA.av p0] [] []) := by
 refine aZ aij rfl ?_
 refine Le.trans ?_ (le_of_eq (T51 ..).symm)
 unfold uS
 refine lC ?_ ?_
 ·(try simp only [EN]); exact oJ p0 ((aA.mk 0 0 false (aF.mk [] [] 0 false 0 0 [] 0 []) [] [] false 0 0 0 (aV.mk false 0 (aF.mk [] [] 0 false 0 0 [] 0 [])) false 0 [] [] [])) ((aA.mk p0.Kind p0.ID false (aF.mk [] [] 0 false 0 0 [] 0 []) [] [] false 0 0 0 (aV.mk false 0 (aF.mk [] [] 0 false 0 0 [] 0 [])) false 0 [] [] []))
 ·refine lC ?_ ?_
  ·refine lC ?_ ?_
   ·(try simp only [EN]); exact oJ p0 ((aA.mk 0 0 false (aF.mk [] [] 0 false 0 0 [] 0 []) [] [] false 0 0 0 (aV.mk false 0 (aF.mk [] [] 0 false 0 0 [] 0 [])) false 0 [] [] [])) ((aA.mk p0.Kind p0.ID false (aF.mk [] [] 0 false 0 0 [] 0 []) [] [] false 0 0 0 (aV.mk false 0 (aF.mk [] [] 0 false 0 0 [] 0 [])) false 0 [] [] []))
   ·(try simp only [EN]); exact oJ p0 ((aA.mk 0 0 false (aF.mk [] [] 0 false 0 0 [] 0 []) [] [] false 0 0 0 (aV.mk false 0 (aF.mk [] [] 0 false 0 0 [] 0 [])) false 0 [] [] [])) ((aA.mk p0.Kind 0 false (aF.mk [] [] 0 false 0 0 [] 0 []) [] [] false 0 0 0 (aV.mk false 0 (aF.mk [] [] 0 false 0 0 [] 0 [])) false 0 [] [] []))
  ·(try simp only [EN]); exact oJ p0 ((aA.mk 0 0 false (aF.mk [] [] 0 false 0 0 [] 0 []) [] [] false 0 0 0 (aV.mk false 0 (aF.mk [] [] 0 false 0 0 [] 0 [])) false 0 [] [] [])) ((aA.mk p0.Kind 0 false (aF.mk [] [] 0 false 0 0 [] 0 []) [] [] false 0 0 0 (aV.mk false 0 (aF.mk [] [] 0 false 0 0 [] 0 [])) false 0 [] [] []))
section
variable (Γ : Fun)  (Λ2 J : Lam)
def ay3 : aR := aS Γ
theorem aDW (p0 : Int) : bK SE (ay3 Γ) Λ2 J 108 [.d (.int .u8 p0)] [] [] =
 cond (decide (p0 ≥ 97)) (
 (rB (decide (p0 ≤ 122)))) (
 (rB false)) := by kernel_rfl
end
abbrev aCO : aR := ay3 gG
theorem aAl : aCO = aS gG := rfl
theorem aaQ (p0 : Int) : Le (Option.map packet_is_out (nK p0)) (bF SE 108 [.d (.int .u8 p0)] [] []) := by
 refine aZ aAl rfl ?_
 refine Le.trans ?_ (le_of_eq (aDW ..).symm)
 unfold nK
 refine lC ?_ ?_
 ·exact aG rfl
 ·exact aG rfl
section
variable (Γ : Fun)  (Λ2 J : Lam)
def ayP : aR := aS Γ
theorem aEo (p0 : Int) : bK SE (ayP Γ) Λ2 J 109 [.d (.int .u8 p0)] [] [] =
 cond (decide (p0 ≥ 48)) (
 (rB (decide (p0 ≤ 57)))) (
 (rB false)) := by kernel_rfl
end
abbrev aDH : aR := ayP gG
theorem aAv : aDH = aS gG := rfl
theorem agy (p0 : Int) : Le (Option.map packet_is_out (p7 p0)) (bF SE 109 [.d (.int .u8 p0)] [] []) := by
 refine aZ aAv rfl ?_
 refine Le.trans ?_ (le_of_eq (aEo ..).symm)
 unfold p7
 refine lC ?_ ?_
 ·exact aG rfl
 ·exact aG rfl
def ak6 (C : aR) (Λ2 J : Lam) (a0 : Str) (a1 : Int) : Res := lab SE C Λ2 J 86 0 [1, 1, 0, 1, 0] (bA [(0, .d (.str a0)), (3, .d (.int .i64 a1))] [] [] [] [])
def avq (C : aR) (Λ2 J : Lam) (a0 : Str) : Res := lab SE C Λ2 J 86 0 [1, 1, 0, 0] (bA [(0, .d (.str a0))] [] [] [] [])
section
variable (Γ : Fun) (γ108 γ109 : Gm (Bool)) (Λ2 J : Lam)
def C86 : aR := bE (bE (aS Γ) 108 packet_is_out γ108) 109 packet_is_out γ109
theorem T86 (p0 : Str) : bK SE (C86 Γ γ108 γ109) Λ2 J 86 [.d (.str p0)] [] [] =
 cond (decide ((List.length p0 : Int) < 1)) (
 (rB false)) (
 cond (decide ((List.length p0 : Int) > 16)) (
 (rB false)) (
 cond (decide (0 ≤ 0) && decide (0 < (List.length p0 : Int))) (
 γ108 [.d (.int .u8 (UInt8.toNat (List.getD p0 (Int.toNat 0) 0) : Int))] [] [] fun r0 =>
 cond (!r0) (
  (rB false)) (
 avq (C86 Γ γ108 γ109) Λ2 J p0)) none)) := by kernel_rfl
theorem aAP (x0 : Str) (x3 : Int) : cJ SE (C86 Γ γ108 γ109) Λ2 J 86 0 [1, 1, 0, 1, 0] (bA [(0, .d (.str x0)), (3, .d (.int .i64 x3))] [] [] [] []) =
 cond (decide (x3 < (List.length x0 : Int))) (
 cond (iB x3 (List.length x0 : Int)) (
  γ108 [.d (.int .u8 (UInt8.toNat (List.getD x0 (Int.toNat x3) 0) : Int))] [] [] fun r1 =>
  cond (!r1) (
  cond (iB x3 (List.length x0 : Int)) (
   γ109 [.d (.int .u8 (UInt8.toNat (List.getD x0 (Int.toNat x3) 0) : Int))] [] [] fun r2 =>
   cond (!r2) (
   cond (iB x3 (List.length x0 : Int)) (
    cond ((UInt8.toNat (List.getD x0 (Int.toNat x3) 0) : Int) != 45) (
    (rB false)) (
    ak6 (C86 Γ γ108 γ109) Λ2 J x0 (w6 (x3 + 1)))) none) (
   ak6 (C86 Γ γ108 γ109) Λ2 J x0 (w6 (x3 + 1)))) none) (
  ak6 (C86 Γ γ108 γ109) Λ2 J x0 (w6 (x3 + 1)))) none) (
 (rB true)) := by kernel_rfl
theorem aBX (x0 : Str) : cJ SE (C86 Γ γ108 γ109) Λ2 J 86 0 [1, 1, 0, 0] (bA [(0, .d (.str x0))] [] [] [] []) =
 ak6 (C86 Γ γ108 γ109) Λ2 J x0 0 := by kernel_rfl
end
abbrev X86 : aR := C86 gG (cT 108 packet_is_out) (cT 109 packet_is_out)
theorem at7 : X86 = aS gG := by unfold X86 C86; repeat rw [bH fun _ h => h]
abbrev aBt := ak6 X86 (cB SE gG (SE.hl 86) (SE.hr 86)) (J0 SE X86)
abbrev aB4 := avq X86 (cB SE gG (SE.hl 86) (SE.hr 86)) (J0 SE X86)
theorem afr : ∀ (fu : Nat) (x0 : Str) (x3 : Int), Le (Option.map packet_is_out (gM fu x0 x3)) (aBt x0 x3) := by
 intro fu
 induction fu with
 | zero => intros; exact le_none
 | succ fu ih =>
  intro x0 x3
  refine Le.trans ?_ (le_of_eq ((bD at7).trans (aAP ..)).symm)
  unfold gM
  refine lC ?_ ?_
  ·refine lF ?_
   refine lQ eX packet_is_inj (aaQ _) fun r1 _ => ?_
   refine lC ?_ ?_
   ·refine lF ?_
    refine lQ eX packet_is_inj (agy _) fun r2 _ => ?_
    refine lC ?_ ?_
    ·refine lF ?_
     refine lC ?_ ?_
     ·exact aG rfl
     ·exact ih x0 (w6 (x3 + 1))
    ·exact ih x0 (w6 (x3 + 1))
   ·exact ih x0 (w6 (x3 + 1))
  ·exact aG rfl
theorem afN (x0 : Str) : Le (Option.map packet_is_out (rZ x0)) (aB4 x0) := by
 refine Le.trans ?_ (le_of_eq ((bD at7).trans (aBX ..)).symm)
 unfold rZ
 exact afr fuel x0 0
theorem rY (p0 : Str) : Le (Option.map packet_is_out (iG p0)) (bF SE 86 [.d (.str p0)] [] []) := by
 refine aZ at7 rfl ?_
 refine Le.trans ?_ (le_of_eq (T86 ..).symm)
 unfold iG
 refine lC ?_ ?_
 ·exact aG rfl
 ·refine lC ?_ ?_
  ·exact aG rfl
  ·refine lF ?_
   refine lQ eX packet_is_inj (aaQ _) fun r0 _ => ?_
   refine lC ?_ ?_
   ·exact aG rfl
   ·exact afN p0
def aob (C : aR) (Λ2 J : Lam) (a0 : Str) (a1 a2 : Int) : Res := lab SE C Λ2 J 123 0 [1, 0, 1, 0] (bA [(0, .d (.str a0)), (1, .d (.int .u8 a1)), (5, .d (.int .i64 a2))] [] [] [] [])
section
variable (Γ : Fun)  (Λ2 J : Lam)
def ao2 : aR := aS Γ
theorem aC0 (p0 : Str) (p1 : Int) : bK SE (ao2 Γ) Λ2 J 123 [.d (.str p0), .d (.int .u8 p1)] [] [] =
 aob (ao2 Γ) Λ2 J p0 p1 0 := by kernel_rfl
theorem azF (x0 : Str) (x1 x5 : Int) : cJ SE (ao2 Γ) Λ2 J 123 0 [1, 0, 1, 0] (bA [(0, .d (.str x0)), (1, .d (.int .u8 x1)), (5, .d (.int .i64 x5))] [] [] [] []) =
 cond (decide (x5 < (List.length x0 : Int))) (
 cond (iB x5 (List.length x0 : Int)) (
  cond ((UInt8.toNat (List.getD x0 (Int.toNat x5) 0) : Int) == x1) (
  (rB true)) (
  aob (ao2 Γ) Λ2 J x0 x1 (w6 (x5 + 1)))) none) (
 (rB false)) := by kernel_rfl
end
abbrev auy : aR := ao2 gG
theorem avR : auy = aS gG := rfl
abbrev azp := aob auy (cB SE gG (SE.hl 123) (SE.hr 123)) (J0 SE auy)
theorem agc : ∀ (fu : Nat) (x0 : Str) (x1 x5 : Int), Le (Option.map packet_is_out (kD fu x0 x1 x5)) (azp x0 x1 x5) := by
 intro fu
 induction fu with
 | zero => intros; exact le_none
 | succ fu ih =>
  intro x0 x1 x5
  refine Le.trans ?_ (le_of_eq ((bD avR).trans (azF ..)).symm)
  unfold kD
  refine lC ?_ ?_
  ·refine lF ?_
   refine lC ?_ ?_
   ·exact aG rfl
   ·exact ih x0 x1 (w6 (x5 + 1))
  ·exact aG rfl
theorem oV (p0 : Str) (p1 : Int) : Le (Option.map packet_is_out (jX p0 p1)) (bF SE 123 [.d (.str p0), .d (.int .u8 p1)] [] []) := by
 refine aZ avR rfl ?_
 refine Le.trans ?_ (le_of_eq (aC0 ..).symm)
 unfold jX
 exact agc fuel p0 p1 0
def alQ (C : aR) (Λ2 J : Lam) (a0 : Str) (a1 a2 : Int) (a3 : List (List D)) : Res := lab SE C Λ2 J 125 0 [1, 1, 1, 0, 1, 0] (bA [(0, .d (.str a0)), (3, .row 3003), (4, .d (.int .i64 a1)), (5, .d (.int .i64 a2))] [] [] [] [(3003, ⟨[.str], 9, 16, a3⟩)])
section
variable (Γ : Fun)  (Λ2 J : Lam)
def aml : aR := aS Γ
theorem aDm (p0 : Str) : bK SE (aml Γ) Λ2 J 125 [.d (.str p0)] [] [] =
 alQ (aml Γ) Λ2 J p0 0 0 (List.map aY []) := by kernel_rfl
theorem awZ (x0 : Str) (x4 x5 : Int) (w3003 : List Str) : cJ SE (aml Γ) Λ2 J 125 0 [1, 1, 1, 0, 1, 0] (bA [(0, .d (.str x0)), (3, .row 3003), (4, .d (.int .i64 x4)), (5, .d (.int .i64 x5))] [] [] [] [(3003, ⟨[.str], 9, 16, (List.map aY w3003)⟩)]) =
 cond (decide (x5 < (List.length x0 : Int))) (
 cond (iB x5 (List.length x0 : Int)) (
  cond ((UInt8.toNat (List.getD x0 (Int.toNat x5) 0) : Int) == 47) (
  cond (decide (0 ≤ x5) && decide (x5 ≤ ((List.length x0) : Int))) (
   cond (decide (0 ≤ x4) && decide (x4 ≤ x5)) (
   cond (decide ((lM aY w3003 + lM aY [(dI x0 (some x4) (some x5))]) * 16 ≤ 140737488355328)) (
    alQ (aml Γ) Λ2 J x0 (w6 (x5 + 1)) (w6 (x5 + 1)) (((List.map aY w3003) ++ (List.map aY [(dI x0 (some x4) (some x5))])))) none) none) none) (
  alQ (aml Γ) Λ2 J x0 x4 (w6 (x5 + 1)) (List.map aY w3003))) none) (
 cond (decide (0 ≤ x4) && decide (x4 ≤ ((List.length x0) : Int))) (
 cond (decide ((lM aY w3003 + lM aY [(dI x0 (some x4) none)]) * 16 ≤ 140737488355328)) (
  (some (.ret [.row 0] [] [⟨[.str], 9, 16, ((List.map aY w3003) ++ (List.map aY [(dI x0 (some x4) none)]))⟩]))) none) none) := by kernel_rfl
end
abbrev aua : aR := aml gG
theorem avp : aua = aS gG := rfl
abbrev azl := alQ aua (cB SE gG (SE.hl 125) (SE.hr 125)) (J0 SE aua)
theorem adv : ∀ (fu : Nat) (x0 : Str) (x4 x5 : Int) (w3003 : List Str), Le (Option.map eQ (gR fu x0 x4 x5 w3003)) (azl x0 x4 x5 (List.map aY w3003)) := by
 intro fu
 induction fu with
 | zero => intros; exact le_none
 | succ fu ih =>
  intro x0 x4 x5 w3003
  refine Le.trans ?_ (le_of_eq ((bD avp).trans (awZ ..)).symm)
  unfold gR
  refine lC ?_ ?_
  ·refine lF ?_
   refine lC ?_ ?_
   ·refine lF ?_
    refine lF ?_
    refine lG (by simp only [EN]) ?_
    (try simp only [EN]); exact ih x0 (w6 (x5 + 1)) (w6 (x5 + 1)) ((w3003 ++ [(dI x0 (some x4) (some x5))]))
   ·exact ih x0 x4 (w6 (x5 + 1)) w3003
  ·refine lF ?_
   refine lG (by simp only [EN]) ?_
   exact aG (by first | rfl | simp only [EN, eQ] <;> rfl)
theorem aax (p0 : Str) : Le (Option.map eQ (oX p0)) (bF SE 125 [.d (.str p0)] [] []) := by
 refine aZ avp rfl ?_
 refine Le.trans ?_ (le_of_eq (aDm ..).symm)
 unfold oX
 (try simp only [EN]); exact adv fuel p0 0 0 []
section
variable (Γ : Fun) (γ123 : Gm (Bool)) (γ125 : Gm ((List Str))) (Λ2 J : Lam)
def avf : aR := bE (bE (aS Γ) 123 packet_is_out γ123) 125 eQ γ125
theorem aC7 (p0 : Str) : bK SE (avf Γ γ123 γ125) Λ2 J 122 [.d (.str p0)] [] [] =
 cond (decide ((List.length p0 : Int) ≥ 1)) (
 cond (decide ((List.length p0 : Int) ≤ 64)) (
  γ123 [.d (.str p0), .d (.int .u8 0)] [] [] fun r0 =>
  cond (!r0) (
  γ125 [.d (.str p0)] [] [] fun r1 =>
  (rB (decide ((lM aY r1 : Int) ≤ 8)))) (
  (rB false))) (
 (rB false))) (
 (rB false)) := by kernel_rfl
end
abbrev azn : aR := avf gG (cT 123 packet_is_out) (cT 125 eQ)
theorem aBx : azn = aS gG := by unfold azn avf; repeat rw [bH fun _ h => h]
theorem aaE (p0 : Str) : Le (Option.map packet_is_out (nH p0)) (bF SE 122 [.d (.str p0)] [] []) := by
 refine aZ aBx rfl ?_
 refine Le.trans ?_ (le_of_eq (aC7 ..).symm)
 unfold nH
 refine lC ?_ ?_
 ·refine lC ?_ ?_
  ·refine lQ eX packet_is_inj (oV _ _) fun r0 _ => ?_
   refine lC ?_ ?_
   ·refine lQ eX y8 (aax _) fun r1 _ => ?_
    exact aG (by first | rfl | simp only [EN, packet_is_out] <;> rfl)
   ·exact aG rfl
  ·exact aG rfl
 ·exact aG rfl
section
variable (Γ : Fun) (γ122 γ123 : Gm (Bool)) (Λ2 J : Lam)
def atM : aR := bE (bE (aS Γ) 122 packet_is_out γ122) 123 packet_is_out γ123
theorem aD0 (p0 : Str) : bK SE (atM Γ γ122 γ123) Λ2 J 110 [.d (.str p0)] [] [] =
 γ122 [.d (.str p0)] [] [] fun r0 =>
 cond r0 (
 γ123 [.d (.str p0), .d (.int .u8 43)] [] [] fun r1 =>
 cond (!r1) (
  γ123 [.d (.str p0), .d (.int .u8 35)] [] [] fun r2 =>
  (rB (!r2))) (
 (rB false))) (
 (rB false)) := by kernel_rfl
end
abbrev aw9 : aR := atM gG (cT 122 packet_is_out) (cT 123 packet_is_out)
theorem aBQ : aw9 = aS gG := by unfold aw9 atM; repeat rw [bH fun _ h => h]
theorem ag8 (p0 : Str) : Le (Option.map packet_is_out (p8 p0)) (bF SE 110 [.d (.str p0)] [] []) := by
 refine aZ aBQ rfl ?_
 refine Le.trans ?_ (le_of_eq (aD0 ..).symm)
 unfold p8
 refine lQ eX packet_is_inj (aaE _) fun r0 _ => ?_
 refine lC ?_ ?_
 ·refine lQ eX packet_is_inj (oV _ _) fun r1 _ => ?_
  refine lC ?_ ?_
  ·refine lQ eX packet_is_inj (oV _ _) fun r2 _ => ?_
   exact aG rfl
  ·exact aG rfl
 ·exact aG rfl
def aaS (C : aR) (Λ2 J : Lam) (a0 : Str) (a1 : Int) : Res := lab SE C Λ2 J 124 0 [1, 1, 0, 1, 0] (bA [(0, .d (.str a0)), (3, .d (.int .i64 a1))] [] [] [] [])
def atp (C : aR) (Λ2 J : Lam) (a0 : Str) : Res := lab SE C Λ2 J 124 0 [1, 1, 0, 0] (bA [(0, .d (.str a0))] [] [] [] [])
section
variable (Γ : Fun)  (Λ2 J : Lam)
def abl : aR := aS Γ
theorem aDJ (p0 : Str) : bK SE (abl Γ) Λ2 J 124 [.d (.str p0)] [] [] =
 cond (decide ((List.length p0 : Int) < 1)) (
 (rB false)) (
 cond (decide ((List.length p0 : Int) > 16)) (
 (rB false)) (
 atp (abl Γ) Λ2 J p0)) := by kernel_rfl
theorem azf (x0 : Str) (x3 : Int) : cJ SE (abl Γ) Λ2 J 124 0 [1, 1, 0, 1, 0] (bA [(0, .d (.str x0)), (3, .d (.int .i64 x3))] [] [] [] []) =
 cond (decide (x3 < (List.length x0 : Int))) (
 cond (iB x3 (List.length x0 : Int)) (
  cond (decide ((UInt8.toNat (List.getD x0 (Int.toNat x3) 0) : Int) ≥ 97)) (
  cond (!(decide ((UInt8.toNat (List.getD x0 (Int.toNat x3) 0) : Int) ≤ 122))) (
   cond (decide ((UInt8.toNat (List.getD x0 (Int.toNat x3) 0) : Int) ≥ 48)) (
   cond (!(decide ((UInt8.toNat (List.getD x0 (Int.toNat x3) 0) : Int) ≤ 57))) (
    cond ((UInt8.toNat (List.getD x0 (Int.toNat x3) 0) : Int) != 45) (
    (rB false)) (
    aaS (abl Γ) Λ2 J x0 (w6 (x3 + 1)))) (
   aaS (abl Γ) Λ2 J x0 (w6 (x3 + 1)))) (
   cond ((UInt8.toNat (List.getD x0 (Int.toNat x3) 0) : Int) != 45) (
   (rB false)) (
   aaS (abl Γ) Λ2 J x0 (w6 (x3 + 1))))) (
  aaS (abl Γ) Λ2 J x0 (w6 (x3 + 1)))) (
  cond (decide ((UInt8.toNat (List.getD x0 (Int.toNat x3) 0) : Int) ≥ 48)) (
  cond (!(decide ((UInt8.toNat (List.getD x0 (Int.toNat x3) 0) : Int) ≤ 57))) (
   cond ((UInt8.toNat (List.getD x0 (Int.toNat x3) 0) : Int) != 45) (
   (rB false)) (
   aaS (abl Γ) Λ2 J x0 (w6 (x3 + 1)))) (
  aaS (abl Γ) Λ2 J x0 (w6 (x3 + 1)))) (
  cond ((UInt8.toNat (List.getD x0 (Int.toNat x3) 0) : Int) != 45) (
  (rB false)) (
  aaS (abl Γ) Λ2 J x0 (w6 (x3 + 1)))))) none) (
 (rB true)) := by kernel_rfl
theorem azr (x0 : Str) : cJ SE (abl Γ) Λ2 J 124 0 [1, 1, 0, 0] (bA [(0, .d (.str x0))] [] [] [] []) =
 aaS (abl Γ) Λ2 J x0 0 := by kernel_rfl
end
abbrev aov : aR := abl gG
theorem ary : aov = aS gG := rfl
abbrev ayT := aaS aov (cB SE gG (SE.hl 124) (SE.hr 124)) (J0 SE aov)
abbrev axY := atp aov (cB SE gG (SE.hl 124) (SE.hr 124)) (J0 SE aov)
theorem af2 : ∀ (fu : Nat) (x0 : Str) (x3 : Int), Le (Option.map packet_is_out (eL fu x0 x3)) (ayT x0 x3) := by
 intro fu
 induction fu with
 | zero => intros; exact le_none
 | succ fu ih =>
  intro x0 x3
  refine Le.trans ?_ (le_of_eq ((bD ary).trans (azf ..)).symm)
  unfold eL
  refine lC ?_ ?_
  ·refine lF ?_
   refine lC ?_ ?_
   ·refine lC ?_ ?_
    ·refine lC ?_ ?_
     ·refine lC ?_ ?_
      ·refine lC ?_ ?_
       ·exact aG rfl
       ·exact ih x0 (w6 (x3 + 1))
      ·exact ih x0 (w6 (x3 + 1))
     ·refine lC ?_ ?_
      ·exact aG rfl
      ·exact ih x0 (w6 (x3 + 1))
    ·exact ih x0 (w6 (x3 + 1))
   ·refine lC ?_ ?_
    ·refine lC ?_ ?_
     ·refine lC ?_ ?_
      ·exact aG rfl
      ·exact ih x0 (w6 (x3 + 1))
     ·exact ih x0 (w6 (x3 + 1))
    ·refine lC ?_ ?_
     ·exact aG rfl
     ·exact ih x0 (w6 (x3 + 1))
  ·exact aG rfl
theorem agr (x0 : Str) : Le (Option.map packet_is_out (sO x0)) (axY x0) := by
 refine Le.trans ?_ (le_of_eq ((bD ary).trans (azr ..)).symm)
 unfold sO
 exact af2 fuel x0 0
theorem aiL (p0 : Str) : Le (Option.map packet_is_out (sX p0)) (bF SE 124 [.d (.str p0)] [] []) := by
 refine aZ ary rfl ?_
 refine Le.trans ?_ (le_of_eq (aDJ ..).symm)
 unfold sX
 refine lC ?_ ?_
 ·exact aG rfl
 ·refine lC ?_ ?_
  ·exact aG rfl
  ·exact agr p0
def akQ (C : aR) (Λ2 J : Lam) (a0 : List (List D)) (a1 : Int) : Res := lab SE C Λ2 J 111 0 [1, 1, 0, 1, 0] (bA [(0, .d (.sl aC.ks a0)), (3, .d (.int .i64 a1))] [] [] [] [])
section
variable (Γ : Fun) (γ124 : Gm (Bool)) (Λ2 J : Lam)
def akD : aR := bE (aS Γ) 124 packet_is_out γ124
theorem aDy (p0 : List aC) : bK SE (akD Γ γ124) Λ2 J 111 [.d (.sl aC.ks (List.map aC.enc p0))] [] [] =
 cond (decide ((lM aC.enc p0 : Int) > 8)) (
 (rI 5)) (
 akQ (akD Γ γ124) Λ2 J (List.map aC.enc p0) 0) := by kernel_rfl
theorem ay4 (x0 : List aC) (x3 : Int) : cJ SE (akD Γ γ124) Λ2 J 111 0 [1, 1, 0, 1, 0] (bA [(0, .d (.sl aC.ks (List.map aC.enc x0))), (3, .d (.int .i64 x3))] [] [] [] []) =
 cond (decide (x3 < (lM aC.enc x0 : Int))) (
 cond (iB x3 (lM aC.enc x0 : Int)) (
  γ124 [.d (.str (bJ (cE aC.enc x0 x3 0)))] [] [] fun r0 =>
  cond (!r0) (
  (rI 16)) (
  cond (iB x3 (lM aC.enc x0 : Int)) (
  cond (decide ((List.length (bJ (cE aC.enc x0 x3 1)) : Int) > 160)) (
   (rI 5)) (
  cond (decide (x3 > 0)) (
   cond (iB x3 (lM aC.enc x0 : Int)) (
   cond (iB (w6 (x3 - 1)) (lM aC.enc x0 : Int)) (
    cond (Op.bytesLess (bJ (cE aC.enc x0 x3 0)) (bJ (cE aC.enc x0 (w6 (x3 - 1)) 0)) || (bJ (cE aC.enc x0 x3 0)) == (bJ (cE aC.enc x0 (w6 (x3 - 1)) 0))) (
    (rI 16)) (
    akQ (akD Γ γ124) Λ2 J (List.map aC.enc x0) (w6 (x3 + 1)))) none) none) (
  akQ (akD Γ γ124) Λ2 J (List.map aC.enc x0) (w6 (x3 + 1))))) none)) none) (
 (rI 0)) := by kernel_rfl
end
abbrev arE : aR := akD gG (cT 124 packet_is_out)
theorem avS : arE = aS gG := by unfold arE akD; rw [bH fun _ h => h]
abbrev awY := akQ arE (cB SE gG (SE.hl 111) (SE.hr 111)) (J0 SE arE)
theorem aeC : ∀ (fu : Nat) (x0 : List aC) (x3 : Int), Le (Option.map aJ (hX fu x0 x3)) (awY (List.map aC.enc x0) x3) := by
 intro fu
 induction fu with
 | zero => intros; exact le_none
 | succ fu ih =>
  intro x0 x3
  refine Le.trans ?_ (le_of_eq ((bD avS).trans (ay4 ..)).symm)
  unfold hX
  refine lD (by simp only [EN]) ?_ ?_
  ·refine lG (by simp only [EN]) ?_
   refine lQ eX packet_is_inj (by (try simp only [EN]); exact aiL ((List.getD x0 (Int.toNat x3) default).Key)) fun r0 _ => ?_
   refine lC ?_ ?_
   ·exact aG rfl
   ·refine lG (by simp only [EN]) ?_
    refine lD (by simp only [EN]) ?_ ?_
    ·exact aG rfl
    ·refine lC ?_ ?_
     ·refine lG (by simp only [EN]) ?_
      refine lG (by simp only [EN]) ?_
      refine lD (by simp only [EN]) ?_ ?_
      ·exact aG rfl
      ·exact ih x0 (w6 (x3 + 1))
     ·exact ih x0 (w6 (x3 + 1))
  ·exact aG rfl
theorem ahj (p0 : List aC) : Le (Option.map aJ (pZ p0)) (bF SE 111 [.d (.sl aC.ks (List.map aC.enc p0))] [] []) := by
 refine aZ avS rfl ?_
 refine Le.trans ?_ (le_of_eq (aDy ..).symm)
 unfold pZ
 refine lD (by simp only [EN]) ?_ ?_
 ·exact aG rfl
 ·exact aeC fuel p0 0
end Te
end PX
