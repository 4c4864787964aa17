import Derived.Test.YtahbfpamckocmaaGreatDoorTre0
set_option linter.unusedVariables false
set_option linter.unusedSimpArgs false
set_option maxRecDepth 100000
noncomputable section
namespace PX
open Go
open Md
namespace Te
def afk (C : aP) (Λ2 J : Lam) (a0 : List (List D)) (a1 : Bool) (a2 : Int) (a3 : Str) (a4 : List (List D)) (a5 a6 : Int) (a7 : Str) (a8 : Nat) : Res := lab SE C Λ2 J 86 0 [1, 0, 1, 1, 1, 1, 0, 1, 0, 0, 1, 1, 0, 0, 1, 1, 0] (bC [(3, .d (.sl [.str] a0)), (4, .d (.bool a1)), (5, .d (.int .i64 a2)), (6, .d (.str a3)), (15, .d (.sl [.str] a4)), (16, .d (.int .i64 a5)), (17, .d (.int .i64 a6)), (23, .it 4000)] [] [] [(4000, (a7, a8))] [])
def amP (C : aP) (Λ2 J : Lam) (a0 : List (List D)) (a1 : Bool) (a2 : List (List D)) (a3 a4 : Int) : Res := lab SE C Λ2 J 86 0 [1, 0, 1, 1, 1, 1, 0, 1, 0] (bC [(3, .d (.sl [.str] a0)), (4, .d (.bool a1)), (15, .d (.sl [.str] a2)), (16, .d (.int .i64 a3)), (17, .d (.int .i64 a4))] [] [] [] [])
section
variable (Γ : Fun) (γ100 : Gm (Bool)) (γ101 : Gm ((List Str))) (Λ2 J : Lam)
def C86 : aP := aZ (aZ (aR Γ) 100 aI γ100) 101 cB γ101
theorem T86 (p0 : Str) : bL SE (C86 Γ γ100 γ101) Λ2 J 86 [.d (.str p0)] [] [] =
 γ100 [.d (.str p0)] [] [] fun r0 =>
 cond (!r0) (
 (rB false)) (
 γ101 [.d (.str p0)] [] [] fun r1 =>
 amP (C86 Γ γ100 γ101) Λ2 J (List.map bU r1) true (List.map bU r1) (lM bU r1 : Int) 0) := by kernel_rfl
theorem avz (x3 : List Str) (x4 : Bool) (x5 : Int) (x6 : Str) (x15 : List Str) (x16 x17 : Int) (s4000 : Str) (i4000 : Nat) : cY SE (C86 Γ γ100 γ101) Λ2 J 86 0 [1, 0, 1, 1, 1, 1, 0, 1, 0, 0, 1, 1, 0, 0, 1, 1, 0] (bC [(3, .d (.sl [.str] (List.map bU x3))), (4, .d (.bool x4)), (5, .d (.int .i64 x5)), (6, .d (.str x6)), (15, .d (.sl [.str] (List.map bU x15))), (16, .d (.int .i64 x16)), (17, .d (.int .i64 x17)), (23, .it 4000)] [] [] [(4000, (s4000, i4000))] []) =
 cond (decide (i4000 < List.length s4000)) (
 cond (((dec s4000 i4000).1 : Int) == 43) (
  cond (!((List.length x6 : Int) == 1)) (
  (rB false)) (
  cond (((dec s4000 i4000).1 : Int) == 35) (
  cond (!((List.length x6 : Int) == 1)) (
   (rB false)) (
  cond (decide (x5 < (w6 ((lM bU x3 : Int) - 1)))) (
   (rB false)) (
  afk (C86 Γ γ100 γ101) Λ2 J (List.map bU x3) x4 x5 x6 (List.map bU x15) x16 x17 s4000 (i4000 + (dec s4000 i4000).2)))) (
  afk (C86 Γ γ100 γ101) Λ2 J (List.map bU x3) x4 x5 x6 (List.map bU x15) x16 x17 s4000 (i4000 + (dec s4000 i4000).2)))) (
 cond (((dec s4000 i4000).1 : Int) == 35) (
  cond (!((List.length x6 : Int) == 1)) (
  (rB false)) (
  cond (decide (x5 < (w6 ((lM bU x3 : Int) - 1)))) (
  (rB false)) (
  afk (C86 Γ γ100 γ101) Λ2 J (List.map bU x3) x4 x5 x6 (List.map bU x15) x16 x17 s4000 (i4000 + (dec s4000 i4000).2)))) (
 afk (C86 Γ γ100 γ101) Λ2 J (List.map bU x3) x4 x5 x6 (List.map bU x15) x16 x17 s4000 (i4000 + (dec s4000 i4000).2)))) (
 amP (C86 Γ γ100 γ101) Λ2 J (List.map bU x3) x4 (List.map bU x15) x16 (w6 (x17 + 1))) := by kernel_rfl
theorem avX (x3 : List Str) (x4 : Bool) (x15 : List Str) (x16 x17 : Int) : cY SE (C86 Γ γ100 γ101) Λ2 J 86 0 [1, 0, 1, 1, 1, 1, 0, 1, 0] (bC [(3, .d (.sl [.str] (List.map bU x3))), (4, .d (.bool x4)), (15, .d (.sl [.str] (List.map bU x15))), (16, .d (.int .i64 x16)), (17, .d (.int .i64 x17))] [] [] [] []) =
 cond (decide (x17 < x16)) (
 cond (iB x17 (lM bU x15 : Int)) (
  afk (C86 Γ γ100 γ101) Λ2 J (List.map bU x3) x4 x17 ((bI (cE bU x15 x17 0))) (List.map bU x15) x16 x17 ((bI (cE bU x15 x17 0))) 0) none) (
 (rB x4)) := by kernel_rfl
end
abbrev X86 : aP := C86 gG (cT 100 aI) (cT 101 cB)
theorem aoZ : X86 = aR gG := by unfold X86 C86; repeat rw [bB fun _ h => h]
abbrev auv := afk X86 (cU SE gG (SE.hl 86) (SE.hr 86)) (J0 SE X86)
abbrev aqR := amP X86 (cU SE gG (SE.hl 86) (SE.hr 86)) (J0 SE X86)
theorem aeF : ∀ (fu : Nat) (k6 : (List Str) → Bool → (List Str) → Int → Int → Option (Bool)) (hk6 : ∀ (x3 : List Str) (x4 : Bool) (x15 : List Str) (x16 x17 : Int), Le (Option.map aI (k6 x3 x4 x15 x16 x17)) (aqR (List.map bU x3) x4 (List.map bU x15) x16 x17)) (x3 : List Str) (x4 : Bool) (x5 : Int) (x6 : Str) (x15 : List Str) (x16 x17 : Int) (s4000 : Str) (i4000 : Nat), Le (Option.map aI (fZ fu k6 x3 x4 x5 x6 x15 x16 x17 s4000 i4000)) (auv (List.map bU x3) x4 x5 x6 (List.map bU x15) x16 x17 s4000 i4000) := by
 intro fu
 induction fu with
 | zero => intros; exact le_none
 | succ fu ih =>
  intro k6 hk6 x3 x4 x5 x6 x15 x16 x17 s4000 i4000
  refine Le.trans ?_ (le_of_eq ((bF aoZ).trans (avz ..)).symm)
  unfold fZ
  refine lC ?_ ?_
  ·refine lC ?_ ?_
   ·refine lC ?_ ?_
    ·exact aK rfl
    ·refine lC ?_ ?_
     ·refine lC ?_ ?_
      ·exact aK rfl
      ·refine lD (by simp only [EN]) ?_ ?_
       ·exact aK rfl
       ·exact ih _ hk6 x3 x4 x5 x6 x15 x16 x17 s4000 (i4000 + (dec s4000 i4000).2)
     ·exact ih _ hk6 x3 x4 x5 x6 x15 x16 x17 s4000 (i4000 + (dec s4000 i4000).2)
   ·refine lC ?_ ?_
    ·refine lC ?_ ?_
     ·exact aK rfl
     ·refine lD (by simp only [EN]) ?_ ?_
      ·exact aK rfl
      ·exact ih _ hk6 x3 x4 x5 x6 x15 x16 x17 s4000 (i4000 + (dec s4000 i4000).2)
    ·exact ih _ hk6 x3 x4 x5 x6 x15 x16 x17 s4000 (i4000 + (dec s4000 i4000).2)
  ·exact hk6 x3 x4 x15 x16 (w6 (x17 + 1))
theorem aej : ∀ (fu : Nat) (x3 : List Str) (x4 : Bool) (x15 : List Str) (x16 x17 : Int), Le (Option.map aI (kI fu x3 x4 x15 x16 x17)) (aqR (List.map bU x3) x4 (List.map bU x15) x16 x17) := by
 intro fu
 induction fu with
 | zero => intros; exact le_none
 | succ fu ih =>
  intro x3 x4 x15 x16 x17
  refine Le.trans ?_ (le_of_eq ((bF aoZ).trans (avX ..)).symm)
  unfold kI
  refine lC ?_ ?_
  ·refine lG (by simp only [EN]) ?_
   (try simp only [EN]); exact aeF fuel _ (ih) x3 x4 x17 (List.getD x15 (Int.toNat x17) default) x15 x16 x17 (List.getD x15 (Int.toNat x17) default) 0
  ·exact aK rfl
theorem abn (p0 : Str) : Le (Option.map aI (p9 p0)) (bA SE 86 [.d (.str p0)] [] []) := by
 refine aX aoZ rfl ?_
 refine Le.trans ?_ (le_of_eq (T86 ..).symm)
 unfold p9
 refine lQ eX bE (ab5 _) fun r0 _ => ?_
 refine lC ?_ ?_
 ·exact aK rfl
 ·refine lQ eX qQ (ahx _) fun r1 _ => ?_
  (try simp only [EN]); exact aej fuel r1 true r1 (List.length r1 : Int) 0
section
variable (Γ : Fun) (γ102 : Gm (Bool)) (Λ2 J : Lam)
def C87 : aP := aZ (aR Γ) 102 aI γ102
theorem T87 (p0 p1 : Str) : bL SE (C87 Γ γ102) Λ2 J 87 [.d (.str p0), .d (.str p1)] [] [] =
 γ102 [.d (.str p0), .d (.str p1)] [] [] fun r0 =>
 (rB r0) := by kernel_rfl
end
abbrev X87 : aP := C87 gG (cT 102 aI)
theorem axz : X87 = aR gG := by unfold X87 C87; rw [bB fun _ h => h]
theorem wL (p0 p1 : Str) : Le (Option.map aI (kY p0 p1)) (bA SE 87 [.d (.str p0), .d (.str p1)] [] []) := by
 refine aX axz rfl ?_
 refine Le.trans ?_ (le_of_eq (T87 ..).symm)
 unfold kY
 refine lQ eX bE (s0 _ _) fun r0 _ => ?_
 exact aK rfl
section
variable (Γ : Fun) (γ98 : Gm (Str × Bool)) (γ99 : Gm (Str × Str × Bool)) (γ65 γ86 γ87 : Gm (Bool)) (Λ2 J : Lam)
def C84 : aP := aZ (aZ (aZ (aZ (aZ (aR Γ) 98 dF γ98) 99 dA γ99) 65 aI γ65) 86 aI γ86) 87 aI γ87
theorem T84 (p0 : Str) : bL SE (C84 Γ γ98 γ99 γ65 γ86 γ87) Λ2 J 84 [.d (.str p0)] [] [] =
 γ98 [.d (.str p0), .d (.str ([36, 115, 104, 97, 114, 101, 47] : Str))] [] [] fun r0 =>
 cond (!r0.2) (
 (some (.ret [.d (.str []), .d (.str []), .d (.bool false)] [] []))) (
 γ99 [.d (.str r0.1), .d (.str ([47] : Str))] [] [] fun r1 =>
 cond (!r1.2.2) (
 (some (.ret [.d (.str []), .d (.str []), .d (.bool false)] [] []))) (
 γ65 [.d (.str r1.1)] [] [] fun r2 =>
 cond (!r2) (
 (some (.ret [.d (.str []), .d (.str []), .d (.bool false)] [] []))) (
 γ86 [.d (.str r1.2.1)] [] [] fun r3 =>
 cond (!r3) (
 (some (.ret [.d (.str []), .d (.str []), .d (.bool false)] [] []))) (
 γ87 [.d (.str r1.2.1), .d (.str ([36, 115, 104, 97, 114, 101, 47] : Str))] [] [] fun r4 =>
 cond r4 (
 (some (.ret [.d (.str []), .d (.str []), .d (.bool false)] [] []))) (
 (some (.ret [.d (.str r1.1), .d (.str r1.2.1), .d (.bool true)] [] []))))))) := by kernel_rfl
end
abbrev X84 : aP := C84 gG (cT 98 dF) (cT 99 dA) (cT 65 aI) (cT 86 aI) (cT 87 aI)
theorem axF : X84 = aR gG := by unfold X84 C84; repeat rw [bB fun _ h => h]
theorem ahJ (p0 : Str) : Le (Option.map dA (sY p0)) (bA SE 84 [.d (.str p0)] [] []) := by
 refine aX axF rfl ?_
 refine Le.trans ?_ (le_of_eq (T84 ..).symm)
 unfold sY
 refine lQ eX sE (adj _ _) fun r0 _ => ?_
 refine lC ?_ ?_
 ·exact aK rfl
 ·refine lQ eX sA (aiu _ _) fun r1 _ => ?_
  refine lC ?_ ?_
  ·exact aK rfl
  ·refine lQ eX bE (uQ _) fun r2 _ => ?_
   refine lC ?_ ?_
   ·exact aK rfl
   ·refine lQ eX bE (abn _) fun r3 _ => ?_
    refine lC ?_ ?_
    ·exact aK rfl
    ·refine lQ eX bE (wL _ _) fun r4 _ => ?_
     refine lC ?_ ?_
     ·exact aK rfl
     ·exact aK rfl
section
variable (Γ : Fun) (γ86 γ87 : Gm (Bool)) (Λ2 J : Lam)
def C85 : aP := aZ (aZ (aR Γ) 86 aI γ86) 87 aI γ87
theorem T85 (p0 : aG) : bL SE (C85 Γ γ86 γ87) Λ2 J 85 [.ptr 2000000000 0] [⟨73, (aG.avs p0)⟩] [] =
 γ86 [.d (.str p0.Filter)] [] [] fun r0 =>
 cond r0 (
 γ87 [.d (.str p0.Filter), .d (.str ([36, 115, 104, 97, 114, 101, 47] : Str))] [] [] fun r1 =>
 (some (.ret [.d (.bool (!r1))] [⟨73, (aG.avs p0)⟩] []))) (
 (some (.ret [.d (.bool false)] [⟨73, (aG.avs p0)⟩] []))) := by kernel_rfl
end
abbrev X85 : aP := C85 gG (cT 86 aI) (cT 87 aI)
theorem axe : X85 = aR gG := by unfold X85 C85; repeat rw [bB fun _ h => h]
theorem acx (p0 : aG) : Le (Option.map iA (pJ p0)) (bA SE 85 [.ptr 2000000000 0] [⟨73, (aG.avs p0)⟩] []) := by
 refine aX axe rfl ?_
 refine Le.trans ?_ (le_of_eq (T85 ..).symm)
 unfold pJ
 refine lQ eX bE (abn _) fun r0 _ => ?_
 refine lC ?_ ?_
 ·refine lQ eX bE (wL _ _) fun r1 _ => ?_
  exact aK rfl
 ·exact aK rfl
section
variable (Γ : Fun) (γ84 : Gm (Str × Str × Bool)) (γ85 : Gm (Bool × aG)) (Λ2 J : Lam)
def C67 : aP := aZ (aZ (aR Γ) 84 dA γ84) 85 iA γ85
theorem T67 (p0 : aG) : bL SE (C67 Γ γ84 γ85) Λ2 J 67 [aG.av p0] [] [] =
 γ84 [.d (.str p0.Filter)] [] [] fun r0 =>
 cond (!r0.2.2) (
 γ85 [.ptr 2000000000 0] [⟨73, (aG.avs p0)⟩] [] fun r1 =>
 cond (!r1.1) (
  (rI 13)) (
 cond (decide (r1.2.Level < 0)) (
  (rI 14)) (
 cond (decide (r1.2.Level > 2)) (
  (rI 14)) (
 cond r1.2.NoLocal (
  cond r0.2.2 (
  (rI 28)) (
  (rI 0))) (
 (rI 0)))))) (
 cond (decide (p0.Level < 0)) (
 (rI 14)) (
 cond (decide (p0.Level > 2)) (
 (rI 14)) (
 cond p0.NoLocal (
 cond r0.2.2 (
  (rI 28)) (
 (rI 0))) (
 (rI 0))))) := by kernel_rfl
end
abbrev X67 : aP := C67 gG (cT 84 dA) (cT 85 iA)
theorem axw : X67 = aR gG := by unfold X67 C67; repeat rw [bB fun _ h => h]
theorem adG (p0 : aG) : Le (Option.map aJ (oH p0)) (bA SE 67 [aG.av p0] [] []) := by
 refine aX axw rfl ?_
 refine Le.trans ?_ (le_of_eq (T67 ..).symm)
 unfold oH
 refine lQ eX sA (ahJ _) fun r0 _ => ?_
 refine lC ?_ ?_
 ·refine lQ eX abZ (acx _) fun r1 _ => ?_
  refine lC ?_ ?_
  ·exact aK rfl
  ·refine lC ?_ ?_
   ·exact aK rfl
   ·refine lC ?_ ?_
    ·exact aK rfl
    ·refine lC ?_ ?_
     ·refine lC ?_ ?_
      ·exact aK rfl
      ·exact aK rfl
     ·exact aK rfl
 ·refine lC ?_ ?_
  ·exact aK rfl
  ·refine lC ?_ ?_
   ·exact aK rfl
   ·refine lC ?_ ?_
    ·refine lC ?_ ?_
     ·exact aK rfl
     ·exact aK rfl
    ·exact aK rfl
def akX (C : aP) (Λ2 J : Lam) (a0 : List (List D)) (a1 a2 : Int) : Res := lab SE C Λ2 J 44 0 [1, 1, 1, 1, 0, 1, 0] (bC [(46, .d (.sl aA.ks a0)), (47, .d (.int .i64 a1)), (48, .d (.int .i64 a2))] [] [] [] [])
def ajY (C : aP) (Λ2 J : Lam) (a0 : List (List D)) (a1 a2 : Int) (a3 : List D) : Res := lab SE C Λ2 J 44 0 [1, 1, 0, 1, 0] (bC [(1, .ptr 1000000000 0), (14, .d (.sl aG.ks a0)), (15, .d (.int .i64 a1)), (16, .d (.int .i64 a2))] [⟨42, (List.map AV.d a3)⟩] [] [] [])
section
variable (Γ : Fun) (γ67 γ68 : Gm (Int)) (Λ2 J : Lam)
def C44 : aP := aZ (aZ (aR Γ) 67 aJ γ67) 68 aJ γ68
theorem T44 (p0 : aC) : bL SE (C44 Γ γ67 γ68) Λ2 J 44 [aC.av p0] [] [] =
 cond (decide ((lM aG.enc p0.Subs : Int) > 32)) (
 (rI 5)) (
 ajY (C44 Γ γ67 γ68) Λ2 J (List.map aG.enc p0.Subs) (lM aG.enc p0.Subs : Int) 0 (aC.enc p0)) := by kernel_rfl
theorem atJ (x46 : List aA) (x47 x48 : Int) : cY SE (C44 Γ γ67 γ68) Λ2 J 44 0 [1, 1, 1, 1, 0, 1, 0] (bC [(46, .d (.sl aA.ks (List.map aA.enc x46))), (47, .d (.int .i64 x47)), (48, .d (.int .i64 x48))] [] [] [] []) =
 cond (decide (x48 < x47)) (
 cond (iB x48 (lM aA.enc x46 : Int)) (
  γ68 [.agg [.d (.str (bI (cE aA.enc x46 x48 0))), .d (.str (bI (cE aA.enc x46 x48 1))), .d (.int .i64 (aS (cE aA.enc x46 x48 2))), .d (.bool (bZ (cE aA.enc x46 x48 3))), .d (.int .i64 (aS (cE aA.enc x46 x48 4))), .d (.int .i64 (aS (cE aA.enc x46 x48 5))), .d (.str (bI (cE aA.enc x46 x48 6))), .d (.int .i64 (aS (cE aA.enc x46 x48 7))), .d (.sl aD.ks (dSl (cE aA.enc x46 x48 8)))]] [] [] fun r1 =>
  cond (r1 != 0) (
  (rI r1)) (
  akX (C44 Γ γ67 γ68) Λ2 J (List.map aA.enc x46) x47 (w6 (x48 + 1)))) none) (
 (rI 0)) := by kernel_rfl
theorem av7 (x14 : List aG) (x15 x16 : Int) (b0 : aC) : cY SE (C44 Γ γ67 γ68) Λ2 J 44 0 [1, 1, 0, 1, 0] (bC [(1, .ptr 1000000000 0), (14, .d (.sl aG.ks (List.map aG.enc x14))), (15, .d (.int .i64 x15)), (16, .d (.int .i64 x16))] [⟨42, (List.map AV.d (aC.enc b0))⟩] [] [] []) =
 cond (decide (x16 < x15)) (
 cond (iB x16 (lM aG.enc x14 : Int)) (
  γ67 [.agg [.d (.str (bI (cE aG.enc x14 x16 0))), .d (.int .i64 (aS (cE aG.enc x14 x16 1))), .d (.bool (bZ (cE aG.enc x14 x16 2)))]] [] [] fun r0 =>
  cond (r0 != 0) (
  (rI r0)) (
  cond (decide (x16 > 0)) (
  cond (iB (w6 (x16 - 1)) (lM aG.enc b0.Subs : Int)) (
   cond (Op.bytesLess (bI (cE aG.enc x14 x16 0)) (bI (cE aG.enc b0.Subs (w6 (x16 - 1)) 0)) || (bI (cE aG.enc x14 x16 0)) == (bI (cE aG.enc b0.Subs (w6 (x16 - 1)) 0))) (
   (rI 22)) (
   ajY (C44 Γ γ67 γ68) Λ2 J (List.map aG.enc x14) x15 (w6 (x16 + 1)) (aC.enc b0))) none) (
  ajY (C44 Γ γ67 γ68) Λ2 J (List.map aG.enc x14) x15 (w6 (x16 + 1)) (aC.enc b0)))) none) (
 cond (decide ((lM aA.enc b0.Queue : Int) > 256)) (
 (rI 5)) (
 akX (C44 Γ γ67 γ68) Λ2 J (List.map aA.enc b0.Queue) (lM aA.enc b0.Queue : Int) 0)) := by kernel_rfl
end
abbrev X44 : aP := C44 gG (cT 67 aJ) (cT 68 aJ)
theorem apC : X44 = aR gG := by unfold X44 C44; repeat rw [bB fun _ h => h]
abbrev atd := akX X44 (cU SE gG (SE.hl 44) (SE.hr 44)) (J0 SE X44)
abbrev auG := ajY X44 (cU SE gG (SE.hl 44) (SE.hr 44)) (J0 SE X44)
theorem zV : ∀ (fu : Nat) (x46 : List aA) (x47 x48 : Int), Le (Option.map aJ (eW fu x46 x47 x48)) (atd (List.map aA.enc x46) x47 x48) := by
 intro fu
 induction fu with
 | zero => intros; exact le_none
 | succ fu ih =>
  intro x46 x47 x48
  refine Le.trans ?_ (le_of_eq ((bF apC).trans (atJ ..)).symm)
  unfold eW
  refine lC ?_ ?_
  ·refine lG (by simp only [EN]) ?_
   refine lQ eX bK (by (try simp only [EN]); exact oU (List.getD x46 (Int.toNat x48) default)) fun r1 _ => ?_
   refine lC ?_ ?_
   ·exact aK rfl
   ·exact ih x46 x47 (w6 (x48 + 1))
  ·exact aK rfl
theorem aa7 : ∀ (fu : Nat) (x14 : List aG) (x15 x16 : Int) (b0 : aC), Le (Option.map aJ (fK fu x14 x15 x16 b0)) (auG (List.map aG.enc x14) x15 x16 (aC.enc b0)) := by
 intro fu
 induction fu with
 | zero => intros; exact le_none
 | succ fu ih =>
  intro x14 x15 x16 b0
  refine Le.trans ?_ (le_of_eq ((bF apC).trans (av7 ..)).symm)
  unfold fK
  refine lC ?_ ?_
  ·refine lG (by simp only [EN]) ?_
   refine lQ eX bK (by (try simp only [EN]); exact adG (List.getD x14 (Int.toNat x16) default)) fun r0 _ => ?_
   refine lC ?_ ?_
   ·exact aK rfl
   ·refine lC ?_ ?_
    ·refine lG (by simp only [EN]) ?_
     refine lD (by simp only [EN]) ?_ ?_
     ·exact aK rfl
     ·exact ih x14 x15 (w6 (x16 + 1)) b0
    ·exact ih x14 x15 (w6 (x16 + 1)) b0
  ·refine lD (by simp only [EN]) ?_ ?_
   ·exact aK rfl
   ·(try simp only [EN]); exact zV fuel b0.Queue (List.length b0.Queue : Int) 0
theorem acz (p0 : aC) : Le (Option.map aJ (mI p0)) (bA SE 44 [aC.av p0] [] []) := by
 refine aX apC rfl ?_
 refine Le.trans ?_ (le_of_eq (T44 ..).symm)
 unfold mI
 refine lD (by simp only [EN]) ?_ ?_
 ·exact aK rfl
 ·(try simp only [EN]); exact aa7 fuel p0.Subs (List.length p0.Subs : Int) 0 p0
def amV (C : aP) (Λ2 J : Lam) (a0 : Int) (a1 : List (List D)) (a2 a3 : Int) (a4 : List D) : Res := lab SE C Λ2 J 69 0 [1, 1, 1, 0, 1, 0] (bC [(1, .ptr 1000000000 0), (3, .d (.int .i64 a0)), (11, .d (.sl [.int .i64] a1)), (12, .d (.int .i64 a2)), (13, .d (.int .i64 a3))] [⟨36, (List.map AV.d a4)⟩] [] [] [])
section
variable (Γ : Fun)  (Λ2 J : Lam)
def C69 : aP := aR Γ
theorem T69 (p0 : aQ) : bL SE (C69 Γ) Λ2 J 69 [aQ.av p0] [] [] =
 cond (decide ((lM eI p0.Used : Int) > 32)) (
 (rI 5)) (
 amV (C69 Γ) Λ2 J 0 (List.map eI p0.Used) (lM eI p0.Used : Int) 0 (aQ.enc p0)) := by kernel_rfl
theorem at5 (x3 : Int) (x11 : List Int) (x12 x13 : Int) (b0 : aQ) : cY SE (C69 Γ) Λ2 J 69 0 [1, 1, 1, 0, 1, 0] (bC [(1, .ptr 1000000000 0), (3, .d (.int .i64 x3)), (11, .d (.sl [.int .i64] (List.map eI x11))), (12, .d (.int .i64 x12)), (13, .d (.int .i64 x13))] [⟨36, (List.map AV.d (aQ.enc b0))⟩] [] [] []) =
 cond (decide (x13 < x12)) (
 cond (iB x13 (lM eI x11 : Int)) (
  cond (decide ((aS (cE eI x11 x13 0)) ≤ x3)) (
  (rI 15)) (
  cond (decide ((aS (cE eI x11 x13 0)) > 65535)) (
  (rI 15)) (
  amV (C69 Γ) Λ2 J ((aS (cE eI x11 x13 0))) (List.map eI x11) x12 (w6 (x13 + 1)) (aQ.enc b0)))) none) (
 cond (decide (b0.Last < 0)) (
 (rI 1)) (
 cond (decide (b0.Last > 65535)) (
 (rI 1)) (
 (rI 0)))) := by kernel_rfl
end
abbrev X69 : aP := C69 gG
theorem asu : X69 = aR gG := rfl
abbrev auQ := amV X69 (cU SE gG (SE.hl 69) (SE.hr 69)) (J0 SE X69)
theorem aft : ∀ (fu : Nat) (x3 : Int) (x11 : List Int) (x12 x13 : Int) (b0 : aQ), Le (Option.map aJ (mB fu x3 x11 x12 x13 b0)) (auQ x3 (List.map eI x11) x12 x13 (aQ.enc b0)) := by
 intro fu
 induction fu with
 | zero => intros; exact le_none
 | succ fu ih =>
  intro x3 x11 x12 x13 b0
  refine Le.trans ?_ (le_of_eq ((bF asu).trans (at5 ..)).symm)
  unfold mB
  refine lC ?_ ?_
  ·refine lG (by simp only [EN]) ?_
   refine lD (by simp only [EN]) ?_ ?_
   ·exact aK rfl
   ·refine lD (by simp only [EN]) ?_ ?_
    ·exact aK rfl
    ·(try simp only [EN]); exact ih (List.getD x11 (Int.toNat x13) default) x11 x12 (w6 (x13 + 1)) b0
  ·refine lC ?_ ?_
   ·exact aK rfl
   ·refine lC ?_ ?_
    ·exact aK rfl
    ·exact aK rfl
theorem aiJ (p0 : aQ) : Le (Option.map aJ (uK p0)) (bA SE 69 [aQ.av p0] [] []) := by
 refine aX asu rfl ?_
 refine Le.trans ?_ (le_of_eq (T69 ..).symm)
 unfold uK
 refine lD (by simp only [EN]) ?_ ?_
 ·exact aK rfl
 ·(try simp only [EN]); exact aft fuel 0 p0.Used (List.length p0.Used : Int) 0 p0
section
variable (Γ : Fun) (γ96 : Gm (Int × Bool)) (Λ2 J : Lam)
def C90 : aP := aZ (aR Γ) 96 bX γ96
theorem T90 (p0 : aQ) (p1 : Int) : bL SE (C90 Γ γ96) Λ2 J 90 [aQ.av p0, .d (.int .i64 p1)] [] [] =
 γ96 [.d (.sl [.int .i64] (List.map eI p0.Used)), .d (.int .i64 p1)] [] [] fun r0 =>
 (rB r0.2) := by kernel_rfl
end
abbrev X90 : aP := C90 gG (cT 96 bX)
theorem aw4 : X90 = aR gG := by unfold X90 C90; rw [bB fun _ h => h]
theorem ak0 (p0 : aQ) (p1 : Int) : Le (Option.map aI (yZ p0 p1)) (bA SE 90 [aQ.av p0, .d (.int .i64 p1)] [] []) := by
 refine aX aw4 rfl ?_
 refine Le.trans ?_ (le_of_eq (T90 ..).symm)
 unfold yZ
 refine lQ eX jH (jT _ _) fun r0 _ => ?_
 exact aK rfl
section
variable (Γ : Fun)  (Λ2 J : Lam)
def C92 : aP := aR Γ
theorem T92 (p0 : aB) (p1 : Int) : bL SE (C92 Γ) Λ2 J 92 [aB.av p0, .ptr 2000000000 0] [⟨3, [.d (.int .i64 p1)]⟩] [] =
 (some (.ret [.d (.bool (p0.ID == p1))] [⟨3, [.d (.int .i64 p1)]⟩] [])) := by kernel_rfl
end
abbrev X92 : aP := C92 gG
theorem axt : X92 = aR gG := rfl
theorem ad0 (p0 : aB) (p1 : Int) : Le (Option.map jP (sB p0 p1)) (bA SE 92 [aB.av p0, .ptr 2000000000 0] [⟨3, [.d (.int .i64 p1)]⟩] []) := by
 refine aX axt rfl ?_
 refine Le.trans ?_ (le_of_eq (T92 ..).symm)
 unfold sB
 exact aK rfl
def amO (C : aP) (Λ2 J : Lam) (a0 : List (List D)) (a1 a2 a3 : Int) : Res := lab SE C Λ2 J 91 1 [1, 0, 1, 0] (bC [(0, .d (.sl aB.ks a0)), (1, .fn 92 [] [.ptr 2000000000 0]), (7, .d (.int .i64 a1)), (8, .d (.int .i64 a2))] [] [⟨3, [.d (.int .i64 a3)]⟩] [] [])
section
variable (Γ : Fun) (γ92 : Gm (Bool × Int)) (Λ2 J : Lam)
def C91 : aP := aZ (aR Γ) 92 jP γ92
theorem T91 (p0 : List aB) (p1_0 : Int) : bL SE (C91 Γ γ92) Λ2 J 91 [.d (.sl aB.ks (List.map aB.enc p0)), .fn 92 [] [.ptr 2000000000 0]] [⟨3, [.d (.int .i64 p1_0)]⟩] [] =
 amO (C91 Γ γ92) Λ2 J (List.map aB.enc p0) (lM aB.enc p0 : Int) 0 p1_0 := by kernel_rfl
theorem auA (x0 : List aB) (x7 x8 q0_0 : Int) : cY SE (C91 Γ γ92) Λ2 J 91 1 [1, 0, 1, 0] (bC [(0, .d (.sl aB.ks (List.map aB.enc x0))), (1, .fn 92 [] [.ptr 2000000000 0]), (7, .d (.int .i64 x7)), (8, .d (.int .i64 x8))] [] [⟨3, [.d (.int .i64 q0_0)]⟩] [] []) =
 cond (decide (x8 < x7)) (
 cond (iB x8 (lM aB.enc x0 : Int)) (
  γ92 [.agg [.d (.int .i64 (aS (cE aB.enc x0 x8 0))), .d (.int .i64 (aS (cE aB.enc x0 x8 1))), .d (.str (bI (cE aB.enc x0 x8 2))), .d (.str (bI (cE aB.enc x0 x8 3))), .d (.int .i64 (aS (cE aB.enc x0 x8 4))), .d (.bool (bZ (cE aB.enc x0 x8 5))), .d (.int .i64 (aS (cE aB.enc x0 x8 6))), .d (.int .i64 (aS (cE aB.enc x0 x8 7))), .d (.str (bI (cE aB.enc x0 x8 8))), .d (.int .i64 (aS (cE aB.enc x0 x8 9))), .d (.sl aD.ks (dSl (cE aB.enc x0 x8 10)))], .ptr 2000000000 0] [⟨3, [.d (.int .i64 q0_0)]⟩] [] fun r0 =>
  cond r0.1 (
  (some (.ret [.d (.int .i64 x8)] [⟨3, [.d (.int .i64 r0.2)]⟩] []))) (
  amO (C91 Γ γ92) Λ2 J (List.map aB.enc x0) x7 (w6 (x8 + 1)) r0.2)) none) (
 (some (.ret [.d (.int .i64 (-1))] [⟨3, [.d (.int .i64 q0_0)]⟩] []))) := by kernel_rfl
end
abbrev X91 : aP := C91 gG (cT 92 jP)
theorem asJ : X91 = aR gG := by unfold X91 C91; rw [bB fun _ h => h]
abbrev avA := amO X91 (cU SE gG (SE.hl 91) (SE.hr 91)) (J0 SE X91)
theorem oW : ∀ (fu : Nat) (x0 : List aB) (x7 x8 q0_0 : Int), Le (Option.map cH (cK fu x0 x7 x8 q0_0)) (avA (List.map aB.enc x0) x7 x8 q0_0) := by
 intro fu
 induction fu with
 | zero => intros; exact le_none
 | succ fu ih =>
  intro x0 x7 x8 q0_0
  refine Le.trans ?_ (le_of_eq ((bF asJ).trans (auA ..)).symm)
  unfold cK
  refine lC ?_ ?_
  ·refine lG (by simp only [EN]) ?_
   refine lQ eX adC (by (try simp only [EN]); exact ad0 (List.getD x0 (Int.toNat x8) default) q0_0) fun r0 _ => ?_
   refine lC ?_ ?_
   ·exact aK rfl
   ·exact ih x0 x7 (w6 (x8 + 1)) r0.2
  ·exact aK rfl
theorem pO (p0 : List aB) (p1_0 : Int) : Le (Option.map cH (eR p0 p1_0)) (bA SE 91 [.d (.sl aB.ks (List.map aB.enc p0)), .fn 92 [] [.ptr 2000000000 0]] [⟨3, [.d (.int .i64 p1_0)]⟩] []) := by
 refine aX asJ rfl ?_
 refine Le.trans ?_ (le_of_eq (T91 ..).symm)
 unfold eR
 (try simp only [EN]); exact oW fuel p0 (List.length p0 : Int) 0 p1_0
section
variable (Γ : Fun) (γ91 : Gm (Int × Int)) (Λ2 J : Lam)
def C72 : aP := aZ (aR Γ) 91 cH γ91
theorem T72 (p0 : List aB) (p1 : Int) : bL SE (C72 Γ γ91) Λ2 J 72 [.d (.sl aB.ks (List.map aB.enc p0)), .d (.int .i64 p1)] [] [] =
 γ91 [.d (.sl aB.ks (List.map aB.enc p0)), .fn 92 [] [.ptr 2000000000 0]] [⟨3, [.d (.int .i64 p1)]⟩] [] fun r0 =>
 (rI r0.1) := by kernel_rfl
end
abbrev X72 : aP := C72 gG (cT 91 cH)
theorem awD : X72 = aR gG := by unfold X72 C72; rw [bB fun _ h => h]
theorem aa4 (p0 : List aB) (p1 : Int) : Le (Option.map aJ (o6 p0 p1)) (bA SE 72 [.d (.sl aB.ks (List.map aB.enc p0)), .d (.int .i64 p1)] [] []) := by
 refine aX awD rfl ?_
 refine Le.trans ?_ (le_of_eq (T72 ..).symm)
 unfold o6
 refine lQ eX pC (pO _ _) fun r0 _ => ?_
 exact aK rfl
def aqX (C : aP) (Λ2 J : Lam) (a0 : List D) : Res := lab SE C Λ2 J 70 0 [1, 1, 1, 0, 0] (bC [(5, .ptr 1000000000 0)] [⟨79, (List.map AV.d a0)⟩] [] [] [])
section
variable (Γ : Fun) (γ90 : Gm (Bool)) (γ72 γ68 : Gm (Int)) (Λ2 J : Lam)
def C70 : aP := aZ (aZ (aZ (aR Γ) 90 aI γ90) 72 aJ γ72) 68 aJ γ68
theorem T70 (p0 : aH) (p1 : Int) : bL SE (C70 Γ γ90 γ72 γ68) Λ2 J 70 [aH.av p0, .d (.int .i64 p1)] [] [] =
 cond (iB p1 (lM aB.enc p0.Items : Int)) (
 γ90 [aQ.av p0.Pool, .d (.int .i64 (aS (cE aB.enc p0.Items p1 0)))] [] [] fun r0 =>
 cond (!r0) (
  (rI 15)) (
 cond (decide (0 ≤ p1) && decide (p1 ≤ ((lM aB.enc p0.Items) : Int))) (
  γ72 [.d (.sl aB.ks (eF (List.map aB.enc p0.Items) none (some p1))), .d (.int .i64 (aS (cE aB.enc p0.Items p1 0)))] [] [] fun r1 =>
  cond (decide (r1 ≥ 0)) (
  (rI 15)) (
  aqX (C70 Γ γ90 γ72 γ68) Λ2 J [D.int .i64 (aS (cE aB.enc p0.Items p1 0)), D.int .i64 (aS (cE aB.enc p0.Items p1 1)), D.str (bI (cE aB.enc p0.Items p1 2)), D.str (bI (cE aB.enc p0.Items p1 3)), D.int .i64 (aS (cE aB.enc p0.Items p1 4)), D.bool (bZ (cE aB.enc p0.Items p1 5)), D.int .i64 (aS (cE aB.enc p0.Items p1 6)), D.int .i64 (aS (cE aB.enc p0.Items p1 7)), D.str (bI (cE aB.enc p0.Items p1 8)), D.int .i64 (aS (cE aB.enc p0.Items p1 9)), D.sl aD.ks (dSl (cE aB.enc p0.Items p1 10))])) none)) none := by kernel_rfl
theorem auy (b0 : aB) : cY SE (C70 Γ γ90 γ72 γ68) Λ2 J 70 0 [1, 1, 1, 0, 0] (bC [(5, .ptr 1000000000 0)] [⟨79, (List.map AV.d (aB.enc b0))⟩] [] [] []) =
 γ68 [aA.av b0.Message] [] [] fun r2 =>
 cond (r2 != 0) (
 (rI r2)) (
 cond (b0.Message.Level == 0) (
 (rI 14)) (
 cond (b0.State != 1) (
 cond (b0.State != 2) (
  (rI 9)) (
 cond (b0.Message.Level == 1) (
  (rI 9)) (
 (rI 0)))) (
 (rI 0)))) := by kernel_rfl
end
abbrev X70 : aP := C70 gG (cT 90 aI) (cT 72 aJ) (cT 68 aJ)
theorem as5 : X70 = aR gG := by unfold X70 C70; repeat rw [bB fun _ h => h]
abbrev auf := aqX X70 (cU SE gG (SE.hl 70) (SE.hr 70)) (J0 SE X70)
theorem aa1 (b0 : aB) : Le (Option.map aJ (mY b0)) (auf (aB.enc b0)) := by
 refine Le.trans ?_ (le_of_eq ((bF as5).trans (auy ..)).symm)
 unfold mY
 refine lQ eX bK (oU _) fun r2 _ => ?_
 refine lC ?_ ?_
 ·exact aK rfl
 ·refine lC ?_ ?_
  ·exact aK rfl
  ·refine lC ?_ ?_
   ·refine lC ?_ ?_
    ·exact aK rfl
    ·refine lC ?_ ?_
     ·exact aK rfl
     ·exact aK rfl
   ·exact aK rfl
theorem acq (p0 : aH) (p1 : Int) : Le (Option.map aJ (mN p0 p1)) (bA SE 70 [aH.av p0, .d (.int .i64 p1)] [] []) := by
 refine aX as5 rfl ?_
 refine Le.trans ?_ (le_of_eq (T70 ..).symm)
 unfold mN
 refine lG (by simp only [EN]) ?_
 refine lQ eX bE (by (try simp only [EN]); exact ak0 p0.Pool ((List.getD p0.Items (Int.toNat p1) default).ID)) fun r0 _ => ?_
 refine lC ?_ ?_
 ·exact aK rfl
 ·refine lG (by simp only [EN]) ?_
  refine lQ eX bK (by (try simp only [EN]); exact aa4 (eF p0.Items none (some p1)) ((List.getD p0.Items (Int.toNat p1) default).ID)) fun r1 _ => ?_
  refine lC ?_ ?_
  ·exact aK rfl
  ·(try simp only [EN]); exact aa1 (List.getD p0.Items (Int.toNat p1) default)
def am5 (C : aP) (Λ2 J : Lam) (a0 a1 : Int) (a2 : List D) : Res := lab SE C Λ2 J 45 0 [1, 1, 1, 1, 0, 1, 0] (bC [(1, .ptr 1000000000 0), (26, .d (.int .i64 a0)), (27, .d (.int .i64 a1))] [⟨38, (List.map AV.d a2)⟩] [] [] [])
def aqH (C : aP) (Λ2 J : Lam) (a0 : List D) : Res := lab SE C Λ2 J 45 0 [1, 1, 0, 0] (bC [(1, .ptr 1000000000 0)] [⟨38, (List.map AV.d a0)⟩] [] [] [])
section
variable (Γ : Fun) (γ69 γ70 : Gm (Int)) (Λ2 J : Lam)
def C45 : aP := aZ (aZ (aR Γ) 69 aJ γ69) 70 aJ γ70
theorem T45 (p0 : aH) : bL SE (C45 Γ γ69 γ70) Λ2 J 45 [aH.av p0] [] [] =
 cond (decide (p0.Limit < 0)) (
 (rI 1)) (
 cond (decide (p0.Limit > 32)) (
 (rI 1)) (
 aqH (C45 Γ γ69 γ70) Λ2 J (aH.enc p0))) := by kernel_rfl
theorem auS (x26 x27 : Int) (b0 : aH) : cY SE (C45 Γ γ69 γ70) Λ2 J 45 0 [1, 1, 1, 1, 0, 1, 0] (bC [(1, .ptr 1000000000 0), (26, .d (.int .i64 x26)), (27, .d (.int .i64 x27))] [⟨38, (List.map AV.d (aH.enc b0))⟩] [] [] []) =
 cond (decide (x27 < x26)) (
 γ70 [aH.av b0, .d (.int .i64 x27)] [] [] fun r1 =>
 cond (r1 != 0) (
  (rI r1)) (
 am5 (C45 Γ γ69 γ70) Λ2 J x26 (w6 (x27 + 1)) (aH.enc b0))) (
 cond (decide ((lM aB.enc b0.Items : Int) < (lM eI b0.Pool.Used : Int))) (
 (rI 15)) (
 (rI 0))) := by kernel_rfl
theorem aue (b0 : aH) : cY SE (C45 Γ γ69 γ70) Λ2 J 45 0 [1, 1, 0, 0] (bC [(1, .ptr 1000000000 0)] [⟨38, (List.map AV.d (aH.enc b0))⟩] [] [] []) =
 γ69 [aQ.av b0.Pool] [] [] fun r0 =>
 cond (r0 != 0) (
 (rI r0)) (
 cond (decide ((lM aB.enc b0.Items : Int) > 32)) (
 (rI 5)) (
 am5 (C45 Γ γ69 γ70) Λ2 J (lM aB.enc b0.Items : Int) 0 (aH.enc b0))) := by kernel_rfl
end
abbrev X45 : aP := C45 gG (cT 69 aJ) (cT 70 aJ)
theorem aqx : X45 = aR gG := by unfold X45 C45; repeat rw [bB fun _ h => h]
abbrev avK := am5 X45 (cU SE gG (SE.hl 45) (SE.hr 45)) (J0 SE X45)
abbrev auM := aqH X45 (cU SE gG (SE.hl 45) (SE.hr 45)) (J0 SE X45)
theorem adk : ∀ (fu : Nat) (x26 x27 : Int) (b0 : aH), Le (Option.map aJ (jM fu x26 x27 b0)) (avK x26 x27 (aH.enc b0)) := by
 intro fu
 induction fu with
 | zero => intros; exact le_none
 | succ fu ih =>
  intro x26 x27 b0
  refine Le.trans ?_ (le_of_eq ((bF aqx).trans (auS ..)).symm)
  unfold jM
  refine lC ?_ ?_
  ·refine lQ eX bK (acq _ _) fun r1 _ => ?_
   refine lC ?_ ?_
   ·exact aK rfl
   ·exact ih x26 (w6 (x27 + 1)) b0
  ·refine lD (by simp only [EN]) ?_ ?_
   ·exact aK rfl
   ·exact aK rfl
theorem acP (b0 : aH) : Le (Option.map aJ (pU b0)) (auM (aH.enc b0)) := by
 refine Le.trans ?_ (le_of_eq ((bF aqx).trans (aue ..)).symm)
 unfold pU
 refine lQ eX bK (aiJ _) fun r0 _ => ?_
 refine lC ?_ ?_
 ·exact aK rfl
 ·refine lD (by simp only [EN]) ?_ ?_
  ·exact aK rfl
  ·(try simp only [EN]); exact adk fuel (List.length b0.Items : Int) 0 b0
theorem afu (p0 : aH) : Le (Option.map aJ (qI p0)) (bA SE 45 [aH.av p0] [] []) := by
 refine aX aqx rfl ?_
 refine Le.trans ?_ (le_of_eq (T45 ..).symm)
 unfold qI
 refine lC ?_ ?_
 ·exact aK rfl
 ·refine lC ?_ ?_
  ·exact aK rfl
  ·exact acP p0
def anC (C : aP) (Λ2 J : Lam) (a0 : Int) (a1 : List (List D)) (a2 a3 : Int) : Res := lab SE C Λ2 J 46 0 [1, 1, 1, 0, 1, 0] (bC [(3, .d (.int .i64 a0)), (11, .d (.sl [.int .i64] a1)), (12, .d (.int .i64 a2)), (13, .d (.int .i64 a3))] [] [] [] [])
section
variable (Γ : Fun)  (Λ2 J : Lam)
def C46 : aP := aR Γ
theorem T46 (p0 : bG) : bL SE (C46 Γ) Λ2 J 46 [bG.av p0] [] [] =
 cond (decide ((lM eI p0.IDs : Int) > 32)) (
 (rI 5)) (
 anC (C46 Γ) Λ2 J 0 (List.map eI p0.IDs) (lM eI p0.IDs : Int) 0) := by kernel_rfl
theorem av1 (x3 : Int) (x11 : List Int) (x12 x13 : Int) : cY SE (C46 Γ) Λ2 J 46 0 [1, 1, 1, 0, 1, 0] (bC [(3, .d (.int .i64 x3)), (11, .d (.sl [.int .i64] (List.map eI x11))), (12, .d (.int .i64 x12)), (13, .d (.int .i64 x13))] [] [] [] []) =
 cond (decide (x13 < x12)) (
 cond (iB x13 (lM eI x11 : Int)) (
  cond (decide ((aS (cE eI x11 x13 0)) ≤ x3)) (
  (rI 15)) (
  cond (decide ((aS (cE eI x11 x13 0)) > 65535)) (
  (rI 15)) (
  anC (C46 Γ) Λ2 J ((aS (cE eI x11 x13 0))) (List.map eI x11) x12 (w6 (x13 + 1))))) none) (
 (rI 0)) := by kernel_rfl
end
abbrev X46 : aP := C46 gG
theorem atM : X46 = aR gG := rfl
abbrev avm := anC X46 (cU SE gG (SE.hl 46) (SE.hr 46)) (J0 SE X46)
theorem adH : ∀ (fu : Nat) (x3 : Int) (x11 : List Int) (x12 x13 : Int), Le (Option.map aJ (j1 fu x3 x11 x12 x13)) (avm x3 (List.map eI x11) x12 x13) := by
 intro fu
 induction fu with
 | zero => intros; exact le_none
 | succ fu ih =>
  intro x3 x11 x12 x13
  refine Le.trans ?_ (le_of_eq ((bF atM).trans (av1 ..)).symm)
  unfold j1
  refine lC ?_ ?_
  ·refine lG (by simp only [EN]) ?_
   refine lD (by simp only [EN]) ?_ ?_
   ·exact aK rfl
   ·refine lD (by simp only [EN]) ?_ ?_
    ·exact aK rfl
    ·(try simp only [EN]); exact ih (List.getD x11 (Int.toNat x13) default) x11 x12 (w6 (x13 + 1))
  ·exact aK rfl
theorem agM (p0 : bG) : Le (Option.map aJ (o7 p0)) (bA SE 46 [bG.av p0] [] []) := by
 refine aX atM rfl ?_
 refine Le.trans ?_ (le_of_eq (T46 ..).symm)
 unfold o7
 refine lD (by simp only [EN]) ?_ ?_
 ·exact aK rfl
 ·(try simp only [EN]); exact adH fuel 0 p0.IDs (List.length p0.IDs : Int) 0
def anq (C : aP) (Λ2 J : Lam) (a0 : List (List D)) (a1 a2 : Int) (a3 : List D) : Res := lab SE C Λ2 J 71 0 [1, 1, 0, 1, 0] (bC [(3, .ptr 1000000000 0), (71, .d (.sl aD.ks a0)), (72, .d (.int .i64 a1)), (73, .d (.int .i64 a2))] [⟨26, (List.map AV.d a3)⟩] [] [] [])
def aqL (C : aP) (Λ2 J : Lam) (a0 a1 : List D) : Res := lab SE C Λ2 J 71 0 [1, 1, 0, 0] (bC [(2, .ptr 1000000000 0), (3, .ptr 1000000001 0)] [⟨26, (List.map AV.d a0)⟩, ⟨26, (List.map AV.d a1)⟩] [] [] [])
section
variable (Γ : Fun)  (Λ2 J : Lam)
def C71 : aP := aR Γ
theorem T71 (p0 p1 : aA) : bL SE (C71 Γ) Λ2 J 71 [aA.av p0, aA.av p1] [] [] =
 cond (!(p0.Topic == p1.Topic)) (
 (rB false)) (
 cond (!(p0.Payload == p1.Payload)) (
 (rB false)) (
 cond (p0.Level != p1.Level) (
 (rB false)) (
 cond (p0.Retain != p1.Retain) (
 (rB false)) (
 cond (p0.Priority != p1.Priority) (
 (rB false)) (
 cond (p0.Expires != p1.Expires) (
 (rB false)) (
 cond (!(p0.From == p1.From)) (
 (rB false)) (
 cond (p0.Seq != p1.Seq) (
 (rB false)) (
 cond ((lM aD.enc p0.Props : Int) != (lM aD.enc p1.Props : Int)) (
 (rB false)) (
 aqL (C71 Γ) Λ2 J (aA.enc p0) (aA.enc p1)))))))))) := by kernel_rfl
theorem avV (x71 : List aD) (x72 x73 : Int) (b0 : aA) : cY SE (C71 Γ) Λ2 J 71 0 [1, 1, 0, 1, 0] (bC [(3, .ptr 1000000000 0), (71, .d (.sl aD.ks (List.map aD.enc x71))), (72, .d (.int .i64 x72)), (73, .d (.int .i64 x73))] [⟨26, (List.map AV.d (aA.enc b0))⟩] [] [] []) =
 cond (decide (x73 < x72)) (
 cond (iB x73 (lM aD.enc x71 : Int)) (
  cond (iB x73 (lM aD.enc b0.Props : Int)) (
  cond (!(((bI (cE aD.enc x71 x73 0)) == (bI (cE aD.enc b0.Props x73 0))) && (((bI (cE aD.enc x71 x73 1)) == (bI (cE aD.enc b0.Props x73 1))) && true))) (
   (rB false)) (
  anq (C71 Γ) Λ2 J (List.map aD.enc x71) x72 (w6 (x73 + 1)) (aA.enc b0))) none) none) (
 (rB true)) := by kernel_rfl
theorem avy (b0 b1 : aA) : cY SE (C71 Γ) Λ2 J 71 0 [1, 1, 0, 0] (bC [(2, .ptr 1000000000 0), (3, .ptr 1000000001 0)] [⟨26, (List.map AV.d (aA.enc b0))⟩, ⟨26, (List.map AV.d (aA.enc b1))⟩] [] [] []) =
 anq (C71 Γ) Λ2 J (List.map aD.enc b0.Props) (lM aD.enc b0.Props : Int) 0 (aA.enc b1) := by kernel_rfl
end
abbrev X71 : aP := C71 gG
theorem aoX : X71 = aR gG := rfl
abbrev au8 := anq X71 (cU SE gG (SE.hl 71) (SE.hr 71)) (J0 SE X71)
abbrev avL := aqL X71 (cU SE gG (SE.hl 71) (SE.hr 71)) (J0 SE X71)
theorem adP : ∀ (fu : Nat) (x71 : List aD) (x72 x73 : Int) (b0 : aA), Le (Option.map aI (kT fu x71 x72 x73 b0)) (au8 (List.map aD.enc x71) x72 x73 (aA.enc b0)) := by
 intro fu
 induction fu with
 | zero => intros; exact le_none
 | succ fu ih =>
  intro x71 x72 x73 b0
  refine Le.trans ?_ (le_of_eq ((bF aoX).trans (avV ..)).symm)
  unfold kT
  refine lC ?_ ?_
  ·refine lG (by simp only [EN]) ?_
   refine lG (by simp only [EN]) ?_
   refine lD (by simp only [EN]) ?_ ?_
   ·exact aK rfl
   ·exact ih x71 x72 (w6 (x73 + 1)) b0
  ·exact aK rfl
theorem aeY (b0 b1 : aA) : Le (Option.map aI (sG b0 b1)) (avL (aA.enc b0) (aA.enc b1)) := by
 refine Le.trans ?_ (le_of_eq ((bF aoX).trans (avy ..)).symm)
 unfold sG
 (try simp only [EN]); exact adP fuel b0.Props (List.length b0.Props : Int) 0 b1
theorem ahM (p0 p1 : aA) : Le (Option.map aI (tB p0 p1)) (bA SE 71 [aA.av p0, aA.av p1] [] []) := by
 refine aX aoX rfl ?_
 refine Le.trans ?_ (le_of_eq (T71 ..).symm)
 unfold tB
 refine lC ?_ ?_
 ·exact aK rfl
 ·refine lC ?_ ?_
  ·exact aK rfl
  ·refine lC ?_ ?_
   ·exact aK rfl
   ·refine lC ?_ ?_
    ·exact aK rfl
    ·refine lC ?_ ?_
     ·exact aK rfl
     ·refine lC ?_ ?_
      ·exact aK rfl
      ·refine lC ?_ ?_
       ·exact aK rfl
       ·refine lC ?_ ?_
        ·exact aK rfl
        ·refine lD (by simp only [EN]) ?_ ?_
         ·exact aK rfl
         ·exact aeY p0 p1
section
variable (Γ : Fun) (γ71 : Gm (Bool)) (γ68 : Gm (Int)) (Λ2 J : Lam)
def C47 : aP := aZ (aZ (aR Γ) 71 aI γ71) 68 aJ γ68
theorem T47 (p0 : aV) : bL SE (C47 Γ γ71 γ68) Λ2 J 47 [aV.av p0] [] [] =
 cond (!p0.Set) (
 cond (p0.Delay != 0) (
  (rI 28)) (
 γ71 [aA.av p0.Message, .agg [.d (.str []), .d (.str []), .d (.int .i64 0), .d (.bool false), .d (.int .i64 0), .d (.int .i64 0), .d (.str []), .d (.int .i64 0), .d (.sl aD.ks (List.map aD.enc []))]] [] [] fun r0 =>
 cond (!r0) (
  (rI 28)) (
 (rI 0)))) (
 cond (decide (p0.Delay < 0)) (
 (rI 1)) (
 cond (decide (p0.Delay > 1099511627776)) (
 (rI 1)) (
 γ68 [aA.av p0.Message] [] [] fun r1 =>
 (rI r1)))) := by kernel_rfl
end
abbrev X47 : aP := C47 gG (cT 71 aI) (cT 68 aJ)
theorem awF : X47 = aR gG := by unfold X47 C47; repeat rw [bB fun _ h => h]
theorem ajr (p0 : aV) : Le (Option.map aJ (wZ p0)) (bA SE 47 [aV.av p0] [] []) := by
 refine aX awF rfl ?_
 refine Le.trans ?_ (le_of_eq (T47 ..).symm)
 unfold wZ
 refine lC ?_ ?_
 ·refine lC ?_ ?_
  ·exact aK rfl
  ·refine lQ eX bE (by (try simp only [EN]); exact ahM p0.Message ((aA.mk [] [] 0 false 0 0 [] 0 []))) fun r0 _ => ?_
   refine lC ?_ ?_
   ·exact aK rfl
   ·exact aK rfl
 ·refine lC ?_ ?_
  ·exact aK rfl
  ·refine lC ?_ ?_
   ·exact aK rfl
   ·refine lQ eX bK (oU _) fun r1 _ => ?_
    exact aK rfl
section
variable (Γ : Fun) (γ43 γ44 γ45 γ46 γ47 : Gm (Int)) (Λ2 J : Lam)
def C12 : aP := aZ (aZ (aZ (aZ (aZ (aR Γ) 43 aJ γ43) 44 aJ γ44) 45 aJ γ45) 46 aJ γ46) 47 aJ γ47
theorem T12 (p0 : aC) : bL SE (C12 Γ γ43 γ44 γ45 γ46 γ47) Λ2 J 12 [aC.av p0] [] [] =
 γ43 [aC.av p0] [] [] fun r0 =>
 cond (r0 != 0) (
 (rI r0)) (
 γ44 [aC.av p0] [] [] fun r1 =>
 cond (r1 != 0) (
 (rI r1)) (
 γ45 [aH.av p0.Out] [] [] fun r2 =>
 cond (r2 != 0) (
 (rI r2)) (
 γ46 [bG.av p0.In] [] [] fun r3 =>
 cond (r3 != 0) (
 (rI r3)) (
 γ47 [aV.av p0.Will] [] [] fun r4 =>
 (rI r4))))) := by kernel_rfl
end
abbrev X12 : aP := C12 gG (cT 43 aJ) (cT 44 aJ) (cT 45 aJ) (cT 46 aJ) (cT 47 aJ)
theorem axJ : X12 = aR gG := by unfold X12 C12; repeat rw [bB fun _ h => h]
theorem uY (p0 : aC) : Le (Option.map aJ (hJ p0)) (bA SE 12 [aC.av p0] [] []) := by
 refine aX axJ rfl ?_
 refine Le.trans ?_ (le_of_eq (T12 ..).symm)
 unfold hJ
 refine lQ eX bK (ac0 _) fun r0 _ => ?_
 refine lC ?_ ?_
 ·exact aK rfl
 ·refine lQ eX bK (acz _) fun r1 _ => ?_
  refine lC ?_ ?_
  ·exact aK rfl
  ·refine lQ eX bK (afu _) fun r2 _ => ?_
   refine lC ?_ ?_
   ·exact aK rfl
   ·refine lQ eX bK (agM _) fun r3 _ => ?_
    refine lC ?_ ?_
    ·exact aK rfl
    ·refine lQ eX bK (ajr _) fun r4 _ => ?_
     exact aK rfl
section
variable (Γ : Fun)  (Λ2 J : Lam)
def C58 : aP := aR Γ
theorem T58 (p0 : List Int) (p1 : Int) : bL SE (C58 Γ) Λ2 J 58 [.d (.sl [.int .u8] (List.map (encI .u8) p0)), .d (.int .i64 p1)] [] [] =
 cond (decide (0 ≤ (lM (encI .u8) p0 : Int)) && decide ((lM (encI .u8) p0 : Int) ≤ (w6 ((lM (encI .u8) p0 : Int) + p1))) && decide ((w6 ((lM (encI .u8) p0 : Int) + p1)) * 1 ≤ 281474976710656)) (
 (some (.ret [.row 0] [] [⟨[.int .u8], 5, 1, (List.take (List.length (List.replicate (Int.toNat (lM (encI .u8) p0 : Int)) [D.int .u8 0])) (List.map (encI .u8) p0) ++ List.drop (min (lM (encI .u8) p0) (List.length (List.replicate (Int.toNat (lM (encI .u8) p0 : Int)) [D.int .u8 0]))) (List.replicate (Int.toNat (lM (encI .u8) p0 : Int)) [D.int .u8 0]))⟩]))) none := by kernel_rfl
end
abbrev X58 : aP := C58 gG
theorem axs : X58 = aR gG := rfl
theorem adr (p0 : List Int) (p1 : Int) : Le (Option.map aT (tM p0 p1)) (bA SE 58 [.d (.sl [.int .u8] (List.map (encI .u8) p0)), .d (.int .i64 p1)] [] []) := by
 refine aX axs rfl ?_
 refine Le.trans ?_ (le_of_eq (T58 ..).symm)
 unfold tM
 refine lG (by simp only [EN]) ?_
 exact aK (by first | rfl | simp only [EN, aT] <;> rfl)
section
variable (Γ : Fun)  (Λ2 J : Lam)
def C78 : aP := aR Γ
theorem T78 (p0 : Int) : bL SE (C78 Γ) Λ2 J 78 [.d (.int .i64 p0)] [] [] =
 (some (.ret [.d (.int .u64 (eD .xor .u64 (shl .u64 (IntKind.wrap .u64 p0) 1) (IntKind.wrap .u64 (shr .i64 p0 63))))] [] [])) := by kernel_rfl
end
abbrev X78 : aP := C78 gG
theorem axC : X78 = aR gG := rfl
theorem aki (p0 : Int) : Le (Option.map o0 (yX p0)) (bA SE 78 [.d (.int .i64 p0)] [] []) := by
 refine aX axC rfl ?_
 refine Le.trans ?_ (le_of_eq (T78 ..).symm)
 unfold yX
 exact aK rfl
def ann (C : aP) (Λ2 J : Lam) (a0 : Int) (a1 : List (List D)) : Res := lab SE C Λ2 J 57 0 [1, 1, 0, 0] (bC [(0, .row 3000), (5, .d (.int .u64 a0))] [] [] [] [(3000, ⟨[.int .u8], 5, 1, a1⟩)])
section
variable (Γ : Fun) (γ78 : Gm (Int)) (Λ2 J : Lam)
def C57 : aP := aZ (aR Γ) 78 o0 γ78
theorem T57 (p0 : List Int) (p1 : Int) : bL SE (C57 Γ γ78) Λ2 J 57 [.row 2000000000, .d (.int .i64 p1)] [] [⟨[.int .u8], 5, 1, (List.map (encI .u8) p0)⟩] =
 γ78 [.d (.int .i64 p1)] [] [] fun r0 =>
 ann (C57 Γ γ78) Λ2 J r0 (List.map (encI .u8) p0) := by kernel_rfl
theorem auP (x5 : Int) (w3000 : List Int) : cY SE (C57 Γ γ78) Λ2 J 57 0 [1, 1, 0, 0] (bC [(0, .row 3000), (5, .d (.int .u64 x5))] [] [] [] [(3000, ⟨[.int .u8], 5, 1, (List.map (encI .u8) w3000)⟩)]) =
 cond (decide (x5 > 127)) (
 cond (decide ((lM (encI .u8) w3000 + lM (encI .u8) [(eD .or .u8 (IntKind.wrap .u8 (eD .and .u64 x5 127)) 128)]) * 1 ≤ 140737488355328)) (
  ann (C57 Γ γ78) Λ2 J (shr .u64 x5 7) (((List.map (encI .u8) w3000) ++ (List.map (encI .u8) [(eD .or .u8 (IntKind.wrap .u8 (eD .and .u64 x5 127)) 128)])))) none) (
 cond (decide ((lM (encI .u8) w3000 + lM (encI .u8) [(IntKind.wrap .u8 x5)]) * 1 ≤ 140737488355328)) (
 (some (.ret [.row 0] [] [⟨[.int .u8], 5, 1, ((List.map (encI .u8) w3000) ++ (List.map (encI .u8) [(IntKind.wrap .u8 x5)]))⟩]))) none) := by kernel_rfl
end
abbrev X57 : aP := C57 gG (cT 78 o0)
theorem atm : X57 = aR gG := by unfold X57 C57; rw [bB fun _ h => h]
abbrev auh := ann X57 (cU SE gG (SE.hl 57) (SE.hr 57)) (J0 SE X57)
theorem aic : ∀ (fu : Nat) (x5 : Int) (w3000 : List Int), Le (Option.map aT (nV fu x5 w3000)) (auh x5 (List.map (encI .u8) w3000)) := by
 intro fu
 induction fu with
 | zero => intros; exact le_none
 | succ fu ih =>
  intro x5 w3000
  refine Le.trans ?_ (le_of_eq ((bF atm).trans (auP ..)).symm)
  unfold nV
  refine lC ?_ ?_
  ·refine lG (by simp only [EN]) ?_
   (try simp only [EN]); exact ih (shr .u64 x5 7) (w3000 ++ [(eD .or .u8 (IntKind.wrap .u8 (eD .and .u64 x5 127)) 128)])
  ·refine lG (by simp only [EN]) ?_
   exact aK (by first | rfl | simp only [EN, aT] <;> rfl)
theorem afV (p0 : List Int) (p1 : Int) : Le (Option.map aT (xT p0 p1)) (bA SE 57 [.row 2000000000, .d (.int .i64 p1)] [] [⟨[.int .u8], 5, 1, (List.map (encI .u8) p0)⟩]) := by
 refine aX atm rfl ?_
 refine Le.trans ?_ (le_of_eq (T57 ..).symm)
 unfold xT
 refine lQ eX ajw (aki _) fun r0 _ => ?_
 exact aic fuel r0 p0
section
variable (Γ : Fun) (γ58 γ57 : Gm ((List Int))) (Λ2 J : Lam)
def C22 : aP := aZ (aZ (aR Γ) 58 aT γ58) 57 aT γ57
theorem T22 (p0 : List Int) (p1 : Str) : bL SE (C22 Γ γ58 γ57) Λ2 J 22 [.d (.sl [.int .u8] (List.map (encI .u8) p0)), .d (.str p1)] [] [] =
 γ58 [.d (.sl [.int .u8] (List.map (encI .u8) p0)), .d (.int .i64 (w6 (10 + (List.length p1 : Int))))] [] [] fun r0 =>
 γ57 [.row 2000000000, .d (.int .i64 (List.length p1 : Int))] [] [⟨[.int .u8], 5, 1, (List.map (encI .u8) r0)⟩] fun r1 =>
 cond (decide ((lM (encI .u8) r1 + List.length (gO p1)) * 1 ≤ 140737488355328)) (
 (some (.ret [.row 0] [] [⟨[.int .u8], 5, 1, ((List.map (encI .u8) r1) ++ (gO p1))⟩]))) none := by kernel_rfl
end
abbrev X22 : aP := C22 gG (cT 58 aT) (cT 57 aT)
theorem axN : X22 = aR gG := by unfold X22 C22; repeat rw [bB fun _ h => h]
theorem jO (p0 : List Int) (p1 : Str) : Le (Option.map aT (fY p0 p1)) (bA SE 22 [.d (.sl [.int .u8] (List.map (encI .u8) p0)), .d (.str p1)] [] []) := by
 refine aX axN rfl ?_
 refine Le.trans ?_ (le_of_eq (T22 ..).symm)
 unfold fY
 refine lQ eX bH (adr _ _) fun r0 _ => ?_
 refine lQ eX bH (afV _ _) fun r1 _ => ?_
 refine lG (by simp only [EN]) ?_
 exact aK (by first | rfl | simp only [EN, aT] <;> rfl)
section
variable (Γ : Fun) (γ58 γ57 : Gm ((List Int))) (Λ2 J : Lam)
def C23 : aP := aZ (aZ (aR Γ) 58 aT γ58) 57 aT γ57
theorem T23 (p0 : List Int) (p1 : Int) : bL SE (C23 Γ γ58 γ57) Λ2 J 23 [.d (.sl [.int .u8] (List.map (encI .u8) p0)), .d (.int .i64 p1)] [] [] =
 γ58 [.d (.sl [.int .u8] (List.map (encI .u8) p0)), .d (.int .i64 10)] [] [] fun r0 =>
 γ57 [.row 2000000000, .d (.int .i64 p1)] [] [⟨[.int .u8], 5, 1, (List.map (encI .u8) r0)⟩] fun r1 =>
 (some (.ret [.row 0] [] [⟨[.int .u8], 5, 1, (List.map (encI .u8) r1)⟩])) := by kernel_rfl
end
abbrev X23 : aP := C23 gG (cT 58 aT) (cT 57 aT)
theorem axT : X23 = aR gG := by unfold X23 C23; repeat rw [bB fun _ h => h]
theorem cP (p0 : List Int) (p1 : Int) : Le (Option.map aT (cC p0 p1)) (bA SE 23 [.d (.sl [.int .u8] (List.map (encI .u8) p0)), .d (.int .i64 p1)] [] []) := by
 refine aX axT rfl ?_
 refine Le.trans ?_ (le_of_eq (T23 ..).symm)
 unfold cC
 refine lQ eX bH (adr _ _) fun r0 _ => ?_
 refine lQ eX bH (afV _ _) fun r1 _ => ?_
 exact aK rfl
section
variable (Γ : Fun)  (Λ2 J : Lam)
def C31 : aP := aR Γ
theorem T31 (p0 : Bool) : bL SE (C31 Γ) Λ2 J 31 [.d (.bool p0)] [] [] =
 cond p0 (
 (rI 1)) (
 (rI 0)) := by kernel_rfl
end
abbrev X31 : aP := C31 gG
theorem axr : X31 = aR gG := rfl
theorem ab8 (p0 : Bool) : Le (Option.map aJ (rX p0)) (bA SE 31 [.d (.bool p0)] [] []) := by
 refine aX axr rfl ?_
 refine Le.trans ?_ (le_of_eq (T31 ..).symm)
 unfold rX
 refine lC ?_ ?_
 ·exact aK rfl
 ·exact aK rfl
section
variable (Γ : Fun) (γ22 γ23 : Gm ((List Int))) (γ31 : Gm (Int)) (Λ2 J : Lam)
def C25 : aP := aZ (aZ (aZ (aR Γ) 22 aT γ22) 23 aT γ23) 31 aJ γ31
theorem T25 (p0 : List Int) (p1 : aG) : bL SE (C25 Γ γ22 γ23 γ31) Λ2 J 25 [.d (.sl [.int .u8] (List.map (encI .u8) p0)), aG.av p1] [] [] =
 γ22 [.d (.sl [.int .u8] (List.map (encI .u8) p0)), .d (.str p1.Filter)] [] [] fun r0 =>
 γ23 [.d (.sl [.int .u8] (List.map (encI .u8) r0)), .d (.int .i64 p1.Level)] [] [] fun r1 =>
 γ31 [.d (.bool p1.NoLocal)] [] [] fun r2 =>
 γ23 [.d (.sl [.int .u8] (List.map (encI .u8) r1)), .d (.int .i64 r2)] [] [] fun r3 =>
 (some (.ret [.row 0] [] [⟨[.int .u8], 5, 1, (List.map (encI .u8) r3)⟩])) := by kernel_rfl
end
abbrev X25 : aP := C25 gG (cT 22 aT) (cT 23 aT) (cT 31 aJ)
theorem awN : X25 = aR gG := by unfold X25 C25; repeat rw [bB fun _ h => h]
theorem afs (p0 : List Int) (p1 : aG) : Le (Option.map aT (p8 p0 p1)) (bA SE 25 [.d (.sl [.int .u8] (List.map (encI .u8) p0)), aG.av p1] [] []) := by
 refine aX awN rfl ?_
 refine Le.trans ?_ (le_of_eq (T25 ..).symm)
 unfold p8
 refine lQ eX bH (jO _ _) fun r0 _ => ?_
 refine lQ eX bH (cP _ _) fun r1 _ => ?_
 refine lQ eX bK (ab8 _) fun r2 _ => ?_
 refine lQ eX bH (cP _ _) fun r3 _ => ?_
 exact aK rfl
def amk (C : aP) (Λ2 J : Lam) (a0 : List (List D)) (a1 a2 : Int) (a3 : List (List D)) : Res := lab SE C Λ2 J 24 0 [1, 1, 0, 1, 0] (bC [(0, .row 3000), (2, .fn 25 [] []), (13, .d (.sl aG.ks a0)), (14, .d (.int .i64 a1)), (15, .d (.int .i64 a2))] [] [] [] [(3000, ⟨[.int .u8], 5, 1, a3⟩)])
section
variable (Γ : Fun) (γ23 γ25 : Gm ((List Int))) (Λ2 J : Lam)
def C24 : aP := aZ (aZ (aR Γ) 23 aT γ23) 25 aT γ25
theorem T24 (p0 : List Int) (p1 : List aG) : bL SE (C24 Γ γ23 γ25) Λ2 J 24 [.d (.sl [.int .u8] (List.map (encI .u8) p0)), .d (.sl aG.ks (List.map aG.enc p1)), .fn 25 [] []] [] [] =
 γ23 [.d (.sl [.int .u8] (List.map (encI .u8) p0)), .d (.int .i64 (lM aG.enc p1 : Int))] [] [] fun r0 =>
 amk (C24 Γ γ23 γ25) Λ2 J (List.map aG.enc p1) (lM aG.enc p1 : Int) 0 (List.map (encI .u8) r0) := by kernel_rfl
theorem au2 (x13 : List aG) (x14 x15 : Int) (w3000 : List Int) : cY SE (C24 Γ γ23 γ25) Λ2 J 24 0 [1, 1, 0, 1, 0] (bC [(0, .row 3000), (2, .fn 25 [] []), (13, .d (.sl aG.ks (List.map aG.enc x13))), (14, .d (.int .i64 x14)), (15, .d (.int .i64 x15))] [] [] [] [(3000, ⟨[.int .u8], 5, 1, (List.map (encI .u8) w3000)⟩)]) =
 cond (decide (x15 < x14)) (
 cond (iB x15 (lM aG.enc x13 : Int)) (
  γ25 [.d (.sl [.int .u8] (List.map (encI .u8) w3000)), .agg [.d (.str (bI (cE aG.enc x13 x15 0))), .d (.int .i64 (aS (cE aG.enc x13 x15 1))), .d (.bool (bZ (cE aG.enc x13 x15 2)))]] [] [] fun r1 =>
  amk (C24 Γ γ23 γ25) Λ2 J (List.map aG.enc x13) x14 (w6 (x15 + 1)) (List.map (encI .u8) r1)) none) (
 (some (.ret [.row 0] [] [⟨[.int .u8], 5, 1, (List.map (encI .u8) w3000)⟩]))) := by kernel_rfl
end
abbrev X24 : aP := C24 gG (cT 23 aT) (cT 25 aT)
theorem atr : X24 = aR gG := by unfold X24 C24; repeat rw [bB fun _ h => h]
abbrev avd := amk X24 (cU SE gG (SE.hl 24) (SE.hr 24)) (J0 SE X24)
theorem wU : ∀ (fu : Nat) (x13 : List aG) (x14 x15 : Int) (w3000 : List Int), Le (Option.map aT (eK fu x13 x14 x15 w3000)) (avd (List.map aG.enc x13) x14 x15 (List.map (encI .u8) w3000)) := by
 intro fu
 induction fu with
 | zero => intros; exact le_none
 | succ fu ih =>
  intro x13 x14 x15 w3000
  refine Le.trans ?_ (le_of_eq ((bF atr).trans (au2 ..)).symm)
  unfold eK
  refine lC ?_ ?_
  ·refine lG (by simp only [EN]) ?_
   refine lQ eX bH (by (try simp only [EN]); exact afs w3000 (List.getD x13 (Int.toNat x15) default)) fun r1 _ => ?_
   exact ih x13 x14 (w6 (x15 + 1)) r1
  ·exact aK rfl
theorem yU (p0 : List Int) (p1 : List aG) : Le (Option.map aT (gR p0 p1)) (bA SE 24 [.d (.sl [.int .u8] (List.map (encI .u8) p0)), .d (.sl aG.ks (List.map aG.enc p1)), .fn 25 [] []] [] []) := by
 refine aX atr rfl ?_
 refine Le.trans ?_ (le_of_eq (T24 ..).symm)
 unfold gR
 refine lQ eX bH (by (try simp only [EN]); exact cP p0 (List.length p1 : Int)) fun r0 _ => ?_
 (try simp only [EN]); exact wU fuel p1 (List.length p1 : Int) 0 r0
def aqQ (C : aP) (Λ2 J : Lam) (a0 : List (List D)) (a1 a2 a3 : Int) (a4 : Bool) : Res := lab SE C Λ2 J 59 0 [1, 1, 0, 1, 0, 0, 1, 0, 0, 0] (bC [(0, .d (.sl [.bool] a0)), (3, .d (.int .i64 a1)), (4, .d (.int .i64 a2)), (10, .d (.int .i64 a3)), (11, .d (.bool a4))] [] [] [] [])
def ajW (C : aP) (Λ2 J : Lam) (a0 : List (List D)) (a1 a2 : Int) : Res := lab SE C Λ2 J 59 0 [1, 1, 0, 1, 0] (bC [(0, .d (.sl [.bool] a0)), (3, .d (.int .i64 a1)), (4, .d (.int .i64 a2))] [] [] [] [])
section
variable (Γ : Fun)  (Λ2 J : Lam)
def C59 : aP := aR Γ
theorem T59 (p0 : List Bool) : bL SE (C59 Γ) Λ2 J 59 [.d (.sl [.bool] (List.map kR p0))] [] [] =
 ajW (C59 Γ) Λ2 J (List.map kR p0) 0 0 := by kernel_rfl
theorem avp (x0 : List Bool) (x3 x4 x10 : Int) (x11 : Bool) : cY SE (C59 Γ) Λ2 J 59 0 [1, 1, 0, 1, 0, 0, 1, 0, 0, 0] (bC [(0, .d (.sl [.bool] (List.map kR x0))), (3, .d (.int .i64 x3)), (4, .d (.int .i64 x4)), (10, .d (.int .i64 x10)), (11, .d (.bool x11))] [] [] [] []) =
 cond (iB x4 (lM kR x0 : Int)) (
 cond (bZ (cE kR x0 x4 0)) (
  cond (decide (0 ≤ x4)) (
  ajW (C59 Γ) Λ2 J (List.map kR x0) (eD .or .i64 x3 (shl .i64 1 x4)) (w6 (x4 + 1))) none) (
 ajW (C59 Γ) Λ2 J (List.map kR x0) x3 (w6 (x4 + 1)))) none := by kernel_rfl
theorem au3 (x0 : List Bool) (x3 x4 : Int) : cY SE (C59 Γ) Λ2 J 59 0 [1, 1, 0, 1, 0] (bC [(0, .d (.sl [.bool] (List.map kR x0))), (3, .d (.int .i64 x3)), (4, .d (.int .i64 x4))] [] [] [] []) =
 cond (decide (x4 < (lM kR x0 : Int))) (
 cond (decide (x4 < 32)) (
  aqQ (C59 Γ) Λ2 J (List.map kR x0) x3 x4 x4 (decide (x4 < 32))) (
 (rI x3))) (
 (rI x3)) := by kernel_rfl
end
abbrev X59 : aP := C59 gG
theorem aqn : X59 = aR gG := rfl
abbrev au0 := aqQ X59 (cU SE gG (SE.hl 59) (SE.hr 59)) (J0 SE X59)
abbrev aqE := ajW X59 (cU SE gG (SE.hl 59) (SE.hr 59)) (J0 SE X59)
theorem agk (k3 : (List Bool) → Int → Int → Option (Int)) (hk3 : ∀ (x0 : List Bool) (x3 x4 : Int), Le (Option.map aJ (k3 x0 x3 x4)) (aqE (List.map kR x0) x3 x4)) (x0 : List Bool) (x3 x4 x10 : Int) (x11 : Bool) : Le (Option.map aJ (zD k3 x0 x3 x4 x10 x11)) (au0 (List.map kR x0) x3 x4 x10 x11) := by
 refine Le.trans ?_ (le_of_eq ((bF aqn).trans (avp ..)).symm)
 unfold zD
 refine lG (by simp only [EN]) ?_
 refine lD (by simp only [EN]) ?_ ?_
 ·refine lF ?_
  exact hk3 x0 (eD .or .i64 x3 (shl .i64 1 x4)) (w6 (x4 + 1))
 ·exact hk3 x0 x3 (w6 (x4 + 1))
theorem agF : ∀ (fu : Nat) (x0 : List Bool) (x3 x4 : Int), Le (Option.map aJ (uR fu x0 x3 x4)) (aqE (List.map kR x0) x3 x4) := by
 intro fu
 induction fu with
 | zero => intros; exact le_none
 | succ fu ih =>
  intro x0 x3 x4
  refine Le.trans ?_ (le_of_eq ((bF aqn).trans (au3 ..)).symm)
  unfold uR
  refine lD (by simp only [EN]) ?_ ?_
  ·refine lC ?_ ?_
   ·exact agk _ (ih) x0 x3 x4 x4 (decide (x4 < 32))
   ·exact aK rfl
  ·exact aK rfl
theorem ajx (p0 : List Bool) : Le (Option.map aJ (aaf p0)) (bA SE 59 [.d (.sl [.bool] (List.map kR p0))] [] []) := by
 refine aX aqn rfl ?_
 refine Le.trans ?_ (le_of_eq (T59 ..).symm)
 unfold aaf
 exact agF fuel p0 0 0
def ang (C : aP) (Λ2 J : Lam) (a0 : List (List D)) (a1 a2 : Int) (a3 : List (List D)) : Res := lab SE C Λ2 J 27 0 [1, 1, 1, 1, 1, 1, 1, 0, 1, 0] (bC [(5, .row 3005), (45, .d (.sl aD.ks a0)), (46, .d (.int .i64 a1)), (47, .d (.int .i64 a2))] [] [] [] [(3005, ⟨[.int .u8], 5, 1, a3⟩)])
section
variable (Γ : Fun) (γ22 γ23 : Gm ((List Int))) (γ59 : Gm (Int)) (Λ2 J : Lam)
def C27 : aP := aZ (aZ (aZ (aR Γ) 22 aT γ22) 23 aT γ23) 59 aJ γ59
theorem T27 (p0 : List Int) (p1 : aA) : bL SE (C27 Γ γ22 γ23 γ59) Λ2 J 27 [.d (.sl [.int .u8] (List.map (encI .u8) p0)), aA.av p1] [] [] =
 γ22 [.d (.sl [.int .u8] (List.map (encI .u8) p0)), .d (.str p1.Topic)] [] [] fun r0 =>
 γ22 [.d (.sl [.int .u8] (List.map (encI .u8) r0)), .d (.str p1.Payload)] [] [] fun r1 =>
 γ23 [.d (.sl [.int .u8] (List.map (encI .u8) r1)), .d (.int .i64 p1.Level)] [] [] fun r2 =>
 γ59 [.d (.sl [.bool] (List.map kR [p1.Retain]))] [] [] fun r3 =>
 γ23 [.d (.sl [.int .u8] (List.map (encI .u8) r2)), .d (.int .i64 r3)] [] [] fun r4 =>
 γ23 [.d (.sl [.int .u8] (List.map (encI .u8) r4)), .d (.int .i64 p1.Priority)] [] [] fun r5 =>
 γ23 [.d (.sl [.int .u8] (List.map (encI .u8) r5)), .d (.int .i64 p1.Expires)] [] [] fun r6 =>
 γ22 [.d (.sl [.int .u8] (List.map (encI .u8) r6)), .d (.str p1.From)] [] [] fun r7 =>
 γ23 [.d (.sl [.int .u8] (List.map (encI .u8) r7)), .d (.int .i64 p1.Seq)] [] [] fun r8 =>
 γ23 [.d (.sl [.int .u8] (List.map (encI .u8) r8)), .d (.int .i64 (lM aD.enc p1.Props : Int))] [] [] fun r9 =>
 ang (C27 Γ γ22 γ23 γ59) Λ2 J (List.map aD.enc p1.Props) (lM aD.enc p1.Props : Int) 0 (List.map (encI .u8) r9) := by kernel_rfl
theorem auu (x45 : List aD) (x46 x47 : Int) (w3005 : List Int) : cY SE (C27 Γ γ22 γ23 γ59) Λ2 J 27 0 [1, 1, 1, 1, 1, 1, 1, 0, 1, 0] (bC [(5, .row 3005), (45, .d (.sl aD.ks (List.map aD.enc x45))), (46, .d (.int .i64 x46)), (47, .d (.int .i64 x47))] [] [] [] [(3005, ⟨[.int .u8], 5, 1, (List.map (encI .u8) w3005)⟩)]) =
 cond (decide (x47 < x46)) (
 cond (iB x47 (lM aD.enc x45 : Int)) (
  γ22 [.d (.sl [.int .u8] (List.map (encI .u8) w3005)), .d (.str (bI (cE aD.enc x45 x47 0)))] [] [] fun r10 =>
  γ22 [.d (.sl [.int .u8] (List.map (encI .u8) r10)), .d (.str (bI (cE aD.enc x45 x47 1)))] [] [] fun r11 =>
  ang (C27 Γ γ22 γ23 γ59) Λ2 J (List.map aD.enc x45) x46 (w6 (x47 + 1)) (List.map (encI .u8) r11)) none) (
 (some (.ret [.row 0] [] [⟨[.int .u8], 5, 1, (List.map (encI .u8) w3005)⟩]))) := by kernel_rfl
end
abbrev X27 : aP := C27 gG (cT 22 aT) (cT 23 aT) (cT 59 aJ)
theorem ate : X27 = aR gG := by unfold X27 C27; repeat rw [bB fun _ h => h]
abbrev auK := ang X27 (cU SE gG (SE.hl 27) (SE.hr 27)) (J0 SE X27)
theorem afw : ∀ (fu : Nat) (x45 : List aD) (x46 x47 : Int) (w3005 : List Int), Le (Option.map aT (kC fu x45 x46 x47 w3005)) (auK (List.map aD.enc x45) x46 x47 (List.map (encI .u8) w3005)) := by
 intro fu
 induction fu with
 | zero => intros; exact le_none
 | succ fu ih =>
  intro x45 x46 x47 w3005
  refine Le.trans ?_ (le_of_eq ((bF ate).trans (auu ..)).symm)
  unfold kC
  refine lC ?_ ?_
  ·refine lG (by simp only [EN]) ?_
   refine lQ eX bH (by (try simp only [EN]); exact jO w3005 ((List.getD x45 (Int.toNat x47) default).Key)) fun r10 _ => ?_
   refine lQ eX bH (by (try simp only [EN]); exact jO r10 ((List.getD x45 (Int.toNat x47) default).Value)) fun r11 _ => ?_
   exact ih x45 x46 (w6 (x47 + 1)) r11
  ·exact aK rfl
theorem xO (p0 : List Int) (p1 : aA) : Le (Option.map aT (nW p0 p1)) (bA SE 27 [.d (.sl [.int .u8] (List.map (encI .u8) p0)), aA.av p1] [] []) := by
 refine aX ate rfl ?_
 refine Le.trans ?_ (le_of_eq (T27 ..).symm)
 unfold nW
 refine lQ eX bH (jO _ _) fun r0 _ => ?_
 refine lQ eX bH (jO _ _) fun r1 _ => ?_
 refine lQ eX bH (cP _ _) fun r2 _ => ?_
 refine lQ eX bK (ajx _) fun r3 _ => ?_
 refine lQ eX bH (cP _ _) fun r4 _ => ?_
 refine lQ eX bH (cP _ _) fun r5 _ => ?_
 refine lQ eX bH (cP _ _) fun r6 _ => ?_
 refine lQ eX bH (jO _ _) fun r7 _ => ?_
 refine lQ eX bH (cP _ _) fun r8 _ => ?_
 refine lQ eX bH (by (try simp only [EN]); exact cP r8 (List.length p1.Props : Int)) fun r9 _ => ?_
 (try simp only [EN]); exact afw fuel p1.Props (List.length p1.Props : Int) 0 r9
def amI (C : aP) (Λ2 J : Lam) (a0 : List (List D)) (a1 a2 : Int) (a3 : List (List D)) : Res := lab SE C Λ2 J 26 0 [1, 1, 0, 1, 0] (bC [(0, .row 3000), (2, .fn 27 [] []), (13, .d (.sl aA.ks a0)), (14, .d (.int .i64 a1)), (15, .d (.int .i64 a2))] [] [] [] [(3000, ⟨[.int .u8], 5, 1, a3⟩)])
section
variable (Γ : Fun) (γ23 γ27 : Gm ((List Int))) (Λ2 J : Lam)
def C26 : aP := aZ (aZ (aR Γ) 23 aT γ23) 27 aT γ27
theorem T26 (p0 : List Int) (p1 : List aA) : bL SE (C26 Γ γ23 γ27) Λ2 J 26 [.d (.sl [.int .u8] (List.map (encI .u8) p0)), .d (.sl aA.ks (List.map aA.enc p1)), .fn 27 [] []] [] [] =
 γ23 [.d (.sl [.int .u8] (List.map (encI .u8) p0)), .d (.int .i64 (lM aA.enc p1 : Int))] [] [] fun r0 =>
 amI (C26 Γ γ23 γ27) Λ2 J (List.map aA.enc p1) (lM aA.enc p1 : Int) 0 (List.map (encI .u8) r0) := by kernel_rfl
theorem ava (x13 : List aA) (x14 x15 : Int) (w3000 : List Int) : cY SE (C26 Γ γ23 γ27) Λ2 J 26 0 [1, 1, 0, 1, 0] (bC [(0, .row 3000), (2, .fn 27 [] []), (13, .d (.sl aA.ks (List.map aA.enc x13))), (14, .d (.int .i64 x14)), (15, .d (.int .i64 x15))] [] [] [] [(3000, ⟨[.int .u8], 5, 1, (List.map (encI .u8) w3000)⟩)]) =
 cond (decide (x15 < x14)) (
 cond (iB x15 (lM aA.enc x13 : Int)) (
  γ27 [.d (.sl [.int .u8] (List.map (encI .u8) w3000)), .agg [.d (.str (bI (cE aA.enc x13 x15 0))), .d (.str (bI (cE aA.enc x13 x15 1))), .d (.int .i64 (aS (cE aA.enc x13 x15 2))), .d (.bool (bZ (cE aA.enc x13 x15 3))), .d (.int .i64 (aS (cE aA.enc x13 x15 4))), .d (.int .i64 (aS (cE aA.enc x13 x15 5))), .d (.str (bI (cE aA.enc x13 x15 6))), .d (.int .i64 (aS (cE aA.enc x13 x15 7))), .d (.sl aD.ks (dSl (cE aA.enc x13 x15 8)))]] [] [] fun r1 =>
  amI (C26 Γ γ23 γ27) Λ2 J (List.map aA.enc x13) x14 (w6 (x15 + 1)) (List.map (encI .u8) r1)) none) (
 (some (.ret [.row 0] [] [⟨[.int .u8], 5, 1, (List.map (encI .u8) w3000)⟩]))) := by kernel_rfl
end
abbrev X26 : aP := C26 gG (cT 23 aT) (cT 27 aT)
theorem ase : X26 = aR gG := by unfold X26 C26; repeat rw [bB fun _ h => h]
abbrev av3 := amI X26 (cU SE gG (SE.hl 26) (SE.hr 26)) (J0 SE X26)
theorem uA : ∀ (fu : Nat) (x13 : List aA) (x14 x15 : Int) (w3000 : List Int), Le (Option.map aT (dP fu x13 x14 x15 w3000)) (av3 (List.map aA.enc x13) x14 x15 (List.map (encI .u8) w3000)) := by
 intro fu
 induction fu with
 | zero => intros; exact le_none
 | succ fu ih =>
  intro x13 x14 x15 w3000
  refine Le.trans ?_ (le_of_eq ((bF ase).trans (ava ..)).symm)
  unfold dP
  refine lC ?_ ?_
  ·refine lG (by simp only [EN]) ?_
   refine lQ eX bH (by (try simp only [EN]); exact xO w3000 (List.getD x13 (Int.toNat x15) default)) fun r1 _ => ?_
   exact ih x13 x14 (w6 (x15 + 1)) r1
  ·exact aK rfl
theorem vT (p0 : List Int) (p1 : List aA) : Le (Option.map aT (fA p0 p1)) (bA SE 26 [.d (.sl [.int .u8] (List.map (encI .u8) p0)), .d (.sl aA.ks (List.map aA.enc p1)), .fn 27 [] []] [] []) := by
 refine aX ase rfl ?_
 refine Le.trans ?_ (le_of_eq (T26 ..).symm)
 unfold fA
 refine lQ eX bH (by (try simp only [EN]); exact cP p0 (List.length p1 : Int)) fun r0 _ => ?_
 (try simp only [EN]); exact uA fuel p1 (List.length p1 : Int) 0 r0
section
variable (Γ : Fun) (γ23 γ27 : Gm ((List Int))) (Λ2 J : Lam)
def C29 : aP := aZ (aZ (aR Γ) 23 aT γ23) 27 aT γ27
theorem T29 (p0 : List Int) (p1 : aB) : bL SE (C29 Γ γ23 γ27) Λ2 J 29 [.d (.sl [.int .u8] (List.map (encI .u8) p0)), aB.av p1] [] [] =
 γ23 [.d (.sl [.int .u8] (List.map (encI .u8) p0)), .d (.int .i64 p1.ID)] [] [] fun r0 =>
 γ23 [.d (.sl [.int .u8] (List.map (encI .u8) r0)), .d (.int .i64 p1.State)] [] [] fun r1 =>
 γ27 [.d (.sl [.int .u8] (List.map (encI .u8) r1)), aA.av p1.Message] [] [] fun r2 =>
 (some (.ret [.row 0] [] [⟨[.int .u8], 5, 1, (List.map (encI .u8) r2)⟩])) := by kernel_rfl
end
abbrev X29 : aP := C29 gG (cT 23 aT) (cT 27 aT)
theorem awP : X29 = aR gG := by unfold X29 C29; repeat rw [bB fun _ h => h]
theorem acX (p0 : List Int) (p1 : aB) : Le (Option.map aT (nN p0 p1)) (bA SE 29 [.d (.sl [.int .u8] (List.map (encI .u8) p0)), aB.av p1] [] []) := by
 refine aX awP rfl ?_
 refine Le.trans ?_ (le_of_eq (T29 ..).symm)
 unfold nN
 refine lQ eX bH (cP _ _) fun r0 _ => ?_
 refine lQ eX bH (cP _ _) fun r1 _ => ?_
 refine lQ eX bH (xO _ _) fun r2 _ => ?_
 exact aK rfl
def amr (C : aP) (Λ2 J : Lam) (a0 : List (List D)) (a1 a2 : Int) (a3 : List (List D)) : Res := lab SE C Λ2 J 28 0 [1, 1, 0, 1, 0] (bC [(0, .row 3000), (2, .fn 29 [] []), (13, .d (.sl aB.ks a0)), (14, .d (.int .i64 a1)), (15, .d (.int .i64 a2))] [] [] [] [(3000, ⟨[.int .u8], 5, 1, a3⟩)])
section
variable (Γ : Fun) (γ23 γ29 : Gm ((List Int))) (Λ2 J : Lam)
def C28 : aP := aZ (aZ (aR Γ) 23 aT γ23) 29 aT γ29
theorem T28 (p0 : List Int) (p1 : List aB) : bL SE (C28 Γ γ23 γ29) Λ2 J 28 [.d (.sl [.int .u8] (List.map (encI .u8) p0)), .d (.sl aB.ks (List.map aB.enc p1)), .fn 29 [] []] [] [] =
 γ23 [.d (.sl [.int .u8] (List.map (encI .u8) p0)), .d (.int .i64 (lM aB.enc p1 : Int))] [] [] fun r0 =>
 amr (C28 Γ γ23 γ29) Λ2 J (List.map aB.enc p1) (lM aB.enc p1 : Int) 0 (List.map (encI .u8) r0) := by kernel_rfl
theorem avx (x13 : List aB) (x14 x15 : Int) (w3000 : List Int) : cY SE (C28 Γ γ23 γ29) Λ2 J 28 0 [1, 1, 0, 1, 0] (bC [(0, .row 3000), (2, .fn 29 [] []), (13, .d (.sl aB.ks (List.map aB.enc x13))), (14, .d (.int .i64 x14)), (15, .d (.int .i64 x15))] [] [] [] [(3000, ⟨[.int .u8], 5, 1, (List.map (encI .u8) w3000)⟩)]) =
 cond (decide (x15 < x14)) (
 cond (iB x15 (lM aB.enc x13 : Int)) (
  γ29 [.d (.sl [.int .u8] (List.map (encI .u8) w3000)), .agg [.d (.int .i64 (aS (cE aB.enc x13 x15 0))), .d (.int .i64 (aS (cE aB.enc x13 x15 1))), .d (.str (bI (cE aB.enc x13 x15 2))), .d (.str (bI (cE aB.enc x13 x15 3))), .d (.int .i64 (aS (cE aB.enc x13 x15 4))), .d (.bool (bZ (cE aB.enc x13 x15 5))), .d (.int .i64 (aS (cE aB.enc x13 x15 6))), .d (.int .i64 (aS (cE aB.enc x13 x15 7))), .d (.str (bI (cE aB.enc x13 x15 8))), .d (.int .i64 (aS (cE aB.enc x13 x15 9))), .d (.sl aD.ks (dSl (cE aB.enc x13 x15 10)))]] [] [] fun r1 =>
  amr (C28 Γ γ23 γ29) Λ2 J (List.map aB.enc x13) x14 (w6 (x15 + 1)) (List.map (encI .u8) r1)) none) (
 (some (.ret [.row 0] [] [⟨[.int .u8], 5, 1, (List.map (encI .u8) w3000)⟩]))) := by kernel_rfl
end
abbrev X28 : aP := C28 gG (cT 23 aT) (cT 29 aT)
theorem atH : X28 = aR gG := by unfold X28 C28; repeat rw [bB fun _ h => h]
abbrev auI := amr X28 (cU SE gG (SE.hl 28) (SE.hr 28)) (J0 SE X28)
theorem uH : ∀ (fu : Nat) (x13 : List aB) (x14 x15 : Int) (w3000 : List Int), Le (Option.map aT (dU fu x13 x14 x15 w3000)) (auI (List.map aB.enc x13) x14 x15 (List.map (encI .u8) w3000)) := by
 intro fu
 induction fu with
 | zero => intros; exact le_none
 | succ fu ih =>
  intro x13 x14 x15 w3000
  refine Le.trans ?_ (le_of_eq ((bF atH).trans (avx ..)).symm)
  unfold dU
  refine lC ?_ ?_
  ·refine lG (by simp only [EN]) ?_
   refine lQ eX bH (by (try simp only [EN]); exact acX w3000 (List.getD x13 (Int.toNat x15) default)) fun r1 _ => ?_
   exact ih x13 x14 (w6 (x15 + 1)) r1
  ·exact aK rfl
theorem wX (p0 : List Int) (p1 : List aB) : Le (Option.map aT (fM p0 p1)) (bA SE 28 [.d (.sl [.int .u8] (List.map (encI .u8) p0)), .d (.sl aB.ks (List.map aB.enc p1)), .fn 29 [] []] [] []) := by
 refine aX atH rfl ?_
 refine Le.trans ?_ (le_of_eq (T28 ..).symm)
 unfold fM
 refine lQ eX bH (by (try simp only [EN]); exact cP p0 (List.length p1 : Int)) fun r0 _ => ?_
 (try simp only [EN]); exact uH fuel p1 (List.length p1 : Int) 0 r0
def anz (C : aP) (Λ2 J : Lam) (a0 : List (List D)) (a1 a2 : Int) (a3 : List (List D)) : Res := lab SE C Λ2 J 30 0 [1, 1, 0, 1, 0] (bC [(0, .row 3000), (2, .fn 23 [] []), (13, .d (.sl [.int .i64] a0)), (14, .d (.int .i64 a1)), (15, .d (.int .i64 a2))] [] [] [] [(3000, ⟨[.int .u8], 5, 1, a3⟩)])
section
variable (Γ : Fun) (γ23 : Gm ((List Int))) (Λ2 J : Lam)
def C30 : aP := aZ (aR Γ) 23 aT γ23
theorem T30 (p0 p1 : List Int) : bL SE (C30 Γ γ23) Λ2 J 30 [.d (.sl [.int .u8] (List.map (encI .u8) p0)), .d (.sl [.int .i64] (List.map eI p1)), .fn 23 [] []] [] [] =
 γ23 [.d (.sl [.int .u8] (List.map (encI .u8) p0)), .d (.int .i64 (lM eI p1 : Int))] [] [] fun r0 =>
 anz (C30 Γ γ23) Λ2 J (List.map eI p1) (lM eI p1 : Int) 0 (List.map (encI .u8) r0) := by kernel_rfl
theorem auR (x13 : List Int) (x14 x15 : Int) (w3000 : List Int) : cY SE (C30 Γ γ23) Λ2 J 30 0 [1, 1, 0, 1, 0] (bC [(0, .row 3000), (2, .fn 23 [] []), (13, .d (.sl [.int .i64] (List.map eI x13))), (14, .d (.int .i64 x14)), (15, .d (.int .i64 x15))] [] [] [] [(3000, ⟨[.int .u8], 5, 1, (List.map (encI .u8) w3000)⟩)]) =
 cond (decide (x15 < x14)) (
 cond (iB x15 (lM eI x13 : Int)) (
  γ23 [.d (.sl [.int .u8] (List.map (encI .u8) w3000)), .d (.int .i64 (aS (cE eI x13 x15 0)))] [] [] fun r1 =>
  anz (C30 Γ γ23) Λ2 J (List.map eI x13) x14 (w6 (x15 + 1)) (List.map (encI .u8) r1)) none) (
 (some (.ret [.row 0] [] [⟨[.int .u8], 5, 1, (List.map (encI .u8) w3000)⟩]))) := by kernel_rfl
end
abbrev X30 : aP := C30 gG (cT 23 aT)
theorem atL : X30 = aR gG := by unfold X30 C30; rw [bB fun _ h => h]
abbrev avq := anz X30 (cU SE gG (SE.hl 30) (SE.hr 30)) (J0 SE X30)
theorem zI : ∀ (fu : Nat) (x13 : List Int) (x14 x15 : Int) (w3000 : List Int), Le (Option.map aT (fR fu x13 x14 x15 w3000)) (avq (List.map eI x13) x14 x15 (List.map (encI .u8) w3000)) := by
 intro fu
 induction fu with
 | zero => intros; exact le_none
 | succ fu ih =>
  intro x13 x14 x15 w3000
  refine Le.trans ?_ (le_of_eq ((bF atL).trans (auR ..)).symm)
  unfold fR
  refine lC ?_ ?_
  ·refine lG (by simp only [EN]) ?_
   refine lQ eX bH (by (try simp only [EN]); exact cP w3000 (List.getD x13 (Int.toNat x15) default)) fun r1 _ => ?_
   exact ih x13 x14 (w6 (x15 + 1)) r1
  ·exact aK rfl
theorem tZ (p0 p1 : List Int) : Le (Option.map aT (gA p0 p1)) (bA SE 30 [.d (.sl [.int .u8] (List.map (encI .u8) p0)), .d (.sl [.int .i64] (List.map eI p1)), .fn 23 [] []] [] []) := by
 refine aX atL rfl ?_
 refine Le.trans ?_ (le_of_eq (T30 ..).symm)
 unfold gA
 refine lQ eX bH (by (try simp only [EN]); exact cP p0 (List.length p1 : Int)) fun r0 _ => ?_
 (try simp only [EN]); exact zI fuel p1 (List.length p1 : Int) 0 r0
section
variable (Γ : Fun) (γ12 : Gm (Int)) (γ22 γ23 γ24 γ26 γ28 γ30 : Gm ((List Int))) (γ31 : Gm (Int)) (γ27 : Gm ((List Int))) (Λ2 J : Lam)
def C8 : aP := aZ (aZ (aZ (aZ (aZ (aZ (aZ (aZ (aZ (aR Γ) 12 aJ γ12) 22 aT γ22) 23 aT γ23) 24 aT γ24) 26 aT γ26) 28 aT γ28) 30 aT γ30) 31 aJ γ31) 27 aT γ27
theorem T8 (p0 : aC) : bL SE (C8 Γ γ12 γ22 γ23 γ24 γ26 γ28 γ30 γ31 γ27) Λ2 J 8 [aC.av p0] [] [] =
 γ12 [aC.av p0] [] [] fun r0 =>
 cond (r0 != 0) (
 (some (.ret [.row 0, .d (.int .i64 r0)] [] [⟨[.int .u8], 5, 1, []⟩]))) (
 cond p0.Online (
 (some (.ret [.row 0, .d (.int .i64 9)] [] [⟨[.int .u8], 5, 1, []⟩]))) (
 γ22 [.d (.sl [.int .u8] (List.map (encI .u8) [])), .d (.str p0.Client)] [] [] fun r1 =>
 γ22 [.d (.sl [.int .u8] (List.map (encI .u8) r1)), .d (.str p0.User)] [] [] fun r2 =>
 γ23 [.d (.sl [.int .u8] (List.map (encI .u8) r2)), .d (.int .i64 p0.Expiry)] [] [] fun r3 =>
 γ23 [.d (.sl [.int .u8] (List.map (encI .u8) r3)), .d (.int .i64 p0.Until)] [] [] fun r4 =>
 γ23 [.d (.sl [.int .u8] (List.map (encI .u8) r4)), .d (.int .i64 p0.Dropped)] [] [] fun r5 =>
 γ24 [.d (.sl [.int .u8] (List.map (encI .u8) r5)), .d (.sl aG.ks (List.map aG.enc p0.Subs)), .fn 25 [] []] [] [] fun r6 =>
 γ26 [.d (.sl [.int .u8] (List.map (encI .u8) r6)), .d (.sl aA.ks (List.map aA.enc p0.Queue)), .fn 27 [] []] [] [] fun r7 =>
 γ23 [.d (.sl [.int .u8] (List.map (encI .u8) r7)), .d (.int .i64 p0.Out.Limit)] [] [] fun r8 =>
 γ28 [.d (.sl [.int .u8] (List.map (encI .u8) r8)), .d (.sl aB.ks (List.map aB.enc p0.Out.Items)), .fn 29 [] []] [] [] fun r9 =>
 γ30 [.d (.sl [.int .u8] (List.map (encI .u8) r9)), .d (.sl [.int .i64] (List.map eI p0.Out.Pool.Used)), .fn 23 [] []] [] [] fun r10 =>
 γ23 [.d (.sl [.int .u8] (List.map (encI .u8) r10)), .d (.int .i64 p0.Out.Pool.Last)] [] [] fun r11 =>
 γ30 [.d (.sl [.int .u8] (List.map (encI .u8) r11)), .d (.sl [.int .i64] (List.map eI p0.In.IDs)), .fn 23 [] []] [] [] fun r12 =>
 γ31 [.d (.bool p0.Will.Set)] [] [] fun r13 =>
 γ23 [.d (.sl [.int .u8] (List.map (encI .u8) r12)), .d (.int .i64 r13)] [] [] fun r14 =>
 cond p0.Will.Set (
 γ23 [.d (.sl [.int .u8] (List.map (encI .u8) r14)), .d (.int .i64 p0.Will.Delay)] [] [] fun r15 =>
 γ27 [.d (.sl [.int .u8] (List.map (encI .u8) r15)), aA.av p0.Will.Message] [] [] fun r16 =>
 (some (.ret [.row 0, .d (.int .i64 0)] [] [⟨[.int .u8], 5, 1, (List.map (encI .u8) r16)⟩]))) (
 (some (.ret [.row 0, .d (.int .i64 0)] [] [⟨[.int .u8], 5, 1, (List.map (encI .u8) r14)⟩]))))) := by kernel_rfl
end
abbrev X8 : aP := C8 gG (cT 12 aJ) (cT 22 aT) (cT 23 aT) (cT 24 aT) (cT 26 aT) (cT 28 aT) (cT 30 aT) (cT 31 aJ) (cT 27 aT)
theorem Cr8 : X8 = aR gG := by unfold X8 C8; repeat rw [bB fun _ h => h]
theorem afF (p0 : aC) : Le (Option.map kB (nX p0)) (bA SE 8 [aC.av p0] [] []) := by
 refine aX Cr8 rfl ?_
 refine Le.trans ?_ (le_of_eq (T8 ..).symm)
 unfold nX
 refine lQ eX bK (uY _) fun r0 _ => ?_
 refine lC ?_ ?_
 ·exact aK rfl
 ·refine lC ?_ ?_
  ·exact aK rfl
  ·refine lQ eX bH (by (try simp only [EN]); exact jO [] p0.Client) fun r1 _ => ?_
   refine lQ eX bH (jO _ _) fun r2 _ => ?_
   refine lQ eX bH (cP _ _) fun r3 _ => ?_
   refine lQ eX bH (cP _ _) fun r4 _ => ?_
   refine lQ eX bH (cP _ _) fun r5 _ => ?_
   refine lQ eX bH (yU _ _) fun r6 _ => ?_
   refine lQ eX bH (vT _ _) fun r7 _ => ?_
   refine lQ eX bH (cP _ _) fun r8 _ => ?_
   refine lQ eX bH (wX _ _) fun r9 _ => ?_
   refine lQ eX bH (tZ _ _) fun r10 _ => ?_
   refine lQ eX bH (cP _ _) fun r11 _ => ?_
   refine lQ eX bH (tZ _ _) fun r12 _ => ?_
   refine lQ eX bK (ab8 _) fun r13 _ => ?_
   refine lQ eX bH (cP _ _) fun r14 _ => ?_
   refine lC ?_ ?_
   ·refine lQ eX bH (cP _ _) fun r15 _ => ?_
    refine lQ eX bH (xO _ _) fun r16 _ => ?_
    exact aK rfl
   ·exact aK rfl
section
variable (Γ : Fun)  (Λ2 J : Lam)
def C53 : aP := aR Γ
theorem T53 (p0 : aA) : bL SE (C53 Γ) Λ2 J 53 [aA.av p0] [] [] =
 cond (decide (lM aD.enc p0.Props * 32 ≤ 140737488355328)) (
 (some (.ret [.agg [.d (.str p0.Topic), .d (.str p0.Payload), .d (.int .i64 p0.Level), .d (.bool p0.Retain), .d (.int .i64 p0.Priority), .d (.int .i64 p0.Expires), .d (.str p0.From), .d (.int .i64 p0.Seq), .row 0]] [] [⟨aD.ks, 104, 32, (List.map aD.enc p0.Props)⟩]))) none := by kernel_rfl
end
abbrev X53 : aP := C53 gG
theorem awR : X53 = aR gG := rfl
theorem qE (p0 : aA) : Le (Option.map bR (mG p0)) (bA SE 53 [aA.av p0] [] []) := by
 refine aX awR rfl ?_
 refine Le.trans ?_ (le_of_eq (T53 ..).symm)
 unfold mG
 refine lG (by simp only [EN]) ?_
 exact aK rfl
def amK (C : aP) (Λ2 J : Lam) (a0 : List (List D)) (a1 a2 : Int) (a3 : List (List D)) : Res := lab SE C Λ2 J 52 0 [1, 1, 0, 1, 0] (bC [(5, .row 3005), (13, .d (.sl aA.ks a0)), (14, .d (.int .i64 a1)), (15, .d (.int .i64 a2))] [] [] [] [(3005, ⟨aA.ks, 26, 112, a3⟩)])
section
variable (Γ : Fun) (γ53 : Gm (aA)) (Λ2 J : Lam)
def C52 : aP := aZ (aR Γ) 53 bR γ53
theorem T52 (p0 : List aA) (p1 : Int) : bL SE (C52 Γ γ53) Λ2 J 52 [.d (.sl aA.ks (List.map aA.enc p0)), .d (.int .i64 p1)] [] [] =
 cond (decide (0 ≤ 0) && decide (0 ≤ (w6 ((lM aA.enc p0 : Int) + p1))) && decide ((w6 ((lM aA.enc p0 : Int) + p1)) * 112 ≤ 281474976710656)) (
 amK (C52 Γ γ53) Λ2 J (List.map aA.enc p0) (lM aA.enc p0 : Int) 0 (List.map aA.enc [])) none := by kernel_rfl
theorem auY (x13 : List aA) (x14 x15 : Int) (w3005 : List aA) : cY SE (C52 Γ γ53) Λ2 J 52 0 [1, 1, 0, 1, 0] (bC [(5, .row 3005), (13, .d (.sl aA.ks (List.map aA.enc x13))), (14, .d (.int .i64 x14)), (15, .d (.int .i64 x15))] [] [] [] [(3005, ⟨aA.ks, 26, 112, (List.map aA.enc w3005)⟩)]) =
 cond (decide (x15 < x14)) (
 cond (iB x15 (lM aA.enc x13 : Int)) (
  γ53 [.agg [.d (.str (bI (cE aA.enc x13 x15 0))), .d (.str (bI (cE aA.enc x13 x15 1))), .d (.int .i64 (aS (cE aA.enc x13 x15 2))), .d (.bool (bZ (cE aA.enc x13 x15 3))), .d (.int .i64 (aS (cE aA.enc x13 x15 4))), .d (.int .i64 (aS (cE aA.enc x13 x15 5))), .d (.str (bI (cE aA.enc x13 x15 6))), .d (.int .i64 (aS (cE aA.enc x13 x15 7))), .d (.sl aD.ks (dSl (cE aA.enc x13 x15 8)))]] [] [] fun r0 =>
  cond (decide ((lM aA.enc w3005 + lM aA.enc [r0]) * 112 ≤ 140737488355328)) (
  amK (C52 Γ γ53) Λ2 J (List.map aA.enc x13) x14 (w6 (x15 + 1)) (((List.map aA.enc w3005) ++ (List.map aA.enc [r0])))) none) none) (
 (some (.ret [.row 0] [] [⟨aA.ks, 26, 112, (List.map aA.enc w3005)⟩]))) := by kernel_rfl
end
abbrev X52 : aP := C52 gG (cT 53 bR)
theorem atB : X52 = aR gG := by unfold X52 C52; rw [bB fun _ h => h]
abbrev aui := amK X52 (cU SE gG (SE.hl 52) (SE.hr 52)) (J0 SE X52)
theorem agw : ∀ (fu : Nat) (x13 : List aA) (x14 x15 : Int) (w3005 : List aA), Le (Option.map bD (nF fu x13 x14 x15 w3005)) (aui (List.map aA.enc x13) x14 x15 (List.map aA.enc w3005)) := by
 intro fu
 induction fu with
 | zero => intros; exact le_none
 | succ fu ih =>
  intro x13 x14 x15 w3005
  refine Le.trans ?_ (le_of_eq ((bF atB).trans (auY ..)).symm)
  unfold nF
  refine lC ?_ ?_
  ·refine lG (by simp only [EN]) ?_
   refine lQ eX dG (by (try simp only [EN]); exact qE (List.getD x13 (Int.toNat x15) default)) fun r0 _ => ?_
   refine lG (by simp only [EN]) ?_
   (try simp only [EN]); exact ih x13 x14 (w6 (x15 + 1)) (w3005 ++ [r0])
  ·exact aK rfl
theorem ajB (p0 : List aA) (p1 : Int) : Le (Option.map bD (wS p0 p1)) (bA SE 52 [.d (.sl aA.ks (List.map aA.enc p0)), .d (.int .i64 p1)] [] []) := by
 refine aX atB rfl ?_
 refine Le.trans ?_ (le_of_eq (T52 ..).symm)
 unfold wS
 refine lG (by simp only [EN]) ?_
 (try simp only [EN]); exact agw fuel p0 (List.length p0 : Int) 0 []
def aqJ (C : aP) (Λ2 J : Lam) (a0 : List D) (a1 : List (List D)) : Res := lab SE C Λ2 J 18 0 [1, 1, 1, 1, 0] (bC [(5, .ptr 1000000000 0), (11, .row 3011)] [⟨26, (List.map AV.d a0)⟩] [] [] [(3011, ⟨aA.ks, 26, 112, a1⟩)])
section
variable (Γ : Fun) (γ52 : Gm ((List aA))) (γ53 : Gm (aA)) (Λ2 J : Lam)
def C18 : aP := aZ (aZ (aR Γ) 52 bD γ52) 53 bR γ53
theorem T18 (p0 : List aA) (p1 : aA) (p2 p3 : Int) : bL SE (C18 Γ γ52 γ53) Λ2 J 18 [.d (.sl aA.ks (List.map aA.enc p0)), aA.av p1, .d (.int .i64 p2), .d (.int .i64 p3)] [] [] =
 γ52 [.d (.sl aA.ks (List.map aA.enc p0)), .d (.int .i64 1)] [] [] fun r0 =>
 cond (decide ((lM aA.enc p0 : Int) < p2)) (
 γ53 [aA.av p1] [] [] fun r1 =>
 cond (decide ((lM aA.enc r0 + lM aA.enc [r1]) * 112 ≤ 140737488355328)) (
  (some (.ret [.row 0, .row 1, .d (.bool false)] [] [⟨aA.ks, 26, 112, ((List.map aA.enc r0) ++ (List.map aA.enc [r1]))⟩, ⟨aA.ks, 26, 112, []⟩]))) none) (
 cond (p3 != 1) (
 γ53 [aA.av p1] [] [] fun r2 =>
 (some (.ret [.row 0, .row 1, .d (.bool (p3 == 3))] [] [⟨aA.ks, 26, 112, (List.map aA.enc r0)⟩, ⟨aA.ks, 26, 112, (List.map aA.enc [r2])⟩]))) (
 cond (decide (p2 < 1)) (
 γ53 [aA.av p1] [] [] fun r3 =>
 (some (.ret [.row 0, .row 1, .d (.bool (p3 == 3))] [] [⟨aA.ks, 26, 112, (List.map aA.enc r0)⟩, ⟨aA.ks, 26, 112, (List.map aA.enc [r3])⟩]))) (
 aqJ (C18 Γ γ52 γ53) Λ2 J (aA.enc p1) (List.map aA.enc r0)))) := by kernel_rfl
theorem aua (b0 : aA) (w3011 : List aA) : cY SE (C18 Γ γ52 γ53) Λ2 J 18 0 [1, 1, 1, 1, 0] (bC [(5, .ptr 1000000000 0), (11, .row 3011)] [⟨26, (List.map AV.d (aA.enc b0))⟩] [] [] [(3011, ⟨aA.ks, 26, 112, (List.map aA.enc w3011)⟩)]) =
 cond (decide (0 ≤ 0) && decide (0 < (lM aA.enc w3011 : Int))) (
 cond (decide (0 ≤ 1) && decide (1 ≤ ((lM aA.enc w3011) : Int))) (
  γ53 [aA.av b0] [] [] fun r4 =>
  cond (iB (w6 ((List.length (List.take (lM aA.enc w3011) (List.take ((lM aA.enc w3011) - (Int.toNat 1)) (List.drop (Int.toNat 1) (List.map aA.enc w3011))) ++ List.drop (min (List.length (List.take ((lM aA.enc w3011) - (Int.toNat 1)) (List.drop (Int.toNat 1) (List.map aA.enc w3011)))) (lM aA.enc w3011)) (List.map aA.enc w3011)) : Int) - 1)) (List.length (List.take (lM aA.enc w3011) (List.take ((lM aA.enc w3011) - (Int.toNat 1)) (List.drop (Int.toNat 1) (List.map aA.enc w3011))) ++ List.drop (min (List.length (List.take ((lM aA.enc w3011) - (Int.toNat 1)) (List.drop (Int.toNat 1) (List.map aA.enc w3011)))) (lM aA.enc w3011)) (List.map aA.enc w3011)) : Int)) (
  (some (.ret [.row 0, .row 1, .d (.bool false)] [] [⟨aA.ks, 26, 112, (nD (List.take (lM aA.enc w3011) (List.take ((lM aA.enc w3011) - (Int.toNat 1)) (List.drop (Int.toNat 1) (List.map aA.enc w3011))) ++ List.drop (min (List.length (List.take ((lM aA.enc w3011) - (Int.toNat 1)) (List.drop (Int.toNat 1) (List.map aA.enc w3011)))) (lM aA.enc w3011)) (List.map aA.enc w3011)) (Int.toNat (w6 ((List.length (List.take (lM aA.enc w3011) (List.take ((lM aA.enc w3011) - (Int.toNat 1)) (List.drop (Int.toNat 1) (List.map aA.enc w3011))) ++ List.drop (min (List.length (List.take ((lM aA.enc w3011) - (Int.toNat 1)) (List.drop (Int.toNat 1) (List.map aA.enc w3011)))) (lM aA.enc w3011)) (List.map aA.enc w3011)) : Int) - 1))) 0 (aA.enc r4))⟩, ⟨aA.ks, 26, 112, [[D.str (bI (cE aA.enc w3011 0 0)), D.str (bI (cE aA.enc w3011 0 1)), D.int .i64 (aS (cE aA.enc w3011 0 2)), D.bool (bZ (cE aA.enc w3011 0 3)), D.int .i64 (aS (cE aA.enc w3011 0 4)), D.int .i64 (aS (cE aA.enc w3011 0 5)), D.str (bI (cE aA.enc w3011 0 6)), D.int .i64 (aS (cE aA.enc w3011 0 7)), D.sl aD.ks (dSl (cE aA.enc w3011 0 8))]]⟩]))) none) none) none := by kernel_rfl
end
abbrev X18 : aP := C18 gG (cT 52 bD) (cT 53 bR)
theorem as3 : X18 = aR gG := by unfold X18 C18; repeat rw [bB fun _ h => h]
abbrev auz := aqJ X18 (cU SE gG (SE.hl 18) (SE.hr 18)) (J0 SE X18)
theorem agZ (b0 : aA) (w3011 : List aA) : Le (Option.map jX (w5 b0 w3011)) (auz (aA.enc b0) (List.map aA.enc w3011)) := by
 refine Le.trans ?_ (le_of_eq ((bF as3).trans (aua ..)).symm)
 unfold w5
 refine lG (by simp only [EN]) ?_
 refine lG (by simp only [EN]) ?_
 refine lQ eX dG (qE _) fun r4 _ => ?_
 refine lG (by simp only [EN]) ?_
 exact aK (by first | rfl | simp only [EN, jX] <;> rfl)
theorem akl (p0 : List aA) (p1 : aA) (p2 p3 : Int) : Le (Option.map jX (yR p0 p1 p2 p3)) (bA SE 18 [.d (.sl aA.ks (List.map aA.enc p0)), aA.av p1, .d (.int .i64 p2), .d (.int .i64 p3)] [] []) := by
 refine aX as3 rfl ?_
 refine Le.trans ?_ (le_of_eq (T18 ..).symm)
 unfold yR
 refine lQ eX iZ (ajB _ _) fun r0 _ => ?_
 refine lD (by simp only [EN]) ?_ ?_
 ·refine lQ eX dG (qE _) fun r1 _ => ?_
  refine lG (by simp only [EN]) ?_
  exact aK (by first | rfl | simp only [EN, jX] <;> rfl)
 ·refine lC ?_ ?_
  ·refine lQ eX dG (qE _) fun r2 _ => ?_
   exact aK rfl
  ·refine lC ?_ ?_
   ·refine lQ eX dG (qE _) fun r3 _ => ?_
    exact aK rfl
   ·exact agZ p1 r0
def apD (C : aP) (Λ2 J : Lam) (a0 a1 : Int) (a2 a3 a4 : List D) (a5 a6 : Str) (a7 : Bool) (a8 a9 a10 a11 a12 a13 : Int) (a14 : Bool) (a15 : Int) (a16 a17 : Str) (a18 : Int) (a19 : Bool) (a20 a21 : Int) (a22 : Str) (a23 : Int) (a24 a25 a26 a27 a28 a29 : List (List D)) : Res := lab SE C Λ2 J 5 0 [1, 1, 1, 0] (bC [(2, .d (.int .i64 a0)), (3, .d (.int .i64 a1)), (4, .ptr 1000000000 0), (5, .ptr 1000000001 0), (8, .ptr 1000000002 0), (10, .ptr 1000000003 0)] [⟨42, (List.map AV.d a2)⟩, ⟨26, (List.map AV.d a3)⟩, ⟨42, (List.map AV.d a4)⟩, ⟨42, [.d (.str a5), .d (.str a6), .d (.bool a7), .d (.int .i64 a8), .d (.int .i64 a9), .d (.int .i64 a10), .d (.int .i64 a11), .row 50307, .row 50308, .d (.int .i64 a12), .row 50310, .row 50311, .d (.int .i64 a13), .row 50313, .d (.bool a14), .d (.int .i64 a15), .d (.str a16), .d (.str a17), .d (.int .i64 a18), .d (.bool a19), .d (.int .i64 a20), .d (.int .i64 a21), .d (.str a22), .d (.int .i64 a23), .row 50324]⟩] [] [] [(50307, ⟨aG.ks, 73, 32, a24⟩), (50308, ⟨aA.ks, 26, 112, a25⟩), (50310, ⟨aB.ks, 79, 128, a26⟩), (50311, ⟨[.int .i64], 3, 8, a27⟩), (50313, ⟨[.int .i64], 3, 8, a28⟩), (50324, ⟨aD.ks, 104, 32, a29⟩)])
section
variable (Γ : Fun) (γ16 γ17 : Gm (aC)) (γ18 : Gm ((List aA) × (List aA) × Bool)) (Λ2 J : Lam)
def C5 : aP := aZ (aZ (aZ (aR Γ) 16 cW γ16) 17 dB γ17) 18 jX γ18
theorem T5 (p0 : aC) (p1 : aA) (p2 p3 : Int) : bL SE (C5 Γ γ16 γ17 γ18) Λ2 J 5 [aC.av p0, aA.av p1, .d (.int .i64 p2), .d (.int .i64 p3)] [] [] =
 γ16 [aC.av p0] [] [] fun r0 =>
 cond (!p0.Online) (
 cond (p1.Level == 0) (
  γ17 [aC.av r0, .d (.int .i64 1)] [] [] fun r1 =>
  (some (.ret [aC.av r1, .d (.bool false)] [] []))) (
 apD (C5 Γ γ16 γ17 γ18) Λ2 J p2 p3 (aC.enc p0) (aA.enc p1) [D.str [], D.str [], D.bool false, D.int .i64 0, D.int .i64 0, D.int .i64 0, D.int .i64 0, D.sl aG.ks (List.map aG.enc []), D.sl aA.ks (List.map aA.enc []), D.int .i64 0, D.sl aB.ks (List.map aB.enc []), D.sl [.int .i64] (List.map eI []), D.int .i64 0, D.sl [.int .i64] (List.map eI []), D.bool false, D.int .i64 0, D.str [], D.str [], D.int .i64 0, D.bool false, D.int .i64 0, D.int .i64 0, D.str [], D.int .i64 0, D.sl aD.ks (List.map aD.enc [])] r0.Client r0.User r0.Online r0.Conn r0.Expiry r0.Until r0.Dropped r0.Out.Limit r0.Out.Pool.Last r0.Will.Set r0.Will.Delay r0.Will.Message.Topic r0.Will.Message.Payload r0.Will.Message.Level r0.Will.Message.Retain r0.Will.Message.Priority r0.Will.Message.Expires r0.Will.Message.From r0.Will.Message.Seq (List.map aG.enc r0.Subs) (List.map aA.enc r0.Queue) (List.map aB.enc r0.Out.Items) (List.map eI r0.Out.Pool.Used) (List.map eI r0.In.IDs) (List.map aD.enc r0.Will.Message.Props))) (
 apD (C5 Γ γ16 γ17 γ18) Λ2 J p2 p3 (aC.enc p0) (aA.enc p1) [D.str [], D.str [], D.bool false, D.int .i64 0, D.int .i64 0, D.int .i64 0, D.int .i64 0, D.sl aG.ks (List.map aG.enc []), D.sl aA.ks (List.map aA.enc []), D.int .i64 0, D.sl aB.ks (List.map aB.enc []), D.sl [.int .i64] (List.map eI []), D.int .i64 0, D.sl [.int .i64] (List.map eI []), D.bool false, D.int .i64 0, D.str [], D.str [], D.int .i64 0, D.bool false, D.int .i64 0, D.int .i64 0, D.str [], D.int .i64 0, D.sl aD.ks (List.map aD.enc [])] r0.Client r0.User r0.Online r0.Conn r0.Expiry r0.Until r0.Dropped r0.Out.Limit r0.Out.Pool.Last r0.Will.Set r0.Will.Delay r0.Will.Message.Topic r0.Will.Message.Payload r0.Will.Message.Level r0.Will.Message.Retain r0.Will.Message.Priority r0.Will.Message.Expires r0.Will.Message.From r0.Will.Message.Seq (List.map aG.enc r0.Subs) (List.map aA.enc r0.Queue) (List.map aB.enc r0.Out.Items) (List.map eI r0.Out.Pool.Used) (List.map eI r0.In.IDs) (List.map aD.enc r0.Will.Message.Props)) := by kernel_rfl
theorem aw5 (x2 x3 : Int) (b0 : aC) (b1 : aA) (b2 : aC) (b3_0 b3_1 : Str) (b3_2 : Bool) (b3_3 b3_4 b3_5 b3_6 b3_9 b3_12 : Int) (b3_14 : Bool) (b3_15 : Int) (b3_16 b3_17 : Str) (b3_18 : Int) (b3_19 : Bool) (b3_20 b3_21 : Int) (b3_22 : Str) (b3_23 : Int) (w50307 : List aG) (w50308 : List aA) (w50310 : List aB) (w50311 w50313 : List Int) (w50324 : List aD) : cY SE (C5 Γ γ16 γ17 γ18) Λ2 J 5 0 [1, 1, 1, 0] (bC [(2, .d (.int .i64 x2)), (3, .d (.int .i64 x3)), (4, .ptr 1000000000 0), (5, .ptr 1000000001 0), (8, .ptr 1000000002 0), (10, .ptr 1000000003 0)] [⟨42, (List.map AV.d (aC.enc b0))⟩, ⟨26, (List.map AV.d (aA.enc b1))⟩, ⟨42, (List.map AV.d (aC.enc b2))⟩, ⟨42, [.d (.str b3_0), .d (.str b3_1), .d (.bool b3_2), .d (.int .i64 b3_3), .d (.int .i64 b3_4), .d (.int .i64 b3_5), .d (.int .i64 b3_6), .row 50307, .row 50308, .d (.int .i64 b3_9), .row 50310, .row 50311, .d (.int .i64 b3_12), .row 50313, .d (.bool b3_14), .d (.int .i64 b3_15), .d (.str b3_16), .d (.str b3_17), .d (.int .i64 b3_18), .d (.bool b3_19), .d (.int .i64 b3_20), .d (.int .i64 b3_21), .d (.str b3_22), .d (.int .i64 b3_23), .row 50324]⟩] [] [] [(50307, ⟨aG.ks, 73, 32, (List.map aG.enc w50307)⟩), (50308, ⟨aA.ks, 26, 112, (List.map aA.enc w50308)⟩), (50310, ⟨aB.ks, 79, 128, (List.map aB.enc w50310)⟩), (50311, ⟨[.int .i64], 3, 8, (List.map eI w50311)⟩), (50313, ⟨[.int .i64], 3, 8, (List.map eI w50313)⟩), (50324, ⟨aD.ks, 104, 32, (List.map aD.enc w50324)⟩)]) =
 γ18 [.d (.sl aA.ks (List.map aA.enc w50308)), aA.av b1, .d (.int .i64 (if 256 < x2 then 256 else x2)), .d (.int .i64 x3)] [] [] fun r2 =>
 γ17 [aC.av (aC.mk b3_0 b3_1 b3_2 b3_3 b3_4 b3_5 b3_6 w50307 r2.1 (aH.mk b3_9 w50310 (aQ.mk w50311 b3_12)) (bG.mk w50313) (aV.mk b3_14 b3_15 (aA.mk b3_16 b3_17 b3_18 b3_19 b3_20 b3_21 b3_22 b3_23 w50324))), .d (.int .i64 (lM aA.enc r2.2.1 : Int))] [] [] fun r3 =>
 cond r2.2.2 (
 (some (.ret [aC.av r3, .d (.bool b0.Online)] [] []))) (
 (some (.ret [aC.av r3, .d (.bool false)] [] []))) := by kernel_rfl
end
abbrev X5 : aP := C5 gG (cT 16 cW) (cT 17 dB) (cT 18 jX)
theorem Cr5 : X5 = aR gG := by unfold X5 C5; repeat rw [bB fun _ h => h]
abbrev aw7 := apD X5 (cU SE gG (SE.hl 5) (SE.hr 5)) (J0 SE X5)
theorem xC (x2 x3 : Int) (b0 : aC) (b1 : aA) (b2 : aC) (b3_0 b3_1 : Str) (b3_2 : Bool) (b3_3 b3_4 b3_5 b3_6 b3_9 b3_12 : Int) (b3_14 : Bool) (b3_15 : Int) (b3_16 b3_17 : Str) (b3_18 : Int) (b3_19 : Bool) (b3_20 b3_21 : Int) (b3_22 : Str) (b3_23 : Int) (w50307 : List aG) (w50308 : List aA) (w50310 : List aB) (w50311 w50313 : List Int) (w50324 : List aD) : Le (Option.map jN (oP x2 x3 b0 b1 b2 b3_0 b3_1 b3_2 b3_3 b3_4 b3_5 b3_6 b3_9 b3_12 b3_14 b3_15 b3_16 b3_17 b3_18 b3_19 b3_20 b3_21 b3_22 b3_23 w50307 w50308 w50310 w50311 w50313 w50324)) (aw7 x2 x3 (aC.enc b0) (aA.enc b1) (aC.enc b2) b3_0 b3_1 b3_2 b3_3 b3_4 b3_5 b3_6 b3_9 b3_12 b3_14 b3_15 b3_16 b3_17 b3_18 b3_19 b3_20 b3_21 b3_22 b3_23 (List.map aG.enc w50307) (List.map aA.enc w50308) (List.map aB.enc w50310) (List.map eI w50311) (List.map eI w50313) (List.map aD.enc w50324)) := by
 refine Le.trans ?_ (le_of_eq ((bF Cr5).trans (aw5 ..)).symm)
 unfold oP
 refine lQ eX ajD (akl _ _ _ _) fun r2 _ => ?_
 refine lQ eX lU (by (try simp only [EN]); exact o8 ((aC.mk b3_0 b3_1 b3_2 b3_3 b3_4 b3_5 b3_6 w50307 r2.1 (aH.mk b3_9 w50310 (aQ.mk w50311 b3_12)) (bG.mk w50313) (aV.mk b3_14 b3_15 (aA.mk b3_16 b3_17 b3_18 b3_19 b3_20 b3_21 b3_22 b3_23 w50324)))) (List.length r2.2.1 : Int)) fun r3 _ => ?_
 refine lC ?_ ?_
 ·exact aK rfl
 ·exact aK rfl
theorem agl (p0 : aC) (p1 : aA) (p2 p3 : Int) : Le (Option.map jN (nK p0 p1 p2 p3)) (bA SE 5 [aC.av p0, aA.av p1, .d (.int .i64 p2), .d (.int .i64 p3)] [] []) := by
 refine aX Cr5 rfl ?_
 refine Le.trans ?_ (le_of_eq (T5 ..).symm)
 unfold nK
 refine lQ eX kV (lZ _) fun r0 _ => ?_
 refine lC ?_ ?_
 ·refine lC ?_ ?_
  ·refine lQ eX lU (o8 _ _) fun r1 _ => ?_
   exact aK rfl
  ·(try simp only [EN]); exact xC p2 p3 p0 p1 ((aC.mk [] [] false 0 0 0 0 [] [] (aH.mk 0 [] (aQ.mk [] 0)) (bG.mk []) (aV.mk false 0 (aA.mk [] [] 0 false 0 0 [] 0 [])))) r0.Client r0.User r0.Online r0.Conn r0.Expiry r0.Until r0.Dropped r0.Out.Limit r0.Out.Pool.Last r0.Will.Set r0.Will.Delay r0.Will.Message.Topic r0.Will.Message.Payload r0.Will.Message.Level r0.Will.Message.Retain r0.Will.Message.Priority r0.Will.Message.Expires r0.Will.Message.From r0.Will.Message.Seq r0.Subs r0.Queue r0.Out.Items r0.Out.Pool.Used r0.In.IDs r0.Will.Message.Props
 ·(try simp only [EN]); exact xC p2 p3 p0 p1 ((aC.mk [] [] false 0 0 0 0 [] [] (aH.mk 0 [] (aQ.mk [] 0)) (bG.mk []) (aV.mk false 0 (aA.mk [] [] 0 false 0 0 [] 0 [])))) r0.Client r0.User r0.Online r0.Conn r0.Expiry r0.Until r0.Dropped r0.Out.Limit r0.Out.Pool.Last r0.Will.Set r0.Will.Delay r0.Will.Message.Topic r0.Will.Message.Payload r0.Will.Message.Level r0.Will.Message.Retain r0.Will.Message.Priority r0.Will.Message.Expires r0.Will.Message.From r0.Will.Message.Seq r0.Subs r0.Queue r0.Out.Items r0.Out.Pool.Used r0.In.IDs r0.Will.Message.Props
section
variable (Γ : Fun)  (Λ2 J : Lam)
def C79 : aP := aR Γ
theorem T79 (p0 : Int) : bL SE (C79 Γ) Λ2 J 79 [.d (.int .u64 p0)] [] [] =
 cond ((eD .and .u64 p0 1) == 1) (
 (rI (w6 ((w6 (0 - (w6 (shr .u64 p0 1)))) - 1)))) (
 (rI (w6 (shr .u64 p0 1)))) := by kernel_rfl
end
abbrev X79 : aP := C79 gG
theorem aw9 : X79 = aR gG := rfl
theorem ah6 (p0 : Int) : Le (Option.map aJ (jR p0)) (bA SE 79 [.d (.int .u64 p0)] [] []) := by
 refine aX aw9 rfl ?_
 refine Le.trans ?_ (le_of_eq (T79 ..).symm)
 unfold jR
 refine lC ?_ ?_
 ·exact aK rfl
 ·exact aK rfl
def aeA (C : aP) (Λ2 J : Lam) (a0 : List (List D)) (a1 a2 a3 a4 a5 : Int) (a6 a7 a8 : Bool) : Res := lab SE C Λ2 J 61 0 [1, 1, 1, 1, 0, 0, 0, 0, 1, 1, 1, 0] (bC [(0, .d (.sl [.int .u8] a0)), (1, .d (.int .i64 a1)), (7, .d (.int .u64 a2)), (8, .d (.int .i64 a3)), (9, .d (.int .u8 a4)), (39, .d (.int .i64 a5)), (40, .d (.bool a6)), (41, .d (.bool a7)), (44, .d (.bool a8))] [] [] [] [])
def amC (C : aP) (Λ2 J : Lam) (a0 : List (List D)) (a1 a2 a3 : Int) : Res := lab SE C Λ2 J 61 0 [1, 1, 1, 1, 0] (bC [(0, .d (.sl [.int .u8] a0)), (1, .d (.int .i64 a1)), (7, .d (.int .u64 a2)), (8, .d (.int .i64 a3))] [] [] [] [])
def aqC (C : aP) (Λ2 J : Lam) (a0 : List (List D)) (a1 : Int) : Res := lab SE C Λ2 J 61 0 [1, 1, 0] (bC [(0, .d (.sl [.int .u8] a0)), (1, .d (.int .i64 a1))] [] [] [] [])
section
variable (Γ : Fun) (γ79 : Gm (Int)) (Λ2 J : Lam)
def C61 : aP := aZ (aR Γ) 79 aJ γ79
theorem T61 (p0 : List Int) (p1 : Int) : bL SE (C61 Γ γ79) Λ2 J 61 [.d (.sl [.int .u8] (List.map (encI .u8) p0)), .d (.int .i64 p1)] [] [] =
 cond (decide (p1 < 0)) (
 (some (.ret [.d (.int .i64 0), .d (.int .i64 0), .d (.int .i64 1)] [] []))) (
 cond (decide (p1 > (lM (encI .u8) p0 : Int))) (
 (some (.ret [.d (.int .i64 0), .d (.int .i64 0), .d (.int .i64 1)] [] []))) (
 aqC (C61 Γ γ79) Λ2 J (List.map (encI .u8) p0) p1)) := by kernel_rfl
theorem atw (x0 : List Int) (x1 x7 x8 x9 x39 : Int) (x40 x41 x44 : Bool) : cY SE (C61 Γ γ79) Λ2 J 61 0 [1, 1, 1, 1, 0, 0, 0, 0, 1, 1, 1, 0] (bC [(0, .d (.sl [.int .u8] (List.map (encI .u8) x0))), (1, .d (.int .i64 x1)), (7, .d (.int .u64 x7)), (8, .d (.int .i64 x8)), (9, .d (.int .u8 x9)), (39, .d (.int .i64 x39)), (40, .d (.bool x40)), (41, .d (.bool x41)), (44, .d (.bool x44))] [] [] [] []) =
 cond (decide (0 ≤ (w6 (7 * x8)))) (
 cond (decide (x9 < 128)) (
  γ79 [.d (.int .u64 (eD .or .u64 x7 (shl .u64 (IntKind.wrap .u64 (eD .and .u8 x9 127)) (w6 (7 * x8)))))] [] [] fun r0 =>
  (some (.ret [.d (.int .i64 r0), .d (.int .i64 (w6 ((w6 (x1 + x8)) + 1))), .d (.int .i64 0)] [] []))) (
 amC (C61 Γ γ79) Λ2 J (List.map (encI .u8) x0) x1 ((eD .or .u64 x7 (shl .u64 (IntKind.wrap .u64 (eD .and .u8 x9 127)) (w6 (7 * x8))))) (w6 (x8 + 1)))) none := by kernel_rfl
theorem avC (x0 : List Int) (x1 x7 x8 : Int) : cY SE (C61 Γ γ79) Λ2 J 61 0 [1, 1, 1, 1, 0] (bC [(0, .d (.sl [.int .u8] (List.map (encI .u8) x0))), (1, .d (.int .i64 x1)), (7, .d (.int .u64 x7)), (8, .d (.int .i64 x8))] [] [] [] []) =
 cond ((w6 (x1 + x8)) == (lM (encI .u8) x0 : Int)) (
 (some (.ret [.d (.int .i64 0), .d (.int .i64 0), .d (.int .i64 3)] [] []))) (
 cond (iB (w6 (x1 + x8)) (lM (encI .u8) x0 : Int)) (
 cond (x8 == 9) (
  cond (decide ((aS (cE (encI .u8) x0 (w6 (x1 + x8)) 0)) > 1)) (
  (some (.ret [.d (.int .i64 0), .d (.int .i64 0), .d (.int .i64 2)] [] []))) (
  cond (decide (x8 > 0)) (
  cond ((aS (cE (encI .u8) x0 (w6 (x1 + x8)) 0)) == 0) (
   (some (.ret [.d (.int .i64 0), .d (.int .i64 0), .d (.int .i64 2)] [] []))) (
  aeA (C61 Γ γ79) Λ2 J (List.map (encI .u8) x0) x1 x7 x8 ((aS (cE (encI .u8) x0 (w6 (x1 + x8)) 0))) x8 (decide (x8 > 0)) true (((aS (cE (encI .u8) x0 (w6 (x1 + x8)) 0)) == 0)))) (
  aeA (C61 Γ γ79) Λ2 J (List.map (encI .u8) x0) x1 x7 x8 ((aS (cE (encI .u8) x0 (w6 (x1 + x8)) 0))) x8 (decide (x8 > 0)) false false))) (
 cond (decide (x8 > 0)) (
  cond ((aS (cE (encI .u8) x0 (w6 (x1 + x8)) 0)) == 0) (
  (some (.ret [.d (.int .i64 0), .d (.int .i64 0), .d (.int .i64 2)] [] []))) (
  aeA (C61 Γ γ79) Λ2 J (List.map (encI .u8) x0) x1 x7 x8 ((aS (cE (encI .u8) x0 (w6 (x1 + x8)) 0))) x8 (decide (x8 > 0)) true (((aS (cE (encI .u8) x0 (w6 (x1 + x8)) 0)) == 0)))) (
 aeA (C61 Γ γ79) Λ2 J (List.map (encI .u8) x0) x1 x7 x8 ((aS (cE (encI .u8) x0 (w6 (x1 + x8)) 0))) x8 (decide (x8 > 0)) false false))) none) := by kernel_rfl
theorem auc (x0 : List Int) (x1 : Int) : cY SE (C61 Γ γ79) Λ2 J 61 0 [1, 1, 0] (bC [(0, .d (.sl [.int .u8] (List.map (encI .u8) x0))), (1, .d (.int .i64 x1))] [] [] [] []) =
 amC (C61 Γ γ79) Λ2 J (List.map (encI .u8) x0) x1 0 0 := by kernel_rfl
end
abbrev X61 : aP := C61 gG (cT 79 aJ)
theorem am1 : X61 = aR gG := by unfold X61 C61; rw [bB fun _ h => h]
abbrev asq := aeA X61 (cU SE gG (SE.hl 61) (SE.hr 61)) (J0 SE X61)
abbrev aqZ := amC X61 (cU SE gG (SE.hl 61) (SE.hr 61)) (J0 SE X61)
abbrev av9 := aqC X61 (cU SE gG (SE.hl 61) (SE.hr 61)) (J0 SE X61)
theorem sF (k6 : (List Int) → Int → Int → Int → Option (Int × Int × Int)) (hk6 : ∀ (x0 : List Int) (x1 x7 x8 : Int), Le (Option.map fW (k6 x0 x1 x7 x8)) (aqZ (List.map (encI .u8) x0) x1 x7 x8)) (x0 : List Int) (x1 x7 x8 x9 x39 : Int) (x40 x41 x44 : Bool) : Le (Option.map fW (jU k6 x0 x1 x7 x8 x9 x39 x40 x41 x44)) (asq (List.map (encI .u8) x0) x1 x7 x8 x9 x39 x40 x41 x44) := by
 refine Le.trans ?_ (le_of_eq ((bF am1).trans (atw ..)).symm)
 unfold jU
 refine lF ?_
 refine lC ?_ ?_
 ·refine lQ eX bK (ah6 _) fun r0 _ => ?_
  exact aK rfl
 ·(try simp only [EN]); exact hk6 x0 x1 ((eD .or .u64 x7 (shl .u64 (IntKind.wrap .u64 (eD .and .u8 x9 127)) (w6 (7 * x8))))) (w6 (x8 + 1))
theorem ah1 : ∀ (fu : Nat) (x0 : List Int) (x1 x7 x8 : Int), Le (Option.map fW (dH fu x0 x1 x7 x8)) (aqZ (List.map (encI .u8) x0) x1 x7 x8) := by
 intro fu
 induction fu with
 | zero => intros; exact le_none
 | succ fu ih =>
  intro x0 x1 x7 x8
  refine Le.trans ?_ (le_of_eq ((bF am1).trans (avC ..)).symm)
  unfold dH
  refine lD (by simp only [EN]) ?_ ?_
  ·exact aK rfl
  ·refine lG (by simp only [EN]) ?_
   refine lC ?_ ?_
   ·refine lD (by simp only [EN]) ?_ ?_
    ·exact aK rfl
    ·refine lC ?_ ?_
     ·refine lD (by simp only [EN]) ?_ ?_
      ·exact aK rfl
      ·(try simp only [EN]); exact sF _ (ih) x0 x1 x7 x8 (List.getD x0 (Int.toNat (w6 (x1 + x8))) default) x8 (decide (x8 > 0)) true ((List.getD x0 (Int.toNat (w6 (x1 + x8))) default) == 0)
     ·(try simp only [EN]); exact sF _ (ih) x0 x1 x7 x8 (List.getD x0 (Int.toNat (w6 (x1 + x8))) default) x8 (decide (x8 > 0)) false false
   ·refine lC ?_ ?_
    ·refine lD (by simp only [EN]) ?_ ?_
     ·exact aK rfl
     ·(try simp only [EN]); exact sF _ (ih) x0 x1 x7 x8 (List.getD x0 (Int.toNat (w6 (x1 + x8))) default) x8 (decide (x8 > 0)) true ((List.getD x0 (Int.toNat (w6 (x1 + x8))) default) == 0)
    ·(try simp only [EN]); exact sF _ (ih) x0 x1 x7 x8 (List.getD x0 (Int.toNat (w6 (x1 + x8))) default) x8 (decide (x8 > 0)) false false
theorem ah2 (x0 : List Int) (x1 : Int) : Le (Option.map fW (uM x0 x1)) (av9 (List.map (encI .u8) x0) x1) := by
 refine Le.trans ?_ (le_of_eq ((bF am1).trans (auc ..)).symm)
 unfold uM
 exact ah1 fuel x0 x1 0 0
theorem abT (p0 : List Int) (p1 : Int) : Le (Option.map fW (rC p0 p1)) (bA SE 61 [.d (.sl [.int .u8] (List.map (encI .u8) p0)), .d (.int .i64 p1)] [] []) := by
 refine aX am1 rfl ?_
 refine Le.trans ?_ (le_of_eq (T61 ..).symm)
 unfold rC
 refine lC ?_ ?_
 ·exact aK rfl
 ·refine lD (by simp only [EN]) ?_ ?_
  ·exact aK rfl
  ·exact ah2 p0 p1
section
variable (Γ : Fun) (γ61 : Gm (Int × Int × Int)) (Λ2 J : Lam)
def C60 : aP := aZ (aR Γ) 61 fW γ61
theorem T60 (p0 : List Int) (p1 p2 : Int) : bL SE (C60 Γ γ61) Λ2 J 60 [.d (.sl [.int .u8] (List.map (encI .u8) p0)), .d (.int .i64 p1), .d (.int .i64 p2)] [] [] =
 γ61 [.d (.sl [.int .u8] (List.map (encI .u8) p0)), .d (.int .i64 p1)] [] [] fun r0 =>
 cond (r0.2.2 != 0) (
 (some (.ret [.d (.str []), .d (.int .i64 0), .d (.int .i64 r0.2.2)] [] []))) (
 cond (decide (r0.1 < 0)) (
 (some (.ret [.d (.str []), .d (.int .i64 0), .d (.int .i64 2)] [] []))) (
 cond (decide (r0.1 > p2)) (
 (some (.ret [.d (.str []), .d (.int .i64 0), .d (.int .i64 5)] [] []))) (
 cond (decide (r0.1 > (w6 ((lM (encI .u8) p0 : Int) - r0.2.1)))) (
 (some (.ret [.d (.str []), .d (.int .i64 0), .d (.int .i64 3)] [] []))) (
 cond (decide (0 ≤ (w6 (r0.2.1 + r0.1))) && decide ((w6 (r0.2.1 + r0.1)) ≤ ((lM (encI .u8) p0) : Int))) (
 cond (decide (0 ≤ (w6 (r0.2.1 + r0.1))) && decide ((w6 (r0.2.1 + r0.1)) ≤ (w6 (r0.2.1 + r0.1)))) (
  cond (decide (0 ≤ r0.2.1) && decide (r0.2.1 ≤ (w6 (r0.2.1 + r0.1)))) (
  (some (.ret [.d (.str (aaK (eF (List.map (encI .u8) p0) (some r0.2.1) (some (w6 (r0.2.1 + r0.1)))))), .d (.int .i64 (w6 (r0.2.1 + r0.1))), .d (.int .i64 0)] [] []))) none) none) none)))) := by kernel_rfl
end
abbrev X60 : aP := C60 gG (cT 61 fW)
theorem axv : X60 = aR gG := by unfold X60 C60; rw [bB fun _ h => h]
theorem aeO (p0 : List Int) (p1 p2 : Int) : Le (Option.map jZ (lE p0 p1 p2)) (bA SE 60 [.d (.sl [.int .u8] (List.map (encI .u8) p0)), .d (.int .i64 p1), .d (.int .i64 p2)] [] []) := by
 refine aX axv rfl ?_
 refine Le.trans ?_ (le_of_eq (T60 ..).symm)
 unfold lE
 refine lQ eX aaP (abT _ _) fun r0 _ => ?_
 refine lC ?_ ?_
 ·exact aK rfl
 ·refine lC ?_ ?_
  ·exact aK rfl
  ·refine lC ?_ ?_
   ·exact aK rfl
   ·refine lD (by simp only [EN]) ?_ ?_
    ·exact aK rfl
    ·refine lG (by simp only [EN]) ?_
     refine lF ?_
     refine lF ?_
     exact aK (by first | rfl | simp only [EN, jZ] <;> rfl)
section
variable (Γ : Fun) (γ60 : Gm (Str × Int × Int)) (Λ2 J : Lam)
def C32 : aP := aZ (aR Γ) 60 jZ γ60
theorem T32 (p0 : aE) (p1 : Int) : bL SE (C32 Γ γ60) Λ2 J 32 [.ptr 2000000000 0, .d (.int .i64 p1)] [⟨85, (aE.avs p0)⟩] [] =
 cond (p0.err != 0) (
 (some (.ret [.d (.str [])] [⟨85, (aE.avs p0)⟩] []))) (
 γ60 [.d (.sl [.int .u8] (List.map (encI .u8) p0.b)), .d (.int .i64 p0.at_), .d (.int .i64 p1)] [] [] fun r0 =>
 cond (r0.2.2 != 0) (
 (some (.ret [.d (.str [])] [⟨85, (aE.avs (aE.mk p0.b p0.at_ r0.2.2))⟩] []))) (
 (some (.ret [.d (.str r0.1)] [⟨85, (aE.avs (aE.mk p0.b r0.2.1 p0.err))⟩] [])))) := by kernel_rfl
end
abbrev X32 : aP := C32 gG (cT 60 jZ)
theorem axE : X32 = aR gG := by unfold X32 C32; rw [bB fun _ h => h]
theorem nP (p0 : aE) (p1 : Int) : Le (Option.map dZ (dK p0 p1)) (bA SE 32 [.ptr 2000000000 0, .d (.int .i64 p1)] [⟨85, (aE.avs p0)⟩] []) := by
 refine aX axE rfl ?_
 refine Le.trans ?_ (le_of_eq (T32 ..).symm)
 unfold dK
 refine lC ?_ ?_
 ·exact aK rfl
 ·refine lQ eX adw (aeO _ _ _) fun r0 _ => ?_
  refine lC ?_ ?_
  ·exact aK rfl
  ·exact aK rfl
section
variable (Γ : Fun) (γ61 : Gm (Int × Int × Int)) (Λ2 J : Lam)
def C33 : aP := aZ (aR Γ) 61 fW γ61
theorem T33 (p0 : aE) : bL SE (C33 Γ γ61) Λ2 J 33 [.ptr 2000000000 0] [⟨85, (aE.avs p0)⟩] [] =
 cond (p0.err != 0) (
 (some (.ret [.d (.int .i64 0)] [⟨85, (aE.avs p0)⟩] []))) (
 γ61 [.d (.sl [.int .u8] (List.map (encI .u8) p0.b)), .d (.int .i64 p0.at_)] [] [] fun r0 =>
 cond (r0.2.2 != 0) (
 (some (.ret [.d (.int .i64 0)] [⟨85, (aE.avs (aE.mk p0.b p0.at_ r0.2.2))⟩] []))) (
 (some (.ret [.d (.int .i64 r0.1)] [⟨85, (aE.avs (aE.mk p0.b r0.2.1 p0.err))⟩] [])))) := by kernel_rfl
end
abbrev X33 : aP := C33 gG (cT 61 fW)
theorem ax1 : X33 = aR gG := by unfold X33 C33; rw [bB fun _ h => h]
theorem cA (p0 : aE) : Le (Option.map bP (bJ p0)) (bA SE 33 [.ptr 2000000000 0] [⟨85, (aE.avs p0)⟩] []) := by
 refine aX ax1 rfl ?_
 refine Le.trans ?_ (le_of_eq (T33 ..).symm)
 unfold bJ
 refine lC ?_ ?_
 ·exact aK rfl
 ·refine lQ eX aaP (abT _ _) fun r0 _ => ?_
  refine lC ?_ ?_
  ·exact aK rfl
  ·exact aK rfl
section
variable (Γ : Fun) (γ33 : Gm (Int × aE)) (Λ2 J : Lam)
def C41 : aP := aZ (aR Γ) 33 bP γ33
theorem T41 (p0 : aE) : bL SE (C41 Γ γ33) Λ2 J 41 [.ptr 2000000000 0] [⟨85, (aE.avs p0)⟩] [] =
 γ33 [.ptr 2000000000 0] [⟨85, (aE.avs p0)⟩] [] fun r0 =>
 cond (r0.2.err == 0) (
 cond (r0.1 != 0) (
  cond (r0.1 != 1) (
  (some (.ret [.d (.bool (r0.1 == 1))] [⟨85, (aE.avs (aE.mk r0.2.b r0.2.at_ 2))⟩] []))) (
  (some (.ret [.d (.bool (r0.1 == 1))] [⟨85, (aE.avs r0.2)⟩] [])))) (
 (some (.ret [.d (.bool (r0.1 == 1))] [⟨85, (aE.avs r0.2)⟩] [])))) (
 (some (.ret [.d (.bool (r0.1 == 1))] [⟨85, (aE.avs r0.2)⟩] []))) := by kernel_rfl
end
abbrev X41 : aP := C41 gG (cT 33 bP)
theorem ax0 : X41 = aR gG := by unfold X41 C41; rw [bB fun _ h => h]
theorem sK (p0 : aE) : Le (Option.map dY (gB p0)) (bA SE 41 [.ptr 2000000000 0] [⟨85, (aE.avs p0)⟩] []) := by
 refine aX ax0 rfl ?_
 refine Le.trans ?_ (le_of_eq (T41 ..).symm)
 unfold gB
 refine lQ eX bY (cA _) fun r0 _ => ?_
 refine lC ?_ ?_
 ·refine lC ?_ ?_
  ·refine lC ?_ ?_
   ·exact aK rfl
   ·exact aK rfl
  ·exact aK rfl
 ·exact aK rfl
section
variable (Γ : Fun) (γ32 : Gm (Str × aE)) (γ33 : Gm (Int × aE)) (γ41 : Gm (Bool × aE)) (Λ2 J : Lam)
def C35 : aP := aZ (aZ (aZ (aR Γ) 32 dZ γ32) 33 bP γ33) 41 dY γ41
theorem T35 (p0 : aE) : bL SE (C35 Γ γ32 γ33 γ41) Λ2 J 35 [.ptr 2000000000 0] [⟨85, (aE.avs p0)⟩] [] =
 γ32 [.ptr 2000000000 0, .d (.int .i64 88)] [⟨85, (aE.avs p0)⟩] [] fun r0 =>
 γ33 [.ptr 2000000000 0] [⟨85, (aE.avs r0.2)⟩] [] fun r1 =>
 γ41 [.ptr 2000000000 0] [⟨85, (aE.avs r1.2)⟩] [] fun r2 =>
 (some (.ret [aG.av (aG.mk r0.1 r1.1 r2.1)] [⟨85, (aE.avs r2.2)⟩] [])) := by kernel_rfl
end
abbrev X35 : aP := C35 gG (cT 32 dZ) (cT 33 bP) (cT 41 dY)
theorem awI : X35 = aR gG := by unfold X35 C35; repeat rw [bB fun _ h => h]
theorem aaR (p0 : aE) : Le (Option.map gF (j8 p0)) (bA SE 35 [.ptr 2000000000 0] [⟨85, (aE.avs p0)⟩] []) := by
 refine aX awI rfl ?_
 refine Le.trans ?_ (le_of_eq (T35 ..).symm)
 unfold j8
 refine lQ eX nA (nP _ _) fun r0 _ => ?_
 refine lQ eX bY (cA _) fun r1 _ => ?_
 refine lQ eX rP (sK _) fun r2 _ => ?_
 exact aK rfl
end Te
end PX
