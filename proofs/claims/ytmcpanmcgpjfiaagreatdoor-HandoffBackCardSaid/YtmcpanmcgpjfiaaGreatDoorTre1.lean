import Derived.Test.YtmcpanmcgpjfiaaGreatDoorTre0
set_option linter.unusedVariables false
set_option linter.unusedSimpArgs false
set_option maxRecDepth 100000
noncomputable section
namespace PX
open Go
open Md
namespace Te
section
variable (Γ : Fun) (γ86 γ87 γ88 γ89 γ90 : Gm (Int)) (Λ2 J : Lam)
def C35 : aP := bB (bB (bB (bB (bB (aR Γ) 86 aB γ86) 87 aB γ87) 88 aB γ88) 89 aB γ89) 90 aB γ90
theorem T35 (p0 : aI) : bG SE (C35 Γ γ86 γ87 γ88 γ89 γ90) Λ2 J 35 [aI.av p0] [] [] =
 γ86 [aI.av p0] [] [] fun r0 =>
 cond (r0 != 0) (
 (rI r0)) (
 γ87 [aI.av p0] [] [] fun r1 =>
 cond (r1 != 0) (
 (rI r1)) (
 γ88 [aO.av p0.Out] [] [] fun r2 =>
 cond (r2 != 0) (
 (rI r2)) (
 γ89 [bO.av p0.In] [] [] fun r3 =>
 cond (r3 != 0) (
 (rI r3)) (
 γ90 [bM.av p0.Will] [] [] fun r4 =>
 (rI r4))))) := by kernel_rfl
end
abbrev X35 : aP := C35 gG (cT 86 aB) (cT 87 aB) (cT 88 aB) (cT 89 aB) (cT 90 aB)
theorem aHm : X35 = aR gG := by unfold X35 C35; repeat rw [bD fun _ h => h]
theorem adY (p0 : aI) : Le (Option.map aB (m6 p0)) (bF SE 35 [aI.av p0] [] []) := by
 refine aW aHm rfl ?_
 refine Le.trans ?_ (le_of_eq (T35 ..).symm)
 unfold m6
 refine lQ eX aM (aha _) fun r0 _ => ?_
 refine lC ?_ ?_
 ·exact aJ rfl
 ·refine lQ eX aM (agH _) fun r1 _ => ?_
  refine lC ?_ ?_
  ·exact aJ rfl
  ·refine lQ eX aM (aj4 _) fun r2 _ => ?_
   refine lC ?_ ?_
   ·exact aJ rfl
   ·refine lQ eX aM (akI _) fun r3 _ => ?_
    refine lC ?_ ?_
    ·exact aJ rfl
    ·refine lQ eX aM (aoi _) fun r4 _ => ?_
     exact aJ rfl
section
variable (Γ : Fun)  (Λ2 J : Lam)
def C92 : aP := aR Γ
theorem T92 (p0 : List Int) (p1 : Int) : bG SE (C92 Γ) Λ2 J 92 [.d (.sl [.int .u8] (List.map (encI .u8) p0)), .d (.int .i64 p1)] [] [] =
 cond (decide (0 ≤ (lM (encI .u8) p0 : Int)) && decide ((lM (encI .u8) p0 : Int) ≤ (w6 ((lM (encI .u8) p0 : Int) + p1))) && decide ((w6 ((lM (encI .u8) p0 : Int) + p1)) * 1 ≤ 281474976710656)) (
 (some (.ret [.row 0] [] [⟨[.int .u8], 5, 1, (List.take (List.length (List.replicate (Int.toNat (lM (encI .u8) p0 : Int)) [D.int .u8 0])) (List.map (encI .u8) p0) ++ List.drop (min (lM (encI .u8) p0) (List.length (List.replicate (Int.toNat (lM (encI .u8) p0 : Int)) [D.int .u8 0]))) (List.replicate (Int.toNat (lM (encI .u8) p0 : Int)) [D.int .u8 0]))⟩]))) none := by kernel_rfl
end
abbrev X92 : aP := C92 gG
theorem aGK : X92 = aR gG := rfl
theorem ahO (p0 : List Int) (p1 : Int) : Le (Option.map aT (zO p0 p1)) (bF SE 92 [.d (.sl [.int .u8] (List.map (encI .u8) p0)), .d (.int .i64 p1)] [] []) := by
 refine aW aGK rfl ?_
 refine Le.trans ?_ (le_of_eq (T92 ..).symm)
 unfold zO
 refine lG (by simp only [EN]) ?_
 exact aJ (by first | rfl | simp only [EN, aT] <;> rfl)
section
variable (Γ : Fun)  (Λ2 J : Lam)
def aAi : aP := aR Γ
theorem aHf (p0 : Int) : bG SE (aAi Γ) Λ2 J 122 [.d (.int .i64 p0)] [] [] =
 (some (.ret [.d (.int .u64 (fF .xor .u64 (shl .u64 (IntKind.wrap .u64 p0) 1) (IntKind.wrap .u64 (shr .i64 p0 63))))] [] [])) := by kernel_rfl
end
abbrev aHt : aP := aAi gG
theorem aEX : aHt = aR gG := rfl
theorem aqt (p0 : Int) : Le (Option.map lV (acM p0)) (bF SE 122 [.d (.int .i64 p0)] [] []) := by
 refine aW aEX rfl ?_
 refine Le.trans ?_ (le_of_eq (aHf ..).symm)
 unfold acM
 exact aJ rfl
def asV (C : aP) (Λ2 J : Lam) (a0 : Int) (a1 : List (List D)) : Res := lab SE C Λ2 J 91 0 [1, 1, 0, 0] (aV [(0, .row 3000), (5, .d (.int .u64 a0))] [] [] [] [(3000, ⟨[.int .u8], 5, 1, a1⟩)])
section
variable (Γ : Fun) (γ122 : Gm (Int)) (Λ2 J : Lam)
def C91 : aP := bB (aR Γ) 122 lV γ122
theorem T91 (p0 : List Int) (p1 : Int) : bG SE (C91 Γ γ122) Λ2 J 91 [.row 2000000000, .d (.int .i64 p1)] [] [⟨[.int .u8], 5, 1, (List.map (encI .u8) p0)⟩] =
 γ122 [.d (.int .i64 p1)] [] [] fun r0 =>
 asV (C91 Γ γ122) Λ2 J r0 (List.map (encI .u8) p0) := by kernel_rfl
theorem aC5 (x5 : Int) (w3000 : List Int) : bW SE (C91 Γ γ122) Λ2 J 91 0 [1, 1, 0, 0] (aV [(0, .row 3000), (5, .d (.int .u64 x5))] [] [] [] [(3000, ⟨[.int .u8], 5, 1, (List.map (encI .u8) w3000)⟩)]) =
 cond (decide (x5 > 127)) (
 cond (decide ((lM (encI .u8) w3000 + lM (encI .u8) [(fF .or .u8 (IntKind.wrap .u8 (fF .and .u64 x5 127)) 128)]) * 1 ≤ 140737488355328)) (
  asV (C91 Γ γ122) Λ2 J (shr .u64 x5 7) (((List.map (encI .u8) w3000) ++ (List.map (encI .u8) [(fF .or .u8 (IntKind.wrap .u8 (fF .and .u64 x5 127)) 128)])))) none) (
 cond (decide ((lM (encI .u8) w3000 + lM (encI .u8) [(IntKind.wrap .u8 x5)]) * 1 ≤ 140737488355328)) (
 (some (.ret [.row 0] [] [⟨[.int .u8], 5, 1, ((List.map (encI .u8) w3000) ++ (List.map (encI .u8) [(IntKind.wrap .u8 x5)]))⟩]))) none) := by kernel_rfl
end
abbrev X91 : aP := C91 gG (cT 122 lV)
theorem aAU : X91 = aR gG := by unfold X91 C91; rw [bD fun _ h => h]
abbrev aEE := asV X91 (bV SE gG (SE.hl 91) (SE.hr 91)) (J0 SE X91)
theorem ani : ∀ (fu : Nat) (x5 : Int) (w3000 : List Int), Le (Option.map aT (sF fu x5 w3000)) (aEE x5 (List.map (encI .u8) w3000)) := by
 intro fu
 induction fu with
 | zero => intros; exact le_none
 | succ fu ih =>
  intro x5 w3000
  refine Le.trans ?_ (le_of_eq ((aZ aAU).trans (aC5 ..)).symm)
  unfold sF
  refine lC ?_ ?_
  ·refine lG (by simp only [EN]) ?_
   (try simp only [EN]); exact ih (shr .u64 x5 7) (w3000 ++ [(fF .or .u8 (IntKind.wrap .u8 (fF .and .u64 x5 127)) 128)])
  ·refine lG (by simp only [EN]) ?_
   exact aJ (by first | rfl | simp only [EN, aT] <;> rfl)
theorem akh (p0 : List Int) (p1 : Int) : Le (Option.map aT (ach p0 p1)) (bF SE 91 [.row 2000000000, .d (.int .i64 p1)] [] [⟨[.int .u8], 5, 1, (List.map (encI .u8) p0)⟩]) := by
 refine aW aAU rfl ?_
 refine Le.trans ?_ (le_of_eq (T91 ..).symm)
 unfold ach
 refine lQ eX ahN (aqt _) fun r0 _ => ?_
 exact ani fuel r0 p0
section
variable (Γ : Fun) (γ92 γ91 : Gm ((List Int))) (Λ2 J : Lam)
def C36 : aP := bB (bB (aR Γ) 92 aT γ92) 91 aT γ91
theorem T36 (p0 : List Int) (p1 : Str) : bG SE (C36 Γ γ92 γ91) Λ2 J 36 [.d (.sl [.int .u8] (List.map (encI .u8) p0)), .d (.str p1)] [] [] =
 γ92 [.d (.sl [.int .u8] (List.map (encI .u8) p0)), .d (.int .i64 (w6 (10 + (List.length p1 : Int))))] [] [] fun r0 =>
 γ91 [.row 2000000000, .d (.int .i64 (List.length p1 : Int))] [] [⟨[.int .u8], 5, 1, (List.map (encI .u8) r0)⟩] fun r1 =>
 cond (decide ((lM (encI .u8) r1 + List.length (hQ p1)) * 1 ≤ 140737488355328)) (
 (some (.ret [.row 0] [] [⟨[.int .u8], 5, 1, ((List.map (encI .u8) r1) ++ (hQ p1))⟩]))) none := by kernel_rfl
end
abbrev X36 : aP := C36 gG (cT 92 aT) (cT 91 aT)
theorem aGz : X36 = aR gG := by unfold X36 C36; repeat rw [bD fun _ h => h]
theorem mO (p0 : List Int) (p1 : Str) : Le (Option.map aT (iF p0 p1)) (bF SE 36 [.d (.sl [.int .u8] (List.map (encI .u8) p0)), .d (.str p1)] [] []) := by
 refine aW aGz rfl ?_
 refine Le.trans ?_ (le_of_eq (T36 ..).symm)
 unfold iF
 refine lQ eX bA (ahO _ _) fun r0 _ => ?_
 refine lQ eX bA (akh _ _) fun r1 _ => ?_
 refine lG (by simp only [EN]) ?_
 exact aJ (by first | rfl | simp only [EN, aT] <;> rfl)
section
variable (Γ : Fun) (γ92 γ91 : Gm ((List Int))) (Λ2 J : Lam)
def C37 : aP := bB (bB (aR Γ) 92 aT γ92) 91 aT γ91
theorem T37 (p0 : List Int) (p1 : Int) : bG SE (C37 Γ γ92 γ91) Λ2 J 37 [.d (.sl [.int .u8] (List.map (encI .u8) p0)), .d (.int .i64 p1)] [] [] =
 γ92 [.d (.sl [.int .u8] (List.map (encI .u8) p0)), .d (.int .i64 10)] [] [] fun r0 =>
 γ91 [.row 2000000000, .d (.int .i64 p1)] [] [⟨[.int .u8], 5, 1, (List.map (encI .u8) r0)⟩] fun r1 =>
 (some (.ret [.row 0] [] [⟨[.int .u8], 5, 1, (List.map (encI .u8) r1)⟩])) := by kernel_rfl
end
abbrev X37 : aP := C37 gG (cT 92 aT) (cT 91 aT)
theorem aGm : X37 = aR gG := by unfold X37 C37; repeat rw [bD fun _ h => h]
theorem dK (p0 : List Int) (p1 : Int) : Le (Option.map aT (cV p0 p1)) (bF SE 37 [.d (.sl [.int .u8] (List.map (encI .u8) p0)), .d (.int .i64 p1)] [] []) := by
 refine aW aGm rfl ?_
 refine Le.trans ?_ (le_of_eq (T37 ..).symm)
 unfold cV
 refine lQ eX bA (ahO _ _) fun r0 _ => ?_
 refine lQ eX bA (akh _ _) fun r1 _ => ?_
 exact aJ rfl
section
variable (Γ : Fun)  (Λ2 J : Lam)
def C45 : aP := aR Γ
theorem T45 (p0 : Bool) : bG SE (C45 Γ) Λ2 J 45 [.d (.bool p0)] [] [] =
 cond p0 (
 (rI 1)) (
 (rI 0)) := by kernel_rfl
end
abbrev X45 : aP := C45 gG
theorem aF2 : X45 = aR gG := rfl
theorem agF (p0 : Bool) : Le (Option.map aB (xG p0)) (bF SE 45 [.d (.bool p0)] [] []) := by
 refine aW aF2 rfl ?_
 refine Le.trans ?_ (le_of_eq (T45 ..).symm)
 unfold xG
 refine lC ?_ ?_
 ·exact aJ rfl
 ·exact aJ rfl
section
variable (Γ : Fun) (γ36 γ37 : Gm ((List Int))) (γ45 : Gm (Int)) (Λ2 J : Lam)
def C39 : aP := bB (bB (bB (aR Γ) 36 aT γ36) 37 aT γ37) 45 aB γ45
theorem T39 (p0 : List Int) (p1 : aK) : bG SE (C39 Γ γ36 γ37 γ45) Λ2 J 39 [.d (.sl [.int .u8] (List.map (encI .u8) p0)), aK.av p1] [] [] =
 γ36 [.d (.sl [.int .u8] (List.map (encI .u8) p0)), .d (.str p1.Filter)] [] [] fun r0 =>
 γ37 [.d (.sl [.int .u8] (List.map (encI .u8) r0)), .d (.int .i64 p1.Level)] [] [] fun r1 =>
 γ45 [.d (.bool p1.NoLocal)] [] [] fun r2 =>
 γ37 [.d (.sl [.int .u8] (List.map (encI .u8) r1)), .d (.int .i64 r2)] [] [] fun r3 =>
 (some (.ret [.row 0] [] [⟨[.int .u8], 5, 1, (List.map (encI .u8) r3)⟩])) := by kernel_rfl
end
abbrev X39 : aP := C39 gG (cT 36 aT) (cT 37 aT) (cT 45 aB)
theorem aGu : X39 = aR gG := by unfold X39 C39; repeat rw [bD fun _ h => h]
theorem ajZ (p0 : List Int) (p1 : aK) : Le (Option.map aT (vN p0 p1)) (bF SE 39 [.d (.sl [.int .u8] (List.map (encI .u8) p0)), aK.av p1] [] []) := by
 refine aW aGu rfl ?_
 refine Le.trans ?_ (le_of_eq (T39 ..).symm)
 unfold vN
 refine lQ eX bA (mO _ _) fun r0 _ => ?_
 refine lQ eX bA (dK _ _) fun r1 _ => ?_
 refine lQ eX aM (agF _) fun r2 _ => ?_
 refine lQ eX bA (dK _ _) fun r3 _ => ?_
 exact aJ rfl
def asI (C : aP) (Λ2 J : Lam) (a0 : List (List D)) (a1 a2 : Int) (a3 : List (List D)) : Res := lab SE C Λ2 J 38 0 [1, 1, 0, 1, 0] (aV [(0, .row 3000), (2, .fn 39 [] []), (13, .d (.sl aK.ks a0)), (14, .d (.int .i64 a1)), (15, .d (.int .i64 a2))] [] [] [] [(3000, ⟨[.int .u8], 5, 1, a3⟩)])
section
variable (Γ : Fun) (γ37 γ39 : Gm ((List Int))) (Λ2 J : Lam)
def C38 : aP := bB (bB (aR Γ) 37 aT γ37) 39 aT γ39
theorem T38 (p0 : List Int) (p1 : List aK) : bG SE (C38 Γ γ37 γ39) Λ2 J 38 [.d (.sl [.int .u8] (List.map (encI .u8) p0)), .d (.sl aK.ks (List.map aK.enc p1)), .fn 39 [] []] [] [] =
 γ37 [.d (.sl [.int .u8] (List.map (encI .u8) p0)), .d (.int .i64 (lM aK.enc p1 : Int))] [] [] fun r0 =>
 asI (C38 Γ γ37 γ39) Λ2 J (List.map aK.enc p1) (lM aK.enc p1 : Int) 0 (List.map (encI .u8) r0) := by kernel_rfl
theorem aEG (x13 : List aK) (x14 x15 : Int) (w3000 : List Int) : bW SE (C38 Γ γ37 γ39) Λ2 J 38 0 [1, 1, 0, 1, 0] (aV [(0, .row 3000), (2, .fn 39 [] []), (13, .d (.sl aK.ks (List.map aK.enc x13))), (14, .d (.int .i64 x14)), (15, .d (.int .i64 x15))] [] [] [] [(3000, ⟨[.int .u8], 5, 1, (List.map (encI .u8) w3000)⟩)]) =
 cond (decide (x15 < x14)) (
 cond (iB x15 (lM aK.enc x13 : Int)) (
  γ39 [.d (.sl [.int .u8] (List.map (encI .u8) w3000)), .agg [.d (.str (bL (cE aK.enc x13 x15 0))), .d (.int .i64 (aX (cE aK.enc x13 x15 1))), .d (.bool (dU (cE aK.enc x13 x15 2)))]] [] [] fun r1 =>
  asI (C38 Γ γ37 γ39) Λ2 J (List.map aK.enc x13) x14 (w6 (x15 + 1)) (List.map (encI .u8) r1)) none) (
 (some (.ret [.row 0] [] [⟨[.int .u8], 5, 1, (List.map (encI .u8) w3000)⟩]))) := by kernel_rfl
end
abbrev X38 : aP := C38 gG (cT 37 aT) (cT 39 aT)
theorem azP : X38 = aR gG := by unfold X38 C38; repeat rw [bD fun _ h => h]
abbrev aEQ := asI X38 (bV SE gG (SE.hl 38) (SE.hr 38)) (J0 SE X38)
theorem abN : ∀ (fu : Nat) (x13 : List aK) (x14 x15 : Int) (w3000 : List Int), Le (Option.map aT (fL fu x13 x14 x15 w3000)) (aEQ (List.map aK.enc x13) x14 x15 (List.map (encI .u8) w3000)) := by
 intro fu
 induction fu with
 | zero => intros; exact le_none
 | succ fu ih =>
  intro x13 x14 x15 w3000
  refine Le.trans ?_ (le_of_eq ((aZ azP).trans (aEG ..)).symm)
  unfold fL
  refine lC ?_ ?_
  ·refine lG (by simp only [EN]) ?_
   refine lQ eX bA (by (try simp only [EN]); exact ajZ w3000 (List.getD x13 (Int.toNat x15) default)) fun r1 _ => ?_
   exact ih x13 x14 (w6 (x15 + 1)) r1
  ·exact aJ rfl
theorem acS (p0 : List Int) (p1 : List aK) : Le (Option.map aT (jG p0 p1)) (bF SE 38 [.d (.sl [.int .u8] (List.map (encI .u8) p0)), .d (.sl aK.ks (List.map aK.enc p1)), .fn 39 [] []] [] []) := by
 refine aW azP rfl ?_
 refine Le.trans ?_ (le_of_eq (T38 ..).symm)
 unfold jG
 refine lQ eX bA (by (try simp only [EN]); exact dK p0 (List.length p1 : Int)) fun r0 _ => ?_
 (try simp only [EN]); exact abN fuel p1 (List.length p1 : Int) 0 r0
def axj (C : aP) (Λ2 J : Lam) (a0 : List (List D)) (a1 a2 a3 : Int) (a4 : Bool) : Res := lab SE C Λ2 J 93 0 [1, 1, 0, 1, 0, 0, 1, 0, 0, 0] (aV [(0, .d (.sl [.bool] a0)), (3, .d (.int .i64 a1)), (4, .d (.int .i64 a2)), (10, .d (.int .i64 a3)), (11, .d (.bool a4))] [] [] [] [])
def aoB (C : aP) (Λ2 J : Lam) (a0 : List (List D)) (a1 a2 : Int) : Res := lab SE C Λ2 J 93 0 [1, 1, 0, 1, 0] (aV [(0, .d (.sl [.bool] a0)), (3, .d (.int .i64 a1)), (4, .d (.int .i64 a2))] [] [] [] [])
section
variable (Γ : Fun)  (Λ2 J : Lam)
def C93 : aP := aR Γ
theorem T93 (p0 : List Bool) : bG SE (C93 Γ) Λ2 J 93 [.d (.sl [.bool] (List.map nY p0))] [] [] =
 aoB (C93 Γ) Λ2 J (List.map nY p0) 0 0 := by kernel_rfl
theorem aE9 (x0 : List Bool) (x3 x4 x10 : Int) (x11 : Bool) : bW SE (C93 Γ) Λ2 J 93 0 [1, 1, 0, 1, 0, 0, 1, 0, 0, 0] (aV [(0, .d (.sl [.bool] (List.map nY x0))), (3, .d (.int .i64 x3)), (4, .d (.int .i64 x4)), (10, .d (.int .i64 x10)), (11, .d (.bool x11))] [] [] [] []) =
 cond (iB x4 (lM nY x0 : Int)) (
 cond (dU (cE nY x0 x4 0)) (
  cond (decide (0 ≤ x4)) (
  aoB (C93 Γ) Λ2 J (List.map nY x0) (fF .or .i64 x3 (shl .i64 1 x4)) (w6 (x4 + 1))) none) (
 aoB (C93 Γ) Λ2 J (List.map nY x0) x3 (w6 (x4 + 1)))) none := by kernel_rfl
theorem aEK (x0 : List Bool) (x3 x4 : Int) : bW SE (C93 Γ) Λ2 J 93 0 [1, 1, 0, 1, 0] (aV [(0, .d (.sl [.bool] (List.map nY x0))), (3, .d (.int .i64 x3)), (4, .d (.int .i64 x4))] [] [] [] []) =
 cond (decide (x4 < (lM nY x0 : Int))) (
 cond (decide (x4 < 32)) (
  axj (C93 Γ) Λ2 J (List.map nY x0) x3 x4 x4 (decide (x4 < 32))) (
 (rI x3))) (
 (rI x3)) := by kernel_rfl
end
abbrev X93 : aP := C93 gG
theorem awc : X93 = aR gG := rfl
abbrev aEY := axj X93 (bV SE gG (SE.hl 93) (SE.hr 93)) (J0 SE X93)
abbrev axL := aoB X93 (bV SE gG (SE.hl 93) (SE.hr 93)) (J0 SE X93)
theorem alc (k3 : (List Bool) → Int → Int → Option (Int)) (hk3 : ∀ (x0 : List Bool) (x3 x4 : Int), Le (Option.map aB (k3 x0 x3 x4)) (axL (List.map nY x0) x3 x4)) (x0 : List Bool) (x3 x4 x10 : Int) (x11 : Bool) : Le (Option.map aB (adb k3 x0 x3 x4 x10 x11)) (aEY (List.map nY x0) x3 x4 x10 x11) := by
 refine Le.trans ?_ (le_of_eq ((aZ awc).trans (aE9 ..)).symm)
 unfold adb
 refine lG (by simp only [EN]) ?_
 refine lD (by simp only [EN]) ?_ ?_
 ·refine lF ?_
  exact hk3 x0 (fF .or .i64 x3 (shl .i64 1 x4)) (w6 (x4 + 1))
 ·exact hk3 x0 x3 (w6 (x4 + 1))
theorem akV : ∀ (fu : Nat) (x0 : List Bool) (x3 x4 : Int), Le (Option.map aB (aay fu x0 x3 x4)) (axL (List.map nY x0) x3 x4) := by
 intro fu
 induction fu with
 | zero => intros; exact le_none
 | succ fu ih =>
  intro x0 x3 x4
  refine Le.trans ?_ (le_of_eq ((aZ awc).trans (aEK ..)).symm)
  unfold aay
  refine lD (by simp only [EN]) ?_ ?_
  ·refine lC ?_ ?_
   ·exact alc _ (ih) x0 x3 x4 x4 (decide (x4 < 32))
   ·exact aJ rfl
  ·exact aJ rfl
theorem aov (p0 : List Bool) : Le (Option.map aB (adI p0)) (bF SE 93 [.d (.sl [.bool] (List.map nY p0))] [] []) := by
 refine aW awc rfl ?_
 refine Le.trans ?_ (le_of_eq (T93 ..).symm)
 unfold adI
 exact akV fuel p0 0 0
def asw (C : aP) (Λ2 J : Lam) (a0 : List (List D)) (a1 a2 : Int) (a3 : List (List D)) : Res := lab SE C Λ2 J 41 0 [1, 1, 1, 1, 1, 1, 1, 0, 1, 0] (aV [(5, .row 3005), (45, .d (.sl aG.ks a0)), (46, .d (.int .i64 a1)), (47, .d (.int .i64 a2))] [] [] [] [(3005, ⟨[.int .u8], 5, 1, a3⟩)])
section
variable (Γ : Fun) (γ36 γ37 : Gm ((List Int))) (γ93 : Gm (Int)) (Λ2 J : Lam)
def C41 : aP := bB (bB (bB (aR Γ) 36 aT γ36) 37 aT γ37) 93 aB γ93
theorem T41 (p0 : List Int) (p1 : aC) : bG SE (C41 Γ γ36 γ37 γ93) Λ2 J 41 [.d (.sl [.int .u8] (List.map (encI .u8) p0)), aC.av p1] [] [] =
 γ36 [.d (.sl [.int .u8] (List.map (encI .u8) p0)), .d (.str p1.Topic)] [] [] fun r0 =>
 γ36 [.d (.sl [.int .u8] (List.map (encI .u8) r0)), .d (.str p1.Payload)] [] [] fun r1 =>
 γ37 [.d (.sl [.int .u8] (List.map (encI .u8) r1)), .d (.int .i64 p1.Level)] [] [] fun r2 =>
 γ93 [.d (.sl [.bool] (List.map nY [p1.Retain]))] [] [] fun r3 =>
 γ37 [.d (.sl [.int .u8] (List.map (encI .u8) r2)), .d (.int .i64 r3)] [] [] fun r4 =>
 γ37 [.d (.sl [.int .u8] (List.map (encI .u8) r4)), .d (.int .i64 p1.Priority)] [] [] fun r5 =>
 γ37 [.d (.sl [.int .u8] (List.map (encI .u8) r5)), .d (.int .i64 p1.Expires)] [] [] fun r6 =>
 γ36 [.d (.sl [.int .u8] (List.map (encI .u8) r6)), .d (.str p1.From)] [] [] fun r7 =>
 γ37 [.d (.sl [.int .u8] (List.map (encI .u8) r7)), .d (.int .i64 p1.Seq)] [] [] fun r8 =>
 γ37 [.d (.sl [.int .u8] (List.map (encI .u8) r8)), .d (.int .i64 (lM aG.enc p1.Props : Int))] [] [] fun r9 =>
 asw (C41 Γ γ36 γ37 γ93) Λ2 J (List.map aG.enc p1.Props) (lM aG.enc p1.Props : Int) 0 (List.map (encI .u8) r9) := by kernel_rfl
theorem aEW (x45 : List aG) (x46 x47 : Int) (w3005 : List Int) : bW SE (C41 Γ γ36 γ37 γ93) Λ2 J 41 0 [1, 1, 1, 1, 1, 1, 1, 0, 1, 0] (aV [(5, .row 3005), (45, .d (.sl aG.ks (List.map aG.enc x45))), (46, .d (.int .i64 x46)), (47, .d (.int .i64 x47))] [] [] [] [(3005, ⟨[.int .u8], 5, 1, (List.map (encI .u8) w3005)⟩)]) =
 cond (decide (x47 < x46)) (
 cond (iB x47 (lM aG.enc x45 : Int)) (
  γ36 [.d (.sl [.int .u8] (List.map (encI .u8) w3005)), .d (.str (bL (cE aG.enc x45 x47 0)))] [] [] fun r10 =>
  γ36 [.d (.sl [.int .u8] (List.map (encI .u8) r10)), .d (.str (bL (cE aG.enc x45 x47 1)))] [] [] fun r11 =>
  asw (C41 Γ γ36 γ37 γ93) Λ2 J (List.map aG.enc x45) x46 (w6 (x47 + 1)) (List.map (encI .u8) r11)) none) (
 (some (.ret [.row 0] [] [⟨[.int .u8], 5, 1, (List.map (encI .u8) w3005)⟩]))) := by kernel_rfl
end
abbrev X41 : aP := C41 gG (cT 36 aT) (cT 37 aT) (cT 93 aB)
theorem aCk : X41 = aR gG := by unfold X41 C41; repeat rw [bD fun _ h => h]
abbrev aC2 := asw X41 (bV SE gG (SE.hl 41) (SE.hr 41)) (J0 SE X41)
theorem ajY : ∀ (fu : Nat) (x45 : List aG) (x46 x47 : Int) (w3005 : List Int), Le (Option.map aT (nC fu x45 x46 x47 w3005)) (aC2 (List.map aG.enc x45) x46 x47 (List.map (encI .u8) w3005)) := by
 intro fu
 induction fu with
 | zero => intros; exact le_none
 | succ fu ih =>
  intro x45 x46 x47 w3005
  refine Le.trans ?_ (le_of_eq ((aZ aCk).trans (aEW ..)).symm)
  unfold nC
  refine lC ?_ ?_
  ·refine lG (by simp only [EN]) ?_
   refine lQ eX bA (by (try simp only [EN]); exact mO w3005 ((List.getD x45 (Int.toNat x47) default).Key)) fun r10 _ => ?_
   refine lQ eX bA (by (try simp only [EN]); exact mO r10 ((List.getD x45 (Int.toNat x47) default).Value)) fun r11 _ => ?_
   exact ih x45 x46 (w6 (x47 + 1)) r11
  ·exact aJ rfl
theorem ab3 (p0 : List Int) (p1 : aC) : Le (Option.map aT (sH p0 p1)) (bF SE 41 [.d (.sl [.int .u8] (List.map (encI .u8) p0)), aC.av p1] [] []) := by
 refine aW aCk rfl ?_
 refine Le.trans ?_ (le_of_eq (T41 ..).symm)
 unfold sH
 refine lQ eX bA (mO _ _) fun r0 _ => ?_
 refine lQ eX bA (mO _ _) fun r1 _ => ?_
 refine lQ eX bA (dK _ _) fun r2 _ => ?_
 refine lQ eX aM (aov _) fun r3 _ => ?_
 refine lQ eX bA (dK _ _) fun r4 _ => ?_
 refine lQ eX bA (dK _ _) fun r5 _ => ?_
 refine lQ eX bA (dK _ _) fun r6 _ => ?_
 refine lQ eX bA (mO _ _) fun r7 _ => ?_
 refine lQ eX bA (dK _ _) fun r8 _ => ?_
 refine lQ eX bA (by (try simp only [EN]); exact dK r8 (List.length p1.Props : Int)) fun r9 _ => ?_
 (try simp only [EN]); exact ajY fuel p1.Props (List.length p1.Props : Int) 0 r9
def asC (C : aP) (Λ2 J : Lam) (a0 : List (List D)) (a1 a2 : Int) (a3 : List (List D)) : Res := lab SE C Λ2 J 40 0 [1, 1, 0, 1, 0] (aV [(0, .row 3000), (2, .fn 41 [] []), (13, .d (.sl aC.ks a0)), (14, .d (.int .i64 a1)), (15, .d (.int .i64 a2))] [] [] [] [(3000, ⟨[.int .u8], 5, 1, a3⟩)])
section
variable (Γ : Fun) (γ37 γ41 : Gm ((List Int))) (Λ2 J : Lam)
def C40 : aP := bB (bB (aR Γ) 37 aT γ37) 41 aT γ41
theorem T40 (p0 : List Int) (p1 : List aC) : bG SE (C40 Γ γ37 γ41) Λ2 J 40 [.d (.sl [.int .u8] (List.map (encI .u8) p0)), .d (.sl aC.ks (List.map aC.enc p1)), .fn 41 [] []] [] [] =
 γ37 [.d (.sl [.int .u8] (List.map (encI .u8) p0)), .d (.int .i64 (lM aC.enc p1 : Int))] [] [] fun r0 =>
 asC (C40 Γ γ37 γ41) Λ2 J (List.map aC.enc p1) (lM aC.enc p1 : Int) 0 (List.map (encI .u8) r0) := by kernel_rfl
theorem aEk (x13 : List aC) (x14 x15 : Int) (w3000 : List Int) : bW SE (C40 Γ γ37 γ41) Λ2 J 40 0 [1, 1, 0, 1, 0] (aV [(0, .row 3000), (2, .fn 41 [] []), (13, .d (.sl aC.ks (List.map aC.enc x13))), (14, .d (.int .i64 x14)), (15, .d (.int .i64 x15))] [] [] [] [(3000, ⟨[.int .u8], 5, 1, (List.map (encI .u8) w3000)⟩)]) =
 cond (decide (x15 < x14)) (
 cond (iB x15 (lM aC.enc x13 : Int)) (
  γ41 [.d (.sl [.int .u8] (List.map (encI .u8) w3000)), .agg [.d (.str (bL (cE aC.enc x13 x15 0))), .d (.str (bL (cE aC.enc x13 x15 1))), .d (.int .i64 (aX (cE aC.enc x13 x15 2))), .d (.bool (dU (cE aC.enc x13 x15 3))), .d (.int .i64 (aX (cE aC.enc x13 x15 4))), .d (.int .i64 (aX (cE aC.enc x13 x15 5))), .d (.str (bL (cE aC.enc x13 x15 6))), .d (.int .i64 (aX (cE aC.enc x13 x15 7))), .d (.sl aG.ks (dSl (cE aC.enc x13 x15 8)))]] [] [] fun r1 =>
  asC (C40 Γ γ37 γ41) Λ2 J (List.map aC.enc x13) x14 (w6 (x15 + 1)) (List.map (encI .u8) r1)) none) (
 (some (.ret [.row 0] [] [⟨[.int .u8], 5, 1, (List.map (encI .u8) w3000)⟩]))) := by kernel_rfl
end
abbrev X40 : aP := C40 gG (cT 37 aT) (cT 41 aT)
theorem aAt : X40 = aR gG := by unfold X40 C40; repeat rw [bD fun _ h => h]
abbrev aDn := asC X40 (bV SE gG (SE.hl 40) (SE.hr 40)) (J0 SE X40)
theorem aaa : ∀ (fu : Nat) (x13 : List aC) (x14 x15 : Int) (w3000 : List Int), Le (Option.map aT (eL fu x13 x14 x15 w3000)) (aDn (List.map aC.enc x13) x14 x15 (List.map (encI .u8) w3000)) := by
 intro fu
 induction fu with
 | zero => intros; exact le_none
 | succ fu ih =>
  intro x13 x14 x15 w3000
  refine Le.trans ?_ (le_of_eq ((aZ aAt).trans (aEk ..)).symm)
  unfold eL
  refine lC ?_ ?_
  ·refine lG (by simp only [EN]) ?_
   refine lQ eX bA (by (try simp only [EN]); exact ab3 w3000 (List.getD x13 (Int.toNat x15) default)) fun r1 _ => ?_
   exact ih x13 x14 (w6 (x15 + 1)) r1
  ·exact aJ rfl
theorem aa4 (p0 : List Int) (p1 : List aC) : Le (Option.map aT (gF p0 p1)) (bF SE 40 [.d (.sl [.int .u8] (List.map (encI .u8) p0)), .d (.sl aC.ks (List.map aC.enc p1)), .fn 41 [] []] [] []) := by
 refine aW aAt rfl ?_
 refine Le.trans ?_ (le_of_eq (T40 ..).symm)
 unfold gF
 refine lQ eX bA (by (try simp only [EN]); exact dK p0 (List.length p1 : Int)) fun r0 _ => ?_
 (try simp only [EN]); exact aaa fuel p1 (List.length p1 : Int) 0 r0
section
variable (Γ : Fun) (γ37 γ41 : Gm ((List Int))) (Λ2 J : Lam)
def C43 : aP := bB (bB (aR Γ) 37 aT γ37) 41 aT γ41
theorem T43 (p0 : List Int) (p1 : aE) : bG SE (C43 Γ γ37 γ41) Λ2 J 43 [.d (.sl [.int .u8] (List.map (encI .u8) p0)), aE.av p1] [] [] =
 γ37 [.d (.sl [.int .u8] (List.map (encI .u8) p0)), .d (.int .i64 p1.ID)] [] [] fun r0 =>
 γ37 [.d (.sl [.int .u8] (List.map (encI .u8) r0)), .d (.int .i64 p1.State)] [] [] fun r1 =>
 γ41 [.d (.sl [.int .u8] (List.map (encI .u8) r1)), aC.av p1.Message] [] [] fun r2 =>
 (some (.ret [.row 0] [] [⟨[.int .u8], 5, 1, (List.map (encI .u8) r2)⟩])) := by kernel_rfl
end
abbrev X43 : aP := C43 gG (cT 37 aT) (cT 41 aT)
theorem aHs : X43 = aR gG := by unfold X43 C43; repeat rw [bD fun _ h => h]
theorem ahA (p0 : List Int) (p1 : aE) : Le (Option.map aT (rF p0 p1)) (bF SE 43 [.d (.sl [.int .u8] (List.map (encI .u8) p0)), aE.av p1] [] []) := by
 refine aW aHs rfl ?_
 refine Le.trans ?_ (le_of_eq (T43 ..).symm)
 unfold rF
 refine lQ eX bA (dK _ _) fun r0 _ => ?_
 refine lQ eX bA (dK _ _) fun r1 _ => ?_
 refine lQ eX bA (ab3 _ _) fun r2 _ => ?_
 exact aJ rfl
def ast (C : aP) (Λ2 J : Lam) (a0 : List (List D)) (a1 a2 : Int) (a3 : List (List D)) : Res := lab SE C Λ2 J 42 0 [1, 1, 0, 1, 0] (aV [(0, .row 3000), (2, .fn 43 [] []), (13, .d (.sl aE.ks a0)), (14, .d (.int .i64 a1)), (15, .d (.int .i64 a2))] [] [] [] [(3000, ⟨[.int .u8], 5, 1, a3⟩)])
section
variable (Γ : Fun) (γ37 γ43 : Gm ((List Int))) (Λ2 J : Lam)
def C42 : aP := bB (bB (aR Γ) 37 aT γ37) 43 aT γ43
theorem T42 (p0 : List Int) (p1 : List aE) : bG SE (C42 Γ γ37 γ43) Λ2 J 42 [.d (.sl [.int .u8] (List.map (encI .u8) p0)), .d (.sl aE.ks (List.map aE.enc p1)), .fn 43 [] []] [] [] =
 γ37 [.d (.sl [.int .u8] (List.map (encI .u8) p0)), .d (.int .i64 (lM aE.enc p1 : Int))] [] [] fun r0 =>
 ast (C42 Γ γ37 γ43) Λ2 J (List.map aE.enc p1) (lM aE.enc p1 : Int) 0 (List.map (encI .u8) r0) := by kernel_rfl
theorem aCE (x13 : List aE) (x14 x15 : Int) (w3000 : List Int) : bW SE (C42 Γ γ37 γ43) Λ2 J 42 0 [1, 1, 0, 1, 0] (aV [(0, .row 3000), (2, .fn 43 [] []), (13, .d (.sl aE.ks (List.map aE.enc x13))), (14, .d (.int .i64 x14)), (15, .d (.int .i64 x15))] [] [] [] [(3000, ⟨[.int .u8], 5, 1, (List.map (encI .u8) w3000)⟩)]) =
 cond (decide (x15 < x14)) (
 cond (iB x15 (lM aE.enc x13 : Int)) (
  γ43 [.d (.sl [.int .u8] (List.map (encI .u8) w3000)), .agg [.d (.int .i64 (aX (cE aE.enc x13 x15 0))), .d (.int .i64 (aX (cE aE.enc x13 x15 1))), .d (.str (bL (cE aE.enc x13 x15 2))), .d (.str (bL (cE aE.enc x13 x15 3))), .d (.int .i64 (aX (cE aE.enc x13 x15 4))), .d (.bool (dU (cE aE.enc x13 x15 5))), .d (.int .i64 (aX (cE aE.enc x13 x15 6))), .d (.int .i64 (aX (cE aE.enc x13 x15 7))), .d (.str (bL (cE aE.enc x13 x15 8))), .d (.int .i64 (aX (cE aE.enc x13 x15 9))), .d (.sl aG.ks (dSl (cE aE.enc x13 x15 10)))]] [] [] fun r1 =>
  ast (C42 Γ γ37 γ43) Λ2 J (List.map aE.enc x13) x14 (w6 (x15 + 1)) (List.map (encI .u8) r1)) none) (
 (some (.ret [.row 0] [] [⟨[.int .u8], 5, 1, (List.map (encI .u8) w3000)⟩]))) := by kernel_rfl
end
abbrev X42 : aP := C42 gG (cT 37 aT) (cT 43 aT)
theorem aB6 : X42 = aR gG := by unfold X42 C42; repeat rw [bD fun _ h => h]
abbrev aFe := ast X42 (bV SE gG (SE.hl 42) (SE.hr 42)) (J0 SE X42)
theorem aak : ∀ (fu : Nat) (x13 : List aE) (x14 x15 : Int) (w3000 : List Int), Le (Option.map aT (eU fu x13 x14 x15 w3000)) (aFe (List.map aE.enc x13) x14 x15 (List.map (encI .u8) w3000)) := by
 intro fu
 induction fu with
 | zero => intros; exact le_none
 | succ fu ih =>
  intro x13 x14 x15 w3000
  refine Le.trans ?_ (le_of_eq ((aZ aB6).trans (aCE ..)).symm)
  unfold eU
  refine lC ?_ ?_
  ·refine lG (by simp only [EN]) ?_
   refine lQ eX bA (by (try simp only [EN]); exact ahA w3000 (List.getD x13 (Int.toNat x15) default)) fun r1 _ => ?_
   exact ih x13 x14 (w6 (x15 + 1)) r1
  ·exact aJ rfl
theorem abM (p0 : List Int) (p1 : List aE) : Le (Option.map aT (hH p0 p1)) (bF SE 42 [.d (.sl [.int .u8] (List.map (encI .u8) p0)), .d (.sl aE.ks (List.map aE.enc p1)), .fn 43 [] []] [] []) := by
 refine aW aB6 rfl ?_
 refine Le.trans ?_ (le_of_eq (T42 ..).symm)
 unfold hH
 refine lQ eX bA (by (try simp only [EN]); exact dK p0 (List.length p1 : Int)) fun r0 _ => ?_
 (try simp only [EN]); exact aak fuel p1 (List.length p1 : Int) 0 r0
def asA (C : aP) (Λ2 J : Lam) (a0 : List (List D)) (a1 a2 : Int) (a3 : List (List D)) : Res := lab SE C Λ2 J 44 0 [1, 1, 0, 1, 0] (aV [(0, .row 3000), (2, .fn 37 [] []), (13, .d (.sl [.int .i64] a0)), (14, .d (.int .i64 a1)), (15, .d (.int .i64 a2))] [] [] [] [(3000, ⟨[.int .u8], 5, 1, a3⟩)])
section
variable (Γ : Fun) (γ37 : Gm ((List Int))) (Λ2 J : Lam)
def C44 : aP := bB (aR Γ) 37 aT γ37
theorem T44 (p0 p1 : List Int) : bG SE (C44 Γ γ37) Λ2 J 44 [.d (.sl [.int .u8] (List.map (encI .u8) p0)), .d (.sl [.int .i64] (List.map eI p1)), .fn 37 [] []] [] [] =
 γ37 [.d (.sl [.int .u8] (List.map (encI .u8) p0)), .d (.int .i64 (lM eI p1 : Int))] [] [] fun r0 =>
 asA (C44 Γ γ37) Λ2 J (List.map eI p1) (lM eI p1 : Int) 0 (List.map (encI .u8) r0) := by kernel_rfl
theorem aDp (x13 : List Int) (x14 x15 : Int) (w3000 : List Int) : bW SE (C44 Γ γ37) Λ2 J 44 0 [1, 1, 0, 1, 0] (aV [(0, .row 3000), (2, .fn 37 [] []), (13, .d (.sl [.int .i64] (List.map eI x13))), (14, .d (.int .i64 x14)), (15, .d (.int .i64 x15))] [] [] [] [(3000, ⟨[.int .u8], 5, 1, (List.map (encI .u8) w3000)⟩)]) =
 cond (decide (x15 < x14)) (
 cond (iB x15 (lM eI x13 : Int)) (
  γ37 [.d (.sl [.int .u8] (List.map (encI .u8) w3000)), .d (.int .i64 (aX (cE eI x13 x15 0)))] [] [] fun r1 =>
  asA (C44 Γ γ37) Λ2 J (List.map eI x13) x14 (w6 (x15 + 1)) (List.map (encI .u8) r1)) none) (
 (some (.ret [.row 0] [] [⟨[.int .u8], 5, 1, (List.map (encI .u8) w3000)⟩]))) := by kernel_rfl
end
abbrev X44 : aP := C44 gG (cT 37 aT)
theorem aBU : X44 = aR gG := by unfold X44 C44; rw [bD fun _ h => h]
abbrev aEz := asA X44 (bV SE gG (SE.hl 44) (SE.hr 44)) (J0 SE X44)
theorem ac5 : ∀ (fu : Nat) (x13 : List Int) (x14 x15 : Int) (w3000 : List Int), Le (Option.map aT (hR fu x13 x14 x15 w3000)) (aEz (List.map eI x13) x14 x15 (List.map (encI .u8) w3000)) := by
 intro fu
 induction fu with
 | zero => intros; exact le_none
 | succ fu ih =>
  intro x13 x14 x15 w3000
  refine Le.trans ?_ (le_of_eq ((aZ aBU).trans (aDp ..)).symm)
  unfold hR
  refine lC ?_ ?_
  ·refine lG (by simp only [EN]) ?_
   refine lQ eX bA (by (try simp only [EN]); exact dK w3000 (List.getD x13 (Int.toNat x15) default)) fun r1 _ => ?_
   exact ih x13 x14 (w6 (x15 + 1)) r1
  ·exact aJ rfl
theorem zS (p0 p1 : List Int) : Le (Option.map aT (iG p0 p1)) (bF SE 44 [.d (.sl [.int .u8] (List.map (encI .u8) p0)), .d (.sl [.int .i64] (List.map eI p1)), .fn 37 [] []] [] []) := by
 refine aW aBU rfl ?_
 refine Le.trans ?_ (le_of_eq (T44 ..).symm)
 unfold iG
 refine lQ eX bA (by (try simp only [EN]); exact dK p0 (List.length p1 : Int)) fun r0 _ => ?_
 (try simp only [EN]); exact ac5 fuel p1 (List.length p1 : Int) 0 r0
section
variable (Γ : Fun) (γ35 : Gm (Int)) (γ36 γ37 γ38 γ40 γ42 γ44 : Gm ((List Int))) (γ45 : Gm (Int)) (γ41 : Gm ((List Int))) (Λ2 J : Lam)
def C18 : aP := bB (bB (bB (bB (bB (bB (bB (bB (bB (aR Γ) 35 aB γ35) 36 aT γ36) 37 aT γ37) 38 aT γ38) 40 aT γ40) 42 aT γ42) 44 aT γ44) 45 aB γ45) 41 aT γ41
theorem T18 (p0 : aI) : bG SE (C18 Γ γ35 γ36 γ37 γ38 γ40 γ42 γ44 γ45 γ41) Λ2 J 18 [aI.av p0] [] [] =
 γ35 [aI.av p0] [] [] fun r0 =>
 cond (r0 != 0) (
 (some (.ret [.row 0, .d (.int .i64 r0)] [] [⟨[.int .u8], 5, 1, []⟩]))) (
 cond p0.Online (
 (some (.ret [.row 0, .d (.int .i64 9)] [] [⟨[.int .u8], 5, 1, []⟩]))) (
 γ36 [.d (.sl [.int .u8] (List.map (encI .u8) [])), .d (.str p0.Client)] [] [] fun r1 =>
 γ36 [.d (.sl [.int .u8] (List.map (encI .u8) r1)), .d (.str p0.User)] [] [] fun r2 =>
 γ37 [.d (.sl [.int .u8] (List.map (encI .u8) r2)), .d (.int .i64 p0.Expiry)] [] [] fun r3 =>
 γ37 [.d (.sl [.int .u8] (List.map (encI .u8) r3)), .d (.int .i64 p0.Until)] [] [] fun r4 =>
 γ37 [.d (.sl [.int .u8] (List.map (encI .u8) r4)), .d (.int .i64 p0.Dropped)] [] [] fun r5 =>
 γ38 [.d (.sl [.int .u8] (List.map (encI .u8) r5)), .d (.sl aK.ks (List.map aK.enc p0.Subs)), .fn 39 [] []] [] [] fun r6 =>
 γ40 [.d (.sl [.int .u8] (List.map (encI .u8) r6)), .d (.sl aC.ks (List.map aC.enc p0.Queue)), .fn 41 [] []] [] [] fun r7 =>
 γ37 [.d (.sl [.int .u8] (List.map (encI .u8) r7)), .d (.int .i64 p0.Out.Limit)] [] [] fun r8 =>
 γ42 [.d (.sl [.int .u8] (List.map (encI .u8) r8)), .d (.sl aE.ks (List.map aE.enc p0.Out.Items)), .fn 43 [] []] [] [] fun r9 =>
 γ44 [.d (.sl [.int .u8] (List.map (encI .u8) r9)), .d (.sl [.int .i64] (List.map eI p0.Out.Pool.Used)), .fn 37 [] []] [] [] fun r10 =>
 γ37 [.d (.sl [.int .u8] (List.map (encI .u8) r10)), .d (.int .i64 p0.Out.Pool.Last)] [] [] fun r11 =>
 γ44 [.d (.sl [.int .u8] (List.map (encI .u8) r11)), .d (.sl [.int .i64] (List.map eI p0.In.IDs)), .fn 37 [] []] [] [] fun r12 =>
 γ45 [.d (.bool p0.Will.Set)] [] [] fun r13 =>
 γ37 [.d (.sl [.int .u8] (List.map (encI .u8) r12)), .d (.int .i64 r13)] [] [] fun r14 =>
 cond p0.Will.Set (
 γ37 [.d (.sl [.int .u8] (List.map (encI .u8) r14)), .d (.int .i64 p0.Will.Delay)] [] [] fun r15 =>
 γ41 [.d (.sl [.int .u8] (List.map (encI .u8) r15)), aC.av p0.Will.Message] [] [] fun r16 =>
 (some (.ret [.row 0, .d (.int .i64 0)] [] [⟨[.int .u8], 5, 1, (List.map (encI .u8) r16)⟩]))) (
 (some (.ret [.row 0, .d (.int .i64 0)] [] [⟨[.int .u8], 5, 1, (List.map (encI .u8) r14)⟩]))))) := by kernel_rfl
end
abbrev X18 : aP := C18 gG (cT 35 aB) (cT 36 aT) (cT 37 aT) (cT 38 aT) (cT 40 aT) (cT 42 aT) (cT 44 aT) (cT 45 aB) (cT 41 aT)
theorem aGQ : X18 = aR gG := by unfold X18 C18; repeat rw [bD fun _ h => h]
theorem oM (p0 : aI) : Le (Option.map dP (j5 p0)) (bF SE 18 [aI.av p0] [] []) := by
 refine aW aGQ rfl ?_
 refine Le.trans ?_ (le_of_eq (T18 ..).symm)
 unfold j5
 refine lQ eX aM (adY _) fun r0 _ => ?_
 refine lC ?_ ?_
 ·exact aJ rfl
 ·refine lC ?_ ?_
  ·exact aJ rfl
  ·refine lQ eX bA (by (try simp only [EN]); exact mO [] p0.Client) fun r1 _ => ?_
   refine lQ eX bA (mO _ _) fun r2 _ => ?_
   refine lQ eX bA (dK _ _) fun r3 _ => ?_
   refine lQ eX bA (dK _ _) fun r4 _ => ?_
   refine lQ eX bA (dK _ _) fun r5 _ => ?_
   refine lQ eX bA (acS _ _) fun r6 _ => ?_
   refine lQ eX bA (aa4 _ _) fun r7 _ => ?_
   refine lQ eX bA (dK _ _) fun r8 _ => ?_
   refine lQ eX bA (abM _ _) fun r9 _ => ?_
   refine lQ eX bA (zS _ _) fun r10 _ => ?_
   refine lQ eX bA (dK _ _) fun r11 _ => ?_
   refine lQ eX bA (zS _ _) fun r12 _ => ?_
   refine lQ eX aM (agF _) fun r13 _ => ?_
   refine lQ eX bA (dK _ _) fun r14 _ => ?_
   refine lC ?_ ?_
   ·refine lQ eX bA (dK _ _) fun r15 _ => ?_
    refine lQ eX bA (ab3 _ _) fun r16 _ => ?_
    exact aJ rfl
   ·exact aJ rfl
section
variable (Γ : Fun)  (Λ2 J : Lam)
def aCj : aP := aR Γ
theorem aHI (p0 : Int) : bG SE (aCj Γ) Λ2 J 124 [.d (.int .u64 p0)] [] [] =
 cond ((fF .and .u64 p0 1) == 1) (
 (rI (w6 ((w6 (0 - (w6 (shr .u64 p0 1)))) - 1)))) (
 (rI (w6 (shr .u64 p0 1)))) := by kernel_rfl
end
abbrev aG8 : aP := aCj gG
theorem aED : aG8 = aR gG := rfl
theorem am3 (p0 : Int) : Le (Option.map aB (mX p0)) (bF SE 124 [.d (.int .u64 p0)] [] []) := by
 refine aW aED rfl ?_
 refine Le.trans ?_ (le_of_eq (aHI ..).symm)
 unfold mX
 refine lC ?_ ?_
 ·exact aJ rfl
 ·exact aJ rfl
def agl (C : aP) (Λ2 J : Lam) (a0 : List (List D)) (a1 a2 a3 a4 a5 : Int) (a6 a7 a8 : Bool) : Res := lab SE C Λ2 J 100 0 [1, 1, 1, 1, 0, 0, 0, 0, 1, 1, 1, 0] (aV [(0, .d (.sl [.int .u8] a0)), (1, .d (.int .i64 a1)), (7, .d (.int .u64 a2)), (8, .d (.int .i64 a3)), (9, .d (.int .u8 a4)), (39, .d (.int .i64 a5)), (40, .d (.bool a6)), (41, .d (.bool a7)), (44, .d (.bool a8))] [] [] [] [])
def aqE (C : aP) (Λ2 J : Lam) (a0 : List (List D)) (a1 a2 a3 : Int) : Res := lab SE C Λ2 J 100 0 [1, 1, 1, 1, 0] (aV [(0, .d (.sl [.int .u8] a0)), (1, .d (.int .i64 a1)), (7, .d (.int .u64 a2)), (8, .d (.int .i64 a3))] [] [] [] [])
def auI (C : aP) (Λ2 J : Lam) (a0 : List (List D)) (a1 : Int) : Res := lab SE C Λ2 J 100 0 [1, 1, 0] (aV [(0, .d (.sl [.int .u8] a0)), (1, .d (.int .i64 a1))] [] [] [] [])
section
variable (Γ : Fun) (γ124 : Gm (Int)) (Λ2 J : Lam)
def ab2 : aP := bB (aR Γ) 124 aB γ124
theorem aHD (p0 : List Int) (p1 : Int) : bG SE (ab2 Γ γ124) Λ2 J 100 [.d (.sl [.int .u8] (List.map (encI .u8) p0)), .d (.int .i64 p1)] [] [] =
 cond (decide (p1 < 0)) (
 (some (.ret [.d (.int .i64 0), .d (.int .i64 0), .d (.int .i64 1)] [] []))) (
 cond (decide (p1 > (lM (encI .u8) p0 : Int))) (
 (some (.ret [.d (.int .i64 0), .d (.int .i64 0), .d (.int .i64 1)] [] []))) (
 auI (ab2 Γ γ124) Λ2 J (List.map (encI .u8) p0) p1)) := by kernel_rfl
theorem ayg (x0 : List Int) (x1 x7 x8 x9 x39 : Int) (x40 x41 x44 : Bool) : bW SE (ab2 Γ γ124) Λ2 J 100 0 [1, 1, 1, 1, 0, 0, 0, 0, 1, 1, 1, 0] (aV [(0, .d (.sl [.int .u8] (List.map (encI .u8) x0))), (1, .d (.int .i64 x1)), (7, .d (.int .u64 x7)), (8, .d (.int .i64 x8)), (9, .d (.int .u8 x9)), (39, .d (.int .i64 x39)), (40, .d (.bool x40)), (41, .d (.bool x41)), (44, .d (.bool x44))] [] [] [] []) =
 cond (decide (0 ≤ (w6 (7 * x8)))) (
 cond (decide (x9 < 128)) (
  γ124 [.d (.int .u64 (fF .or .u64 x7 (shl .u64 (IntKind.wrap .u64 (fF .and .u8 x9 127)) (w6 (7 * x8)))))] [] [] fun r0 =>
  (some (.ret [.d (.int .i64 r0), .d (.int .i64 (w6 ((w6 (x1 + x8)) + 1))), .d (.int .i64 0)] [] []))) (
 aqE (ab2 Γ γ124) Λ2 J (List.map (encI .u8) x0) x1 ((fF .or .u64 x7 (shl .u64 (IntKind.wrap .u64 (fF .and .u8 x9 127)) (w6 (7 * x8))))) (w6 (x8 + 1)))) none := by kernel_rfl
theorem aBF (x0 : List Int) (x1 x7 x8 : Int) : bW SE (ab2 Γ γ124) Λ2 J 100 0 [1, 1, 1, 1, 0] (aV [(0, .d (.sl [.int .u8] (List.map (encI .u8) x0))), (1, .d (.int .i64 x1)), (7, .d (.int .u64 x7)), (8, .d (.int .i64 x8))] [] [] [] []) =
 cond ((w6 (x1 + x8)) == (lM (encI .u8) x0 : Int)) (
 (some (.ret [.d (.int .i64 0), .d (.int .i64 0), .d (.int .i64 3)] [] []))) (
 cond (iB (w6 (x1 + x8)) (lM (encI .u8) x0 : Int)) (
 cond (x8 == 9) (
  cond (decide ((aX (cE (encI .u8) x0 (w6 (x1 + x8)) 0)) > 1)) (
  (some (.ret [.d (.int .i64 0), .d (.int .i64 0), .d (.int .i64 2)] [] []))) (
  cond (decide (x8 > 0)) (
  cond ((aX (cE (encI .u8) x0 (w6 (x1 + x8)) 0)) == 0) (
   (some (.ret [.d (.int .i64 0), .d (.int .i64 0), .d (.int .i64 2)] [] []))) (
  agl (ab2 Γ γ124) Λ2 J (List.map (encI .u8) x0) x1 x7 x8 ((aX (cE (encI .u8) x0 (w6 (x1 + x8)) 0))) x8 (decide (x8 > 0)) true (((aX (cE (encI .u8) x0 (w6 (x1 + x8)) 0)) == 0)))) (
  agl (ab2 Γ γ124) Λ2 J (List.map (encI .u8) x0) x1 x7 x8 ((aX (cE (encI .u8) x0 (w6 (x1 + x8)) 0))) x8 (decide (x8 > 0)) false false))) (
 cond (decide (x8 > 0)) (
  cond ((aX (cE (encI .u8) x0 (w6 (x1 + x8)) 0)) == 0) (
  (some (.ret [.d (.int .i64 0), .d (.int .i64 0), .d (.int .i64 2)] [] []))) (
  agl (ab2 Γ γ124) Λ2 J (List.map (encI .u8) x0) x1 x7 x8 ((aX (cE (encI .u8) x0 (w6 (x1 + x8)) 0))) x8 (decide (x8 > 0)) true (((aX (cE (encI .u8) x0 (w6 (x1 + x8)) 0)) == 0)))) (
 agl (ab2 Γ γ124) Λ2 J (List.map (encI .u8) x0) x1 x7 x8 ((aX (cE (encI .u8) x0 (w6 (x1 + x8)) 0))) x8 (decide (x8 > 0)) false false))) none) := by kernel_rfl
theorem aA1 (x0 : List Int) (x1 : Int) : bW SE (ab2 Γ γ124) Λ2 J 100 0 [1, 1, 0] (aV [(0, .d (.sl [.int .u8] (List.map (encI .u8) x0))), (1, .d (.int .i64 x1))] [] [] [] []) =
 aqE (ab2 Γ γ124) Λ2 J (List.map (encI .u8) x0) x1 0 0 := by kernel_rfl
end
abbrev aiX : aP := ab2 gG (cT 124 aB)
theorem aoO : aiX = aR gG := by unfold aiX ab2; rw [bD fun _ h => h]
abbrev ayi := agl aiX (bV SE gG (SE.hl 100) (SE.hr 100)) (J0 SE aiX)
abbrev aub := aqE aiX (bV SE gG (SE.hl 100) (SE.hr 100)) (J0 SE aiX)
abbrev aAX := auI aiX (bV SE gG (SE.hl 100) (SE.hr 100)) (J0 SE aiX)
theorem xS (k6 : (List Int) → Int → Int → Int → Option (Int × Int × Int)) (hk6 : ∀ (x0 : List Int) (x1 x7 x8 : Int), Le (Option.map cW (k6 x0 x1 x7 x8)) (aub (List.map (encI .u8) x0) x1 x7 x8)) (x0 : List Int) (x1 x7 x8 x9 x39 : Int) (x40 x41 x44 : Bool) : Le (Option.map cW (mV k6 x0 x1 x7 x8 x9 x39 x40 x41 x44)) (ayi (List.map (encI .u8) x0) x1 x7 x8 x9 x39 x40 x41 x44) := by
 refine Le.trans ?_ (le_of_eq ((aZ aoO).trans (ayg ..)).symm)
 unfold mV
 refine lF ?_
 refine lC ?_ ?_
 ·refine lQ eX aM (am3 _) fun r0 _ => ?_
  exact aJ rfl
 ·(try simp only [EN]); exact hk6 x0 x1 ((fF .or .u64 x7 (shl .u64 (IntKind.wrap .u64 (fF .and .u8 x9 127)) (w6 (7 * x8))))) (w6 (x8 + 1))
theorem am1 : ∀ (fu : Nat) (x0 : List Int) (x1 x7 x8 : Int), Le (Option.map cW (eC fu x0 x1 x7 x8)) (aub (List.map (encI .u8) x0) x1 x7 x8) := by
 intro fu
 induction fu with
 | zero => intros; exact le_none
 | succ fu ih =>
  intro x0 x1 x7 x8
  refine Le.trans ?_ (le_of_eq ((aZ aoO).trans (aBF ..)).symm)
  unfold eC
  refine lD (by simp only [EN]) ?_ ?_
  ·exact aJ rfl
  ·refine lG (by simp only [EN]) ?_
   refine lC ?_ ?_
   ·refine lD (by simp only [EN]) ?_ ?_
    ·exact aJ rfl
    ·refine lC ?_ ?_
     ·refine lD (by simp only [EN]) ?_ ?_
      ·exact aJ rfl
      ·(try simp only [EN]); exact xS _ (ih) x0 x1 x7 x8 (List.getD x0 (Int.toNat (w6 (x1 + x8))) default) x8 (decide (x8 > 0)) true ((List.getD x0 (Int.toNat (w6 (x1 + x8))) default) == 0)
     ·(try simp only [EN]); exact xS _ (ih) x0 x1 x7 x8 (List.getD x0 (Int.toNat (w6 (x1 + x8))) default) x8 (decide (x8 > 0)) false false
   ·refine lC ?_ ?_
    ·refine lD (by simp only [EN]) ?_ ?_
     ·exact aJ rfl
     ·(try simp only [EN]); exact xS _ (ih) x0 x1 x7 x8 (List.getD x0 (Int.toNat (w6 (x1 + x8))) default) x8 (decide (x8 > 0)) true ((List.getD x0 (Int.toNat (w6 (x1 + x8))) default) == 0)
    ·(try simp only [EN]); exact xS _ (ih) x0 x1 x7 x8 (List.getD x0 (Int.toNat (w6 (x1 + x8))) default) x8 (decide (x8 > 0)) false false
theorem ank (x0 : List Int) (x1 : Int) : Le (Option.map cW (aah x0 x1)) (aAX (List.map (encI .u8) x0) x1) := by
 refine Le.trans ?_ (le_of_eq ((aZ aoO).trans (aA1 ..)).symm)
 unfold aah
 exact am1 fuel x0 x1 0 0
theorem afN (p0 : List Int) (p1 : Int) : Le (Option.map cW (vZ p0 p1)) (bF SE 100 [.d (.sl [.int .u8] (List.map (encI .u8) p0)), .d (.int .i64 p1)] [] []) := by
 refine aW aoO rfl ?_
 refine Le.trans ?_ (le_of_eq (aHD ..).symm)
 unfold vZ
 refine lC ?_ ?_
 ·exact aJ rfl
 ·refine lD (by simp only [EN]) ?_ ?_
  ·exact aJ rfl
  ·exact ank p0 p1
section
variable (Γ : Fun) (γ100 : Gm (Int × Int × Int)) (Λ2 J : Lam)
def C99 : aP := bB (aR Γ) 100 cW γ100
theorem T99 (p0 : List Int) (p1 p2 : Int) : bG SE (C99 Γ γ100) Λ2 J 99 [.d (.sl [.int .u8] (List.map (encI .u8) p0)), .d (.int .i64 p1), .d (.int .i64 p2)] [] [] =
 γ100 [.d (.sl [.int .u8] (List.map (encI .u8) p0)), .d (.int .i64 p1)] [] [] fun r0 =>
 cond (r0.2.2 != 0) (
 (some (.ret [.d (.str []), .d (.int .i64 0), .d (.int .i64 r0.2.2)] [] []))) (
 cond (decide (r0.1 < 0)) (
 (some (.ret [.d (.str []), .d (.int .i64 0), .d (.int .i64 2)] [] []))) (
 cond (decide (r0.1 > p2)) (
 (some (.ret [.d (.str []), .d (.int .i64 0), .d (.int .i64 5)] [] []))) (
 cond (decide (r0.1 > (w6 ((lM (encI .u8) p0 : Int) - r0.2.1)))) (
 (some (.ret [.d (.str []), .d (.int .i64 0), .d (.int .i64 3)] [] []))) (
 cond (decide (0 ≤ (w6 (r0.2.1 + r0.1))) && decide ((w6 (r0.2.1 + r0.1)) ≤ ((lM (encI .u8) p0) : Int))) (
 cond (decide (0 ≤ (w6 (r0.2.1 + r0.1))) && decide ((w6 (r0.2.1 + r0.1)) ≤ (w6 (r0.2.1 + r0.1)))) (
  cond (decide (0 ≤ r0.2.1) && decide (r0.2.1 ≤ (w6 (r0.2.1 + r0.1)))) (
  (some (.ret [.d (.str (aas (dB (List.map (encI .u8) p0) (some r0.2.1) (some (w6 (r0.2.1 + r0.1)))))), .d (.int .i64 (w6 (r0.2.1 + r0.1))), .d (.int .i64 0)] [] []))) none) none) none)))) := by kernel_rfl
end
abbrev X99 : aP := C99 gG (cT 100 cW)
theorem aH4 : X99 = aR gG := by unfold X99 C99; rw [bD fun _ h => h]
theorem ai1 (p0 : List Int) (p1 p2 : Int) : Le (Option.map gK (mN p0 p1 p2)) (bF SE 99 [.d (.sl [.int .u8] (List.map (encI .u8) p0)), .d (.int .i64 p1), .d (.int .i64 p2)] [] []) := by
 refine aW aH4 rfl ?_
 refine Le.trans ?_ (le_of_eq (T99 ..).symm)
 unfold mN
 refine lQ eX sP (afN _ _) fun r0 _ => ?_
 refine lC ?_ ?_
 ·exact aJ rfl
 ·refine lC ?_ ?_
  ·exact aJ rfl
  ·refine lC ?_ ?_
   ·exact aJ rfl
   ·refine lD (by simp only [EN]) ?_ ?_
    ·exact aJ rfl
    ·refine lG (by simp only [EN]) ?_
     refine lF ?_
     refine lF ?_
     exact aJ (by first | rfl | simp only [EN, gK] <;> rfl)
section
variable (Γ : Fun) (γ99 : Gm (Str × Int × Int)) (Λ2 J : Lam)
def C47 : aP := bB (aR Γ) 99 gK γ99
theorem T47 (p0 : aH) (p1 : Int) : bG SE (C47 Γ γ99) Λ2 J 47 [.ptr 2000000000 0, .d (.int .i64 p1)] [⟨85, (aH.avs p0)⟩] [] =
 cond (p0.err != 0) (
 (some (.ret [.d (.str [])] [⟨85, (aH.avs p0)⟩] []))) (
 γ99 [.d (.sl [.int .u8] (List.map (encI .u8) p0.b)), .d (.int .i64 p0.at_), .d (.int .i64 p1)] [] [] fun r0 =>
 cond (r0.2.2 != 0) (
 (some (.ret [.d (.str [])] [⟨85, (aH.avs (aH.mk p0.b p0.at_ r0.2.2))⟩] []))) (
 (some (.ret [.d (.str r0.1)] [⟨85, (aH.avs (aH.mk p0.b r0.2.1 p0.err))⟩] [])))) := by kernel_rfl
end
abbrev X47 : aP := C47 gG (cT 99 gK)
theorem aFP : X47 = aR gG := by unfold X47 C47; rw [bD fun _ h => h]
theorem rV (p0 : aH) (p1 : Int) : Le (Option.map eZ (eE p0 p1)) (bF SE 47 [.ptr 2000000000 0, .d (.int .i64 p1)] [⟨85, (aH.avs p0)⟩] []) := by
 refine aW aFP rfl ?_
 refine Le.trans ?_ (le_of_eq (T47 ..).symm)
 unfold eE
 refine lC ?_ ?_
 ·exact aJ rfl
 ·refine lQ eX ac4 (ai1 _ _ _) fun r0 _ => ?_
  refine lC ?_ ?_
  ·exact aJ rfl
  ·exact aJ rfl
section
variable (Γ : Fun) (γ100 : Gm (Int × Int × Int)) (Λ2 J : Lam)
def C48 : aP := bB (aR Γ) 100 cW γ100
theorem T48 (p0 : aH) : bG SE (C48 Γ γ100) Λ2 J 48 [.ptr 2000000000 0] [⟨85, (aH.avs p0)⟩] [] =
 cond (p0.err != 0) (
 (some (.ret [.d (.int .i64 0)] [⟨85, (aH.avs p0)⟩] []))) (
 γ100 [.d (.sl [.int .u8] (List.map (encI .u8) p0.b)), .d (.int .i64 p0.at_)] [] [] fun r0 =>
 cond (r0.2.2 != 0) (
 (some (.ret [.d (.int .i64 0)] [⟨85, (aH.avs (aH.mk p0.b p0.at_ r0.2.2))⟩] []))) (
 (some (.ret [.d (.int .i64 r0.1)] [⟨85, (aH.avs (aH.mk p0.b r0.2.1 p0.err))⟩] [])))) := by kernel_rfl
end
abbrev X48 : aP := C48 gG (cT 100 cW)
theorem aF4 : X48 = aR gG := by unfold X48 C48; rw [bD fun _ h => h]
theorem cQ (p0 : aH) : Le (Option.map bZ (bT p0)) (bF SE 48 [.ptr 2000000000 0] [⟨85, (aH.avs p0)⟩] []) := by
 refine aW aF4 rfl ?_
 refine Le.trans ?_ (le_of_eq (T48 ..).symm)
 unfold bT
 refine lC ?_ ?_
 ·exact aJ rfl
 ·refine lQ eX sP (afN _ _) fun r0 _ => ?_
  refine lC ?_ ?_
  ·exact aJ rfl
  ·exact aJ rfl
section
variable (Γ : Fun) (γ48 : Gm (Int × aH)) (Λ2 J : Lam)
def C56 : aP := bB (aR Γ) 48 bZ γ48
theorem T56 (p0 : aH) : bG SE (C56 Γ γ48) Λ2 J 56 [.ptr 2000000000 0] [⟨85, (aH.avs p0)⟩] [] =
 γ48 [.ptr 2000000000 0] [⟨85, (aH.avs p0)⟩] [] fun r0 =>
 cond (r0.2.err == 0) (
 cond (r0.1 != 0) (
  cond (r0.1 != 1) (
  (some (.ret [.d (.bool (r0.1 == 1))] [⟨85, (aH.avs (aH.mk r0.2.b r0.2.at_ 2))⟩] []))) (
  (some (.ret [.d (.bool (r0.1 == 1))] [⟨85, (aH.avs r0.2)⟩] [])))) (
 (some (.ret [.d (.bool (r0.1 == 1))] [⟨85, (aH.avs r0.2)⟩] [])))) (
 (some (.ret [.d (.bool (r0.1 == 1))] [⟨85, (aH.avs r0.2)⟩] []))) := by kernel_rfl
end
abbrev X56 : aP := C56 gG (cT 48 bZ)
theorem aGD : X56 = aR gG := by unfold X56 C56; rw [bD fun _ h => h]
theorem xT (p0 : aH) : Le (Option.map eY (iK p0)) (bF SE 56 [.ptr 2000000000 0] [⟨85, (aH.avs p0)⟩] []) := by
 refine aW aGD rfl ?_
 refine Le.trans ?_ (le_of_eq (T56 ..).symm)
 unfold iK
 refine lQ eX cN (cQ _) fun r0 _ => ?_
 refine lC ?_ ?_
 ·refine lC ?_ ?_
  ·refine lC ?_ ?_
   ·exact aJ rfl
   ·exact aJ rfl
  ·exact aJ rfl
 ·exact aJ rfl
section
variable (Γ : Fun) (γ47 : Gm (Str × aH)) (γ48 : Gm (Int × aH)) (γ56 : Gm (Bool × aH)) (Λ2 J : Lam)
def C50 : aP := bB (bB (bB (aR Γ) 47 eZ γ47) 48 bZ γ48) 56 eY γ56
theorem T50 (p0 : aH) : bG SE (C50 Γ γ47 γ48 γ56) Λ2 J 50 [.ptr 2000000000 0] [⟨85, (aH.avs p0)⟩] [] =
 γ47 [.ptr 2000000000 0, .d (.int .i64 88)] [⟨85, (aH.avs p0)⟩] [] fun r0 =>
 γ48 [.ptr 2000000000 0] [⟨85, (aH.avs r0.2)⟩] [] fun r1 =>
 γ56 [.ptr 2000000000 0] [⟨85, (aH.avs r1.2)⟩] [] fun r2 =>
 (some (.ret [aK.av (aK.mk r0.1 r1.1 r2.1)] [⟨85, (aH.avs r2.2)⟩] [])) := by kernel_rfl
end
abbrev X50 : aP := C50 gG (cT 47 eZ) (cT 48 bZ) (cT 56 eY)
theorem aGU : X50 = aR gG := by unfold X50 C50; repeat rw [bD fun _ h => h]
theorem ad9 (p0 : aH) : Le (Option.map iR (nM p0)) (bF SE 50 [.ptr 2000000000 0] [⟨85, (aH.avs p0)⟩] []) := by
 refine aW aGU rfl ?_
 refine Le.trans ?_ (le_of_eq (T50 ..).symm)
 unfold nM
 refine lQ eX rA (rV _ _) fun r0 _ => ?_
 refine lQ eX cN (cQ _) fun r1 _ => ?_
 refine lQ eX w4 (xT _) fun r2 _ => ?_
 exact aJ rfl
def aoZ (C : aP) (Λ2 J : Lam) (a0 : Int) (a1 : List D) (a2 : List (List D)) : Res := lab SE C Λ2 J 49 1 [1, 1, 1, 1, 1, 1, 0, 0] (aV [(0, .ptr 2000000000 0), (2, .fn 50 [.ptr 2000000000 0] []), (7, .d (.int .i64 a0)), (8, .row 3008)] [] [⟨85, (List.map AV.d a1)⟩] [] [(3008, ⟨aK.ks, 72, 32, a2⟩)])
section
variable (Γ : Fun) (γ48 : Gm (Int × aH)) (γ50 : Gm (aK × aH)) (Λ2 J : Lam)
def C49 : aP := bB (bB (aR Γ) 48 bZ γ48) 50 iR γ50
theorem T49 (p0 : aH) (p1 : Int) : bG SE (C49 Γ γ48 γ50) Λ2 J 49 [.ptr 2000000000 0, .d (.int .i64 p1), .fn 50 [.ptr 2000000000 0] []] [⟨85, (aH.avs p0)⟩] [] =
 γ48 [.ptr 2000000000 0] [⟨85, (aH.avs p0)⟩] [] fun r0 =>
 cond (r0.2.err != 0) (
 (some (.ret [.row 0] [⟨85, (aH.avs r0.2)⟩] [⟨aK.ks, 72, 32, []⟩]))) (
 cond (decide (r0.1 < 0)) (
 (some (.ret [.row 0] [⟨85, (aH.avs (aH.mk r0.2.b r0.2.at_ 2))⟩] [⟨aK.ks, 72, 32, []⟩]))) (
 cond (decide (r0.1 > p1)) (
 (some (.ret [.row 0] [⟨85, (aH.avs (aH.mk r0.2.b r0.2.at_ 5))⟩] [⟨aK.ks, 72, 32, []⟩]))) (
 aoZ (C49 Γ γ48 γ50) Λ2 J r0.1 (aH.enc r0.2) (List.map aK.enc [])))) := by kernel_rfl
theorem aCi (x7 : Int) (q0 : aH) (w3008 : List aK) : bW SE (C49 Γ γ48 γ50) Λ2 J 49 1 [1, 1, 1, 1, 1, 1, 0, 0] (aV [(0, .ptr 2000000000 0), (2, .fn 50 [.ptr 2000000000 0] []), (7, .d (.int .i64 x7)), (8, .row 3008)] [] [⟨85, (List.map AV.d (aH.enc q0))⟩] [] [(3008, ⟨aK.ks, 72, 32, (List.map aK.enc w3008)⟩)]) =
 cond (decide ((lM aK.enc w3008 : Int) < x7)) (
 cond (q0.err == 0) (
  γ50 [.ptr 2000000000 0] [⟨85, (aH.avs q0)⟩] [] fun r1 =>
  cond (decide ((lM aK.enc w3008 + lM aK.enc [r1.1]) * 32 ≤ 140737488355328)) (
  aoZ (C49 Γ γ48 γ50) Λ2 J x7 (aH.enc r1.2) (((List.map aK.enc w3008) ++ (List.map aK.enc [r1.1])))) none) (
 (some (.ret [.row 0] [⟨85, (aH.avs q0)⟩] [⟨aK.ks, 72, 32, (List.map aK.enc w3008)⟩])))) (
 (some (.ret [.row 0] [⟨85, (aH.avs q0)⟩] [⟨aK.ks, 72, 32, (List.map aK.enc w3008)⟩]))) := by kernel_rfl
end
abbrev X49 : aP := C49 gG (cT 48 bZ) (cT 50 iR)
theorem aAo : X49 = aR gG := by unfold X49 C49; repeat rw [bD fun _ h => h]
abbrev ayP := aoZ X49 (bV SE gG (SE.hl 49) (SE.hr 49)) (J0 SE X49)
theorem ab8 : ∀ (fu : Nat) (x7 : Int) (q0 : aH) (w3008 : List aK), Le (Option.map fW (kQ fu x7 q0 w3008)) (ayP x7 (aH.enc q0) (List.map aK.enc w3008)) := by
 intro fu
 induction fu with
 | zero => intros; exact le_none
 | succ fu ih =>
  intro x7 q0 w3008
  refine Le.trans ?_ (le_of_eq ((aZ aAo).trans (aCi ..)).symm)
  unfold kQ
  refine lD (by simp only [EN]) ?_ ?_
  ·refine lC ?_ ?_
   ·refine lQ eX adx (ad9 _) fun r1 _ => ?_
    refine lG (by simp only [EN]) ?_
    (try simp only [EN]); exact ih x7 r1.2 (w3008 ++ [r1.1])
   ·exact aJ rfl
  ·exact aJ rfl
theorem aeH (p0 : aH) (p1 : Int) : Le (Option.map fW (nG p0 p1)) (bF SE 49 [.ptr 2000000000 0, .d (.int .i64 p1), .fn 50 [.ptr 2000000000 0] []] [⟨85, (aH.avs p0)⟩] []) := by
 refine aW aAo rfl ?_
 refine Le.trans ?_ (le_of_eq (T49 ..).symm)
 unfold nG
 refine lQ eX cN (cQ _) fun r0 _ => ?_
 refine lC ?_ ?_
 ·exact aJ rfl
 ·refine lC ?_ ?_
  ·exact aJ rfl
  ·refine lC ?_ ?_
   ·exact aJ rfl
   ·(try simp only [EN]); exact ab8 fuel r0.1 r0.2 []
section
variable (Γ : Fun) (γ99 : Gm (Str × Int × Int)) (Λ2 J : Lam)
def ave : aP := bB (aR Γ) 99 gK γ99
theorem aGS (p0 : aN) (p1 : Int) : bG SE (ave Γ γ99) Λ2 J 125 [.ptr 2000000000 0, .d (.int .i64 p1)] [⟨153, (aN.avs p0)⟩] [] =
 cond (p0.e != 0) (
 (some (.ret [.d (.str [])] [⟨153, (aN.avs p0)⟩] []))) (
 γ99 [.d (.sl [.int .u8] (List.map (encI .u8) p0.b)), .d (.int .i64 p0.at_), .d (.int .i64 p1)] [] [] fun r0 =>
 cond (r0.2.2 == 0) (
 (some (.ret [.d (.str r0.1)] [⟨153, (aN.avs (aN.mk p0.b r0.2.1 r0.2.2))⟩] []))) (
 (some (.ret [.d (.str r0.1)] [⟨153, (aN.avs (aN.mk p0.b p0.at_ r0.2.2))⟩] [])))) := by kernel_rfl
end
abbrev azk : aP := ave gG (cT 99 gK)
theorem aCS : azk = aR gG := by unfold azk ave; rw [bD fun _ h => h]
theorem kN (p0 : aN) (p1 : Int) : Le (Option.map hX (cK p0 p1)) (bF SE 125 [.ptr 2000000000 0, .d (.int .i64 p1)] [⟨153, (aN.avs p0)⟩] []) := by
 refine aW aCS rfl ?_
 refine Le.trans ?_ (le_of_eq (aGS ..).symm)
 unfold cK
 refine lC ?_ ?_
 ·exact aJ rfl
 ·refine lQ eX ac4 (ai1 _ _ _) fun r0 _ => ?_
  refine lC ?_ ?_
  ·exact aJ rfl
  ·exact aJ rfl
section
variable (Γ : Fun) (γ100 : Gm (Int × Int × Int)) (Λ2 J : Lam)
def awE : aP := bB (aR Γ) 100 cW γ100
theorem aGv (p0 : aN) : bG SE (awE Γ γ100) Λ2 J 126 [.ptr 2000000000 0] [⟨153, (aN.avs p0)⟩] [] =
 cond (p0.e != 0) (
 (some (.ret [.d (.int .i64 0)] [⟨153, (aN.avs p0)⟩] []))) (
 γ100 [.d (.sl [.int .u8] (List.map (encI .u8) p0.b)), .d (.int .i64 p0.at_)] [] [] fun r0 =>
 cond (r0.2.2 == 0) (
 (some (.ret [.d (.int .i64 r0.1)] [⟨153, (aN.avs (aN.mk p0.b r0.2.1 r0.2.2))⟩] []))) (
 (some (.ret [.d (.int .i64 r0.1)] [⟨153, (aN.avs (aN.mk p0.b p0.at_ r0.2.2))⟩] [])))) := by kernel_rfl
end
abbrev aBq : aP := awE gG (cT 100 cW)
theorem aEi : aBq = aR gG := by unfold aBq awE; rw [bD fun _ h => h]
theorem jH (p0 : aN) : Le (Option.map iU (cG p0)) (bF SE 126 [.ptr 2000000000 0] [⟨153, (aN.avs p0)⟩] []) := by
 refine aW aEi rfl ?_
 refine Le.trans ?_ (le_of_eq (aGv ..).symm)
 unfold cG
 refine lC ?_ ?_
 ·exact aJ rfl
 ·refine lQ eX sP (afN _ _) fun r0 _ => ?_
  refine lC ?_ ?_
  ·exact aJ rfl
  ·exact aJ rfl
section
variable (Γ : Fun)  (Λ2 J : Lam)
def aAW : aP := aR Γ
theorem aHy (p0 : aN) (p1 : Bool) (p2 : Int) : bG SE (aAW Γ) Λ2 J 127 [.ptr 2000000000 0, .d (.bool p1), .d (.int .i64 p2)] [⟨153, (aN.avs p0)⟩] [] =
 cond (p0.e == 0) (
 cond (!p1) (
  (some (.ret [] [⟨153, (aN.avs (aN.mk p0.b p0.at_ p2))⟩] []))) (
 (some (.ret [] [⟨153, (aN.avs p0)⟩] [])))) (
 (some (.ret [] [⟨153, (aN.avs p0)⟩] []))) := by kernel_rfl
end
abbrev aHC : aP := aAW gG
theorem aDB : aHC = aR gG := rfl
theorem sC (p0 : aN) (p1 : Bool) (p2 : Int) : Le (Option.map hU (c7 p0 p1 p2)) (bF SE 127 [.ptr 2000000000 0, .d (.bool p1), .d (.int .i64 p2)] [⟨153, (aN.avs p0)⟩] []) := by
 refine aW aDB rfl ?_
 refine Le.trans ?_ (le_of_eq (aHy ..).symm)
 unfold c7
 refine lC ?_ ?_
 ·refine lC ?_ ?_
  ·exact aJ rfl
  ·exact aJ rfl
 ·exact aJ rfl
def arE (C : aP) (Λ2 J : Lam) (a0 a1 a2 : Int) (a3 : Bool) (a4 a5 : List D) (a6 a7 : Str) (a8 : Int) (a9 : Bool) (a10 a11 : Int) (a12 : Str) (a13 : Int) (a14 : List (List D)) : Res := lab SE C Λ2 J 101 0 [1, 1, 1, 1, 1, 1, 1, 1, 1, 1, 1, 1, 1, 1, 1, 1, 0, 1, 0, 0, 1, 0, 0, 0] (aV [(4, .ptr 1000000000 0), (7, .ptr 1000000001 0), (8, .ptr 1000000002 0), (10, .d (.int .i64 a0)), (11, .d (.int .i64 a1)), (62, .ptr 1000000001 0), (63, .ptr 1000000001 0), (64, .ptr 1000000001 2), (65, .d (.int .i64 a2)), (66, .d (.bool a3))] [⟨42, (List.map AV.d a4)⟩, ⟨153, (List.map AV.d a5)⟩, ⟨42, [.d (.str a6), .d (.str a7), .d (.int .i64 a8), .d (.bool a9), .d (.int .i64 a10), .d (.int .i64 a11), .d (.str a12), .d (.int .i64 a13), .row 50208]⟩] [] [] [(50208, ⟨aG.ks, 128, 32, a14⟩)])
def amD (C : aP) (Λ2 J : Lam) (a0 a1 : List D) (a2 a3 : Str) (a4 : Int) (a5 : Bool) (a6 a7 : Int) (a8 : Str) (a9 : Int) (a10 : List (List D)) : Res := lab SE C Λ2 J 101 0 [1, 1, 1, 1, 1, 1, 1, 1, 1, 1, 1, 1, 1, 1, 1, 1, 1, 1, 0, 0] (aV [(4, .ptr 1000000000 0), (7, .ptr 1000000001 0), (8, .ptr 1000000002 0)] [⟨42, (List.map AV.d a0)⟩, ⟨153, (List.map AV.d a1)⟩, ⟨42, [.d (.str a2), .d (.str a3), .d (.int .i64 a4), .d (.bool a5), .d (.int .i64 a6), .d (.int .i64 a7), .d (.str a8), .d (.int .i64 a9), .row 50208]⟩] [] [] [(50208, ⟨aG.ks, 128, 32, a10⟩)])
def am2 (C : aP) (Λ2 J : Lam) (a0 a1 : List D) (a2 a3 : Str) (a4 : Int) (a5 : Bool) (a6 a7 : Int) (a8 : Str) (a9 : Int) (a10 : List (List D)) : Res := lab SE C Λ2 J 101 0 [1, 1, 1, 1, 1, 1, 1, 1, 1, 1, 1, 1, 1, 1, 1, 1, 1, 0, 0] (aV [(4, .ptr 1000000000 0), (7, .ptr 1000000001 0), (8, .ptr 1000000002 0)] [⟨42, (List.map AV.d a0)⟩, ⟨153, (List.map AV.d a1)⟩, ⟨42, [.d (.str a2), .d (.str a3), .d (.int .i64 a4), .d (.bool a5), .d (.int .i64 a6), .d (.int .i64 a7), .d (.str a8), .d (.int .i64 a9), .row 50208]⟩] [] [] [(50208, ⟨aG.ks, 128, 32, a10⟩)])
def amN (C : aP) (Λ2 J : Lam) (a0 a1 : Int) (a2 a3 : List D) (a4 a5 : Str) (a6 : Int) (a7 : Bool) (a8 a9 : Int) (a10 : Str) (a11 : Int) (a12 : List (List D)) : Res := lab SE C Λ2 J 101 0 [1, 1, 1, 1, 1, 1, 1, 1, 1, 1, 1, 1, 1, 1, 1, 1, 0, 1, 0] (aV [(4, .ptr 1000000000 0), (7, .ptr 1000000001 0), (8, .ptr 1000000002 0), (10, .d (.int .i64 a0)), (11, .d (.int .i64 a1))] [⟨42, (List.map AV.d a2)⟩, ⟨153, (List.map AV.d a3)⟩, ⟨42, [.d (.str a4), .d (.str a5), .d (.int .i64 a6), .d (.bool a7), .d (.int .i64 a8), .d (.int .i64 a9), .d (.str a10), .d (.int .i64 a11), .row 50208]⟩] [] [] [(50208, ⟨aG.ks, 128, 32, a12⟩)])
section
variable (Γ : Fun) (γ125 : Gm (Str × aN)) (γ126 : Gm (Int × aN)) (γ128 : Gm (Bool)) (γ127 : Gm (aN)) (γ118 : Gm (Int)) (Λ2 J : Lam)
def abI : aP := bB (bB (bB (bB (bB (aR Γ) 125 hX γ125) 126 iU γ126) 128 brokerlaw43_light_out γ128) 127 hU γ127) 118 aB γ118
theorem aFO (p0 : List Int) (p1 : Int) : bG SE (abI Γ γ125 γ126 γ128 γ127 γ118) Λ2 J 101 [.d (.sl [.int .u8] (List.map (encI .u8) p0)), .d (.int .i64 p1)] [] [] =
 γ125 [.ptr 2000000000 0, .d (.int .i64 64)] [⟨153, (aN.avs (aN.mk p0 p1 0))⟩] [] fun r0 =>
 γ125 [.ptr 2000000000 0, .d (.int .i64 256)] [⟨153, (aN.avs r0.2)⟩] [] fun r1 =>
 γ126 [.ptr 2000000000 0] [⟨153, (aN.avs r1.2)⟩] [] fun r2 =>
 γ126 [.ptr 2000000000 0] [⟨153, (aN.avs r2.2)⟩] [] fun r3 =>
 γ128 [.d (.int .i64 r3.1), .d (.int .i64 1)] [] [] fun r4 =>
 γ127 [.ptr 2000000000 0, .d (.bool r4), .d (.int .i64 2)] [⟨153, (aN.avs r3.2)⟩] [] fun r5 =>
 γ126 [.ptr 2000000000 0] [⟨153, (aN.avs r5)⟩] [] fun r6 =>
 γ126 [.ptr 2000000000 0] [⟨153, (aN.avs r6.2)⟩] [] fun r7 =>
 γ125 [.ptr 2000000000 0, .d (.int .i64 16)] [⟨153, (aN.avs r7.2)⟩] [] fun r8 =>
 γ126 [.ptr 2000000000 0] [⟨153, (aN.avs r8.2)⟩] [] fun r9 =>
 γ126 [.ptr 2000000000 0] [⟨153, (aN.avs r9.2)⟩] [] fun r10 =>
 γ127 [.ptr 2000000000 0, .d (.bool (decide (r10.1 ≥ 0))), .d (.int .i64 2)] [⟨153, (aN.avs r10.2)⟩] [] fun r11 =>
 γ127 [.ptr 2000000000 0, .d (.bool (decide (r10.1 ≤ 8))), .d (.int .i64 5)] [⟨153, (aN.avs r11)⟩] [] fun r12 =>
 amN (abI Γ γ125 γ126 γ128 γ127 γ118) Λ2 J r10.1 0 [D.str [], D.str [], D.int .i64 0, D.bool false, D.int .i64 0, D.int .i64 0, D.str [], D.int .i64 0, D.sl aG.ks (List.map aG.enc [])] (aN.enc r12) r0.1 r1.1 r2.1 (r3.1 == 1) r6.1 r7.1 r8.1 r9.1 (List.map aG.enc []) := by kernel_rfl
theorem ax8 (x10 x11 x65 : Int) (x66 : Bool) (b0 : aC) (b1 : aN) (b2_0 b2_1 : Str) (b2_2 : Int) (b2_3 : Bool) (b2_4 b2_5 : Int) (b2_6 : Str) (b2_7 : Int) (w50208 : List aG) : bW SE (abI Γ γ125 γ126 γ128 γ127 γ118) Λ2 J 101 0 [1, 1, 1, 1, 1, 1, 1, 1, 1, 1, 1, 1, 1, 1, 1, 1, 0, 1, 0, 0, 1, 0, 0, 0] (aV [(4, .ptr 1000000000 0), (7, .ptr 1000000001 0), (8, .ptr 1000000002 0), (10, .d (.int .i64 x10)), (11, .d (.int .i64 x11)), (62, .ptr 1000000001 0), (63, .ptr 1000000001 0), (64, .ptr 1000000001 2), (65, .d (.int .i64 x65)), (66, .d (.bool x66))] [⟨42, (List.map AV.d (aC.enc b0))⟩, ⟨153, (List.map AV.d (aN.enc b1))⟩, ⟨42, [.d (.str b2_0), .d (.str b2_1), .d (.int .i64 b2_2), .d (.bool b2_3), .d (.int .i64 b2_4), .d (.int .i64 b2_5), .d (.str b2_6), .d (.int .i64 b2_7), .row 50208]⟩] [] [] [(50208, ⟨aG.ks, 128, 32, (List.map aG.enc w50208)⟩)]) =
 γ125 [.ptr 2000000000 0, .d (.int .i64 16)] [⟨153, (aN.avs b1)⟩] [] fun r13 =>
 γ125 [.ptr 2000000000 0, .d (.int .i64 160)] [⟨153, (aN.avs r13.2)⟩] [] fun r14 =>
 cond (decide ((lM aG.enc w50208 + lM aG.enc [(aG.mk r13.1 r14.1)]) * 32 ≤ 140737488355328)) (
 amN (abI Γ γ125 γ126 γ128 γ127 γ118) Λ2 J x10 (w6 (x11 + 1)) (aC.enc b0) (aN.enc r14.2) b2_0 b2_1 b2_2 b2_3 b2_4 b2_5 b2_6 b2_7 (((List.map aG.enc w50208) ++ (List.map aG.enc [(aG.mk r13.1 r14.1)])))) none := by kernel_rfl
theorem ayx (b0 : aC) (b1 : aN) (b2_0 b2_1 : Str) (b2_2 : Int) (b2_3 : Bool) (b2_4 b2_5 : Int) (b2_6 : Str) (b2_7 : Int) (w50208 : List aG) : bW SE (abI Γ γ125 γ126 γ128 γ127 γ118) Λ2 J 101 0 [1, 1, 1, 1, 1, 1, 1, 1, 1, 1, 1, 1, 1, 1, 1, 1, 1, 1, 0, 0] (aV [(4, .ptr 1000000000 0), (7, .ptr 1000000001 0), (8, .ptr 1000000002 0)] [⟨42, (List.map AV.d (aC.enc b0))⟩, ⟨153, (List.map AV.d (aN.enc b1))⟩, ⟨42, [.d (.str b2_0), .d (.str b2_1), .d (.int .i64 b2_2), .d (.bool b2_3), .d (.int .i64 b2_4), .d (.int .i64 b2_5), .d (.str b2_6), .d (.int .i64 b2_7), .row 50208]⟩] [] [] [(50208, ⟨aG.ks, 128, 32, (List.map aG.enc w50208)⟩)]) =
 cond (b1.e != 0) (
 (some (.ret [.agg [.d (.str []), .d (.str []), .d (.int .i64 0), .d (.bool false), .d (.int .i64 0), .d (.int .i64 0), .d (.str []), .d (.int .i64 0), .row 0], .d (.int .i64 0), .d (.int .i64 b1.e)] [] [⟨aG.ks, 128, 32, (List.map aG.enc [])⟩]))) (
 (some (.ret [.agg [.d (.str b2_0), .d (.str b2_1), .d (.int .i64 b2_2), .d (.bool b2_3), .d (.int .i64 b2_4), .d (.int .i64 b2_5), .d (.str b2_6), .d (.int .i64 b2_7), .row 0], .d (.int .i64 b1.at_), .d (.int .i64 0)] [] [⟨aG.ks, 128, 32, (List.map aG.enc w50208)⟩]))) := by kernel_rfl
theorem ayu (b0 : aC) (b1 : aN) (b2_0 b2_1 : Str) (b2_2 : Int) (b2_3 : Bool) (b2_4 b2_5 : Int) (b2_6 : Str) (b2_7 : Int) (w50208 : List aG) : bW SE (abI Γ γ125 γ126 γ128 γ127 γ118) Λ2 J 101 0 [1, 1, 1, 1, 1, 1, 1, 1, 1, 1, 1, 1, 1, 1, 1, 1, 1, 0, 0] (aV [(4, .ptr 1000000000 0), (7, .ptr 1000000001 0), (8, .ptr 1000000002 0)] [⟨42, (List.map AV.d (aC.enc b0))⟩, ⟨153, (List.map AV.d (aN.enc b1))⟩, ⟨42, [.d (.str b2_0), .d (.str b2_1), .d (.int .i64 b2_2), .d (.bool b2_3), .d (.int .i64 b2_4), .d (.int .i64 b2_5), .d (.str b2_6), .d (.int .i64 b2_7), .row 50208]⟩] [] [] [(50208, ⟨aG.ks, 128, 32, (List.map aG.enc w50208)⟩)]) =
 cond (b1.e == 0) (
 γ118 [aC.av (aC.mk b2_0 b2_1 b2_2 b2_3 b2_4 b2_5 b2_6 b2_7 w50208)] [] [] fun r15 =>
 amD (abI Γ γ125 γ126 γ128 γ127 γ118) Λ2 J (aC.enc b0) (aN.enc (aN.mk b1.b b1.at_ r15)) b2_0 b2_1 b2_2 b2_3 b2_4 b2_5 b2_6 b2_7 (List.map aG.enc w50208)) (
 amD (abI Γ γ125 γ126 γ128 γ127 γ118) Λ2 J (aC.enc b0) (aN.enc b1) b2_0 b2_1 b2_2 b2_3 b2_4 b2_5 b2_6 b2_7 (List.map aG.enc w50208)) := by kernel_rfl
theorem ayI (x10 x11 : Int) (b0 : aC) (b1 : aN) (b2_0 b2_1 : Str) (b2_2 : Int) (b2_3 : Bool) (b2_4 b2_5 : Int) (b2_6 : Str) (b2_7 : Int) (w50208 : List aG) : bW SE (abI Γ γ125 γ126 γ128 γ127 γ118) Λ2 J 101 0 [1, 1, 1, 1, 1, 1, 1, 1, 1, 1, 1, 1, 1, 1, 1, 1, 0, 1, 0] (aV [(4, .ptr 1000000000 0), (7, .ptr 1000000001 0), (8, .ptr 1000000002 0), (10, .d (.int .i64 x10)), (11, .d (.int .i64 x11))] [⟨42, (List.map AV.d (aC.enc b0))⟩, ⟨153, (List.map AV.d (aN.enc b1))⟩, ⟨42, [.d (.str b2_0), .d (.str b2_1), .d (.int .i64 b2_2), .d (.bool b2_3), .d (.int .i64 b2_4), .d (.int .i64 b2_5), .d (.str b2_6), .d (.int .i64 b2_7), .row 50208]⟩] [] [] [(50208, ⟨aG.ks, 128, 32, (List.map aG.enc w50208)⟩)]) =
 cond (decide (x11 < x10)) (
 cond (b1.e == 0) (
  arE (abI Γ γ125 γ126 γ128 γ127 γ118) Λ2 J x10 x11 b1.e (b1.e == 0) (aC.enc b0) (aN.enc b1) b2_0 b2_1 b2_2 b2_3 b2_4 b2_5 b2_6 b2_7 (List.map aG.enc w50208)) (
 am2 (abI Γ γ125 γ126 γ128 γ127 γ118) Λ2 J (aC.enc b0) (aN.enc b1) b2_0 b2_1 b2_2 b2_3 b2_4 b2_5 b2_6 b2_7 (List.map aG.enc w50208))) (
 am2 (abI Γ γ125 γ126 γ128 γ127 γ118) Λ2 J (aC.enc b0) (aN.enc b1) b2_0 b2_1 b2_2 b2_3 b2_4 b2_5 b2_6 b2_7 (List.map aG.enc w50208)) := by kernel_rfl
end
abbrev afB : aP := abI gG (cT 125 hX) (cT 126 iU) (cT 128 brokerlaw43_light_out) (cT 127 hU) (cT 118 aB)
theorem amj : afB = aR gG := by unfold afB abI; repeat rw [bD fun _ h => h]
abbrev ax9 := arE afB (bV SE gG (SE.hl 101) (SE.hr 101)) (J0 SE afB)
abbrev ayG := amD afB (bV SE gG (SE.hl 101) (SE.hr 101)) (J0 SE afB)
abbrev ax7 := am2 afB (bV SE gG (SE.hl 101) (SE.hr 101)) (J0 SE afB)
abbrev art := amN afB (bV SE gG (SE.hl 101) (SE.hr 101)) (J0 SE afB)
theorem aik (k17 : Int → Int → aC → aN → Str → Str → Int → Bool → Int → Int → Str → Int → (List aG) → Option (aC × Int × Int)) (hk17 : ∀ (x10 x11 : Int) (b0 : aC) (b1 : aN) (b2_0 b2_1 : Str) (b2_2 : Int) (b2_3 : Bool) (b2_4 b2_5 : Int) (b2_6 : Str) (b2_7 : Int) (w50208 : List aG), Le (Option.map gR (k17 x10 x11 b0 b1 b2_0 b2_1 b2_2 b2_3 b2_4 b2_5 b2_6 b2_7 w50208)) (art x10 x11 (aC.enc b0) (aN.enc b1) b2_0 b2_1 b2_2 b2_3 b2_4 b2_5 b2_6 b2_7 (List.map aG.enc w50208))) (x10 x11 x65 : Int) (x66 : Bool) (b0 : aC) (b1 : aN) (b2_0 b2_1 : Str) (b2_2 : Int) (b2_3 : Bool) (b2_4 b2_5 : Int) (b2_6 : Str) (b2_7 : Int) (w50208 : List aG) : Le (Option.map gR (wB k17 x10 x11 x65 x66 b0 b1 b2_0 b2_1 b2_2 b2_3 b2_4 b2_5 b2_6 b2_7 w50208)) (ax9 x10 x11 x65 x66 (aC.enc b0) (aN.enc b1) b2_0 b2_1 b2_2 b2_3 b2_4 b2_5 b2_6 b2_7 (List.map aG.enc w50208)) := by
 refine Le.trans ?_ (le_of_eq ((aZ amj).trans (ax8 ..)).symm)
 unfold wB
 refine lQ eX j2 (kN _ _) fun r13 _ => ?_
 refine lQ eX j2 (kN _ _) fun r14 _ => ?_
 refine lG (by simp only [EN]) ?_
 (try simp only [EN]); exact hk17 x10 (w6 (x11 + 1)) b0 r14.2 b2_0 b2_1 b2_2 b2_3 b2_4 b2_5 b2_6 b2_7 (w50208 ++ [(aG.mk r13.1 r14.1)])
theorem abV (b0 : aC) (b1 : aN) (b2_0 b2_1 : Str) (b2_2 : Int) (b2_3 : Bool) (b2_4 b2_5 : Int) (b2_6 : Str) (b2_7 : Int) (w50208 : List aG) : Le (Option.map gR (pF b0 b1 b2_0 b2_1 b2_2 b2_3 b2_4 b2_5 b2_6 b2_7 w50208)) (ayG (aC.enc b0) (aN.enc b1) b2_0 b2_1 b2_2 b2_3 b2_4 b2_5 b2_6 b2_7 (List.map aG.enc w50208)) := by
 refine Le.trans ?_ (le_of_eq ((aZ amj).trans (ayx ..)).symm)
 unfold pF
 refine lC ?_ ?_
 ·exact aJ rfl
 ·exact aJ rfl
theorem abW (b0 : aC) (b1 : aN) (b2_0 b2_1 : Str) (b2_2 : Int) (b2_3 : Bool) (b2_4 b2_5 : Int) (b2_6 : Str) (b2_7 : Int) (w50208 : List aG) : Le (Option.map gR (nA b0 b1 b2_0 b2_1 b2_2 b2_3 b2_4 b2_5 b2_6 b2_7 w50208)) (ax7 (aC.enc b0) (aN.enc b1) b2_0 b2_1 b2_2 b2_3 b2_4 b2_5 b2_6 b2_7 (List.map aG.enc w50208)) := by
 refine Le.trans ?_ (le_of_eq ((aZ amj).trans (ayu ..)).symm)
 unfold nA
 refine lC ?_ ?_
 ·refine lQ eX aM (wJ _) fun r15 _ => ?_
  exact abV b0 (aN.mk b1.b b1.at_ r15) b2_0 b2_1 b2_2 b2_3 b2_4 b2_5 b2_6 b2_7 w50208
 ·exact abV b0 b1 b2_0 b2_1 b2_2 b2_3 b2_4 b2_5 b2_6 b2_7 w50208
theorem ah3 : ∀ (fu : Nat) (x10 x11 : Int) (b0 : aC) (b1 : aN) (b2_0 b2_1 : Str) (b2_2 : Int) (b2_3 : Bool) (b2_4 b2_5 : Int) (b2_6 : Str) (b2_7 : Int) (w50208 : List aG), Le (Option.map gR (fN fu x10 x11 b0 b1 b2_0 b2_1 b2_2 b2_3 b2_4 b2_5 b2_6 b2_7 w50208)) (art x10 x11 (aC.enc b0) (aN.enc b1) b2_0 b2_1 b2_2 b2_3 b2_4 b2_5 b2_6 b2_7 (List.map aG.enc w50208)) := by
 intro fu
 induction fu with
 | zero => intros; exact le_none
 | succ fu ih =>
  intro x10 x11 b0 b1 b2_0 b2_1 b2_2 b2_3 b2_4 b2_5 b2_6 b2_7 w50208
  refine Le.trans ?_ (le_of_eq ((aZ amj).trans (ayI ..)).symm)
  unfold fN
  refine lC ?_ ?_
  ·refine lC ?_ ?_
   ·exact aik _ (ih) x10 x11 b1.e (b1.e == 0) b0 b1 b2_0 b2_1 b2_2 b2_3 b2_4 b2_5 b2_6 b2_7 w50208
   ·exact abW b0 b1 b2_0 b2_1 b2_2 b2_3 b2_4 b2_5 b2_6 b2_7 w50208
  ·exact abW b0 b1 b2_0 b2_1 b2_2 b2_3 b2_4 b2_5 b2_6 b2_7 w50208
theorem alv (p0 : List Int) (p1 : Int) : Le (Option.map gR (sR p0 p1)) (bF SE 101 [.d (.sl [.int .u8] (List.map (encI .u8) p0)), .d (.int .i64 p1)] [] []) := by
 refine aW amj rfl ?_
 refine Le.trans ?_ (le_of_eq (aFO ..).symm)
 unfold sR
 refine lQ eX j2 (kN _ _) fun r0 _ => ?_
 refine lQ eX j2 (kN _ _) fun r1 _ => ?_
 refine lQ eX iS (jH _) fun r2 _ => ?_
 refine lQ eX iS (jH _) fun r3 _ => ?_
 refine lQ eX brokerlaw43_light_inj (tX _ _) fun r4 _ => ?_
 refine lQ eX rE (sC _ _ _) fun r5 _ => ?_
 refine lQ eX iS (jH _) fun r6 _ => ?_
 refine lQ eX iS (jH _) fun r7 _ => ?_
 refine lQ eX j2 (kN _ _) fun r8 _ => ?_
 refine lQ eX iS (jH _) fun r9 _ => ?_
 refine lQ eX iS (jH _) fun r10 _ => ?_
 refine lQ eX rE (sC _ _ _) fun r11 _ => ?_
 refine lQ eX rE (sC _ _ _) fun r12 _ => ?_
 (try simp only [EN]); exact ah3 fuel r10.1 0 ((aC.mk [] [] 0 false 0 0 [] 0 [])) r12 r0.1 r1.1 r2.1 (r3.1 == 1) r6.1 r7.1 r8.1 r9.1 []
section
variable (Γ : Fun) (γ101 : Gm (aC × Int × Int)) (Λ2 J : Lam)
def C52 : aP := bB (aR Γ) 101 gR γ101
theorem T52 (p0 : aH) : bG SE (C52 Γ γ101) Λ2 J 52 [.ptr 2000000000 0] [⟨85, (aH.avs p0)⟩] [] =
 cond (p0.err != 0) (
 (some (.ret [.agg [.d (.str []), .d (.str []), .d (.int .i64 0), .d (.bool false), .d (.int .i64 0), .d (.int .i64 0), .d (.str []), .d (.int .i64 0), .row 0]] [⟨85, (aH.avs p0)⟩] [⟨aG.ks, 128, 32, (List.map aG.enc [])⟩]))) (
 γ101 [.d (.sl [.int .u8] (List.map (encI .u8) p0.b)), .d (.int .i64 p0.at_)] [] [] fun r0 =>
 cond (r0.2.2 != 0) (
 (some (.ret [.agg [.d (.str []), .d (.str []), .d (.int .i64 0), .d (.bool false), .d (.int .i64 0), .d (.int .i64 0), .d (.str []), .d (.int .i64 0), .row 0]] [⟨85, (aH.avs (aH.mk p0.b p0.at_ r0.2.2))⟩] [⟨aG.ks, 128, 32, (List.map aG.enc [])⟩]))) (
 (some (.ret [.agg [.d (.str r0.1.Topic), .d (.str r0.1.Payload), .d (.int .i64 r0.1.Level), .d (.bool r0.1.Retain), .d (.int .i64 r0.1.Priority), .d (.int .i64 r0.1.Expires), .d (.str r0.1.From), .d (.int .i64 r0.1.Seq), .row 0]] [⟨85, (aH.avs (aH.mk p0.b r0.2.1 p0.err))⟩] [⟨aG.ks, 128, 32, (List.map aG.enc r0.1.Props)⟩])))) := by kernel_rfl
end
abbrev X52 : aP := C52 gG (cT 101 gR)
theorem aHY : X52 = aR gG := by unfold X52 C52; rw [bD fun _ h => h]
theorem pH (p0 : aH) : Le (Option.map dL (dY p0)) (bF SE 52 [.ptr 2000000000 0] [⟨85, (aH.avs p0)⟩] []) := by
 refine aW aHY rfl ?_
 refine Le.trans ?_ (le_of_eq (T52 ..).symm)
 unfold dY
 refine lC ?_ ?_
 ·exact aJ rfl
 ·refine lQ eX akJ (alv _ _) fun r0 _ => ?_
  refine lC ?_ ?_
  ·exact aJ rfl
  ·exact aJ rfl
def ao0 (C : aP) (Λ2 J : Lam) (a0 : Int) (a1 : List D) (a2 : List (List D)) : Res := lab SE C Λ2 J 51 1 [1, 1, 1, 1, 1, 1, 0, 0] (aV [(0, .ptr 2000000000 0), (2, .fn 52 [.ptr 2000000000 0] []), (7, .d (.int .i64 a0)), (8, .row 3008)] [] [⟨85, (List.map AV.d a1)⟩] [] [(3008, ⟨aC.ks, 42, 112, a2⟩)])
section
variable (Γ : Fun) (γ48 : Gm (Int × aH)) (γ52 : Gm (aC × aH)) (Λ2 J : Lam)
def C51 : aP := bB (bB (aR Γ) 48 bZ γ48) 52 dL γ52
theorem T51 (p0 : aH) (p1 : Int) : bG SE (C51 Γ γ48 γ52) Λ2 J 51 [.ptr 2000000000 0, .d (.int .i64 p1), .fn 52 [.ptr 2000000000 0] []] [⟨85, (aH.avs p0)⟩] [] =
 γ48 [.ptr 2000000000 0] [⟨85, (aH.avs p0)⟩] [] fun r0 =>
 cond (r0.2.err != 0) (
 (some (.ret [.row 0] [⟨85, (aH.avs r0.2)⟩] [⟨aC.ks, 42, 112, []⟩]))) (
 cond (decide (r0.1 < 0)) (
 (some (.ret [.row 0] [⟨85, (aH.avs (aH.mk r0.2.b r0.2.at_ 2))⟩] [⟨aC.ks, 42, 112, []⟩]))) (
 cond (decide (r0.1 > p1)) (
 (some (.ret [.row 0] [⟨85, (aH.avs (aH.mk r0.2.b r0.2.at_ 5))⟩] [⟨aC.ks, 42, 112, []⟩]))) (
 ao0 (C51 Γ γ48 γ52) Λ2 J r0.1 (aH.enc r0.2) (List.map aC.enc [])))) := by kernel_rfl
theorem aAl (x7 : Int) (q0 : aH) (w3008 : List aC) : bW SE (C51 Γ γ48 γ52) Λ2 J 51 1 [1, 1, 1, 1, 1, 1, 0, 0] (aV [(0, .ptr 2000000000 0), (2, .fn 52 [.ptr 2000000000 0] []), (7, .d (.int .i64 x7)), (8, .row 3008)] [] [⟨85, (List.map AV.d (aH.enc q0))⟩] [] [(3008, ⟨aC.ks, 42, 112, (List.map aC.enc w3008)⟩)]) =
 cond (decide ((lM aC.enc w3008 : Int) < x7)) (
 cond (q0.err == 0) (
  γ52 [.ptr 2000000000 0] [⟨85, (aH.avs q0)⟩] [] fun r1 =>
  cond (decide ((lM aC.enc w3008 + lM aC.enc [r1.1]) * 112 ≤ 140737488355328)) (
  ao0 (C51 Γ γ48 γ52) Λ2 J x7 (aH.enc r1.2) (((List.map aC.enc w3008) ++ (List.map aC.enc [r1.1])))) none) (
 (some (.ret [.row 0] [⟨85, (aH.avs q0)⟩] [⟨aC.ks, 42, 112, (List.map aC.enc w3008)⟩])))) (
 (some (.ret [.row 0] [⟨85, (aH.avs q0)⟩] [⟨aC.ks, 42, 112, (List.map aC.enc w3008)⟩]))) := by kernel_rfl
end
abbrev X51 : aP := C51 gG (cT 48 bZ) (cT 52 dL)
theorem azN : X51 = aR gG := by unfold X51 C51; repeat rw [bD fun _ h => h]
abbrev aBx := ao0 X51 (bV SE gG (SE.hl 51) (SE.hr 51)) (J0 SE X51)
theorem aaD : ∀ (fu : Nat) (x7 : Int) (q0 : aH) (w3008 : List aC), Le (Option.map fA (iY fu x7 q0 w3008)) (aBx x7 (aH.enc q0) (List.map aC.enc w3008)) := by
 intro fu
 induction fu with
 | zero => intros; exact le_none
 | succ fu ih =>
  intro x7 q0 w3008
  refine Le.trans ?_ (le_of_eq ((aZ azN).trans (aAl ..)).symm)
  unfold iY
  refine lD (by simp only [EN]) ?_ ?_
  ·refine lC ?_ ?_
   ·refine lQ eX oY (pH _) fun r1 _ => ?_
    refine lG (by simp only [EN]) ?_
    (try simp only [EN]); exact ih x7 r1.2 (w3008 ++ [r1.1])
   ·exact aJ rfl
  ·exact aJ rfl
theorem ack (p0 : aH) (p1 : Int) : Le (Option.map fA (kR p0 p1)) (bF SE 51 [.ptr 2000000000 0, .d (.int .i64 p1), .fn 52 [.ptr 2000000000 0] []] [⟨85, (aH.avs p0)⟩] []) := by
 refine aW azN rfl ?_
 refine Le.trans ?_ (le_of_eq (T51 ..).symm)
 unfold kR
 refine lQ eX cN (cQ _) fun r0 _ => ?_
 refine lC ?_ ?_
 ·exact aJ rfl
 ·refine lC ?_ ?_
  ·exact aJ rfl
  ·refine lC ?_ ?_
   ·exact aJ rfl
   ·(try simp only [EN]); exact aaD fuel r0.1 r0.2 []
section
variable (Γ : Fun) (γ48 : Gm (Int × aH)) (γ52 : Gm (aC × aH)) (Λ2 J : Lam)
def C54 : aP := bB (bB (aR Γ) 48 bZ γ48) 52 dL γ52
theorem T54 (p0 : aH) : bG SE (C54 Γ γ48 γ52) Λ2 J 54 [.ptr 2000000000 0] [⟨85, (aH.avs p0)⟩] [] =
 γ48 [.ptr 2000000000 0] [⟨85, (aH.avs p0)⟩] [] fun r0 =>
 γ48 [.ptr 2000000000 0] [⟨85, (aH.avs r0.2)⟩] [] fun r1 =>
 γ52 [.ptr 2000000000 0] [⟨85, (aH.avs r1.2)⟩] [] fun r2 =>
 (some (.ret [.agg [.d (.int .i64 r0.1), .d (.int .i64 r1.1), .d (.str r2.1.Topic), .d (.str r2.1.Payload), .d (.int .i64 r2.1.Level), .d (.bool r2.1.Retain), .d (.int .i64 r2.1.Priority), .d (.int .i64 r2.1.Expires), .d (.str r2.1.From), .d (.int .i64 r2.1.Seq), .row 0]] [⟨85, (aH.avs r2.2)⟩] [⟨aG.ks, 128, 32, (List.map aG.enc r2.1.Props)⟩])) := by kernel_rfl
end
abbrev X54 : aP := C54 gG (cT 48 bZ) (cT 52 dL)
theorem aHo : X54 = aR gG := by unfold X54 C54; repeat rw [bD fun _ h => h]
theorem acQ (p0 : aH) : Le (Option.map gH (lB p0)) (bF SE 54 [.ptr 2000000000 0] [⟨85, (aH.avs p0)⟩] []) := by
 refine aW aHo rfl ?_
 refine Le.trans ?_ (le_of_eq (T54 ..).symm)
 unfold lB
 refine lQ eX cN (cQ _) fun r0 _ => ?_
 refine lQ eX cN (cQ _) fun r1 _ => ?_
 refine lQ eX oY (pH _) fun r2 _ => ?_
 exact aJ rfl
def ap8 (C : aP) (Λ2 J : Lam) (a0 : Int) (a1 : List D) (a2 : List (List D)) : Res := lab SE C Λ2 J 53 1 [1, 1, 1, 1, 1, 1, 0, 0] (aV [(0, .ptr 2000000000 0), (2, .fn 54 [.ptr 2000000000 0] []), (7, .d (.int .i64 a0)), (8, .row 3008)] [] [⟨85, (List.map AV.d a1)⟩] [] [(3008, ⟨aE.ks, 78, 128, a2⟩)])
section
variable (Γ : Fun) (γ48 : Gm (Int × aH)) (γ54 : Gm (aE × aH)) (Λ2 J : Lam)
def C53 : aP := bB (bB (aR Γ) 48 bZ γ48) 54 gH γ54
theorem T53 (p0 : aH) (p1 : Int) : bG SE (C53 Γ γ48 γ54) Λ2 J 53 [.ptr 2000000000 0, .d (.int .i64 p1), .fn 54 [.ptr 2000000000 0] []] [⟨85, (aH.avs p0)⟩] [] =
 γ48 [.ptr 2000000000 0] [⟨85, (aH.avs p0)⟩] [] fun r0 =>
 cond (r0.2.err != 0) (
 (some (.ret [.row 0] [⟨85, (aH.avs r0.2)⟩] [⟨aE.ks, 78, 128, []⟩]))) (
 cond (decide (r0.1 < 0)) (
 (some (.ret [.row 0] [⟨85, (aH.avs (aH.mk r0.2.b r0.2.at_ 2))⟩] [⟨aE.ks, 78, 128, []⟩]))) (
 cond (decide (r0.1 > p1)) (
 (some (.ret [.row 0] [⟨85, (aH.avs (aH.mk r0.2.b r0.2.at_ 5))⟩] [⟨aE.ks, 78, 128, []⟩]))) (
 ap8 (C53 Γ γ48 γ54) Λ2 J r0.1 (aH.enc r0.2) (List.map aE.enc [])))) := by kernel_rfl
theorem azY (x7 : Int) (q0 : aH) (w3008 : List aE) : bW SE (C53 Γ γ48 γ54) Λ2 J 53 1 [1, 1, 1, 1, 1, 1, 0, 0] (aV [(0, .ptr 2000000000 0), (2, .fn 54 [.ptr 2000000000 0] []), (7, .d (.int .i64 x7)), (8, .row 3008)] [] [⟨85, (List.map AV.d (aH.enc q0))⟩] [] [(3008, ⟨aE.ks, 78, 128, (List.map aE.enc w3008)⟩)]) =
 cond (decide ((lM aE.enc w3008 : Int) < x7)) (
 cond (q0.err == 0) (
  γ54 [.ptr 2000000000 0] [⟨85, (aH.avs q0)⟩] [] fun r1 =>
  cond (decide ((lM aE.enc w3008 + lM aE.enc [r1.1]) * 128 ≤ 140737488355328)) (
  ap8 (C53 Γ γ48 γ54) Λ2 J x7 (aH.enc r1.2) (((List.map aE.enc w3008) ++ (List.map aE.enc [r1.1])))) none) (
 (some (.ret [.row 0] [⟨85, (aH.avs q0)⟩] [⟨aE.ks, 78, 128, (List.map aE.enc w3008)⟩])))) (
 (some (.ret [.row 0] [⟨85, (aH.avs q0)⟩] [⟨aE.ks, 78, 128, (List.map aE.enc w3008)⟩]))) := by kernel_rfl
end
abbrev X53 : aP := C53 gG (cT 48 bZ) (cT 54 gH)
theorem aBW : X53 = aR gG := by unfold X53 C53; repeat rw [bD fun _ h => h]
abbrev aB9 := ap8 X53 (bV SE gG (SE.hl 53) (SE.hr 53)) (J0 SE X53)
theorem aa8 : ∀ (fu : Nat) (x7 : Int) (q0 : aH) (w3008 : List aE), Le (Option.map fG (jI fu x7 q0 w3008)) (aB9 x7 (aH.enc q0) (List.map aE.enc w3008)) := by
 intro fu
 induction fu with
 | zero => intros; exact le_none
 | succ fu ih =>
  intro x7 q0 w3008
  refine Le.trans ?_ (le_of_eq ((aZ aBW).trans (azY ..)).symm)
  unfold jI
  refine lD (by simp only [EN]) ?_ ?_
  ·refine lC ?_ ?_
   ·refine lQ eX ab1 (acQ _) fun r1 _ => ?_
    refine lG (by simp only [EN]) ?_
    (try simp only [EN]); exact ih x7 r1.2 (w3008 ++ [r1.1])
   ·exact aJ rfl
  ·exact aJ rfl
theorem acR (p0 : aH) (p1 : Int) : Le (Option.map fG (lO p0 p1)) (bF SE 53 [.ptr 2000000000 0, .d (.int .i64 p1), .fn 54 [.ptr 2000000000 0] []] [⟨85, (aH.avs p0)⟩] []) := by
 refine aW aBW rfl ?_
 refine Le.trans ?_ (le_of_eq (T53 ..).symm)
 unfold lO
 refine lQ eX cN (cQ _) fun r0 _ => ?_
 refine lC ?_ ?_
 ·exact aJ rfl
 ·refine lC ?_ ?_
  ·exact aJ rfl
  ·refine lC ?_ ?_
   ·exact aJ rfl
   ·(try simp only [EN]); exact aa8 fuel r0.1 r0.2 []
def ap3 (C : aP) (Λ2 J : Lam) (a0 : Int) (a1 : List D) (a2 : List (List D)) : Res := lab SE C Λ2 J 55 1 [1, 1, 1, 1, 1, 1, 0, 0] (aV [(0, .ptr 2000000000 0), (2, .fn 48 [.ptr 2000000000 0] []), (7, .d (.int .i64 a0)), (8, .row 3008)] [] [⟨85, (List.map AV.d a1)⟩] [] [(3008, ⟨[.int .i64], 3, 8, a2⟩)])
section
variable (Γ : Fun) (γ48 : Gm (Int × aH)) (Λ2 J : Lam)
def C55 : aP := bB (aR Γ) 48 bZ γ48
theorem T55 (p0 : aH) (p1 : Int) : bG SE (C55 Γ γ48) Λ2 J 55 [.ptr 2000000000 0, .d (.int .i64 p1), .fn 48 [.ptr 2000000000 0] []] [⟨85, (aH.avs p0)⟩] [] =
 γ48 [.ptr 2000000000 0] [⟨85, (aH.avs p0)⟩] [] fun r0 =>
 cond (r0.2.err != 0) (
 (some (.ret [.row 0] [⟨85, (aH.avs r0.2)⟩] [⟨[.int .i64], 3, 8, []⟩]))) (
 cond (decide (r0.1 < 0)) (
 (some (.ret [.row 0] [⟨85, (aH.avs (aH.mk r0.2.b r0.2.at_ 2))⟩] [⟨[.int .i64], 3, 8, []⟩]))) (
 cond (decide (r0.1 > p1)) (
 (some (.ret [.row 0] [⟨85, (aH.avs (aH.mk r0.2.b r0.2.at_ 5))⟩] [⟨[.int .i64], 3, 8, []⟩]))) (
 ap3 (C55 Γ γ48) Λ2 J r0.1 (aH.enc r0.2) (List.map eI [])))) := by kernel_rfl
theorem aCo (x7 : Int) (q0 : aH) (w3008 : List Int) : bW SE (C55 Γ γ48) Λ2 J 55 1 [1, 1, 1, 1, 1, 1, 0, 0] (aV [(0, .ptr 2000000000 0), (2, .fn 48 [.ptr 2000000000 0] []), (7, .d (.int .i64 x7)), (8, .row 3008)] [] [⟨85, (List.map AV.d (aH.enc q0))⟩] [] [(3008, ⟨[.int .i64], 3, 8, (List.map eI w3008)⟩)]) =
 cond (decide ((lM eI w3008 : Int) < x7)) (
 cond (q0.err == 0) (
  γ48 [.ptr 2000000000 0] [⟨85, (aH.avs q0)⟩] [] fun r1 =>
  cond (decide ((lM eI w3008 + lM eI [r1.1]) * 8 ≤ 140737488355328)) (
  ap3 (C55 Γ γ48) Λ2 J x7 (aH.enc r1.2) (((List.map eI w3008) ++ (List.map eI [r1.1])))) none) (
 (some (.ret [.row 0] [⟨85, (aH.avs q0)⟩] [⟨[.int .i64], 3, 8, (List.map eI w3008)⟩])))) (
 (some (.ret [.row 0] [⟨85, (aH.avs q0)⟩] [⟨[.int .i64], 3, 8, (List.map eI w3008)⟩]))) := by kernel_rfl
end
abbrev X55 : aP := C55 gG (cT 48 bZ)
theorem aBo : X55 = aR gG := by unfold X55 C55; rw [bD fun _ h => h]
abbrev aB4 := ap3 X55 (bV SE gG (SE.hl 55) (SE.hr 55)) (J0 SE X55)
theorem ad7 : ∀ (fu : Nat) (x7 : Int) (q0 : aH) (w3008 : List Int), Le (Option.map jJ (nD fu x7 q0 w3008)) (aB4 x7 (aH.enc q0) (List.map eI w3008)) := by
 intro fu
 induction fu with
 | zero => intros; exact le_none
 | succ fu ih =>
  intro x7 q0 w3008
  refine Le.trans ?_ (le_of_eq ((aZ aBo).trans (aCo ..)).symm)
  unfold nD
  refine lD (by simp only [EN]) ?_ ?_
  ·refine lC ?_ ?_
   ·refine lQ eX cN (cQ _) fun r1 _ => ?_
    refine lG (by simp only [EN]) ?_
    (try simp only [EN]); exact ih x7 r1.2 (w3008 ++ [r1.1])
   ·exact aJ rfl
  ·exact aJ rfl
theorem abu (p0 : aH) (p1 : Int) : Le (Option.map jJ (mK p0 p1)) (bF SE 55 [.ptr 2000000000 0, .d (.int .i64 p1), .fn 48 [.ptr 2000000000 0] []] [⟨85, (aH.avs p0)⟩] []) := by
 refine aW aBo rfl ?_
 refine Le.trans ?_ (le_of_eq (T55 ..).symm)
 unfold mK
 refine lQ eX cN (cQ _) fun r0 _ => ?_
 refine lC ?_ ?_
 ·exact aJ rfl
 ·refine lC ?_ ?_
  ·exact aJ rfl
  ·refine lC ?_ ?_
   ·exact aJ rfl
   ·(try simp only [EN]); exact ad7 fuel r0.1 r0.2 []
def alT (C : aP) (Λ2 J : Lam) (a0 a1 : List D) (a2 a3 : Str) (a4 : Bool) (a5 a6 a7 a8 a9 a10 : Int) (a11 : Bool) (a12 : Int) (a13 a14 : Str) (a15 : Int) (a16 : Bool) (a17 a18 : Int) (a19 : Str) (a20 : Int) (a21 a22 a23 a24 a25 a26 : List (List D)) : Res := lab SE C Λ2 J 21 0 [1, 1, 1, 1, 1, 1, 1, 1, 1, 1, 1, 1, 1, 1, 1, 1, 1, 1, 0, 0] (aV [(2, .ptr 1000000000 0), (4, .ptr 1000000001 0), (5, .ptr 1000000002 0)] [⟨46, (List.map AV.d a0)⟩, ⟨85, (List.map AV.d a1)⟩, ⟨46, [.d (.str a2), .d (.str a3), .d (.bool a4), .d (.int .i64 a5), .d (.int .i64 a6), .d (.int .i64 a7), .d (.int .i64 a8), .row 50207, .row 50208, .d (.int .i64 a9), .row 50210, .row 50211, .d (.int .i64 a10), .row 50213, .d (.bool a11), .d (.int .i64 a12), .d (.str a13), .d (.str a14), .d (.int .i64 a15), .d (.bool a16), .d (.int .i64 a17), .d (.int .i64 a18), .d (.str a19), .d (.int .i64 a20), .row 50224]⟩] [] [] [(50207, ⟨aK.ks, 72, 32, a21⟩), (50208, ⟨aC.ks, 42, 112, a22⟩), (50210, ⟨aE.ks, 78, 128, a23⟩), (50211, ⟨[.int .i64], 3, 8, a24⟩), (50213, ⟨[.int .i64], 3, 8, a25⟩), (50224, ⟨aG.ks, 128, 32, a26⟩)])
def apS (C : aP) (Λ2 J : Lam) (a0 : List (List D)) (a1 a2 : List D) (a3 a4 : Str) (a5 : Bool) (a6 a7 a8 a9 a10 a11 : Int) (a12 : Bool) (a13 : Int) (a14 a15 : Str) (a16 : Int) (a17 : Bool) (a18 a19 : Int) (a20 : Str) (a21 : Int) (a22 a23 a24 a25 a26 a27 : List (List D)) : Res := lab SE C Λ2 J 21 0 [1, 1, 1, 1, 1, 1, 1, 1, 1, 1, 1, 1, 1, 1, 1, 1, 1, 0, 0] (aV [(0, .d (.sl [.int .u8] a0)), (2, .ptr 1000000000 0), (4, .ptr 1000000001 0), (5, .ptr 1000000002 0)] [⟨46, (List.map AV.d a1)⟩, ⟨85, (List.map AV.d a2)⟩, ⟨46, [.d (.str a3), .d (.str a4), .d (.bool a5), .d (.int .i64 a6), .d (.int .i64 a7), .d (.int .i64 a8), .d (.int .i64 a9), .row 50207, .row 50208, .d (.int .i64 a10), .row 50210, .row 50211, .d (.int .i64 a11), .row 50213, .d (.bool a12), .d (.int .i64 a13), .d (.str a14), .d (.str a15), .d (.int .i64 a16), .d (.bool a17), .d (.int .i64 a18), .d (.int .i64 a19), .d (.str a20), .d (.int .i64 a21), .row 50224]⟩] [] [] [(50207, ⟨aK.ks, 72, 32, a22⟩), (50208, ⟨aC.ks, 42, 112, a23⟩), (50210, ⟨aE.ks, 78, 128, a24⟩), (50211, ⟨[.int .i64], 3, 8, a25⟩), (50213, ⟨[.int .i64], 3, 8, a26⟩), (50224, ⟨aG.ks, 128, 32, a27⟩)])
section
variable (Γ : Fun) (γ47 : Gm (Str × aH)) (γ48 : Gm (Int × aH)) (γ49 : Gm ((List aK) × aH)) (γ51 : Gm ((List aC) × aH)) (γ53 : Gm ((List aE) × aH)) (γ55 : Gm ((List Int) × aH)) (γ56 : Gm (Bool × aH)) (γ52 : Gm (aC × aH)) (γ35 : Gm (Int)) (Λ2 J : Lam)
def C21 : aP := bB (bB (bB (bB (bB (bB (bB (bB (bB (aR Γ) 47 eZ γ47) 48 bZ γ48) 49 fW γ49) 51 fA γ51) 53 fG γ53) 55 jJ γ55) 56 eY γ56) 52 dL γ52) 35 aB γ35
theorem T21 (p0 : List Int) : bG SE (C21 Γ γ47 γ48 γ49 γ51 γ53 γ55 γ56 γ52 γ35) Λ2 J 21 [.d (.sl [.int .u8] (List.map (encI .u8) p0))] [] [] =
 γ47 [.ptr 2000000000 0, .d (.int .i64 16)] [⟨85, (aH.avs (aH.mk p0 0 0))⟩] [] fun r0 =>
 γ47 [.ptr 2000000000 0, .d (.int .i64 16)] [⟨85, (aH.avs r0.2)⟩] [] fun r1 =>
 γ48 [.ptr 2000000000 0] [⟨85, (aH.avs r1.2)⟩] [] fun r2 =>
 γ48 [.ptr 2000000000 0] [⟨85, (aH.avs r2.2)⟩] [] fun r3 =>
 γ48 [.ptr 2000000000 0] [⟨85, (aH.avs r3.2)⟩] [] fun r4 =>
 γ49 [.ptr 2000000000 0, .d (.int .i64 32), .fn 50 [.ptr 2000000000 0] []] [⟨85, (aH.avs r4.2)⟩] [] fun r5 =>
 γ51 [.ptr 2000000000 0, .d (.int .i64 256), .fn 52 [.ptr 2000000000 0] []] [⟨85, (aH.avs r5.2)⟩] [] fun r6 =>
 γ48 [.ptr 2000000000 0] [⟨85, (aH.avs r6.2)⟩] [] fun r7 =>
 γ53 [.ptr 2000000000 0, .d (.int .i64 32), .fn 54 [.ptr 2000000000 0] []] [⟨85, (aH.avs r7.2)⟩] [] fun r8 =>
 γ55 [.ptr 2000000000 0, .d (.int .i64 32), .fn 48 [.ptr 2000000000 0] []] [⟨85, (aH.avs r8.2)⟩] [] fun r9 =>
 γ48 [.ptr 2000000000 0] [⟨85, (aH.avs r9.2)⟩] [] fun r10 =>
 γ55 [.ptr 2000000000 0, .d (.int .i64 32), .fn 48 [.ptr 2000000000 0] []] [⟨85, (aH.avs r10.2)⟩] [] fun r11 =>
 γ56 [.ptr 2000000000 0] [⟨85, (aH.avs r11.2)⟩] [] fun r12 =>
 cond r12.1 (
 γ48 [.ptr 2000000000 0] [⟨85, (aH.avs r12.2)⟩] [] fun r13 =>
 γ52 [.ptr 2000000000 0] [⟨85, (aH.avs r13.2)⟩] [] fun r14 =>
 apS (C21 Γ γ47 γ48 γ49 γ51 γ53 γ55 γ56 γ52 γ35) Λ2 J (List.map (encI .u8) p0) [D.str [], D.str [], D.bool false, D.int .i64 0, D.int .i64 0, D.int .i64 0, D.int .i64 0, D.sl aK.ks (List.map aK.enc []), D.sl aC.ks (List.map aC.enc []), D.int .i64 0, D.sl aE.ks (List.map aE.enc []), D.sl [.int .i64] (List.map eI []), D.int .i64 0, D.sl [.int .i64] (List.map eI []), D.bool false, D.int .i64 0, D.str [], D.str [], D.int .i64 0, D.bool false, D.int .i64 0, D.int .i64 0, D.str [], D.int .i64 0, D.sl aG.ks (List.map aG.enc [])] (aH.enc r14.2) r0.1 r1.1 false 0 r2.1 r3.1 r4.1 r7.1 r10.1 r12.1 r13.1 r14.1.Topic r14.1.Payload r14.1.Level r14.1.Retain r14.1.Priority r14.1.Expires r14.1.From r14.1.Seq (List.map aK.enc r5.1) (List.map aC.enc r6.1) (List.map aE.enc r8.1) (List.map eI r9.1) (List.map eI r11.1) (List.map aG.enc r14.1.Props)) (
 apS (C21 Γ γ47 γ48 γ49 γ51 γ53 γ55 γ56 γ52 γ35) Λ2 J (List.map (encI .u8) p0) [D.str [], D.str [], D.bool false, D.int .i64 0, D.int .i64 0, D.int .i64 0, D.int .i64 0, D.sl aK.ks (List.map aK.enc []), D.sl aC.ks (List.map aC.enc []), D.int .i64 0, D.sl aE.ks (List.map aE.enc []), D.sl [.int .i64] (List.map eI []), D.int .i64 0, D.sl [.int .i64] (List.map eI []), D.bool false, D.int .i64 0, D.str [], D.str [], D.int .i64 0, D.bool false, D.int .i64 0, D.int .i64 0, D.str [], D.int .i64 0, D.sl aG.ks (List.map aG.enc [])] (aH.enc r12.2) r0.1 r1.1 false 0 r2.1 r3.1 r4.1 r7.1 r10.1 r12.1 0 [] [] 0 false 0 0 [] 0 (List.map aK.enc r5.1) (List.map aC.enc r6.1) (List.map aE.enc r8.1) (List.map eI r9.1) (List.map eI r11.1) (List.map aG.enc [])) := by kernel_rfl
theorem aAN (b0 : aI) (b1 : aH) (b2_0 b2_1 : Str) (b2_2 : Bool) (b2_3 b2_4 b2_5 b2_6 b2_9 b2_12 : Int) (b2_14 : Bool) (b2_15 : Int) (b2_16 b2_17 : Str) (b2_18 : Int) (b2_19 : Bool) (b2_20 b2_21 : Int) (b2_22 : Str) (b2_23 : Int) (w50207 : List aK) (w50208 : List aC) (w50210 : List aE) (w50211 w50213 : List Int) (w50224 : List aG) : bW SE (C21 Γ γ47 γ48 γ49 γ51 γ53 γ55 γ56 γ52 γ35) Λ2 J 21 0 [1, 1, 1, 1, 1, 1, 1, 1, 1, 1, 1, 1, 1, 1, 1, 1, 1, 1, 0, 0] (aV [(2, .ptr 1000000000 0), (4, .ptr 1000000001 0), (5, .ptr 1000000002 0)] [⟨46, (List.map AV.d (aI.enc b0))⟩, ⟨85, (List.map AV.d (aH.enc b1))⟩, ⟨46, [.d (.str b2_0), .d (.str b2_1), .d (.bool b2_2), .d (.int .i64 b2_3), .d (.int .i64 b2_4), .d (.int .i64 b2_5), .d (.int .i64 b2_6), .row 50207, .row 50208, .d (.int .i64 b2_9), .row 50210, .row 50211, .d (.int .i64 b2_12), .row 50213, .d (.bool b2_14), .d (.int .i64 b2_15), .d (.str b2_16), .d (.str b2_17), .d (.int .i64 b2_18), .d (.bool b2_19), .d (.int .i64 b2_20), .d (.int .i64 b2_21), .d (.str b2_22), .d (.int .i64 b2_23), .row 50224]⟩] [] [] [(50207, ⟨aK.ks, 72, 32, (List.map aK.enc w50207)⟩), (50208, ⟨aC.ks, 42, 112, (List.map aC.enc w50208)⟩), (50210, ⟨aE.ks, 78, 128, (List.map aE.enc w50210)⟩), (50211, ⟨[.int .i64], 3, 8, (List.map eI w50211)⟩), (50213, ⟨[.int .i64], 3, 8, (List.map eI w50213)⟩), (50224, ⟨aG.ks, 128, 32, (List.map aG.enc w50224)⟩)]) =
 cond (b1.err != 0) (
 (some (.ret [.agg [.d (.str []), .d (.str []), .d (.bool false), .d (.int .i64 0), .d (.int .i64 0), .d (.int .i64 0), .d (.int .i64 0), .row 0, .row 1, .d (.int .i64 0), .row 2, .row 3, .d (.int .i64 0), .row 4, .d (.bool false), .d (.int .i64 0), .d (.str []), .d (.str []), .d (.int .i64 0), .d (.bool false), .d (.int .i64 0), .d (.int .i64 0), .d (.str []), .d (.int .i64 0), .row 5], .d (.int .i64 b1.err)] [] [⟨aK.ks, 72, 32, (List.map aK.enc [])⟩, ⟨aC.ks, 42, 112, (List.map aC.enc [])⟩, ⟨aE.ks, 78, 128, (List.map aE.enc [])⟩, ⟨[.int .i64], 3, 8, (List.map eI [])⟩, ⟨[.int .i64], 3, 8, (List.map eI [])⟩, ⟨aG.ks, 128, 32, (List.map aG.enc [])⟩]))) (
 γ35 [aI.av (aI.mk b2_0 b2_1 b2_2 b2_3 b2_4 b2_5 b2_6 w50207 w50208 (aO.mk b2_9 w50210 (bE.mk w50211 b2_12)) (bO.mk w50213) (bM.mk b2_14 b2_15 (aC.mk b2_16 b2_17 b2_18 b2_19 b2_20 b2_21 b2_22 b2_23 w50224)))] [] [] fun r15 =>
 cond (r15 != 0) (
 (some (.ret [.agg [.d (.str []), .d (.str []), .d (.bool false), .d (.int .i64 0), .d (.int .i64 0), .d (.int .i64 0), .d (.int .i64 0), .row 0, .row 1, .d (.int .i64 0), .row 2, .row 3, .d (.int .i64 0), .row 4, .d (.bool false), .d (.int .i64 0), .d (.str []), .d (.str []), .d (.int .i64 0), .d (.bool false), .d (.int .i64 0), .d (.int .i64 0), .d (.str []), .d (.int .i64 0), .row 5], .d (.int .i64 r15)] [] [⟨aK.ks, 72, 32, (List.map aK.enc [])⟩, ⟨aC.ks, 42, 112, (List.map aC.enc [])⟩, ⟨aE.ks, 78, 128, (List.map aE.enc [])⟩, ⟨[.int .i64], 3, 8, (List.map eI [])⟩, ⟨[.int .i64], 3, 8, (List.map eI [])⟩, ⟨aG.ks, 128, 32, (List.map aG.enc [])⟩]))) (
 (some (.ret [.agg [.d (.str b2_0), .d (.str b2_1), .d (.bool b2_2), .d (.int .i64 b2_3), .d (.int .i64 b2_4), .d (.int .i64 b2_5), .d (.int .i64 b2_6), .row 0, .row 1, .d (.int .i64 b2_9), .row 2, .row 3, .d (.int .i64 b2_12), .row 4, .d (.bool b2_14), .d (.int .i64 b2_15), .d (.str b2_16), .d (.str b2_17), .d (.int .i64 b2_18), .d (.bool b2_19), .d (.int .i64 b2_20), .d (.int .i64 b2_21), .d (.str b2_22), .d (.int .i64 b2_23), .row 5], .d (.int .i64 0)] [] [⟨aK.ks, 72, 32, (List.map aK.enc w50207)⟩, ⟨aC.ks, 42, 112, (List.map aC.enc w50208)⟩, ⟨aE.ks, 78, 128, (List.map aE.enc w50210)⟩, ⟨[.int .i64], 3, 8, (List.map eI w50211)⟩, ⟨[.int .i64], 3, 8, (List.map eI w50213)⟩, ⟨aG.ks, 128, 32, (List.map aG.enc w50224)⟩])))) := by kernel_rfl
theorem az4 (x0 : List Int) (b0 : aI) (b1 : aH) (b2_0 b2_1 : Str) (b2_2 : Bool) (b2_3 b2_4 b2_5 b2_6 b2_9 b2_12 : Int) (b2_14 : Bool) (b2_15 : Int) (b2_16 b2_17 : Str) (b2_18 : Int) (b2_19 : Bool) (b2_20 b2_21 : Int) (b2_22 : Str) (b2_23 : Int) (w50207 : List aK) (w50208 : List aC) (w50210 : List aE) (w50211 w50213 : List Int) (w50224 : List aG) : bW SE (C21 Γ γ47 γ48 γ49 γ51 γ53 γ55 γ56 γ52 γ35) Λ2 J 21 0 [1, 1, 1, 1, 1, 1, 1, 1, 1, 1, 1, 1, 1, 1, 1, 1, 1, 0, 0] (aV [(0, .d (.sl [.int .u8] (List.map (encI .u8) x0))), (2, .ptr 1000000000 0), (4, .ptr 1000000001 0), (5, .ptr 1000000002 0)] [⟨46, (List.map AV.d (aI.enc b0))⟩, ⟨85, (List.map AV.d (aH.enc b1))⟩, ⟨46, [.d (.str b2_0), .d (.str b2_1), .d (.bool b2_2), .d (.int .i64 b2_3), .d (.int .i64 b2_4), .d (.int .i64 b2_5), .d (.int .i64 b2_6), .row 50207, .row 50208, .d (.int .i64 b2_9), .row 50210, .row 50211, .d (.int .i64 b2_12), .row 50213, .d (.bool b2_14), .d (.int .i64 b2_15), .d (.str b2_16), .d (.str b2_17), .d (.int .i64 b2_18), .d (.bool b2_19), .d (.int .i64 b2_20), .d (.int .i64 b2_21), .d (.str b2_22), .d (.int .i64 b2_23), .row 50224]⟩] [] [] [(50207, ⟨aK.ks, 72, 32, (List.map aK.enc w50207)⟩), (50208, ⟨aC.ks, 42, 112, (List.map aC.enc w50208)⟩), (50210, ⟨aE.ks, 78, 128, (List.map aE.enc w50210)⟩), (50211, ⟨[.int .i64], 3, 8, (List.map eI w50211)⟩), (50213, ⟨[.int .i64], 3, 8, (List.map eI w50213)⟩), (50224, ⟨aG.ks, 128, 32, (List.map aG.enc w50224)⟩)]) =
 cond (b1.err == 0) (
 cond (b1.at_ != (lM (encI .u8) x0 : Int)) (
  alT (C21 Γ γ47 γ48 γ49 γ51 γ53 γ55 γ56 γ52 γ35) Λ2 J (aI.enc b0) (aH.enc (aH.mk b1.b b1.at_ 2)) b2_0 b2_1 b2_2 b2_3 b2_4 b2_5 b2_6 b2_9 b2_12 b2_14 b2_15 b2_16 b2_17 b2_18 b2_19 b2_20 b2_21 b2_22 b2_23 (List.map aK.enc w50207) (List.map aC.enc w50208) (List.map aE.enc w50210) (List.map eI w50211) (List.map eI w50213) (List.map aG.enc w50224)) (
 alT (C21 Γ γ47 γ48 γ49 γ51 γ53 γ55 γ56 γ52 γ35) Λ2 J (aI.enc b0) (aH.enc b1) b2_0 b2_1 b2_2 b2_3 b2_4 b2_5 b2_6 b2_9 b2_12 b2_14 b2_15 b2_16 b2_17 b2_18 b2_19 b2_20 b2_21 b2_22 b2_23 (List.map aK.enc w50207) (List.map aC.enc w50208) (List.map aE.enc w50210) (List.map eI w50211) (List.map eI w50213) (List.map aG.enc w50224))) (
 alT (C21 Γ γ47 γ48 γ49 γ51 γ53 γ55 γ56 γ52 γ35) Λ2 J (aI.enc b0) (aH.enc b1) b2_0 b2_1 b2_2 b2_3 b2_4 b2_5 b2_6 b2_9 b2_12 b2_14 b2_15 b2_16 b2_17 b2_18 b2_19 b2_20 b2_21 b2_22 b2_23 (List.map aK.enc w50207) (List.map aC.enc w50208) (List.map aE.enc w50210) (List.map eI w50211) (List.map eI w50213) (List.map aG.enc w50224)) := by kernel_rfl
end
abbrev X21 : aP := C21 gG (cT 47 eZ) (cT 48 bZ) (cT 49 fW) (cT 51 fA) (cT 53 fG) (cT 55 jJ) (cT 56 eY) (cT 52 dL) (cT 35 aB)
theorem au0 : X21 = aR gG := by unfold X21 C21; repeat rw [bD fun _ h => h]
abbrev aBl := alT X21 (bV SE gG (SE.hl 21) (SE.hr 21)) (J0 SE X21)
abbrev aCe := apS X21 (bV SE gG (SE.hl 21) (SE.hr 21)) (J0 SE X21)
theorem vD (b0 : aI) (b1 : aH) (b2_0 b2_1 : Str) (b2_2 : Bool) (b2_3 b2_4 b2_5 b2_6 b2_9 b2_12 : Int) (b2_14 : Bool) (b2_15 : Int) (b2_16 b2_17 : Str) (b2_18 : Int) (b2_19 : Bool) (b2_20 b2_21 : Int) (b2_22 : Str) (b2_23 : Int) (w50207 : List aK) (w50208 : List aC) (w50210 : List aE) (w50211 w50213 : List Int) (w50224 : List aG) : Le (Option.map dZ (lA b0 b1 b2_0 b2_1 b2_2 b2_3 b2_4 b2_5 b2_6 b2_9 b2_12 b2_14 b2_15 b2_16 b2_17 b2_18 b2_19 b2_20 b2_21 b2_22 b2_23 w50207 w50208 w50210 w50211 w50213 w50224)) (aBl (aI.enc b0) (aH.enc b1) b2_0 b2_1 b2_2 b2_3 b2_4 b2_5 b2_6 b2_9 b2_12 b2_14 b2_15 b2_16 b2_17 b2_18 b2_19 b2_20 b2_21 b2_22 b2_23 (List.map aK.enc w50207) (List.map aC.enc w50208) (List.map aE.enc w50210) (List.map eI w50211) (List.map eI w50213) (List.map aG.enc w50224)) := by
 refine Le.trans ?_ (le_of_eq ((aZ au0).trans (aAN ..)).symm)
 unfold lA
 refine lC ?_ ?_
 ·exact aJ rfl
 ·refine lQ eX aM (adY _) fun r15 _ => ?_
  refine lC ?_ ?_
  ·exact aJ rfl
  ·exact aJ rfl
theorem aa0 (x0 : List Int) (b0 : aI) (b1 : aH) (b2_0 b2_1 : Str) (b2_2 : Bool) (b2_3 b2_4 b2_5 b2_6 b2_9 b2_12 : Int) (b2_14 : Bool) (b2_15 : Int) (b2_16 b2_17 : Str) (b2_18 : Int) (b2_19 : Bool) (b2_20 b2_21 : Int) (b2_22 : Str) (b2_23 : Int) (w50207 : List aK) (w50208 : List aC) (w50210 : List aE) (w50211 w50213 : List Int) (w50224 : List aG) : Le (Option.map dZ (iE x0 b0 b1 b2_0 b2_1 b2_2 b2_3 b2_4 b2_5 b2_6 b2_9 b2_12 b2_14 b2_15 b2_16 b2_17 b2_18 b2_19 b2_20 b2_21 b2_22 b2_23 w50207 w50208 w50210 w50211 w50213 w50224)) (aCe (List.map (encI .u8) x0) (aI.enc b0) (aH.enc b1) b2_0 b2_1 b2_2 b2_3 b2_4 b2_5 b2_6 b2_9 b2_12 b2_14 b2_15 b2_16 b2_17 b2_18 b2_19 b2_20 b2_21 b2_22 b2_23 (List.map aK.enc w50207) (List.map aC.enc w50208) (List.map aE.enc w50210) (List.map eI w50211) (List.map eI w50213) (List.map aG.enc w50224)) := by
 refine Le.trans ?_ (le_of_eq ((aZ au0).trans (az4 ..)).symm)
 unfold iE
 refine lC ?_ ?_
 ·refine lD (by simp only [EN]) ?_ ?_
  ·exact vD b0 (aH.mk b1.b b1.at_ 2) b2_0 b2_1 b2_2 b2_3 b2_4 b2_5 b2_6 b2_9 b2_12 b2_14 b2_15 b2_16 b2_17 b2_18 b2_19 b2_20 b2_21 b2_22 b2_23 w50207 w50208 w50210 w50211 w50213 w50224
  ·exact vD b0 b1 b2_0 b2_1 b2_2 b2_3 b2_4 b2_5 b2_6 b2_9 b2_12 b2_14 b2_15 b2_16 b2_17 b2_18 b2_19 b2_20 b2_21 b2_22 b2_23 w50207 w50208 w50210 w50211 w50213 w50224
 ·exact vD b0 b1 b2_0 b2_1 b2_2 b2_3 b2_4 b2_5 b2_6 b2_9 b2_12 b2_14 b2_15 b2_16 b2_17 b2_18 b2_19 b2_20 b2_21 b2_22 b2_23 w50207 w50208 w50210 w50211 w50213 w50224
theorem oP (p0 : List Int) : Le (Option.map dZ (jF p0)) (bF SE 21 [.d (.sl [.int .u8] (List.map (encI .u8) p0))] [] []) := by
 refine aW au0 rfl ?_
 refine Le.trans ?_ (le_of_eq (T21 ..).symm)
 unfold jF
 refine lQ eX rA (rV _ _) fun r0 _ => ?_
 refine lQ eX rA (rV _ _) fun r1 _ => ?_
 refine lQ eX cN (cQ _) fun r2 _ => ?_
 refine lQ eX cN (cQ _) fun r3 _ => ?_
 refine lQ eX cN (cQ _) fun r4 _ => ?_
 refine lQ eX adA (aeH _ _) fun r5 _ => ?_
 refine lQ eX abR (ack _ _) fun r6 _ => ?_
 refine lQ eX cN (cQ _) fun r7 _ => ?_
 refine lQ eX ab9 (acR _ _) fun r8 _ => ?_
 refine lQ eX aaV (abu _ _) fun r9 _ => ?_
 refine lQ eX cN (cQ _) fun r10 _ => ?_
 refine lQ eX aaV (abu _ _) fun r11 _ => ?_
 refine lQ eX w4 (xT _) fun r12 _ => ?_
 refine lC ?_ ?_
 ·refine lQ eX cN (cQ _) fun r13 _ => ?_
  refine lQ eX oY (pH _) fun r14 _ => ?_
  (try simp only [EN]); exact aa0 p0 ((aI.mk [] [] false 0 0 0 0 [] [] (aO.mk 0 [] (bE.mk [] 0)) (bO.mk []) (bM.mk false 0 (aC.mk [] [] 0 false 0 0 [] 0 [])))) r14.2 r0.1 r1.1 false 0 r2.1 r3.1 r4.1 r7.1 r10.1 r12.1 r13.1 r14.1.Topic r14.1.Payload r14.1.Level r14.1.Retain r14.1.Priority r14.1.Expires r14.1.From r14.1.Seq r5.1 r6.1 r8.1 r9.1 r11.1 r14.1.Props
 ·(try simp only [EN]); exact aa0 p0 ((aI.mk [] [] false 0 0 0 0 [] [] (aO.mk 0 [] (bE.mk [] 0)) (bO.mk []) (bM.mk false 0 (aC.mk [] [] 0 false 0 0 [] 0 [])))) r12.2 r0.1 r1.1 false 0 r2.1 r3.1 r4.1 r7.1 r10.1 r12.1 0 [] [] 0 false 0 0 [] 0 r5.1 r6.1 r8.1 r9.1 r11.1 []
section
variable (Γ : Fun)  (Λ2 J : Lam)
def C20 : aP := aR Γ
theorem T20 (p0 p1 : List Int) : bG SE (C20 Γ) Λ2 J 20 [.d (.sl [.int .u8] (List.map (encI .u8) p0)), .d (.sl [.int .u8] (List.map (encI .u8) p1))] [] [] =
 (rB ((aas (List.map (encI .u8) p0)) == (aas (List.map (encI .u8) p1)))) := by kernel_rfl
end
abbrev X20 : aP := C20 gG
theorem aGX : X20 = aR gG := rfl
theorem tE (p0 p1 : List Int) : Le (Option.map brokerlaw43_light_out (lK p0 p1)) (bF SE 20 [.d (.sl [.int .u8] (List.map (encI .u8) p0)), .d (.sl [.int .u8] (List.map (encI .u8) p1))] [] []) := by
 refine aW aGX rfl ?_
 refine Le.trans ?_ (le_of_eq (T20 ..).symm)
 unfold lK
 exact aJ (by first | rfl | simp only [EN, brokerlaw43_light_out] <;> rfl)
def axb (C : aP) (Λ2 J : Lam) : Res := lab SE C Λ2 J 12 0 [1, 1, 1, 1, 0] (aV [] [] [] [] [])
section
variable (Γ : Fun) (γ26 : Gm ((List aA) × aA × Int)) (γ15 : Gm (Bool)) (γ13 : Gm (Int)) (γ29 : Gm ((List aA))) (γ18 : Gm ((List Int) × Int)) (γ21 : Gm (aI × Int)) (γ20 : Gm (Bool)) (Λ2 J : Lam)
def C12 : aP := bB (bB (bB (bB (bB (bB (bB (aR Γ) 26 dJ γ26) 15 brokerlaw43_light_out γ15) 13 aB γ13) 29 aU γ29) 18 dP γ18) 21 dZ γ21) 20 brokerlaw43_light_out γ20
theorem T12 : bG SE (C12 Γ γ26 γ15 γ13 γ29 γ18 γ21 γ20) Λ2 J 12 [] [] [] =
 γ26 [.d (.sl aA.ks (List.map aA.enc [])), .d (.str ([99, 49] : Str)), .d (.int .i64 2)] [] [] fun r0 =>
 γ26 [.d (.sl aA.ks (List.map aA.enc r0.1)), .d (.str ([99, 49] : Str)), .d (.int .i64 0)] [] [] fun r1 =>
 cond (r0.2.2 != 0) (
 (rB false)) (
 cond (r1.2.2 != 0) (
 (rB false)) (
 cond (!((r0.2.1.Client == ([99, 49] : Str)) && ((r0.2.1.Node == 2) && ((r0.2.1.Epoch == 1) && true)))) (
 (rB false)) (
 cond (r1.2.1.Epoch != 2) (
 (rB false)) (
 γ15 [.d (.sl aA.ks (List.map aA.enc r1.1)), .d (.str ([99, 49] : Str)), .d (.int .i64 2), .d (.int .i64 1)] [] [] fun r2 =>
 cond r2 (
 (rB false)) (
 γ15 [.d (.sl aA.ks (List.map aA.enc r1.1)), .d (.str ([99, 49] : Str)), .d (.int .i64 0), .d (.int .i64 2)] [] [] fun r3 =>
 cond (!r3) (
 (rB false)) (
 γ13 [.d (.sl aA.ks (List.map aA.enc r1.1))] [] [] fun r4 =>
 cond (r4 != 0) (
 (rB false)) (
 axb (C12 Γ γ26 γ15 γ13 γ29 γ18 γ21 γ20) Λ2 J))))))) := by kernel_rfl
theorem aCO : bW SE (C12 Γ γ26 γ15 γ13 γ29 γ18 γ21 γ20) Λ2 J 12 0 [1, 1, 1, 1, 0] (aV [] [] [] [] []) =
 γ29 [.d (.sl aA.ks (List.map aA.enc [(aA.mk ([99, 49] : Str) 2 3)])), .d (.sl aA.ks (List.map aA.enc [(aA.mk ([99, 49] : Str) 1 3)]))] [] [] fun r5 =>
 γ18 [.agg [.d (.str ([99] : Str)), .d (.str []), .d (.bool false), .d (.int .i64 0), .d (.int .i64 5), .d (.int .i64 9), .d (.int .i64 0), .d (.sl aK.ks (List.map aK.enc [])), .d (.sl aC.ks (List.map aC.enc [])), .d (.int .i64 1), .d (.sl aE.ks (List.map aE.enc [])), .d (.sl [.int .i64] (List.map eI [])), .d (.int .i64 0), .d (.sl [.int .i64] (List.map eI [])), .d (.bool false), .d (.int .i64 0), .d (.str []), .d (.str []), .d (.int .i64 0), .d (.bool false), .d (.int .i64 0), .d (.int .i64 0), .d (.str []), .d (.int .i64 0), .d (.sl aG.ks (List.map aG.enc []))]] [] [] fun r6 =>
 γ21 [.d (.sl [.int .u8] (List.map (encI .u8) r6.1))] [] [] fun r7 =>
 γ18 [.agg [.d (.str ([99] : Str)), .d (.str []), .d (.bool true), .d (.int .i64 0), .d (.int .i64 5), .d (.int .i64 0), .d (.int .i64 0), .d (.sl aK.ks (List.map aK.enc [])), .d (.sl aC.ks (List.map aC.enc [])), .d (.int .i64 1), .d (.sl aE.ks (List.map aE.enc [])), .d (.sl [.int .i64] (List.map eI [])), .d (.int .i64 0), .d (.sl [.int .i64] (List.map eI [])), .d (.bool false), .d (.int .i64 0), .d (.str []), .d (.str []), .d (.int .i64 0), .d (.bool false), .d (.int .i64 0), .d (.int .i64 0), .d (.str []), .d (.int .i64 0), .d (.sl aG.ks (List.map aG.enc []))]] [] [] fun r8 =>
 cond ((lM aA.enc r5 : Int) == 1) (
 cond (decide (0 ≤ 0) && decide (0 < (lM aA.enc r5 : Int))) (
  cond ((aX (cE aA.enc r5 0 1)) == 1) (
  cond (r6.2 == 0) (
   cond (r7.2 == 0) (
   cond (r8.2 == 9) (
    γ20 [.d (.sl [.int .u8] (List.map (encI .u8) r6.1)), .d (.sl [.int .u8] (List.map (encI .u8) [2, 99, 0, 10, 18, 0, 0, 0, 2, 0, 0, 0, 0, 0]))] [] [] fun r9 =>
    cond r9 (
    cond (r7.1.Client == ([99] : Str)) (
     cond (r7.1.Until == 9) (
     (rB (!r7.1.Online))) (
     (rB false))) (
    (rB false))) (
    (rB false))) (
   (rB false))) (
   (rB false))) (
  (rB false))) (
  (rB false))) none) (
 (rB false)) := by kernel_rfl
end
abbrev X12 : aP := C12 gG (cT 26 dJ) (cT 15 brokerlaw43_light_out) (cT 13 aB) (cT 29 aU) (cT 18 dP) (cT 21 dZ) (cT 20 brokerlaw43_light_out)
theorem ayV : X12 = aR gG := by unfold X12 C12; repeat rw [bD fun _ h => h]
abbrev aD8 := axb X12 (bV SE gG (SE.hl 12) (SE.hr 12)) (J0 SE X12)
theorem abd : Le (Option.map brokerlaw43_light_out (p9)) (aD8) := by
 refine Le.trans ?_ (le_of_eq ((aZ ayV).trans (aCO _ _ _ _ _ _ _ _ _ _ )).symm)
 unfold p9
 refine lQ eX bN (iM _ _) fun r5 _ => ?_
 refine lQ eX lE (by (try simp only [EN]); exact oM ((aI.mk ([99] : Str) [] false 0 5 9 0 [] [] (aO.mk 1 [] (bE.mk [] 0)) (bO.mk []) (bM.mk false 0 (aC.mk [] [] 0 false 0 0 [] 0 []))))) fun r6 _ => ?_
 refine lQ eX nO (oP _) fun r7 _ => ?_
 refine lQ eX lE (by (try simp only [EN]); exact oM ((aI.mk ([99] : Str) [] true 0 5 0 0 [] [] (aO.mk 1 [] (bE.mk [] 0)) (bO.mk []) (bM.mk false 0 (aC.mk [] [] 0 false 0 0 [] 0 []))))) fun r8 _ => ?_
 refine lD (by simp only [EN]) ?_ ?_
 ·refine lG (by simp only [EN]) ?_
  refine lD (by simp only [EN]) ?_ ?_
  ·refine lC ?_ ?_
   ·refine lC ?_ ?_
    ·refine lC ?_ ?_
     ·refine lQ eX brokerlaw43_light_inj (tE _ _) fun r9 _ => ?_
      refine lC ?_ ?_
      ·refine lC ?_ ?_
       ·refine lC ?_ ?_
        ·exact aJ rfl
        ·exact aJ rfl
       ·exact aJ rfl
      ·exact aJ rfl
     ·exact aJ rfl
    ·exact aJ rfl
   ·exact aJ rfl
  ·exact aJ rfl
 ·exact aJ rfl
theorem bI : Le (Option.map brokerlaw43_light_out (bK)) (bF SE 12 [] [] []) := by
 refine aW ayV rfl ?_
 refine Le.trans ?_ (le_of_eq (T12 _ _ _ _ _ _ _ _ _ _ ).symm)
 unfold bK
 refine lQ eX rH (by (try simp only [EN]); exact v7 [] ([99, 49] : Str) 2) fun r0 _ => ?_
 refine lQ eX rH (v7 _ _ _) fun r1 _ => ?_
 refine lC ?_ ?_
 ·exact aJ rfl
 ·refine lC ?_ ?_
  ·exact aJ rfl
  ·refine lC ?_ ?_
   ·exact aJ rfl
   ·refine lC ?_ ?_
    ·exact aJ rfl
    ·refine lQ eX brokerlaw43_light_inj (sZ _ _ _ _) fun r2 _ => ?_
     refine lC ?_ ?_
     ·exact aJ rfl
     ·refine lQ eX brokerlaw43_light_inj (sZ _ _ _ _) fun r3 _ => ?_
      refine lC ?_ ?_
      ·exact aJ rfl
      ·refine lQ eX aM (ad8 _) fun r4 _ => ?_
       refine lC ?_ ?_
       ·exact aJ rfl
       ·exact abd
section
variable (Γ : Fun)  (Λ2 J : Lam)
def C84 : aP := aR Γ
theorem T84 (p0 : Int) : bG SE (C84 Γ) Λ2 J 84 [.d (.int .u8 p0)] [] [] =
 cond (decide (p0 ≥ 97)) (
 (rB (decide (p0 ≤ 122)))) (
 (rB false)) := by kernel_rfl
end
abbrev X84 : aP := C84 gG
theorem aHn : X84 = aR gG := rfl
theorem abC (p0 : Int) : Le (Option.map brokerlaw43_light_out (oN p0)) (bF SE 84 [.d (.int .u8 p0)] [] []) := by
 refine aW aHn rfl ?_
 refine Le.trans ?_ (le_of_eq (T84 ..).symm)
 unfold oN
 refine lC ?_ ?_
 ·exact aJ rfl
 ·exact aJ rfl
section
variable (Γ : Fun)  (Λ2 J : Lam)
def C85 : aP := aR Γ
theorem T85 (p0 : Int) : bG SE (C85 Γ) Λ2 J 85 [.d (.int .u8 p0)] [] [] =
 cond (decide (p0 ≥ 48)) (
 (rB (decide (p0 ≤ 57)))) (
 (rB false)) := by kernel_rfl
end
abbrev X85 : aP := C85 gG
theorem aG1 : X85 = aR gG := rfl
theorem ahc (p0 : Int) : Le (Option.map brokerlaw43_light_out (rM p0)) (bF SE 85 [.d (.int .u8 p0)] [] []) := by
 refine aW aG1 rfl ?_
 refine Le.trans ?_ (le_of_eq (T85 ..).symm)
 unfold rM
 refine lC ?_ ?_
 ·exact aJ rfl
 ·exact aJ rfl
def als (C : aP) (Λ2 J : Lam) (a0 : Str) (a1 : Int) : Res := lab SE C Λ2 J 33 0 [1, 1, 0, 1, 0] (aV [(0, .d (.str a0)), (3, .d (.int .i64 a1))] [] [] [] [])
def axO (C : aP) (Λ2 J : Lam) (a0 : Str) : Res := lab SE C Λ2 J 33 0 [1, 1, 0, 0] (aV [(0, .d (.str a0))] [] [] [] [])
section
variable (Γ : Fun) (γ84 γ85 : Gm (Bool)) (Λ2 J : Lam)
def C33 : aP := bB (bB (aR Γ) 84 brokerlaw43_light_out γ84) 85 brokerlaw43_light_out γ85
theorem T33 (p0 : Str) : bG SE (C33 Γ γ84 γ85) Λ2 J 33 [.d (.str p0)] [] [] =
 cond (decide ((List.length p0 : Int) < 1)) (
 (rB false)) (
 cond (decide ((List.length p0 : Int) > 16)) (
 (rB false)) (
 cond (decide (0 ≤ 0) && decide (0 < (List.length p0 : Int))) (
 γ84 [.d (.int .u8 (UInt8.toNat (List.getD p0 (Int.toNat 0) 0) : Int))] [] [] fun r0 =>
 cond (!r0) (
  (rB false)) (
 axO (C33 Γ γ84 γ85) Λ2 J p0)) none)) := by kernel_rfl
theorem aCP (x0 : Str) (x3 : Int) : bW SE (C33 Γ γ84 γ85) Λ2 J 33 0 [1, 1, 0, 1, 0] (aV [(0, .d (.str x0)), (3, .d (.int .i64 x3))] [] [] [] []) =
 cond (decide (x3 < (List.length x0 : Int))) (
 cond (iB x3 (List.length x0 : Int)) (
  γ84 [.d (.int .u8 (UInt8.toNat (List.getD x0 (Int.toNat x3) 0) : Int))] [] [] fun r1 =>
  cond (!r1) (
  cond (iB x3 (List.length x0 : Int)) (
   γ85 [.d (.int .u8 (UInt8.toNat (List.getD x0 (Int.toNat x3) 0) : Int))] [] [] fun r2 =>
   cond (!r2) (
   cond (iB x3 (List.length x0 : Int)) (
    cond ((UInt8.toNat (List.getD x0 (Int.toNat x3) 0) : Int) != 45) (
    (rB false)) (
    als (C33 Γ γ84 γ85) Λ2 J x0 (w6 (x3 + 1)))) none) (
   als (C33 Γ γ84 γ85) Λ2 J x0 (w6 (x3 + 1)))) none) (
  als (C33 Γ γ84 γ85) Λ2 J x0 (w6 (x3 + 1)))) none) (
 (rB true)) := by kernel_rfl
theorem aEL (x0 : Str) : bW SE (C33 Γ γ84 γ85) Λ2 J 33 0 [1, 1, 0, 0] (aV [(0, .d (.str x0))] [] [] [] []) =
 als (C33 Γ γ84 γ85) Λ2 J x0 0 := by kernel_rfl
end
abbrev X33 : aP := C33 gG (cT 84 brokerlaw43_light_out) (cT 85 brokerlaw43_light_out)
theorem avb : X33 = aR gG := by unfold X33 C33; repeat rw [bD fun _ h => h]
abbrev aCH := als X33 (bV SE gG (SE.hl 33) (SE.hr 33)) (J0 SE X33)
abbrev aDh := axO X33 (bV SE gG (SE.hl 33) (SE.hr 33)) (J0 SE X33)
theorem afK : ∀ (fu : Nat) (x0 : Str) (x3 : Int), Le (Option.map brokerlaw43_light_out (gT fu x0 x3)) (aCH x0 x3) := by
 intro fu
 induction fu with
 | zero => intros; exact le_none
 | succ fu ih =>
  intro x0 x3
  refine Le.trans ?_ (le_of_eq ((aZ avb).trans (aCP ..)).symm)
  unfold gT
  refine lC ?_ ?_
  ·refine lF ?_
   refine lQ eX brokerlaw43_light_inj (abC _) fun r1 _ => ?_
   refine lC ?_ ?_
   ·refine lF ?_
    refine lQ eX brokerlaw43_light_inj (ahc _) fun r2 _ => ?_
    refine lC ?_ ?_
    ·refine lF ?_
     refine lC ?_ ?_
     ·exact aJ rfl
     ·exact ih x0 (w6 (x3 + 1))
    ·exact ih x0 (w6 (x3 + 1))
   ·exact ih x0 (w6 (x3 + 1))
  ·exact aJ rfl
theorem afD (x0 : Str) : Le (Option.map brokerlaw43_light_out (tG x0)) (aDh x0) := by
 refine Le.trans ?_ (le_of_eq ((aZ avb).trans (aEL ..)).symm)
 unfold tG
 exact afK fuel x0 0
theorem mU (p0 : Str) : Le (Option.map brokerlaw43_light_out (fQ p0)) (bF SE 33 [.d (.str p0)] [] []) := by
 refine aW avb rfl ?_
 refine Le.trans ?_ (le_of_eq (T33 ..).symm)
 unfold fQ
 refine lC ?_ ?_
 ·exact aJ rfl
 ·refine lC ?_ ?_
  ·exact aJ rfl
  ·refine lF ?_
   refine lQ eX brokerlaw43_light_inj (abC _) fun r0 _ => ?_
   refine lC ?_ ?_
   ·exact aJ rfl
   ·exact afD p0
end Te
end PX
