import Derived.Test.YtmcpanmcgpjfiaaGreatDoorTre0
set_option linter.unusedVariables false
set_option linter.unusedSimpArgs false
set_option maxRecDepth 100000
noncomputable section
namespace PX
open Go
open Md
namespace Te
def an2 (C : aN) (Λ2 J : Lam) (a0 a1 : Int) (a2 : List D) : Res := lab SE C Λ2 J 88 0 [1, 1, 1, 1, 0, 1, 0] (aU [(1, .ptr 1000000000 0), (26, .d (.int .i64 a0)), (27, .d (.int .i64 a1))] [⟨37, (List.map AV.d a2)⟩] [] [] [])
def asi (C : aN) (Λ2 J : Lam) (a0 : List D) : Res := lab SE C Λ2 J 88 0 [1, 1, 0, 0] (aU [(1, .ptr 1000000000 0)] [⟨37, (List.map AV.d a0)⟩] [] [] [])
section
variable (Γ : Fun) (γ119 γ120 : Gm (Int)) (Λ2 J : Lam)
def C88 : aN := aZ (aZ (aQ Γ) 119 brokerref43_Check_out γ119) 120 brokerref43_Check_out γ120
theorem T88 (p0 : aM) : bF SE (C88 Γ γ119 γ120) Λ2 J 88 [aM.av p0] [] [] =
 cond (decide (p0.Limit < 0)) (
 (rI 1)) (
 cond (decide (p0.Limit > 32)) (
 (rI 1)) (
 asi (C88 Γ γ119 γ120) Λ2 J (aM.enc p0))) := by kernel_rfl
theorem azi (x26 x27 : Int) (b0 : aM) : bR SE (C88 Γ γ119 γ120) Λ2 J 88 0 [1, 1, 1, 1, 0, 1, 0] (aU [(1, .ptr 1000000000 0), (26, .d (.int .i64 x26)), (27, .d (.int .i64 x27))] [⟨37, (List.map AV.d (aM.enc b0))⟩] [] [] []) =
 cond (decide (x27 < x26)) (
 γ120 [aM.av b0, .d (.int .i64 x27)] [] [] fun r1 =>
 cond (r1 != 0) (
  (rI r1)) (
 an2 (C88 Γ γ119 γ120) Λ2 J x26 (w6 (x27 + 1)) (aM.enc b0))) (
 cond (decide ((lM aE.enc b0.Items : Int) < (lM eI b0.Pool.Used : Int))) (
 (rI 15)) (
 (rI 0))) := by kernel_rfl
theorem ayk (b0 : aM) : bR SE (C88 Γ γ119 γ120) Λ2 J 88 0 [1, 1, 0, 0] (aU [(1, .ptr 1000000000 0)] [⟨37, (List.map AV.d (aM.enc b0))⟩] [] [] []) =
 γ119 [bC.av b0.Pool] [] [] fun r0 =>
 cond (r0 != 0) (
 (rI r0)) (
 cond (decide ((lM aE.enc b0.Items : Int) > 32)) (
 (rI 5)) (
 an2 (C88 Γ γ119 γ120) Λ2 J (lM aE.enc b0.Items : Int) 0 (aM.enc b0))) := by kernel_rfl
end
abbrev X88 : aN := C88 gG (cT 119 brokerref43_Check_out) (cT 120 brokerref43_Check_out)
theorem aqC : X88 = aQ gG := by unfold X88 C88; repeat rw [bB fun _ h => h]
abbrev ay9 := an2 X88 (bQ SE gG (SE.hl 88) (SE.hr 88)) (J0 SE X88)
abbrev azv := asi X88 (bQ SE gG (SE.hl 88) (SE.hr 88)) (J0 SE X88)
theorem aeO : ∀ (fu : Nat) (x26 x27 : Int) (b0 : aM), Le (Option.map brokerref43_Check_out (jF fu x26 x27 b0)) (ay9 x26 x27 (aM.enc b0)) := by
 intro fu
 induction fu with
 | zero => intros; exact le_none
 | succ fu ih =>
  intro x26 x27 b0
  refine Le.trans ?_ (le_of_eq ((aX aqC).trans (azi ..)).symm)
  unfold jF
  refine lC ?_ ?_
  ·refine lQ eX brokerref43_Check_inj (ad0 _ _) fun r1 _ => ?_
   refine lC ?_ ?_
   ·exact aI rfl
   ·exact ih x26 (w6 (x27 + 1)) b0
  ·refine lD (by simp only [EN]) ?_ ?_
   ·exact aI rfl
   ·exact aI rfl
theorem aeo (b0 : aM) : Le (Option.map brokerref43_Check_out (qU b0)) (azv (aM.enc b0)) := by
 refine Le.trans ?_ (le_of_eq ((aX aqC).trans (ayk ..)).symm)
 unfold qU
 refine lQ eX brokerref43_Check_inj (aj7 _) fun r0 _ => ?_
 refine lC ?_ ?_
 ·exact aI rfl
 ·refine lD (by simp only [EN]) ?_ ?_
  ·exact aI rfl
  ·(try simp only [EN]); exact aeO fuel (List.length b0.Items : Int) 0 b0
theorem ag9 (p0 : aM) : Le (Option.map brokerref43_Check_out (rA p0)) (bD SE 88 [aM.av p0] [] []) := by
 refine aV aqC rfl ?_
 refine Le.trans ?_ (le_of_eq (T88 ..).symm)
 unfold rA
 refine lC ?_ ?_
 ·exact aI rfl
 ·refine lC ?_ ?_
  ·exact aI rfl
  ·exact aeo p0
def an8 (C : aN) (Λ2 J : Lam) (a0 : Int) (a1 : List (List D)) (a2 a3 : Int) : Res := lab SE C Λ2 J 89 0 [1, 1, 1, 0, 1, 0] (aU [(3, .d (.int .i64 a0)), (11, .d (.sl [.int .i64] a1)), (12, .d (.int .i64 a2)), (13, .d (.int .i64 a3))] [] [] [] [])
section
variable (Γ : Fun)  (Λ2 J : Lam)
def C89 : aN := aQ Γ
theorem T89 (p0 : bM) : bF SE (C89 Γ) Λ2 J 89 [bM.av p0] [] [] =
 cond (decide ((lM eI p0.IDs : Int) > 32)) (
 (rI 5)) (
 an8 (C89 Γ) Λ2 J 0 (List.map eI p0.IDs) (lM eI p0.IDs : Int) 0) := by kernel_rfl
theorem aym (x3 : Int) (x11 : List Int) (x12 x13 : Int) : bR SE (C89 Γ) Λ2 J 89 0 [1, 1, 1, 0, 1, 0] (aU [(3, .d (.int .i64 x3)), (11, .d (.sl [.int .i64] (List.map eI x11))), (12, .d (.int .i64 x12)), (13, .d (.int .i64 x13))] [] [] [] []) =
 cond (decide (x13 < x12)) (
 cond (iB x13 (lM eI x11 : Int)) (
  cond (decide ((aW (cE eI x11 x13 0)) ≤ x3)) (
  (rI 15)) (
  cond (decide ((aW (cE eI x11 x13 0)) > 65535)) (
  (rI 15)) (
  an8 (C89 Γ) Λ2 J ((aW (cE eI x11 x13 0))) (List.map eI x11) x12 (w6 (x13 + 1))))) none) (
 (rI 0)) := by kernel_rfl
end
abbrev X89 : aN := C89 gG
theorem atU : X89 = aQ gG := rfl
abbrev ayf := an8 X89 (bQ SE gG (SE.hl 89) (SE.hr 89)) (J0 SE X89)
theorem afm : ∀ (fu : Nat) (x3 : Int) (x11 : List Int) (x12 x13 : Int), Le (Option.map brokerref43_Check_out (jX fu x3 x11 x12 x13)) (ayf x3 (List.map eI x11) x12 x13) := by
 intro fu
 induction fu with
 | zero => intros; exact le_none
 | succ fu ih =>
  intro x3 x11 x12 x13
  refine Le.trans ?_ (le_of_eq ((aX atU).trans (aym ..)).symm)
  unfold jX
  refine lC ?_ ?_
  ·refine lG (by simp only [EN]) ?_
   refine lD (by simp only [EN]) ?_ ?_
   ·exact aI rfl
   ·refine lD (by simp only [EN]) ?_ ?_
    ·exact aI rfl
    ·(try simp only [EN]); exact ih (List.getD x11 (Int.toNat x13) default) x11 x12 (w6 (x13 + 1))
  ·exact aI rfl
theorem ah3 (p0 : bM) : Le (Option.map brokerref43_Check_out (pR p0)) (bD SE 89 [bM.av p0] [] []) := by
 refine aV atU rfl ?_
 refine Le.trans ?_ (le_of_eq (T89 ..).symm)
 unfold pR
 refine lD (by simp only [EN]) ?_ ?_
 ·exact aI rfl
 ·(try simp only [EN]); exact afm fuel 0 p0.IDs (List.length p0.IDs : Int) 0
def al4 (C : aN) (Λ2 J : Lam) (a0 : List (List D)) (a1 a2 : Int) (a3 : List D) : Res := lab SE C Λ2 J 121 0 [1, 1, 0, 1, 0] (aU [(3, .ptr 1000000000 0), (71, .d (.sl aG.ks a0)), (72, .d (.int .i64 a1)), (73, .d (.int .i64 a2))] [⟨42, (List.map AV.d a3)⟩] [] [] [])
def apJ (C : aN) (Λ2 J : Lam) (a0 a1 : List D) : Res := lab SE C Λ2 J 121 0 [1, 1, 0, 0] (aU [(2, .ptr 1000000000 0), (3, .ptr 1000000001 0)] [⟨42, (List.map AV.d a0)⟩, ⟨42, (List.map AV.d a1)⟩] [] [] [])
section
variable (Γ : Fun)  (Λ2 J : Lam)
def ah2 : aN := aQ Γ
theorem aBY (p0 p1 : aC) : bF SE (ah2 Γ) Λ2 J 121 [aC.av p0, aC.av p1] [] [] =
 cond (!(p0.Topic == p1.Topic)) (
 (rB false)) (
 cond (!(p0.Payload == p1.Payload)) (
 (rB false)) (
 cond (p0.Level != p1.Level) (
 (rB false)) (
 cond (p0.Retain != p1.Retain) (
 (rB false)) (
 cond (p0.Priority != p1.Priority) (
 (rB false)) (
 cond (p0.Expires != p1.Expires) (
 (rB false)) (
 cond (!(p0.From == p1.From)) (
 (rB false)) (
 cond (p0.Seq != p1.Seq) (
 (rB false)) (
 cond ((lM aG.enc p0.Props : Int) != (lM aG.enc p1.Props : Int)) (
 (rB false)) (
 apJ (ah2 Γ) Λ2 J (aC.enc p0) (aC.enc p1)))))))))) := by kernel_rfl
theorem axn (x71 : List aG) (x72 x73 : Int) (b0 : aC) : bR SE (ah2 Γ) Λ2 J 121 0 [1, 1, 0, 1, 0] (aU [(3, .ptr 1000000000 0), (71, .d (.sl aG.ks (List.map aG.enc x71))), (72, .d (.int .i64 x72)), (73, .d (.int .i64 x73))] [⟨42, (List.map AV.d (aC.enc b0))⟩] [] [] []) =
 cond (decide (x73 < x72)) (
 cond (iB x73 (lM aG.enc x71 : Int)) (
  cond (iB x73 (lM aG.enc b0.Props : Int)) (
  cond (!(((bK (cE aG.enc x71 x73 0)) == (bK (cE aG.enc b0.Props x73 0))) && (((bK (cE aG.enc x71 x73 1)) == (bK (cE aG.enc b0.Props x73 1))) && true))) (
   (rB false)) (
  al4 (ah2 Γ) Λ2 J (List.map aG.enc x71) x72 (w6 (x73 + 1)) (aC.enc b0))) none) none) (
 (rB true)) := by kernel_rfl
theorem awk (b0 b1 : aC) : bR SE (ah2 Γ) Λ2 J 121 0 [1, 1, 0, 0] (aU [(2, .ptr 1000000000 0), (3, .ptr 1000000001 0)] [⟨42, (List.map AV.d (aC.enc b0))⟩, ⟨42, (List.map AV.d (aC.enc b1))⟩] [] [] []) =
 al4 (ah2 Γ) Λ2 J (List.map aG.enc b0.Props) (lM aG.enc b0.Props : Int) 0 (aC.enc b1) := by kernel_rfl
end
abbrev amH : aN := ah2 gG
theorem aou : amH = aQ gG := rfl
abbrev at4 := al4 amH (bQ SE gG (SE.hl 121) (SE.hr 121)) (J0 SE amH)
abbrev awT := apJ amH (bQ SE gG (SE.hl 121) (SE.hr 121)) (J0 SE amH)
theorem afH : ∀ (fu : Nat) (x71 : List aG) (x72 x73 : Int) (b0 : aC), Le (Option.map brokerref01_lower_out (kF fu x71 x72 x73 b0)) (at4 (List.map aG.enc x71) x72 x73 (aC.enc b0)) := by
 intro fu
 induction fu with
 | zero => intros; exact le_none
 | succ fu ih =>
  intro x71 x72 x73 b0
  refine Le.trans ?_ (le_of_eq ((aX aou).trans (axn ..)).symm)
  unfold kF
  refine lC ?_ ?_
  ·refine lG (by simp only [EN]) ?_
   refine lG (by simp only [EN]) ?_
   refine lD (by simp only [EN]) ?_ ?_
   ·exact aI rfl
   ·exact ih x71 x72 (w6 (x73 + 1)) b0
  ·exact aI rfl
theorem agb (b0 b1 : aC) : Le (Option.map brokerref01_lower_out (tY b0 b1)) (awT (aC.enc b0) (aC.enc b1)) := by
 refine Le.trans ?_ (le_of_eq ((aX aou).trans (awk ..)).symm)
 unfold tY
 (try simp only [EN]); exact afH fuel b0.Props (List.length b0.Props : Int) 0 b1
theorem aif (p0 p1 : aC) : Le (Option.map brokerref01_lower_out (uQ p0 p1)) (bD SE 121 [aC.av p0, aC.av p1] [] []) := by
 refine aV aou rfl ?_
 refine Le.trans ?_ (le_of_eq (aBY ..).symm)
 unfold uQ
 refine lC ?_ ?_
 ·exact aI rfl
 ·refine lC ?_ ?_
  ·exact aI rfl
  ·refine lC ?_ ?_
   ·exact aI rfl
   ·refine lC ?_ ?_
    ·exact aI rfl
    ·refine lC ?_ ?_
     ·exact aI rfl
     ·refine lC ?_ ?_
      ·exact aI rfl
      ·refine lC ?_ ?_
       ·exact aI rfl
       ·refine lC ?_ ?_
        ·exact aI rfl
        ·refine lD (by simp only [EN]) ?_ ?_
         ·exact aI rfl
         ·exact agb p0 p1
section
variable (Γ : Fun) (γ121 : Gm (Bool)) (γ118 : Gm (Int)) (Λ2 J : Lam)
def C90 : aN := aZ (aZ (aQ Γ) 121 brokerref01_lower_out γ121) 118 brokerref43_Check_out γ118
theorem T90 (p0 : bO) : bF SE (C90 Γ γ121 γ118) Λ2 J 90 [bO.av p0] [] [] =
 cond (!p0.Set) (
 cond (p0.Delay != 0) (
  (rI 28)) (
 γ121 [aC.av p0.Message, .agg [.d (.str []), .d (.str []), .d (.int .i64 0), .d (.bool false), .d (.int .i64 0), .d (.int .i64 0), .d (.str []), .d (.int .i64 0), .d (.sl aG.ks (List.map aG.enc []))]] [] [] fun r0 =>
 cond (!r0) (
  (rI 28)) (
 (rI 0)))) (
 cond (decide (p0.Delay < 0)) (
 (rI 1)) (
 cond (decide (p0.Delay > 1099511627776)) (
 (rI 1)) (
 γ118 [aC.av p0.Message] [] [] fun r1 =>
 (rI r1)))) := by kernel_rfl
end
abbrev X90 : aN := C90 gG (cT 121 brokerref01_lower_out) (cT 118 brokerref43_Check_out)
theorem aCA : X90 = aQ gG := by unfold X90 C90; repeat rw [bB fun _ h => h]
theorem akS (p0 : bO) : Le (Option.map brokerref43_Check_out (y8 p0)) (bD SE 90 [bO.av p0] [] []) := by
 refine aV aCA rfl ?_
 refine Le.trans ?_ (le_of_eq (T90 ..).symm)
 unfold y8
 refine lC ?_ ?_
 ·refine lC ?_ ?_
  ·exact aI rfl
  ·refine lQ eX brokerref01_lower_inj (by (try simp only [EN]); exact aif p0.Message ((aC.mk [] [] 0 false 0 0 [] 0 []))) fun r0 _ => ?_
   refine lC ?_ ?_
   ·exact aI rfl
   ·exact aI rfl
 ·refine lC ?_ ?_
  ·exact aI rfl
  ·refine lC ?_ ?_
   ·exact aI rfl
   ·refine lQ eX brokerref43_Check_inj (sD _) fun r1 _ => ?_
    exact aI rfl
section
variable (Γ : Fun) (γ86 γ87 γ88 γ89 γ90 : Gm (Int)) (Λ2 J : Lam)
def C35 : aN := aZ (aZ (aZ (aZ (aZ (aQ Γ) 86 brokerref43_Check_out γ86) 87 brokerref43_Check_out γ87) 88 brokerref43_Check_out γ88) 89 brokerref43_Check_out γ89) 90 brokerref43_Check_out γ90
theorem T35 (p0 : aJ) : bF SE (C35 Γ γ86 γ87 γ88 γ89 γ90) Λ2 J 35 [aJ.av p0] [] [] =
 γ86 [aJ.av p0] [] [] fun r0 =>
 cond (r0 != 0) (
 (rI r0)) (
 γ87 [aJ.av p0] [] [] fun r1 =>
 cond (r1 != 0) (
 (rI r1)) (
 γ88 [aM.av p0.Out] [] [] fun r2 =>
 cond (r2 != 0) (
 (rI r2)) (
 γ89 [bM.av p0.In] [] [] fun r3 =>
 cond (r3 != 0) (
 (rI r3)) (
 γ90 [bO.av p0.Will] [] [] fun r4 =>
 (rI r4))))) := by kernel_rfl
end
abbrev X35 : aN := C35 gG (cT 86 brokerref43_Check_out) (cT 87 brokerref43_Check_out) (cT 88 brokerref43_Check_out) (cT 89 brokerref43_Check_out) (cT 90 brokerref43_Check_out)
theorem aB1 : X35 = aQ gG := by unfold X35 C35; repeat rw [bB fun _ h => h]
theorem abS (p0 : aJ) : Le (Option.map brokerref43_Check_out (pU p0)) (bD SE 35 [aJ.av p0] [] []) := by
 refine aV aB1 rfl ?_
 refine Le.trans ?_ (le_of_eq (T35 ..).symm)
 unfold pU
 refine lQ eX brokerref43_Check_inj (aeU _) fun r0 _ => ?_
 refine lC ?_ ?_
 ·exact aI rfl
 ·refine lQ eX brokerref43_Check_inj (adM _) fun r1 _ => ?_
  refine lC ?_ ?_
  ·exact aI rfl
  ·refine lQ eX brokerref43_Check_inj (ag9 _) fun r2 _ => ?_
   refine lC ?_ ?_
   ·exact aI rfl
   ·refine lQ eX brokerref43_Check_inj (ah3 _) fun r3 _ => ?_
    refine lC ?_ ?_
    ·exact aI rfl
    ·refine lQ eX brokerref43_Check_inj (akS _) fun r4 _ => ?_
     exact aI rfl
section
variable (Γ : Fun)  (Λ2 J : Lam)
def C92 : aN := aQ Γ
theorem T92 (p0 : List Int) (p1 : Int) : bF SE (C92 Γ) Λ2 J 92 [.d (.sl [.int .u8] (List.map (encI .u8) p0)), .d (.int .i64 p1)] [] [] =
 cond (decide (0 ≤ (lM (encI .u8) p0 : Int)) && decide ((lM (encI .u8) p0 : Int) ≤ (w6 ((lM (encI .u8) p0 : Int) + p1))) && decide ((w6 ((lM (encI .u8) p0 : Int) + p1)) * 1 ≤ 281474976710656)) (
 (some (.ret [.row 0] [] [⟨[.int .u8], 5, 1, (List.take (List.length (List.replicate (Int.toNat (lM (encI .u8) p0 : Int)) [D.int .u8 0])) (List.map (encI .u8) p0) ++ List.drop (min (lM (encI .u8) p0) (List.length (List.replicate (Int.toNat (lM (encI .u8) p0 : Int)) [D.int .u8 0]))) (List.replicate (Int.toNat (lM (encI .u8) p0 : Int)) [D.int .u8 0]))⟩]))) none := by kernel_rfl
end
abbrev X92 : aN := C92 gG
theorem aBw : X92 = aQ gG := rfl
theorem afd (p0 : List Int) (p1 : Int) : Le (Option.map aR (aa8 p0 p1)) (bD SE 92 [.d (.sl [.int .u8] (List.map (encI .u8) p0)), .d (.int .i64 p1)] [] []) := by
 refine aV aBw rfl ?_
 refine Le.trans ?_ (le_of_eq (T92 ..).symm)
 unfold aa8
 refine lG (by simp only [EN]) ?_
 exact aI (by first | rfl | simp only [EN, aR] <;> rfl)
section
variable (Γ : Fun)  (Λ2 J : Lam)
def awF : aN := aQ Γ
theorem aCE (p0 : Int) : bF SE (awF Γ) Λ2 J 122 [.d (.int .i64 p0)] [] [] =
 (some (.ret [.d (.int .u64 (gL .xor .u64 (shl .u64 (IntKind.wrap .u64 p0) 1) (IntKind.wrap .u64 (shr .i64 p0 63))))] [] [])) := by kernel_rfl
end
abbrev aB5 : aN := awF gG
theorem azR : aB5 = aQ gG := rfl
theorem alN (p0 : Int) : Le (Option.map iX (af0 p0)) (bD SE 122 [.d (.int .i64 p0)] [] []) := by
 refine aV azR rfl ?_
 refine Le.trans ?_ (le_of_eq (aCE ..).symm)
 unfold af0
 exact aI rfl
def anL (C : aN) (Λ2 J : Lam) (a0 : Int) (a1 : List (List D)) : Res := lab SE C Λ2 J 91 0 [1, 1, 0, 0] (aU [(0, .row 3000), (5, .d (.int .u64 a0))] [] [] [] [(3000, ⟨[.int .u8], 5, 1, a1⟩)])
section
variable (Γ : Fun) (γ122 : Gm (Int)) (Λ2 J : Lam)
def C91 : aN := aZ (aQ Γ) 122 iX γ122
theorem T91 (p0 : List Int) (p1 : Int) : bF SE (C91 Γ γ122) Λ2 J 91 [.row 2000000000, .d (.int .i64 p1)] [] [⟨[.int .u8], 5, 1, (List.map (encI .u8) p0)⟩] =
 γ122 [.d (.int .i64 p1)] [] [] fun r0 =>
 anL (C91 Γ γ122) Λ2 J r0 (List.map (encI .u8) p0) := by kernel_rfl
theorem azu (x5 : Int) (w3000 : List Int) : bR SE (C91 Γ γ122) Λ2 J 91 0 [1, 1, 0, 0] (aU [(0, .row 3000), (5, .d (.int .u64 x5))] [] [] [] [(3000, ⟨[.int .u8], 5, 1, (List.map (encI .u8) w3000)⟩)]) =
 cond (decide (x5 > 127)) (
 cond (decide ((lM (encI .u8) w3000 + lM (encI .u8) [(gL .or .u8 (IntKind.wrap .u8 (gL .and .u64 x5 127)) 128)]) * 1 ≤ 140737488355328)) (
  anL (C91 Γ γ122) Λ2 J (shr .u64 x5 7) (((List.map (encI .u8) w3000) ++ (List.map (encI .u8) [(gL .or .u8 (IntKind.wrap .u8 (gL .and .u64 x5 127)) 128)])))) none) (
 cond (decide ((lM (encI .u8) w3000 + lM (encI .u8) [(IntKind.wrap .u8 x5)]) * 1 ≤ 140737488355328)) (
 (some (.ret [.row 0] [] [⟨[.int .u8], 5, 1, ((List.map (encI .u8) w3000) ++ (List.map (encI .u8) [(IntKind.wrap .u8 x5)]))⟩]))) none) := by kernel_rfl
end
abbrev X91 : aN := C91 gG (cT 122 iX)
theorem atS : X91 = aQ gG := by unfold X91 C91; rw [bB fun _ h => h]
abbrev ayX := anL X91 (bQ SE gG (SE.hl 91) (SE.hr 91)) (J0 SE X91)
theorem ajJ : ∀ (fu : Nat) (x5 : Int) (w3000 : List Int), Le (Option.map aR (aam fu x5 w3000)) (ayX x5 (List.map (encI .u8) w3000)) := by
 intro fu
 induction fu with
 | zero => intros; exact le_none
 | succ fu ih =>
  intro x5 w3000
  refine Le.trans ?_ (le_of_eq ((aX atS).trans (azu ..)).symm)
  unfold aam
  refine lC ?_ ?_
  ·refine lG (by simp only [EN]) ?_
   (try simp only [EN]); exact ih (shr .u64 x5 7) (w3000 ++ [(gL .or .u8 (IntKind.wrap .u8 (gL .and .u64 x5 127)) 128)])
  ·refine lG (by simp only [EN]) ?_
   exact aI (by first | rfl | simp only [EN, aR] <;> rfl)
theorem ahv (p0 : List Int) (p1 : Int) : Le (Option.map aR (aeK p0 p1)) (bD SE 91 [.row 2000000000, .d (.int .i64 p1)] [] [⟨[.int .u8], 5, 1, (List.map (encI .u8) p0)⟩]) := by
 refine aV atS rfl ?_
 refine Le.trans ?_ (le_of_eq (T91 ..).symm)
 unfold aeK
 refine lQ eX ae7 (alN _) fun r0 _ => ?_
 exact ajJ fuel r0 p0
section
variable (Γ : Fun) (γ92 γ91 : Gm ((List Int))) (Λ2 J : Lam)
def C36 : aN := aZ (aZ (aQ Γ) 92 aR γ92) 91 aR γ91
theorem T36 (p0 : List Int) (p1 : Str) : bF SE (C36 Γ γ92 γ91) Λ2 J 36 [.d (.sl [.int .u8] (List.map (encI .u8) p0)), .d (.str p1)] [] [] =
 γ92 [.d (.sl [.int .u8] (List.map (encI .u8) p0)), .d (.int .i64 (w6 (10 + (List.length p1 : Int))))] [] [] fun r0 =>
 γ91 [.row 2000000000, .d (.int .i64 (List.length p1 : Int))] [] [⟨[.int .u8], 5, 1, (List.map (encI .u8) r0)⟩] fun r1 =>
 cond (decide ((lM (encI .u8) r1 + List.length (fH p1)) * 1 ≤ 140737488355328)) (
 (some (.ret [.row 0] [] [⟨[.int .u8], 5, 1, ((List.map (encI .u8) r1) ++ (fH p1))⟩]))) none := by kernel_rfl
end
abbrev X36 : aN := C36 gG (cT 92 aR) (cT 91 aR)
theorem aBD : X36 = aQ gG := by unfold X36 C36; repeat rw [bB fun _ h => h]
theorem jK (p0 : List Int) (p1 : Str) : Le (Option.map aR (jU p0 p1)) (bD SE 36 [.d (.sl [.int .u8] (List.map (encI .u8) p0)), .d (.str p1)] [] []) := by
 refine aV aBD rfl ?_
 refine Le.trans ?_ (le_of_eq (T36 ..).symm)
 unfold jU
 refine lQ eX aY (afd _ _) fun r0 _ => ?_
 refine lQ eX aY (ahv _ _) fun r1 _ => ?_
 refine lG (by simp only [EN]) ?_
 exact aI (by first | rfl | simp only [EN, aR] <;> rfl)
section
variable (Γ : Fun) (γ92 γ91 : Gm ((List Int))) (Λ2 J : Lam)
def C37 : aN := aZ (aZ (aQ Γ) 92 aR γ92) 91 aR γ91
theorem T37 (p0 : List Int) (p1 : Int) : bF SE (C37 Γ γ92 γ91) Λ2 J 37 [.d (.sl [.int .u8] (List.map (encI .u8) p0)), .d (.int .i64 p1)] [] [] =
 γ92 [.d (.sl [.int .u8] (List.map (encI .u8) p0)), .d (.int .i64 10)] [] [] fun r0 =>
 γ91 [.row 2000000000, .d (.int .i64 p1)] [] [⟨[.int .u8], 5, 1, (List.map (encI .u8) r0)⟩] fun r1 =>
 (some (.ret [.row 0] [] [⟨[.int .u8], 5, 1, (List.map (encI .u8) r1)⟩])) := by kernel_rfl
end
abbrev X37 : aN := C37 gG (cT 92 aR) (cT 91 aR)
theorem aAI : X37 = aQ gG := by unfold X37 C37; repeat rw [bB fun _ h => h]
theorem cV (p0 : List Int) (p1 : Int) : Le (Option.map aR (dH p0 p1)) (bD SE 37 [.d (.sl [.int .u8] (List.map (encI .u8) p0)), .d (.int .i64 p1)] [] []) := by
 refine aV aAI rfl ?_
 refine Le.trans ?_ (le_of_eq (T37 ..).symm)
 unfold dH
 refine lQ eX aY (afd _ _) fun r0 _ => ?_
 refine lQ eX aY (ahv _ _) fun r1 _ => ?_
 exact aI rfl
section
variable (Γ : Fun)  (Λ2 J : Lam)
def C45 : aN := aQ Γ
theorem T45 (p0 : Bool) : bF SE (C45 Γ) Λ2 J 45 [.d (.bool p0)] [] [] =
 cond p0 (
 (rI 1)) (
 (rI 0)) := by kernel_rfl
end
abbrev X45 : aN := C45 gG
theorem aAG : X45 = aQ gG := rfl
theorem adW (p0 : Bool) : Le (Option.map brokerref43_Check_out (aao p0)) (bD SE 45 [.d (.bool p0)] [] []) := by
 refine aV aAG rfl ?_
 refine Le.trans ?_ (le_of_eq (T45 ..).symm)
 unfold aao
 refine lC ?_ ?_
 ·exact aI rfl
 ·exact aI rfl
section
variable (Γ : Fun) (γ36 γ37 : Gm ((List Int))) (γ45 : Gm (Int)) (Λ2 J : Lam)
def C39 : aN := aZ (aZ (aZ (aQ Γ) 36 aR γ36) 37 aR γ37) 45 brokerref43_Check_out γ45
theorem T39 (p0 : List Int) (p1 : aK) : bF SE (C39 Γ γ36 γ37 γ45) Λ2 J 39 [.d (.sl [.int .u8] (List.map (encI .u8) p0)), aK.av p1] [] [] =
 γ36 [.d (.sl [.int .u8] (List.map (encI .u8) p0)), .d (.str p1.Filter)] [] [] fun r0 =>
 γ37 [.d (.sl [.int .u8] (List.map (encI .u8) r0)), .d (.int .i64 p1.Level)] [] [] fun r1 =>
 γ45 [.d (.bool p1.NoLocal)] [] [] fun r2 =>
 γ37 [.d (.sl [.int .u8] (List.map (encI .u8) r1)), .d (.int .i64 r2)] [] [] fun r3 =>
 (some (.ret [.row 0] [] [⟨[.int .u8], 5, 1, (List.map (encI .u8) r3)⟩])) := by kernel_rfl
end
abbrev X39 : aN := C39 gG (cT 36 aR) (cT 37 aR) (cT 45 brokerref43_Check_out)
theorem aAN : X39 = aQ gG := by unfold X39 C39; repeat rw [bB fun _ h => h]
theorem ahc (p0 : List Int) (p1 : aK) : Le (Option.map aR (zY p0 p1)) (bD SE 39 [.d (.sl [.int .u8] (List.map (encI .u8) p0)), aK.av p1] [] []) := by
 refine aV aAN rfl ?_
 refine Le.trans ?_ (le_of_eq (T39 ..).symm)
 unfold zY
 refine lQ eX aY (jK _ _) fun r0 _ => ?_
 refine lQ eX aY (cV _ _) fun r1 _ => ?_
 refine lQ eX brokerref43_Check_inj (adW _) fun r2 _ => ?_
 refine lQ eX aY (cV _ _) fun r3 _ => ?_
 exact aI rfl
def anv (C : aN) (Λ2 J : Lam) (a0 : List (List D)) (a1 a2 : Int) (a3 : List (List D)) : Res := lab SE C Λ2 J 38 0 [1, 1, 0, 1, 0] (aU [(0, .row 3000), (2, .fn 39 [] []), (13, .d (.sl aK.ks a0)), (14, .d (.int .i64 a1)), (15, .d (.int .i64 a2))] [] [] [] [(3000, ⟨[.int .u8], 5, 1, a3⟩)])
section
variable (Γ : Fun) (γ37 γ39 : Gm ((List Int))) (Λ2 J : Lam)
def C38 : aN := aZ (aZ (aQ Γ) 37 aR γ37) 39 aR γ39
theorem T38 (p0 : List Int) (p1 : List aK) : bF SE (C38 Γ γ37 γ39) Λ2 J 38 [.d (.sl [.int .u8] (List.map (encI .u8) p0)), .d (.sl aK.ks (List.map aK.enc p1)), .fn 39 [] []] [] [] =
 γ37 [.d (.sl [.int .u8] (List.map (encI .u8) p0)), .d (.int .i64 (lM aK.enc p1 : Int))] [] [] fun r0 =>
 anv (C38 Γ γ37 γ39) Λ2 J (List.map aK.enc p1) (lM aK.enc p1 : Int) 0 (List.map (encI .u8) r0) := by kernel_rfl
theorem axx (x13 : List aK) (x14 x15 : Int) (w3000 : List Int) : bR SE (C38 Γ γ37 γ39) Λ2 J 38 0 [1, 1, 0, 1, 0] (aU [(0, .row 3000), (2, .fn 39 [] []), (13, .d (.sl aK.ks (List.map aK.enc x13))), (14, .d (.int .i64 x14)), (15, .d (.int .i64 x15))] [] [] [] [(3000, ⟨[.int .u8], 5, 1, (List.map (encI .u8) w3000)⟩)]) =
 cond (decide (x15 < x14)) (
 cond (iB x15 (lM aK.enc x13 : Int)) (
  γ39 [.d (.sl [.int .u8] (List.map (encI .u8) w3000)), .agg [.d (.str (bK (cE aK.enc x13 x15 0))), .d (.int .i64 (aW (cE aK.enc x13 x15 1))), .d (.bool (dC (cE aK.enc x13 x15 2)))]] [] [] fun r1 =>
  anv (C38 Γ γ37 γ39) Λ2 J (List.map aK.enc x13) x14 (w6 (x15 + 1)) (List.map (encI .u8) r1)) none) (
 (some (.ret [.row 0] [] [⟨[.int .u8], 5, 1, (List.map (encI .u8) w3000)⟩]))) := by kernel_rfl
end
abbrev X38 : aN := C38 gG (cT 37 aR) (cT 39 aR)
theorem avp : X38 = aQ gG := by unfold X38 C38; repeat rw [bB fun _ h => h]
abbrev axC := anv X38 (bQ SE gG (SE.hl 38) (SE.hr 38)) (J0 SE X38)
theorem yQ : ∀ (fu : Nat) (x13 : List aK) (x14 x15 : Int) (w3000 : List Int), Le (Option.map aR (jJ fu x13 x14 x15 w3000)) (axC (List.map aK.enc x13) x14 x15 (List.map (encI .u8) w3000)) := by
 intro fu
 induction fu with
 | zero => intros; exact le_none
 | succ fu ih =>
  intro x13 x14 x15 w3000
  refine Le.trans ?_ (le_of_eq ((aX avp).trans (axx ..)).symm)
  unfold jJ
  refine lC ?_ ?_
  ·refine lG (by simp only [EN]) ?_
   refine lQ eX aY (by (try simp only [EN]); exact ahc w3000 (List.getD x13 (Int.toNat x15) default)) fun r1 _ => ?_
   exact ih x13 x14 (w6 (x15 + 1)) r1
  ·exact aI rfl
theorem aax (p0 : List Int) (p1 : List aK) : Le (Option.map aR (o6 p0 p1)) (bD SE 38 [.d (.sl [.int .u8] (List.map (encI .u8) p0)), .d (.sl aK.ks (List.map aK.enc p1)), .fn 39 [] []] [] []) := by
 refine aV avp rfl ?_
 refine Le.trans ?_ (le_of_eq (T38 ..).symm)
 unfold o6
 refine lQ eX aY (by (try simp only [EN]); exact cV p0 (List.length p1 : Int)) fun r0 _ => ?_
 (try simp only [EN]); exact yQ fuel p1 (List.length p1 : Int) 0 r0
def asv (C : aN) (Λ2 J : Lam) (a0 : List (List D)) (a1 a2 a3 : Int) (a4 : Bool) : Res := lab SE C Λ2 J 93 0 [1, 1, 0, 1, 0, 0, 1, 0, 0, 0] (aU [(0, .d (.sl [.bool] a0)), (3, .d (.int .i64 a1)), (4, .d (.int .i64 a2)), (10, .d (.int .i64 a3)), (11, .d (.bool a4))] [] [] [] [])
def ak9 (C : aN) (Λ2 J : Lam) (a0 : List (List D)) (a1 a2 : Int) : Res := lab SE C Λ2 J 93 0 [1, 1, 0, 1, 0] (aU [(0, .d (.sl [.bool] a0)), (3, .d (.int .i64 a1)), (4, .d (.int .i64 a2))] [] [] [] [])
section
variable (Γ : Fun)  (Λ2 J : Lam)
def C93 : aN := aQ Γ
theorem T93 (p0 : List Bool) : bF SE (C93 Γ) Λ2 J 93 [.d (.sl [.bool] (List.map kN p0))] [] [] =
 ak9 (C93 Γ) Λ2 J (List.map kN p0) 0 0 := by kernel_rfl
theorem ayW (x0 : List Bool) (x3 x4 x10 : Int) (x11 : Bool) : bR SE (C93 Γ) Λ2 J 93 0 [1, 1, 0, 1, 0, 0, 1, 0, 0, 0] (aU [(0, .d (.sl [.bool] (List.map kN x0))), (3, .d (.int .i64 x3)), (4, .d (.int .i64 x4)), (10, .d (.int .i64 x10)), (11, .d (.bool x11))] [] [] [] []) =
 cond (iB x4 (lM kN x0 : Int)) (
 cond (dC (cE kN x0 x4 0)) (
  cond (decide (0 ≤ x4)) (
  ak9 (C93 Γ) Λ2 J (List.map kN x0) (gL .or .i64 x3 (shl .i64 1 x4)) (w6 (x4 + 1))) none) (
 ak9 (C93 Γ) Λ2 J (List.map kN x0) x3 (w6 (x4 + 1)))) none := by kernel_rfl
theorem azp (x0 : List Bool) (x3 x4 : Int) : bR SE (C93 Γ) Λ2 J 93 0 [1, 1, 0, 1, 0] (aU [(0, .d (.sl [.bool] (List.map kN x0))), (3, .d (.int .i64 x3)), (4, .d (.int .i64 x4))] [] [] [] []) =
 cond (decide (x4 < (lM kN x0 : Int))) (
 cond (decide (x4 < 32)) (
  asv (C93 Γ) Λ2 J (List.map kN x0) x3 x4 x4 (decide (x4 < 32))) (
 (rI x3))) (
 (rI x3)) := by kernel_rfl
end
abbrev X93 : aN := C93 gG
theorem aqM : X93 = aQ gG := rfl
abbrev aAi := asv X93 (bQ SE gG (SE.hl 93) (SE.hr 93)) (J0 SE X93)
abbrev asH := ak9 X93 (bQ SE gG (SE.hl 93) (SE.hr 93)) (J0 SE X93)
theorem ahX (k3 : (List Bool) → Int → Int → Option (Int)) (hk3 : ∀ (x0 : List Bool) (x3 x4 : Int), Le (Option.map brokerref43_Check_out (k3 x0 x3 x4)) (asH (List.map kN x0) x3 x4)) (x0 : List Bool) (x3 x4 x10 : Int) (x11 : Bool) : Le (Option.map brokerref43_Check_out (aaS k3 x0 x3 x4 x10 x11)) (aAi (List.map kN x0) x3 x4 x10 x11) := by
 refine Le.trans ?_ (le_of_eq ((aX aqM).trans (ayW ..)).symm)
 unfold aaS
 refine lG (by simp only [EN]) ?_
 refine lD (by simp only [EN]) ?_ ?_
 ·refine lF ?_
  exact hk3 x0 (gL .or .i64 x3 (shl .i64 1 x4)) (w6 (x4 + 1))
 ·exact hk3 x0 x3 (w6 (x4 + 1))
theorem ahW : ∀ (fu : Nat) (x0 : List Bool) (x3 x4 : Int), Le (Option.map brokerref43_Check_out (wQ fu x0 x3 x4)) (asH (List.map kN x0) x3 x4) := by
 intro fu
 induction fu with
 | zero => intros; exact le_none
 | succ fu ih =>
  intro x0 x3 x4
  refine Le.trans ?_ (le_of_eq ((aX aqM).trans (azp ..)).symm)
  unfold wQ
  refine lD (by simp only [EN]) ?_ ?_
  ·refine lC ?_ ?_
   ·exact ahX _ (ih) x0 x3 x4 x4 (decide (x4 < 32))
   ·exact aI rfl
  ·exact aI rfl
theorem akQ (p0 : List Bool) : Le (Option.map brokerref43_Check_out (aeG p0)) (bD SE 93 [.d (.sl [.bool] (List.map kN p0))] [] []) := by
 refine aV aqM rfl ?_
 refine Le.trans ?_ (le_of_eq (T93 ..).symm)
 unfold aeG
 exact ahW fuel p0 0 0
def aoE (C : aN) (Λ2 J : Lam) (a0 : List (List D)) (a1 a2 : Int) (a3 : List (List D)) : Res := lab SE C Λ2 J 41 0 [1, 1, 1, 1, 1, 1, 1, 0, 1, 0] (aU [(5, .row 3005), (45, .d (.sl aG.ks a0)), (46, .d (.int .i64 a1)), (47, .d (.int .i64 a2))] [] [] [] [(3005, ⟨[.int .u8], 5, 1, a3⟩)])
section
variable (Γ : Fun) (γ36 γ37 : Gm ((List Int))) (γ93 : Gm (Int)) (Λ2 J : Lam)
def C41 : aN := aZ (aZ (aZ (aQ Γ) 36 aR γ36) 37 aR γ37) 93 brokerref43_Check_out γ93
theorem T41 (p0 : List Int) (p1 : aC) : bF SE (C41 Γ γ36 γ37 γ93) Λ2 J 41 [.d (.sl [.int .u8] (List.map (encI .u8) p0)), aC.av p1] [] [] =
 γ36 [.d (.sl [.int .u8] (List.map (encI .u8) p0)), .d (.str p1.Topic)] [] [] fun r0 =>
 γ36 [.d (.sl [.int .u8] (List.map (encI .u8) r0)), .d (.str p1.Payload)] [] [] fun r1 =>
 γ37 [.d (.sl [.int .u8] (List.map (encI .u8) r1)), .d (.int .i64 p1.Level)] [] [] fun r2 =>
 γ93 [.d (.sl [.bool] (List.map kN [p1.Retain]))] [] [] fun r3 =>
 γ37 [.d (.sl [.int .u8] (List.map (encI .u8) r2)), .d (.int .i64 r3)] [] [] fun r4 =>
 γ37 [.d (.sl [.int .u8] (List.map (encI .u8) r4)), .d (.int .i64 p1.Priority)] [] [] fun r5 =>
 γ37 [.d (.sl [.int .u8] (List.map (encI .u8) r5)), .d (.int .i64 p1.Expires)] [] [] fun r6 =>
 γ36 [.d (.sl [.int .u8] (List.map (encI .u8) r6)), .d (.str p1.From)] [] [] fun r7 =>
 γ37 [.d (.sl [.int .u8] (List.map (encI .u8) r7)), .d (.int .i64 p1.Seq)] [] [] fun r8 =>
 γ37 [.d (.sl [.int .u8] (List.map (encI .u8) r8)), .d (.int .i64 (lM aG.enc p1.Props : Int))] [] [] fun r9 =>
 aoE (C41 Γ γ36 γ37 γ93) Λ2 J (List.map aG.enc p1.Props) (lM aG.enc p1.Props : Int) 0 (List.map (encI .u8) r9) := by kernel_rfl
theorem axH (x45 : List aG) (x46 x47 : Int) (w3005 : List Int) : bR SE (C41 Γ γ36 γ37 γ93) Λ2 J 41 0 [1, 1, 1, 1, 1, 1, 1, 0, 1, 0] (aU [(5, .row 3005), (45, .d (.sl aG.ks (List.map aG.enc x45))), (46, .d (.int .i64 x46)), (47, .d (.int .i64 x47))] [] [] [] [(3005, ⟨[.int .u8], 5, 1, (List.map (encI .u8) w3005)⟩)]) =
 cond (decide (x47 < x46)) (
 cond (iB x47 (lM aG.enc x45 : Int)) (
  γ36 [.d (.sl [.int .u8] (List.map (encI .u8) w3005)), .d (.str (bK (cE aG.enc x45 x47 0)))] [] [] fun r10 =>
  γ36 [.d (.sl [.int .u8] (List.map (encI .u8) r10)), .d (.str (bK (cE aG.enc x45 x47 1)))] [] [] fun r11 =>
  aoE (C41 Γ γ36 γ37 γ93) Λ2 J (List.map aG.enc x45) x46 (w6 (x47 + 1)) (List.map (encI .u8) r11)) none) (
 (some (.ret [.row 0] [] [⟨[.int .u8], 5, 1, (List.map (encI .u8) w3005)⟩]))) := by kernel_rfl
end
abbrev X41 : aN := C41 gG (cT 36 aR) (cT 37 aR) (cT 93 brokerref43_Check_out)
theorem awJ : X41 = aQ gG := by unfold X41 C41; repeat rw [bB fun _ h => h]
abbrev aAf := aoE X41 (bQ SE gG (SE.hl 41) (SE.hr 41)) (J0 SE X41)
theorem ahb : ∀ (fu : Nat) (x45 : List aG) (x46 x47 : Int) (w3005 : List Int), Le (Option.map aR (vI fu x45 x46 x47 w3005)) (aAf (List.map aG.enc x45) x46 x47 (List.map (encI .u8) w3005)) := by
 intro fu
 induction fu with
 | zero => intros; exact le_none
 | succ fu ih =>
  intro x45 x46 x47 w3005
  refine Le.trans ?_ (le_of_eq ((aX awJ).trans (axH ..)).symm)
  unfold vI
  refine lC ?_ ?_
  ·refine lG (by simp only [EN]) ?_
   refine lQ eX aY (by (try simp only [EN]); exact jK w3005 ((List.getD x45 (Int.toNat x47) default).Key)) fun r10 _ => ?_
   refine lQ eX aY (by (try simp only [EN]); exact jK r10 ((List.getD x45 (Int.toNat x47) default).Value)) fun r11 _ => ?_
   exact ih x45 x46 (w6 (x47 + 1)) r11
  ·exact aI rfl
theorem aaa (p0 : List Int) (p1 : aC) : Le (Option.map aR (wC p0 p1)) (bD SE 41 [.d (.sl [.int .u8] (List.map (encI .u8) p0)), aC.av p1] [] []) := by
 refine aV awJ rfl ?_
 refine Le.trans ?_ (le_of_eq (T41 ..).symm)
 unfold wC
 refine lQ eX aY (jK _ _) fun r0 _ => ?_
 refine lQ eX aY (jK _ _) fun r1 _ => ?_
 refine lQ eX aY (cV _ _) fun r2 _ => ?_
 refine lQ eX brokerref43_Check_inj (akQ _) fun r3 _ => ?_
 refine lQ eX aY (cV _ _) fun r4 _ => ?_
 refine lQ eX aY (cV _ _) fun r5 _ => ?_
 refine lQ eX aY (cV _ _) fun r6 _ => ?_
 refine lQ eX aY (jK _ _) fun r7 _ => ?_
 refine lQ eX aY (cV _ _) fun r8 _ => ?_
 refine lQ eX aY (by (try simp only [EN]); exact cV r8 (List.length p1.Props : Int)) fun r9 _ => ?_
 (try simp only [EN]); exact ahb fuel p1.Props (List.length p1.Props : Int) 0 r9
def anD (C : aN) (Λ2 J : Lam) (a0 : List (List D)) (a1 a2 : Int) (a3 : List (List D)) : Res := lab SE C Λ2 J 40 0 [1, 1, 0, 1, 0] (aU [(0, .row 3000), (2, .fn 41 [] []), (13, .d (.sl aC.ks a0)), (14, .d (.int .i64 a1)), (15, .d (.int .i64 a2))] [] [] [] [(3000, ⟨[.int .u8], 5, 1, a3⟩)])
section
variable (Γ : Fun) (γ37 γ41 : Gm ((List Int))) (Λ2 J : Lam)
def C40 : aN := aZ (aZ (aQ Γ) 37 aR γ37) 41 aR γ41
theorem T40 (p0 : List Int) (p1 : List aC) : bF SE (C40 Γ γ37 γ41) Λ2 J 40 [.d (.sl [.int .u8] (List.map (encI .u8) p0)), .d (.sl aC.ks (List.map aC.enc p1)), .fn 41 [] []] [] [] =
 γ37 [.d (.sl [.int .u8] (List.map (encI .u8) p0)), .d (.int .i64 (lM aC.enc p1 : Int))] [] [] fun r0 =>
 anD (C40 Γ γ37 γ41) Λ2 J (List.map aC.enc p1) (lM aC.enc p1 : Int) 0 (List.map (encI .u8) r0) := by kernel_rfl
theorem ayT (x13 : List aC) (x14 x15 : Int) (w3000 : List Int) : bR SE (C40 Γ γ37 γ41) Λ2 J 40 0 [1, 1, 0, 1, 0] (aU [(0, .row 3000), (2, .fn 41 [] []), (13, .d (.sl aC.ks (List.map aC.enc x13))), (14, .d (.int .i64 x14)), (15, .d (.int .i64 x15))] [] [] [] [(3000, ⟨[.int .u8], 5, 1, (List.map (encI .u8) w3000)⟩)]) =
 cond (decide (x15 < x14)) (
 cond (iB x15 (lM aC.enc x13 : Int)) (
  γ41 [.d (.sl [.int .u8] (List.map (encI .u8) w3000)), .agg [.d (.str (bK (cE aC.enc x13 x15 0))), .d (.str (bK (cE aC.enc x13 x15 1))), .d (.int .i64 (aW (cE aC.enc x13 x15 2))), .d (.bool (dC (cE aC.enc x13 x15 3))), .d (.int .i64 (aW (cE aC.enc x13 x15 4))), .d (.int .i64 (aW (cE aC.enc x13 x15 5))), .d (.str (bK (cE aC.enc x13 x15 6))), .d (.int .i64 (aW (cE aC.enc x13 x15 7))), .d (.sl aG.ks (dSl (cE aC.enc x13 x15 8)))]] [] [] fun r1 =>
  anD (C40 Γ γ37 γ41) Λ2 J (List.map aC.enc x13) x14 (w6 (x15 + 1)) (List.map (encI .u8) r1)) none) (
 (some (.ret [.row 0] [] [⟨[.int .u8], 5, 1, (List.map (encI .u8) w3000)⟩]))) := by kernel_rfl
end
abbrev X40 : aN := C40 gG (cT 37 aR) (cT 41 aR)
theorem atX : X40 = aQ gG := by unfold X40 C40; repeat rw [bB fun _ h => h]
abbrev ayG := anD X40 (bQ SE gG (SE.hl 40) (SE.hr 40)) (J0 SE X40)
theorem vY : ∀ (fu : Nat) (x13 : List aC) (x14 x15 : Int) (w3000 : List Int), Le (Option.map aR (g6 fu x13 x14 x15 w3000)) (ayG (List.map aC.enc x13) x14 x15 (List.map (encI .u8) w3000)) := by
 intro fu
 induction fu with
 | zero => intros; exact le_none
 | succ fu ih =>
  intro x13 x14 x15 w3000
  refine Le.trans ?_ (le_of_eq ((aX atX).trans (ayT ..)).symm)
  unfold g6
  refine lC ?_ ?_
  ·refine lG (by simp only [EN]) ?_
   refine lQ eX aY (by (try simp only [EN]); exact aaa w3000 (List.getD x13 (Int.toNat x15) default)) fun r1 _ => ?_
   exact ih x13 x14 (w6 (x15 + 1)) r1
  ·exact aI rfl
theorem xQ (p0 : List Int) (p1 : List aC) : Le (Option.map aR (lX p0 p1)) (bD SE 40 [.d (.sl [.int .u8] (List.map (encI .u8) p0)), .d (.sl aC.ks (List.map aC.enc p1)), .fn 41 [] []] [] []) := by
 refine aV atX rfl ?_
 refine Le.trans ?_ (le_of_eq (T40 ..).symm)
 unfold lX
 refine lQ eX aY (by (try simp only [EN]); exact cV p0 (List.length p1 : Int)) fun r0 _ => ?_
 (try simp only [EN]); exact vY fuel p1 (List.length p1 : Int) 0 r0
section
variable (Γ : Fun) (γ37 γ41 : Gm ((List Int))) (Λ2 J : Lam)
def C43 : aN := aZ (aZ (aQ Γ) 37 aR γ37) 41 aR γ41
theorem T43 (p0 : List Int) (p1 : aE) : bF SE (C43 Γ γ37 γ41) Λ2 J 43 [.d (.sl [.int .u8] (List.map (encI .u8) p0)), aE.av p1] [] [] =
 γ37 [.d (.sl [.int .u8] (List.map (encI .u8) p0)), .d (.int .i64 p1.ID)] [] [] fun r0 =>
 γ37 [.d (.sl [.int .u8] (List.map (encI .u8) r0)), .d (.int .i64 p1.State)] [] [] fun r1 =>
 γ41 [.d (.sl [.int .u8] (List.map (encI .u8) r1)), aC.av p1.Message] [] [] fun r2 =>
 (some (.ret [.row 0] [] [⟨[.int .u8], 5, 1, (List.map (encI .u8) r2)⟩])) := by kernel_rfl
end
abbrev X43 : aN := C43 gG (cT 37 aR) (cT 41 aR)
theorem aCb : X43 = aQ gG := by unfold X43 C43; repeat rw [bB fun _ h => h]
theorem aei (p0 : List Int) (p1 : aE) : Le (Option.map aR (vZ p0 p1)) (bD SE 43 [.d (.sl [.int .u8] (List.map (encI .u8) p0)), aE.av p1] [] []) := by
 refine aV aCb rfl ?_
 refine Le.trans ?_ (le_of_eq (T43 ..).symm)
 unfold vZ
 refine lQ eX aY (cV _ _) fun r0 _ => ?_
 refine lQ eX aY (cV _ _) fun r1 _ => ?_
 refine lQ eX aY (aaa _ _) fun r2 _ => ?_
 exact aI rfl
def aod (C : aN) (Λ2 J : Lam) (a0 : List (List D)) (a1 a2 : Int) (a3 : List (List D)) : Res := lab SE C Λ2 J 42 0 [1, 1, 0, 1, 0] (aU [(0, .row 3000), (2, .fn 43 [] []), (13, .d (.sl aE.ks a0)), (14, .d (.int .i64 a1)), (15, .d (.int .i64 a2))] [] [] [] [(3000, ⟨[.int .u8], 5, 1, a3⟩)])
section
variable (Γ : Fun) (γ37 γ43 : Gm ((List Int))) (Λ2 J : Lam)
def C42 : aN := aZ (aZ (aQ Γ) 37 aR γ37) 43 aR γ43
theorem T42 (p0 : List Int) (p1 : List aE) : bF SE (C42 Γ γ37 γ43) Λ2 J 42 [.d (.sl [.int .u8] (List.map (encI .u8) p0)), .d (.sl aE.ks (List.map aE.enc p1)), .fn 43 [] []] [] [] =
 γ37 [.d (.sl [.int .u8] (List.map (encI .u8) p0)), .d (.int .i64 (lM aE.enc p1 : Int))] [] [] fun r0 =>
 aod (C42 Γ γ37 γ43) Λ2 J (List.map aE.enc p1) (lM aE.enc p1 : Int) 0 (List.map (encI .u8) r0) := by kernel_rfl
theorem ay1 (x13 : List aE) (x14 x15 : Int) (w3000 : List Int) : bR SE (C42 Γ γ37 γ43) Λ2 J 42 0 [1, 1, 0, 1, 0] (aU [(0, .row 3000), (2, .fn 43 [] []), (13, .d (.sl aE.ks (List.map aE.enc x13))), (14, .d (.int .i64 x14)), (15, .d (.int .i64 x15))] [] [] [] [(3000, ⟨[.int .u8], 5, 1, (List.map (encI .u8) w3000)⟩)]) =
 cond (decide (x15 < x14)) (
 cond (iB x15 (lM aE.enc x13 : Int)) (
  γ43 [.d (.sl [.int .u8] (List.map (encI .u8) w3000)), .agg [.d (.int .i64 (aW (cE aE.enc x13 x15 0))), .d (.int .i64 (aW (cE aE.enc x13 x15 1))), .d (.str (bK (cE aE.enc x13 x15 2))), .d (.str (bK (cE aE.enc x13 x15 3))), .d (.int .i64 (aW (cE aE.enc x13 x15 4))), .d (.bool (dC (cE aE.enc x13 x15 5))), .d (.int .i64 (aW (cE aE.enc x13 x15 6))), .d (.int .i64 (aW (cE aE.enc x13 x15 7))), .d (.str (bK (cE aE.enc x13 x15 8))), .d (.int .i64 (aW (cE aE.enc x13 x15 9))), .d (.sl aG.ks (dSl (cE aE.enc x13 x15 10)))]] [] [] fun r1 =>
  aod (C42 Γ γ37 γ43) Λ2 J (List.map aE.enc x13) x14 (w6 (x15 + 1)) (List.map (encI .u8) r1)) none) (
 (some (.ret [.row 0] [] [⟨[.int .u8], 5, 1, (List.map (encI .u8) w3000)⟩]))) := by kernel_rfl
end
abbrev X42 : aN := C42 gG (cT 37 aR) (cT 43 aR)
theorem awN : X42 = aQ gG := by unfold X42 C42; repeat rw [bB fun _ h => h]
abbrev ay5 := aod X42 (bQ SE gG (SE.hl 42) (SE.hr 42)) (J0 SE X42)
theorem wN : ∀ (fu : Nat) (x13 : List aE) (x14 x15 : Int) (w3000 : List Int), Le (Option.map aR (iE fu x13 x14 x15 w3000)) (ay5 (List.map aE.enc x13) x14 x15 (List.map (encI .u8) w3000)) := by
 intro fu
 induction fu with
 | zero => intros; exact le_none
 | succ fu ih =>
  intro x13 x14 x15 w3000
  refine Le.trans ?_ (le_of_eq ((aX awN).trans (ay1 ..)).symm)
  unfold iE
  refine lC ?_ ?_
  ·refine lG (by simp only [EN]) ?_
   refine lQ eX aY (by (try simp only [EN]); exact aei w3000 (List.getD x13 (Int.toNat x15) default)) fun r1 _ => ?_
   exact ih x13 x14 (w6 (x15 + 1)) r1
  ·exact aI rfl
theorem xW (p0 : List Int) (p1 : List aE) : Le (Option.map aR (mZ p0 p1)) (bD SE 42 [.d (.sl [.int .u8] (List.map (encI .u8) p0)), .d (.sl aE.ks (List.map aE.enc p1)), .fn 43 [] []] [] []) := by
 refine aV awN rfl ?_
 refine Le.trans ?_ (le_of_eq (T42 ..).symm)
 unfold mZ
 refine lQ eX aY (by (try simp only [EN]); exact cV p0 (List.length p1 : Int)) fun r0 _ => ?_
 (try simp only [EN]); exact wN fuel p1 (List.length p1 : Int) 0 r0
def aoY (C : aN) (Λ2 J : Lam) (a0 : List (List D)) (a1 a2 : Int) (a3 : List (List D)) : Res := lab SE C Λ2 J 44 0 [1, 1, 0, 1, 0] (aU [(0, .row 3000), (2, .fn 37 [] []), (13, .d (.sl [.int .i64] a0)), (14, .d (.int .i64 a1)), (15, .d (.int .i64 a2))] [] [] [] [(3000, ⟨[.int .u8], 5, 1, a3⟩)])
section
variable (Γ : Fun) (γ37 : Gm ((List Int))) (Λ2 J : Lam)
def C44 : aN := aZ (aQ Γ) 37 aR γ37
theorem T44 (p0 p1 : List Int) : bF SE (C44 Γ γ37) Λ2 J 44 [.d (.sl [.int .u8] (List.map (encI .u8) p0)), .d (.sl [.int .i64] (List.map eI p1)), .fn 37 [] []] [] [] =
 γ37 [.d (.sl [.int .u8] (List.map (encI .u8) p0)), .d (.int .i64 (lM eI p1 : Int))] [] [] fun r0 =>
 aoY (C44 Γ γ37) Λ2 J (List.map eI p1) (lM eI p1 : Int) 0 (List.map (encI .u8) r0) := by kernel_rfl
theorem ax8 (x13 : List Int) (x14 x15 : Int) (w3000 : List Int) : bR SE (C44 Γ γ37) Λ2 J 44 0 [1, 1, 0, 1, 0] (aU [(0, .row 3000), (2, .fn 37 [] []), (13, .d (.sl [.int .i64] (List.map eI x13))), (14, .d (.int .i64 x14)), (15, .d (.int .i64 x15))] [] [] [] [(3000, ⟨[.int .u8], 5, 1, (List.map (encI .u8) w3000)⟩)]) =
 cond (decide (x15 < x14)) (
 cond (iB x15 (lM eI x13 : Int)) (
  γ37 [.d (.sl [.int .u8] (List.map (encI .u8) w3000)), .d (.int .i64 (aW (cE eI x13 x15 0)))] [] [] fun r1 =>
  aoY (C44 Γ γ37) Λ2 J (List.map eI x13) x14 (w6 (x15 + 1)) (List.map (encI .u8) r1)) none) (
 (some (.ret [.row 0] [] [⟨[.int .u8], 5, 1, (List.map (encI .u8) w3000)⟩]))) := by kernel_rfl
end
abbrev X44 : aN := C44 gG (cT 37 aR)
theorem avx : X44 = aQ gG := by unfold X44 C44; rw [bB fun _ h => h]
abbrev ayY := aoY X44 (bQ SE gG (SE.hl 44) (SE.hr 44)) (J0 SE X44)
theorem aaN : ∀ (fu : Nat) (x13 : List Int) (x14 x15 : Int) (w3000 : List Int), Le (Option.map aR (lA fu x13 x14 x15 w3000)) (ayY (List.map eI x13) x14 x15 (List.map (encI .u8) w3000)) := by
 intro fu
 induction fu with
 | zero => intros; exact le_none
 | succ fu ih =>
  intro x13 x14 x15 w3000
  refine Le.trans ?_ (le_of_eq ((aX avx).trans (ax8 ..)).symm)
  unfold lA
  refine lC ?_ ?_
  ·refine lG (by simp only [EN]) ?_
   refine lQ eX aY (by (try simp only [EN]); exact cV w3000 (List.getD x13 (Int.toNat x15) default)) fun r1 _ => ?_
   exact ih x13 x14 (w6 (x15 + 1)) r1
  ·exact aI rfl
theorem vS (p0 p1 : List Int) : Le (Option.map aR (oF p0 p1)) (bD SE 44 [.d (.sl [.int .u8] (List.map (encI .u8) p0)), .d (.sl [.int .i64] (List.map eI p1)), .fn 37 [] []] [] []) := by
 refine aV avx rfl ?_
 refine Le.trans ?_ (le_of_eq (T44 ..).symm)
 unfold oF
 refine lQ eX aY (by (try simp only [EN]); exact cV p0 (List.length p1 : Int)) fun r0 _ => ?_
 (try simp only [EN]); exact aaN fuel p1 (List.length p1 : Int) 0 r0
section
variable (Γ : Fun) (γ35 : Gm (Int)) (γ36 γ37 γ38 γ40 γ42 γ44 : Gm ((List Int))) (γ45 : Gm (Int)) (γ41 : Gm ((List Int))) (Λ2 J : Lam)
def C18 : aN := aZ (aZ (aZ (aZ (aZ (aZ (aZ (aZ (aZ (aQ Γ) 35 brokerref43_Check_out γ35) 36 aR γ36) 37 aR γ37) 38 aR γ38) 40 aR γ40) 42 aR γ42) 44 aR γ44) 45 brokerref43_Check_out γ45) 41 aR γ41
theorem T18 (p0 : aJ) : bF SE (C18 Γ γ35 γ36 γ37 γ38 γ40 γ42 γ44 γ45 γ41) Λ2 J 18 [aJ.av p0] [] [] =
 γ35 [aJ.av p0] [] [] fun r0 =>
 cond (r0 != 0) (
 (some (.ret [.row 0, .d (.int .i64 r0)] [] [⟨[.int .u8], 5, 1, []⟩]))) (
 cond p0.Online (
 (some (.ret [.row 0, .d (.int .i64 9)] [] [⟨[.int .u8], 5, 1, []⟩]))) (
 γ36 [.d (.sl [.int .u8] (List.map (encI .u8) [])), .d (.str p0.Client)] [] [] fun r1 =>
 γ36 [.d (.sl [.int .u8] (List.map (encI .u8) r1)), .d (.str p0.User)] [] [] fun r2 =>
 γ37 [.d (.sl [.int .u8] (List.map (encI .u8) r2)), .d (.int .i64 p0.Expiry)] [] [] fun r3 =>
 γ37 [.d (.sl [.int .u8] (List.map (encI .u8) r3)), .d (.int .i64 p0.Until)] [] [] fun r4 =>
 γ37 [.d (.sl [.int .u8] (List.map (encI .u8) r4)), .d (.int .i64 p0.Dropped)] [] [] fun r5 =>
 γ38 [.d (.sl [.int .u8] (List.map (encI .u8) r5)), .d (.sl aK.ks (List.map aK.enc p0.Subs)), .fn 39 [] []] [] [] fun r6 =>
 γ40 [.d (.sl [.int .u8] (List.map (encI .u8) r6)), .d (.sl aC.ks (List.map aC.enc p0.Queue)), .fn 41 [] []] [] [] fun r7 =>
 γ37 [.d (.sl [.int .u8] (List.map (encI .u8) r7)), .d (.int .i64 p0.Out.Limit)] [] [] fun r8 =>
 γ42 [.d (.sl [.int .u8] (List.map (encI .u8) r8)), .d (.sl aE.ks (List.map aE.enc p0.Out.Items)), .fn 43 [] []] [] [] fun r9 =>
 γ44 [.d (.sl [.int .u8] (List.map (encI .u8) r9)), .d (.sl [.int .i64] (List.map eI p0.Out.Pool.Used)), .fn 37 [] []] [] [] fun r10 =>
 γ37 [.d (.sl [.int .u8] (List.map (encI .u8) r10)), .d (.int .i64 p0.Out.Pool.Last)] [] [] fun r11 =>
 γ44 [.d (.sl [.int .u8] (List.map (encI .u8) r11)), .d (.sl [.int .i64] (List.map eI p0.In.IDs)), .fn 37 [] []] [] [] fun r12 =>
 γ45 [.d (.bool p0.Will.Set)] [] [] fun r13 =>
 γ37 [.d (.sl [.int .u8] (List.map (encI .u8) r12)), .d (.int .i64 r13)] [] [] fun r14 =>
 cond p0.Will.Set (
 γ37 [.d (.sl [.int .u8] (List.map (encI .u8) r14)), .d (.int .i64 p0.Will.Delay)] [] [] fun r15 =>
 γ41 [.d (.sl [.int .u8] (List.map (encI .u8) r15)), aC.av p0.Will.Message] [] [] fun r16 =>
 (some (.ret [.row 0, .d (.int .i64 0)] [] [⟨[.int .u8], 5, 1, (List.map (encI .u8) r16)⟩]))) (
 (some (.ret [.row 0, .d (.int .i64 0)] [] [⟨[.int .u8], 5, 1, (List.map (encI .u8) r14)⟩]))))) := by kernel_rfl
end
abbrev X18 : aN := C18 gG (cT 35 brokerref43_Check_out) (cT 36 aR) (cT 37 aR) (cT 38 aR) (cT 40 aR) (cT 42 aR) (cT 44 aR) (cT 45 brokerref43_Check_out) (cT 41 aR)
theorem aCT : X18 = aQ gG := by unfold X18 C18; repeat rw [bB fun _ h => h]
theorem kU (p0 : aJ) : Le (Option.map c8 (j7 p0)) (bD SE 18 [aJ.av p0] [] []) := by
 refine aV aCT rfl ?_
 refine Le.trans ?_ (le_of_eq (T18 ..).symm)
 unfold j7
 refine lQ eX brokerref43_Check_inj (abS _) fun r0 _ => ?_
 refine lC ?_ ?_
 ·exact aI rfl
 ·refine lC ?_ ?_
  ·exact aI rfl
  ·refine lQ eX aY (by (try simp only [EN]); exact jK [] p0.Client) fun r1 _ => ?_
   refine lQ eX aY (jK _ _) fun r2 _ => ?_
   refine lQ eX aY (cV _ _) fun r3 _ => ?_
   refine lQ eX aY (cV _ _) fun r4 _ => ?_
   refine lQ eX aY (cV _ _) fun r5 _ => ?_
   refine lQ eX aY (aax _ _) fun r6 _ => ?_
   refine lQ eX aY (xQ _ _) fun r7 _ => ?_
   refine lQ eX aY (cV _ _) fun r8 _ => ?_
   refine lQ eX aY (xW _ _) fun r9 _ => ?_
   refine lQ eX aY (vS _ _) fun r10 _ => ?_
   refine lQ eX aY (cV _ _) fun r11 _ => ?_
   refine lQ eX aY (vS _ _) fun r12 _ => ?_
   refine lQ eX brokerref43_Check_inj (adW _) fun r13 _ => ?_
   refine lQ eX aY (cV _ _) fun r14 _ => ?_
   refine lC ?_ ?_
   ·refine lQ eX aY (cV _ _) fun r15 _ => ?_
    refine lQ eX aY (aaa _ _) fun r16 _ => ?_
    exact aI rfl
   ·exact aI rfl
section
variable (Γ : Fun)  (Λ2 J : Lam)
def aw9 : aN := aQ Γ
theorem aCo (p0 : Int) : bF SE (aw9 Γ) Λ2 J 124 [.d (.int .u64 p0)] [] [] =
 cond ((gL .and .u64 p0 1) == 1) (
 (rI (w6 ((w6 (0 - (w6 (shr .u64 p0 1)))) - 1)))) (
 (rI (w6 (shr .u64 p0 1)))) := by kernel_rfl
end
abbrev aBM : aN := aw9 gG
theorem ayg : aBM = aQ gG := rfl
theorem ajR (p0 : Int) : Le (Option.map brokerref43_Check_out (acT p0)) (bD SE 124 [.d (.int .u64 p0)] [] []) := by
 refine aV ayg rfl ?_
 refine Le.trans ?_ (le_of_eq (aCo ..).symm)
 unfold acT
 refine lC ?_ ?_
 ·exact aI rfl
 ·exact aI rfl
def ad1 (C : aN) (Λ2 J : Lam) (a0 : List (List D)) (a1 a2 a3 a4 a5 : Int) (a6 a7 a8 : Bool) : Res := lab SE C Λ2 J 100 0 [1, 1, 1, 1, 0, 0, 0, 0, 1, 1, 1, 0] (aU [(0, .d (.sl [.int .u8] a0)), (1, .d (.int .i64 a1)), (7, .d (.int .u64 a2)), (8, .d (.int .i64 a3)), (9, .d (.int .u8 a4)), (39, .d (.int .i64 a5)), (40, .d (.bool a6)), (41, .d (.bool a7)), (44, .d (.bool a8))] [] [] [] [])
def alR (C : aN) (Λ2 J : Lam) (a0 : List (List D)) (a1 a2 a3 : Int) : Res := lab SE C Λ2 J 100 0 [1, 1, 1, 1, 0] (aU [(0, .d (.sl [.int .u8] a0)), (1, .d (.int .i64 a1)), (7, .d (.int .u64 a2)), (8, .d (.int .i64 a3))] [] [] [] [])
def apu (C : aN) (Λ2 J : Lam) (a0 : List (List D)) (a1 : Int) : Res := lab SE C Λ2 J 100 0 [1, 1, 0] (aU [(0, .d (.sl [.int .u8] a0)), (1, .d (.int .i64 a1))] [] [] [] [])
section
variable (Γ : Fun) (γ124 : Gm (Int)) (Λ2 J : Lam)
def zT : aN := aZ (aQ Γ) 124 brokerref43_Check_out γ124
theorem aBh (p0 : List Int) (p1 : Int) : bF SE (zT Γ γ124) Λ2 J 100 [.d (.sl [.int .u8] (List.map (encI .u8) p0)), .d (.int .i64 p1)] [] [] =
 cond (decide (p1 < 0)) (
 (some (.ret [.d (.int .i64 0), .d (.int .i64 0), .d (.int .i64 1)] [] []))) (
 cond (decide (p1 > (lM (encI .u8) p0 : Int))) (
 (some (.ret [.d (.int .i64 0), .d (.int .i64 0), .d (.int .i64 1)] [] []))) (
 apu (zT Γ γ124) Λ2 J (List.map (encI .u8) p0) p1)) := by kernel_rfl
theorem ath (x0 : List Int) (x1 x7 x8 x9 x39 : Int) (x40 x41 x44 : Bool) : bR SE (zT Γ γ124) Λ2 J 100 0 [1, 1, 1, 1, 0, 0, 0, 0, 1, 1, 1, 0] (aU [(0, .d (.sl [.int .u8] (List.map (encI .u8) x0))), (1, .d (.int .i64 x1)), (7, .d (.int .u64 x7)), (8, .d (.int .i64 x8)), (9, .d (.int .u8 x9)), (39, .d (.int .i64 x39)), (40, .d (.bool x40)), (41, .d (.bool x41)), (44, .d (.bool x44))] [] [] [] []) =
 cond (decide (0 ≤ (w6 (7 * x8)))) (
 cond (decide (x9 < 128)) (
  γ124 [.d (.int .u64 (gL .or .u64 x7 (shl .u64 (IntKind.wrap .u64 (gL .and .u8 x9 127)) (w6 (7 * x8)))))] [] [] fun r0 =>
  (some (.ret [.d (.int .i64 r0), .d (.int .i64 (w6 ((w6 (x1 + x8)) + 1))), .d (.int .i64 0)] [] []))) (
 alR (zT Γ γ124) Λ2 J (List.map (encI .u8) x0) x1 ((gL .or .u64 x7 (shl .u64 (IntKind.wrap .u64 (gL .and .u8 x9 127)) (w6 (7 * x8))))) (w6 (x8 + 1)))) none := by kernel_rfl
theorem awp (x0 : List Int) (x1 x7 x8 : Int) : bR SE (zT Γ γ124) Λ2 J 100 0 [1, 1, 1, 1, 0] (aU [(0, .d (.sl [.int .u8] (List.map (encI .u8) x0))), (1, .d (.int .i64 x1)), (7, .d (.int .u64 x7)), (8, .d (.int .i64 x8))] [] [] [] []) =
 cond ((w6 (x1 + x8)) == (lM (encI .u8) x0 : Int)) (
 (some (.ret [.d (.int .i64 0), .d (.int .i64 0), .d (.int .i64 3)] [] []))) (
 cond (iB (w6 (x1 + x8)) (lM (encI .u8) x0 : Int)) (
 cond (x8 == 9) (
  cond (decide ((aW (cE (encI .u8) x0 (w6 (x1 + x8)) 0)) > 1)) (
  (some (.ret [.d (.int .i64 0), .d (.int .i64 0), .d (.int .i64 2)] [] []))) (
  cond (decide (x8 > 0)) (
  cond ((aW (cE (encI .u8) x0 (w6 (x1 + x8)) 0)) == 0) (
   (some (.ret [.d (.int .i64 0), .d (.int .i64 0), .d (.int .i64 2)] [] []))) (
  ad1 (zT Γ γ124) Λ2 J (List.map (encI .u8) x0) x1 x7 x8 ((aW (cE (encI .u8) x0 (w6 (x1 + x8)) 0))) x8 (decide (x8 > 0)) true (((aW (cE (encI .u8) x0 (w6 (x1 + x8)) 0)) == 0)))) (
  ad1 (zT Γ γ124) Λ2 J (List.map (encI .u8) x0) x1 x7 x8 ((aW (cE (encI .u8) x0 (w6 (x1 + x8)) 0))) x8 (decide (x8 > 0)) false false))) (
 cond (decide (x8 > 0)) (
  cond ((aW (cE (encI .u8) x0 (w6 (x1 + x8)) 0)) == 0) (
  (some (.ret [.d (.int .i64 0), .d (.int .i64 0), .d (.int .i64 2)] [] []))) (
  ad1 (zT Γ γ124) Λ2 J (List.map (encI .u8) x0) x1 x7 x8 ((aW (cE (encI .u8) x0 (w6 (x1 + x8)) 0))) x8 (decide (x8 > 0)) true (((aW (cE (encI .u8) x0 (w6 (x1 + x8)) 0)) == 0)))) (
 ad1 (zT Γ γ124) Λ2 J (List.map (encI .u8) x0) x1 x7 x8 ((aW (cE (encI .u8) x0 (w6 (x1 + x8)) 0))) x8 (decide (x8 > 0)) false false))) none) := by kernel_rfl
theorem axa (x0 : List Int) (x1 : Int) : bR SE (zT Γ γ124) Λ2 J 100 0 [1, 1, 0] (aU [(0, .d (.sl [.int .u8] (List.map (encI .u8) x0))), (1, .d (.int .i64 x1))] [] [] [] []) =
 alR (zT Γ γ124) Λ2 J (List.map (encI .u8) x0) x1 0 0 := by kernel_rfl
end
abbrev afN : aN := zT gG (cT 124 brokerref43_Check_out)
theorem akY : afN = aQ gG := by unfold afN zT; rw [bB fun _ h => h]
abbrev ate := ad1 afN (bQ SE gG (SE.hl 100) (SE.hr 100)) (J0 SE afN)
abbrev apG := alR afN (bQ SE gG (SE.hl 100) (SE.hr 100)) (J0 SE afN)
abbrev aw4 := apu afN (bQ SE gG (SE.hl 100) (SE.hr 100)) (J0 SE afN)
theorem tX (k6 : (List Int) → Int → Int → Int → Option (Int × Int × Int)) (hk6 : ∀ (x0 : List Int) (x1 x7 x8 : Int), Le (Option.map cH (k6 x0 x1 x7 x8)) (apG (List.map (encI .u8) x0) x1 x7 x8)) (x0 : List Int) (x1 x7 x8 x9 x39 : Int) (x40 x41 x44 : Bool) : Le (Option.map cH (rG k6 x0 x1 x7 x8 x9 x39 x40 x41 x44)) (ate (List.map (encI .u8) x0) x1 x7 x8 x9 x39 x40 x41 x44) := by
 refine Le.trans ?_ (le_of_eq ((aX akY).trans (ath ..)).symm)
 unfold rG
 refine lF ?_
 refine lC ?_ ?_
 ·refine lQ eX brokerref43_Check_inj (ajR _) fun r0 _ => ?_
  exact aI rfl
 ·(try simp only [EN]); exact hk6 x0 x1 ((gL .or .u64 x7 (shl .u64 (IntKind.wrap .u64 (gL .and .u8 x9 127)) (w6 (7 * x8))))) (w6 (x8 + 1))
theorem ajI : ∀ (fu : Nat) (x0 : List Int) (x1 x7 x8 : Int), Le (Option.map cH (qM fu x0 x1 x7 x8)) (apG (List.map (encI .u8) x0) x1 x7 x8) := by
 intro fu
 induction fu with
 | zero => intros; exact le_none
 | succ fu ih =>
  intro x0 x1 x7 x8
  refine Le.trans ?_ (le_of_eq ((aX akY).trans (awp ..)).symm)
  unfold qM
  refine lD (by simp only [EN]) ?_ ?_
  ·exact aI rfl
  ·refine lG (by simp only [EN]) ?_
   refine lC ?_ ?_
   ·refine lD (by simp only [EN]) ?_ ?_
    ·exact aI rfl
    ·refine lC ?_ ?_
     ·refine lD (by simp only [EN]) ?_ ?_
      ·exact aI rfl
      ·(try simp only [EN]); exact tX _ (ih) x0 x1 x7 x8 (List.getD x0 (Int.toNat (w6 (x1 + x8))) default) x8 (decide (x8 > 0)) true ((List.getD x0 (Int.toNat (w6 (x1 + x8))) default) == 0)
     ·(try simp only [EN]); exact tX _ (ih) x0 x1 x7 x8 (List.getD x0 (Int.toNat (w6 (x1 + x8))) default) x8 (decide (x8 > 0)) false false
   ·refine lC ?_ ?_
    ·refine lD (by simp only [EN]) ?_ ?_
     ·exact aI rfl
     ·(try simp only [EN]); exact tX _ (ih) x0 x1 x7 x8 (List.getD x0 (Int.toNat (w6 (x1 + x8))) default) x8 (decide (x8 > 0)) true ((List.getD x0 (Int.toNat (w6 (x1 + x8))) default) == 0)
    ·(try simp only [EN]); exact tX _ (ih) x0 x1 x7 x8 (List.getD x0 (Int.toNat (w6 (x1 + x8))) default) x8 (decide (x8 > 0)) false false
theorem ajs (x0 : List Int) (x1 : Int) : Le (Option.map cH (adf x0 x1)) (aw4 (List.map (encI .u8) x0) x1) := by
 refine Le.trans ?_ (le_of_eq ((aX akY).trans (axa ..)).symm)
 unfold adf
 exact ajI fuel x0 x1 0 0
theorem adk (p0 : List Int) (p1 : Int) : Le (Option.map cH (abC p0 p1)) (bD SE 100 [.d (.sl [.int .u8] (List.map (encI .u8) p0)), .d (.int .i64 p1)] [] []) := by
 refine aV akY rfl ?_
 refine Le.trans ?_ (le_of_eq (aBh ..).symm)
 unfold abC
 refine lC ?_ ?_
 ·exact aI rfl
 ·refine lD (by simp only [EN]) ?_ ?_
  ·exact aI rfl
  ·exact ajs p0 p1
section
variable (Γ : Fun) (γ100 : Gm (Int × Int × Int)) (Λ2 J : Lam)
def C99 : aN := aZ (aQ Γ) 100 cH γ100
theorem T99 (p0 : List Int) (p1 p2 : Int) : bF SE (C99 Γ γ100) Λ2 J 99 [.d (.sl [.int .u8] (List.map (encI .u8) p0)), .d (.int .i64 p1), .d (.int .i64 p2)] [] [] =
 γ100 [.d (.sl [.int .u8] (List.map (encI .u8) p0)), .d (.int .i64 p1)] [] [] fun r0 =>
 cond (r0.2.2 != 0) (
 (some (.ret [.d (.str []), .d (.int .i64 0), .d (.int .i64 r0.2.2)] [] []))) (
 cond (decide (r0.1 < 0)) (
 (some (.ret [.d (.str []), .d (.int .i64 0), .d (.int .i64 2)] [] []))) (
 cond (decide (r0.1 > p2)) (
 (some (.ret [.d (.str []), .d (.int .i64 0), .d (.int .i64 5)] [] []))) (
 cond (decide (r0.1 > (w6 ((lM (encI .u8) p0 : Int) - r0.2.1)))) (
 (some (.ret [.d (.str []), .d (.int .i64 0), .d (.int .i64 3)] [] []))) (
 cond (decide (0 ≤ (w6 (r0.2.1 + r0.1))) && decide ((w6 (r0.2.1 + r0.1)) ≤ ((lM (encI .u8) p0) : Int))) (
 cond (decide (0 ≤ (w6 (r0.2.1 + r0.1))) && decide ((w6 (r0.2.1 + r0.1)) ≤ (w6 (r0.2.1 + r0.1)))) (
  cond (decide (0 ≤ r0.2.1) && decide (r0.2.1 ≤ (w6 (r0.2.1 + r0.1)))) (
  (some (.ret [.d (.str (wK (cY (List.map (encI .u8) p0) (some r0.2.1) (some (w6 (r0.2.1 + r0.1)))))), .d (.int .i64 (w6 (r0.2.1 + r0.1))), .d (.int .i64 0)] [] []))) none) none) none)))) := by kernel_rfl
end
abbrev X99 : aN := C99 gG (cT 100 cH)
theorem aBB : X99 = aQ gG := by unfold X99 C99; rw [bB fun _ h => h]
theorem af3 (p0 : List Int) (p1 p2 : Int) : Le (Option.map eT (acB p0 p1 p2)) (bD SE 99 [.d (.sl [.int .u8] (List.map (encI .u8) p0)), .d (.int .i64 p1), .d (.int .i64 p2)] [] []) := by
 refine aV aBB rfl ?_
 refine Le.trans ?_ (le_of_eq (T99 ..).symm)
 unfold acB
 refine lQ eX o0 (adk _ _) fun r0 _ => ?_
 refine lC ?_ ?_
 ·exact aI rfl
 ·refine lC ?_ ?_
  ·exact aI rfl
  ·refine lC ?_ ?_
   ·exact aI rfl
   ·refine lD (by simp only [EN]) ?_ ?_
    ·exact aI rfl
    ·refine lG (by simp only [EN]) ?_
     refine lF ?_
     refine lF ?_
     exact aI (by first | rfl | simp only [EN, eT] <;> rfl)
section
variable (Γ : Fun) (γ99 : Gm (Str × Int × Int)) (Λ2 J : Lam)
def C47 : aN := aZ (aQ Γ) 99 eT γ99
theorem T47 (p0 : aH) (p1 : Int) : bF SE (C47 Γ γ99) Λ2 J 47 [.ptr 2000000000 0, .d (.int .i64 p1)] [⟨85, (aH.avs p0)⟩] [] =
 cond (p0.err != 0) (
 (some (.ret [.d (.str [])] [⟨85, (aH.avs p0)⟩] []))) (
 γ99 [.d (.sl [.int .u8] (List.map (encI .u8) p0.b)), .d (.int .i64 p0.at_), .d (.int .i64 p1)] [] [] fun r0 =>
 cond (r0.2.2 != 0) (
 (some (.ret [.d (.str [])] [⟨85, (aH.avs (aH.mk p0.b p0.at_ r0.2.2))⟩] []))) (
 (some (.ret [.d (.str r0.1)] [⟨85, (aH.avs (aH.mk p0.b r0.2.1 p0.err))⟩] [])))) := by kernel_rfl
end
abbrev X47 : aN := C47 gG (cT 99 eT)
theorem aCS : X47 = aQ gG := by unfold X47 C47; rw [bB fun _ h => h]
theorem n8 (p0 : aH) (p1 : Int) : Le (Option.map dX (jS p0 p1)) (bD SE 47 [.ptr 2000000000 0, .d (.int .i64 p1)] [⟨85, (aH.avs p0)⟩] []) := by
 refine aV aCS rfl ?_
 refine Le.trans ?_ (le_of_eq (T47 ..).symm)
 unfold jS
 refine lC ?_ ?_
 ·exact aI rfl
 ·refine lQ eX aaO (af3 _ _ _) fun r0 _ => ?_
  refine lC ?_ ?_
  ·exact aI rfl
  ·exact aI rfl
section
variable (Γ : Fun) (γ100 : Gm (Int × Int × Int)) (Λ2 J : Lam)
def C48 : aN := aZ (aQ Γ) 100 cH γ100
theorem T48 (p0 : aH) : bF SE (C48 Γ γ100) Λ2 J 48 [.ptr 2000000000 0] [⟨85, (aH.avs p0)⟩] [] =
 cond (p0.err != 0) (
 (some (.ret [.d (.int .i64 0)] [⟨85, (aH.avs p0)⟩] []))) (
 γ100 [.d (.sl [.int .u8] (List.map (encI .u8) p0.b)), .d (.int .i64 p0.at_)] [] [] fun r0 =>
 cond (r0.2.2 != 0) (
 (some (.ret [.d (.int .i64 0)] [⟨85, (aH.avs (aH.mk p0.b p0.at_ r0.2.2))⟩] []))) (
 (some (.ret [.d (.int .i64 r0.1)] [⟨85, (aH.avs (aH.mk p0.b r0.2.1 p0.err))⟩] [])))) := by kernel_rfl
end
abbrev X48 : aN := C48 gG (cT 100 cH)
theorem aAR : X48 = aQ gG := by unfold X48 C48; rw [bB fun _ h => h]
theorem cC (p0 : aH) : Le (Option.map bU (cF p0)) (bD SE 48 [.ptr 2000000000 0] [⟨85, (aH.avs p0)⟩] []) := by
 refine aV aAR rfl ?_
 refine Le.trans ?_ (le_of_eq (T48 ..).symm)
 unfold cF
 refine lC ?_ ?_
 ·exact aI rfl
 ·refine lQ eX o0 (adk _ _) fun r0 _ => ?_
  refine lC ?_ ?_
  ·exact aI rfl
  ·exact aI rfl
section
variable (Γ : Fun) (γ48 : Gm (Int × aH)) (Λ2 J : Lam)
def C56 : aN := aZ (aQ Γ) 48 bU γ48
theorem T56 (p0 : aH) : bF SE (C56 Γ γ48) Λ2 J 56 [.ptr 2000000000 0] [⟨85, (aH.avs p0)⟩] [] =
 γ48 [.ptr 2000000000 0] [⟨85, (aH.avs p0)⟩] [] fun r0 =>
 cond (r0.2.err == 0) (
 cond (r0.1 != 0) (
  cond (r0.1 != 1) (
  (some (.ret [.d (.bool (r0.1 == 1))] [⟨85, (aH.avs (aH.mk r0.2.b r0.2.at_ 2))⟩] []))) (
  (some (.ret [.d (.bool (r0.1 == 1))] [⟨85, (aH.avs r0.2)⟩] [])))) (
 (some (.ret [.d (.bool (r0.1 == 1))] [⟨85, (aH.avs r0.2)⟩] [])))) (
 (some (.ret [.d (.bool (r0.1 == 1))] [⟨85, (aH.avs r0.2)⟩] []))) := by kernel_rfl
end
abbrev X56 : aN := C56 gG (cT 48 bU)
theorem aCP : X56 = aQ gG := by unfold X56 C56; rw [bB fun _ h => h]
theorem tQ (p0 : aH) : Le (Option.map dW (l6 p0)) (bD SE 56 [.ptr 2000000000 0] [⟨85, (aH.avs p0)⟩] []) := by
 refine aV aCP rfl ?_
 refine Le.trans ?_ (le_of_eq (T56 ..).symm)
 unfold l6
 refine lQ eX cB (cC _) fun r0 _ => ?_
 refine lC ?_ ?_
 ·refine lC ?_ ?_
  ·refine lC ?_ ?_
   ·exact aI rfl
   ·exact aI rfl
  ·exact aI rfl
 ·exact aI rfl
section
variable (Γ : Fun) (γ47 : Gm (Str × aH)) (γ48 : Gm (Int × aH)) (γ56 : Gm (Bool × aH)) (Λ2 J : Lam)
def C50 : aN := aZ (aZ (aZ (aQ Γ) 47 dX γ47) 48 bU γ48) 56 dW γ56
theorem T50 (p0 : aH) : bF SE (C50 Γ γ47 γ48 γ56) Λ2 J 50 [.ptr 2000000000 0] [⟨85, (aH.avs p0)⟩] [] =
 γ47 [.ptr 2000000000 0, .d (.int .i64 88)] [⟨85, (aH.avs p0)⟩] [] fun r0 =>
 γ48 [.ptr 2000000000 0] [⟨85, (aH.avs r0.2)⟩] [] fun r1 =>
 γ56 [.ptr 2000000000 0] [⟨85, (aH.avs r1.2)⟩] [] fun r2 =>
 (some (.ret [aK.av (aK.mk r0.1 r1.1 r2.1)] [⟨85, (aH.avs r2.2)⟩] [])) := by kernel_rfl
end
abbrev X50 : aN := C50 gG (cT 47 dX) (cT 48 bU) (cT 56 dW)
theorem aB6 : X50 = aQ gG := by unfold X50 C50; repeat rw [bB fun _ h => h]
theorem abW (p0 : aH) : Le (Option.map fZ (rL p0)) (bD SE 50 [.ptr 2000000000 0] [⟨85, (aH.avs p0)⟩] []) := by
 refine aV aB6 rfl ?_
 refine Le.trans ?_ (le_of_eq (T50 ..).symm)
 unfold rL
 refine lQ eX nN (n8 _ _) fun r0 _ => ?_
 refine lQ eX cB (cC _) fun r1 _ => ?_
 refine lQ eX s0 (tQ _) fun r2 _ => ?_
 exact aI rfl
def amM (C : aN) (Λ2 J : Lam) (a0 : Int) (a1 : List D) (a2 : List (List D)) : Res := lab SE C Λ2 J 49 1 [1, 1, 1, 1, 1, 1, 0, 0] (aU [(0, .ptr 2000000000 0), (2, .fn 50 [.ptr 2000000000 0] []), (7, .d (.int .i64 a0)), (8, .row 3008)] [] [⟨85, (List.map AV.d a1)⟩] [] [(3008, ⟨aK.ks, 72, 32, a2⟩)])
section
variable (Γ : Fun) (γ48 : Gm (Int × aH)) (γ50 : Gm (aK × aH)) (Λ2 J : Lam)
def C49 : aN := aZ (aZ (aQ Γ) 48 bU γ48) 50 fZ γ50
theorem T49 (p0 : aH) (p1 : Int) : bF SE (C49 Γ γ48 γ50) Λ2 J 49 [.ptr 2000000000 0, .d (.int .i64 p1), .fn 50 [.ptr 2000000000 0] []] [⟨85, (aH.avs p0)⟩] [] =
 γ48 [.ptr 2000000000 0] [⟨85, (aH.avs p0)⟩] [] fun r0 =>
 cond (r0.2.err != 0) (
 (some (.ret [.row 0] [⟨85, (aH.avs r0.2)⟩] [⟨aK.ks, 72, 32, []⟩]))) (
 cond (decide (r0.1 < 0)) (
 (some (.ret [.row 0] [⟨85, (aH.avs (aH.mk r0.2.b r0.2.at_ 2))⟩] [⟨aK.ks, 72, 32, []⟩]))) (
 cond (decide (r0.1 > p1)) (
 (some (.ret [.row 0] [⟨85, (aH.avs (aH.mk r0.2.b r0.2.at_ 5))⟩] [⟨aK.ks, 72, 32, []⟩]))) (
 amM (C49 Γ γ48 γ50) Λ2 J r0.1 (aH.enc r0.2) (List.map aK.enc [])))) := by kernel_rfl
theorem au7 (x7 : Int) (q0 : aH) (w3008 : List aK) : bR SE (C49 Γ γ48 γ50) Λ2 J 49 1 [1, 1, 1, 1, 1, 1, 0, 0] (aU [(0, .ptr 2000000000 0), (2, .fn 50 [.ptr 2000000000 0] []), (7, .d (.int .i64 x7)), (8, .row 3008)] [] [⟨85, (List.map AV.d (aH.enc q0))⟩] [] [(3008, ⟨aK.ks, 72, 32, (List.map aK.enc w3008)⟩)]) =
 cond (decide ((lM aK.enc w3008 : Int) < x7)) (
 cond (q0.err == 0) (
  γ50 [.ptr 2000000000 0] [⟨85, (aH.avs q0)⟩] [] fun r1 =>
  cond (decide ((lM aK.enc w3008 + lM aK.enc [r1.1]) * 32 ≤ 140737488355328)) (
  amM (C49 Γ γ48 γ50) Λ2 J x7 (aH.enc r1.2) (((List.map aK.enc w3008) ++ (List.map aK.enc [r1.1])))) none) (
 (some (.ret [.row 0] [⟨85, (aH.avs q0)⟩] [⟨aK.ks, 72, 32, (List.map aK.enc w3008)⟩])))) (
 (some (.ret [.row 0] [⟨85, (aH.avs q0)⟩] [⟨aK.ks, 72, 32, (List.map aK.enc w3008)⟩]))) := by kernel_rfl
end
abbrev X49 : aN := C49 gG (cT 48 bU) (cT 50 fZ)
theorem at5 : X49 = aQ gG := by unfold X49 C49; repeat rw [bB fun _ h => h]
abbrev auo := amM X49 (bQ SE gG (SE.hl 49) (SE.hr 49)) (J0 SE X49)
theorem aab : ∀ (fu : Nat) (x7 : Int) (q0 : aH) (w3008 : List aK), Le (Option.map eL (kD fu x7 q0 w3008)) (auo x7 (aH.enc q0) (List.map aK.enc w3008)) := by
 intro fu
 induction fu with
 | zero => intros; exact le_none
 | succ fu ih =>
  intro x7 q0 w3008
  refine Le.trans ?_ (le_of_eq ((aX at5).trans (au7 ..)).symm)
  unfold kD
  refine lD (by simp only [EN]) ?_ ?_
  ·refine lC ?_ ?_
   ·refine lQ eX aaV (abW _) fun r1 _ => ?_
    refine lG (by simp only [EN]) ?_
    (try simp only [EN]); exact ih x7 r1.2 (w3008 ++ [r1.1])
   ·exact aI rfl
  ·exact aI rfl
theorem abt (p0 : aH) (p1 : Int) : Le (Option.map eL (qV p0 p1)) (bD SE 49 [.ptr 2000000000 0, .d (.int .i64 p1), .fn 50 [.ptr 2000000000 0] []] [⟨85, (aH.avs p0)⟩] []) := by
 refine aV at5 rfl ?_
 refine Le.trans ?_ (le_of_eq (T49 ..).symm)
 unfold qV
 refine lQ eX cB (cC _) fun r0 _ => ?_
 refine lC ?_ ?_
 ·exact aI rfl
 ·refine lC ?_ ?_
  ·exact aI rfl
  ·refine lC ?_ ?_
   ·exact aI rfl
   ·(try simp only [EN]); exact aab fuel r0.1 r0.2 []
section
variable (Γ : Fun) (γ99 : Gm (Str × Int × Int)) (Λ2 J : Lam)
def aq8 : aN := aZ (aQ Γ) 99 eT γ99
theorem aBH (p0 : aO) (p1 : Int) : bF SE (aq8 Γ γ99) Λ2 J 125 [.ptr 2000000000 0, .d (.int .i64 p1)] [⟨153, (aO.avs p0)⟩] [] =
 cond (p0.e != 0) (
 (some (.ret [.d (.str [])] [⟨153, (aO.avs p0)⟩] []))) (
 γ99 [.d (.sl [.int .u8] (List.map (encI .u8) p0.b)), .d (.int .i64 p0.at_), .d (.int .i64 p1)] [] [] fun r0 =>
 cond (r0.2.2 == 0) (
 (some (.ret [.d (.str r0.1)] [⟨153, (aO.avs (aO.mk p0.b r0.2.1 r0.2.2))⟩] []))) (
 (some (.ret [.d (.str r0.1)] [⟨153, (aO.avs (aO.mk p0.b p0.at_ r0.2.2))⟩] [])))) := by kernel_rfl
end
abbrev auC : aN := aq8 gG (cT 99 eT)
theorem axX : auC = aQ gG := by unfold auC aq8; rw [bB fun _ h => h]
theorem iG (p0 : aO) (p1 : Int) : Le (Option.map fK (fT p0 p1)) (bD SE 125 [.ptr 2000000000 0, .d (.int .i64 p1)] [⟨153, (aO.avs p0)⟩] []) := by
 refine aV axX rfl ?_
 refine Le.trans ?_ (le_of_eq (aBH ..).symm)
 unfold fT
 refine lC ?_ ?_
 ·exact aI rfl
 ·refine lQ eX aaO (af3 _ _ _) fun r0 _ => ?_
  refine lC ?_ ?_
  ·exact aI rfl
  ·exact aI rfl
section
variable (Γ : Fun) (γ100 : Gm (Int × Int × Int)) (Λ2 J : Lam)
def arU : aN := aZ (aQ Γ) 100 cH γ100
theorem aCu (p0 : aO) : bF SE (arU Γ γ100) Λ2 J 126 [.ptr 2000000000 0] [⟨153, (aO.avs p0)⟩] [] =
 cond (p0.e != 0) (
 (some (.ret [.d (.int .i64 0)] [⟨153, (aO.avs p0)⟩] []))) (
 γ100 [.d (.sl [.int .u8] (List.map (encI .u8) p0.b)), .d (.int .i64 p0.at_)] [] [] fun r0 =>
 cond (r0.2.2 == 0) (
 (some (.ret [.d (.int .i64 r0.1)] [⟨153, (aO.avs (aO.mk p0.b r0.2.1 r0.2.2))⟩] []))) (
 (some (.ret [.d (.int .i64 r0.1)] [⟨153, (aO.avs (aO.mk p0.b p0.at_ r0.2.2))⟩] [])))) := by kernel_rfl
end
abbrev awR : aN := arU gG (cT 100 cH)
theorem ay2 : awR = aQ gG := by unfold awR arU; rw [bB fun _ h => h]
theorem gH (p0 : aO) : Le (Option.map fX (fB p0)) (bD SE 126 [.ptr 2000000000 0] [⟨153, (aO.avs p0)⟩] []) := by
 refine aV ay2 rfl ?_
 refine Le.trans ?_ (le_of_eq (aCu ..).symm)
 unfold fB
 refine lC ?_ ?_
 ·exact aI rfl
 ·refine lQ eX o0 (adk _ _) fun r0 _ => ?_
  refine lC ?_ ?_
  ·exact aI rfl
  ·exact aI rfl
section
variable (Γ : Fun)  (Λ2 J : Lam)
def auD : aN := aQ Γ
theorem aAF (p0 : aO) (p1 : Bool) (p2 : Int) : bF SE (auD Γ) Λ2 J 127 [.ptr 2000000000 0, .d (.bool p1), .d (.int .i64 p2)] [⟨153, (aO.avs p0)⟩] [] =
 cond (p0.e == 0) (
 cond (!p1) (
  (some (.ret [] [⟨153, (aO.avs (aO.mk p0.b p0.at_ p2))⟩] []))) (
 (some (.ret [] [⟨153, (aO.avs p0)⟩] [])))) (
 (some (.ret [] [⟨153, (aO.avs p0)⟩] []))) := by kernel_rfl
end
abbrev aAD : aN := auD gG
theorem aAp : aAD = aQ gG := rfl
theorem oI (p0 : aO) (p1 : Bool) (p2 : Int) : Le (Option.map fJ (jR p0 p1 p2)) (bD SE 127 [.ptr 2000000000 0, .d (.bool p1), .d (.int .i64 p2)] [⟨153, (aO.avs p0)⟩] []) := by
 refine aV aAp rfl ?_
 refine Le.trans ?_ (le_of_eq (aAF ..).symm)
 unfold jR
 refine lC ?_ ?_
 ·refine lC ?_ ?_
  ·exact aI rfl
  ·exact aI rfl
 ·exact aI rfl
def ans (C : aN) (Λ2 J : Lam) (a0 a1 a2 : Int) (a3 : Bool) (a4 a5 : List D) (a6 a7 : Str) (a8 : Int) (a9 : Bool) (a10 a11 : Int) (a12 : Str) (a13 : Int) (a14 : List (List D)) : Res := lab SE C Λ2 J 101 0 [1, 1, 1, 1, 1, 1, 1, 1, 1, 1, 1, 1, 1, 1, 1, 1, 0, 1, 0, 0, 1, 0, 0, 0] (aU [(4, .ptr 1000000000 0), (7, .ptr 1000000001 0), (8, .ptr 1000000002 0), (10, .d (.int .i64 a0)), (11, .d (.int .i64 a1)), (62, .ptr 1000000001 0), (63, .ptr 1000000001 0), (64, .ptr 1000000001 2), (65, .d (.int .i64 a2)), (66, .d (.bool a3))] [⟨42, (List.map AV.d a4)⟩, ⟨153, (List.map AV.d a5)⟩, ⟨42, [.d (.str a6), .d (.str a7), .d (.int .i64 a8), .d (.bool a9), .d (.int .i64 a10), .d (.int .i64 a11), .d (.str a12), .d (.int .i64 a13), .row 50208]⟩] [] [] [(50208, ⟨aG.ks, 128, 32, a14⟩)])
def ajx (C : aN) (Λ2 J : Lam) (a0 a1 : List D) (a2 a3 : Str) (a4 : Int) (a5 : Bool) (a6 a7 : Int) (a8 : Str) (a9 : Int) (a10 : List (List D)) : Res := lab SE C Λ2 J 101 0 [1, 1, 1, 1, 1, 1, 1, 1, 1, 1, 1, 1, 1, 1, 1, 1, 1, 1, 0, 0] (aU [(4, .ptr 1000000000 0), (7, .ptr 1000000001 0), (8, .ptr 1000000002 0)] [⟨42, (List.map AV.d a0)⟩, ⟨153, (List.map AV.d a1)⟩, ⟨42, [.d (.str a2), .d (.str a3), .d (.int .i64 a4), .d (.bool a5), .d (.int .i64 a6), .d (.int .i64 a7), .d (.str a8), .d (.int .i64 a9), .row 50208]⟩] [] [] [(50208, ⟨aG.ks, 128, 32, a10⟩)])
def ajL (C : aN) (Λ2 J : Lam) (a0 a1 : List D) (a2 a3 : Str) (a4 : Int) (a5 : Bool) (a6 a7 : Int) (a8 : Str) (a9 : Int) (a10 : List (List D)) : Res := lab SE C Λ2 J 101 0 [1, 1, 1, 1, 1, 1, 1, 1, 1, 1, 1, 1, 1, 1, 1, 1, 1, 0, 0] (aU [(4, .ptr 1000000000 0), (7, .ptr 1000000001 0), (8, .ptr 1000000002 0)] [⟨42, (List.map AV.d a0)⟩, ⟨153, (List.map AV.d a1)⟩, ⟨42, [.d (.str a2), .d (.str a3), .d (.int .i64 a4), .d (.bool a5), .d (.int .i64 a6), .d (.int .i64 a7), .d (.str a8), .d (.int .i64 a9), .row 50208]⟩] [] [] [(50208, ⟨aG.ks, 128, 32, a10⟩)])
def ajB (C : aN) (Λ2 J : Lam) (a0 a1 : Int) (a2 a3 : List D) (a4 a5 : Str) (a6 : Int) (a7 : Bool) (a8 a9 : Int) (a10 : Str) (a11 : Int) (a12 : List (List D)) : Res := lab SE C Λ2 J 101 0 [1, 1, 1, 1, 1, 1, 1, 1, 1, 1, 1, 1, 1, 1, 1, 1, 0, 1, 0] (aU [(4, .ptr 1000000000 0), (7, .ptr 1000000001 0), (8, .ptr 1000000002 0), (10, .d (.int .i64 a0)), (11, .d (.int .i64 a1))] [⟨42, (List.map AV.d a2)⟩, ⟨153, (List.map AV.d a3)⟩, ⟨42, [.d (.str a4), .d (.str a5), .d (.int .i64 a6), .d (.bool a7), .d (.int .i64 a8), .d (.int .i64 a9), .d (.str a10), .d (.int .i64 a11), .row 50208]⟩] [] [] [(50208, ⟨aG.ks, 128, 32, a12⟩)])
section
variable (Γ : Fun) (γ125 : Gm (Str × aO)) (γ126 : Gm (Int × aO)) (γ128 : Gm (Bool)) (γ127 : Gm (aO)) (γ118 : Gm (Int)) (Λ2 J : Lam)
def yL : aN := aZ (aZ (aZ (aZ (aZ (aQ Γ) 125 fK γ125) 126 fX γ126) 128 brokerref01_lower_out γ128) 127 fJ γ127) 118 brokerref43_Check_out γ118
theorem aCH (p0 : List Int) (p1 : Int) : bF SE (yL Γ γ125 γ126 γ128 γ127 γ118) Λ2 J 101 [.d (.sl [.int .u8] (List.map (encI .u8) p0)), .d (.int .i64 p1)] [] [] =
 γ125 [.ptr 2000000000 0, .d (.int .i64 64)] [⟨153, (aO.avs (aO.mk p0 p1 0))⟩] [] fun r0 =>
 γ125 [.ptr 2000000000 0, .d (.int .i64 256)] [⟨153, (aO.avs r0.2)⟩] [] fun r1 =>
 γ126 [.ptr 2000000000 0] [⟨153, (aO.avs r1.2)⟩] [] fun r2 =>
 γ126 [.ptr 2000000000 0] [⟨153, (aO.avs r2.2)⟩] [] fun r3 =>
 γ128 [.d (.int .i64 r3.1), .d (.int .i64 1)] [] [] fun r4 =>
 γ127 [.ptr 2000000000 0, .d (.bool r4), .d (.int .i64 2)] [⟨153, (aO.avs r3.2)⟩] [] fun r5 =>
 γ126 [.ptr 2000000000 0] [⟨153, (aO.avs r5)⟩] [] fun r6 =>
 γ126 [.ptr 2000000000 0] [⟨153, (aO.avs r6.2)⟩] [] fun r7 =>
 γ125 [.ptr 2000000000 0, .d (.int .i64 16)] [⟨153, (aO.avs r7.2)⟩] [] fun r8 =>
 γ126 [.ptr 2000000000 0] [⟨153, (aO.avs r8.2)⟩] [] fun r9 =>
 γ126 [.ptr 2000000000 0] [⟨153, (aO.avs r9.2)⟩] [] fun r10 =>
 γ127 [.ptr 2000000000 0, .d (.bool (decide (r10.1 ≥ 0))), .d (.int .i64 2)] [⟨153, (aO.avs r10.2)⟩] [] fun r11 =>
 γ127 [.ptr 2000000000 0, .d (.bool (decide (r10.1 ≤ 8))), .d (.int .i64 5)] [⟨153, (aO.avs r11)⟩] [] fun r12 =>
 ajB (yL Γ γ125 γ126 γ128 γ127 γ118) Λ2 J r10.1 0 [D.str [], D.str [], D.int .i64 0, D.bool false, D.int .i64 0, D.int .i64 0, D.str [], D.int .i64 0, D.sl aG.ks (List.map aG.enc [])] (aO.enc r12) r0.1 r1.1 r2.1 (r3.1 == 1) r6.1 r7.1 r8.1 r9.1 (List.map aG.enc []) := by kernel_rfl
theorem atz (x10 x11 x65 : Int) (x66 : Bool) (b0 : aC) (b1 : aO) (b2_0 b2_1 : Str) (b2_2 : Int) (b2_3 : Bool) (b2_4 b2_5 : Int) (b2_6 : Str) (b2_7 : Int) (w50208 : List aG) : bR SE (yL Γ γ125 γ126 γ128 γ127 γ118) Λ2 J 101 0 [1, 1, 1, 1, 1, 1, 1, 1, 1, 1, 1, 1, 1, 1, 1, 1, 0, 1, 0, 0, 1, 0, 0, 0] (aU [(4, .ptr 1000000000 0), (7, .ptr 1000000001 0), (8, .ptr 1000000002 0), (10, .d (.int .i64 x10)), (11, .d (.int .i64 x11)), (62, .ptr 1000000001 0), (63, .ptr 1000000001 0), (64, .ptr 1000000001 2), (65, .d (.int .i64 x65)), (66, .d (.bool x66))] [⟨42, (List.map AV.d (aC.enc b0))⟩, ⟨153, (List.map AV.d (aO.enc b1))⟩, ⟨42, [.d (.str b2_0), .d (.str b2_1), .d (.int .i64 b2_2), .d (.bool b2_3), .d (.int .i64 b2_4), .d (.int .i64 b2_5), .d (.str b2_6), .d (.int .i64 b2_7), .row 50208]⟩] [] [] [(50208, ⟨aG.ks, 128, 32, (List.map aG.enc w50208)⟩)]) =
 γ125 [.ptr 2000000000 0, .d (.int .i64 16)] [⟨153, (aO.avs b1)⟩] [] fun r13 =>
 γ125 [.ptr 2000000000 0, .d (.int .i64 160)] [⟨153, (aO.avs r13.2)⟩] [] fun r14 =>
 cond (decide ((lM aG.enc w50208 + lM aG.enc [(aG.mk r13.1 r14.1)]) * 32 ≤ 140737488355328)) (
 ajB (yL Γ γ125 γ126 γ128 γ127 γ118) Λ2 J x10 (w6 (x11 + 1)) (aC.enc b0) (aO.enc r14.2) b2_0 b2_1 b2_2 b2_3 b2_4 b2_5 b2_6 b2_7 (((List.map aG.enc w50208) ++ (List.map aG.enc [(aG.mk r13.1 r14.1)])))) none := by kernel_rfl
theorem atD (b0 : aC) (b1 : aO) (b2_0 b2_1 : Str) (b2_2 : Int) (b2_3 : Bool) (b2_4 b2_5 : Int) (b2_6 : Str) (b2_7 : Int) (w50208 : List aG) : bR SE (yL Γ γ125 γ126 γ128 γ127 γ118) Λ2 J 101 0 [1, 1, 1, 1, 1, 1, 1, 1, 1, 1, 1, 1, 1, 1, 1, 1, 1, 1, 0, 0] (aU [(4, .ptr 1000000000 0), (7, .ptr 1000000001 0), (8, .ptr 1000000002 0)] [⟨42, (List.map AV.d (aC.enc b0))⟩, ⟨153, (List.map AV.d (aO.enc b1))⟩, ⟨42, [.d (.str b2_0), .d (.str b2_1), .d (.int .i64 b2_2), .d (.bool b2_3), .d (.int .i64 b2_4), .d (.int .i64 b2_5), .d (.str b2_6), .d (.int .i64 b2_7), .row 50208]⟩] [] [] [(50208, ⟨aG.ks, 128, 32, (List.map aG.enc w50208)⟩)]) =
 cond (b1.e != 0) (
 (some (.ret [.agg [.d (.str []), .d (.str []), .d (.int .i64 0), .d (.bool false), .d (.int .i64 0), .d (.int .i64 0), .d (.str []), .d (.int .i64 0), .row 0], .d (.int .i64 0), .d (.int .i64 b1.e)] [] [⟨aG.ks, 128, 32, (List.map aG.enc [])⟩]))) (
 (some (.ret [.agg [.d (.str b2_0), .d (.str b2_1), .d (.int .i64 b2_2), .d (.bool b2_3), .d (.int .i64 b2_4), .d (.int .i64 b2_5), .d (.str b2_6), .d (.int .i64 b2_7), .row 0], .d (.int .i64 b1.at_), .d (.int .i64 0)] [] [⟨aG.ks, 128, 32, (List.map aG.enc w50208)⟩]))) := by kernel_rfl
theorem ata (b0 : aC) (b1 : aO) (b2_0 b2_1 : Str) (b2_2 : Int) (b2_3 : Bool) (b2_4 b2_5 : Int) (b2_6 : Str) (b2_7 : Int) (w50208 : List aG) : bR SE (yL Γ γ125 γ126 γ128 γ127 γ118) Λ2 J 101 0 [1, 1, 1, 1, 1, 1, 1, 1, 1, 1, 1, 1, 1, 1, 1, 1, 1, 0, 0] (aU [(4, .ptr 1000000000 0), (7, .ptr 1000000001 0), (8, .ptr 1000000002 0)] [⟨42, (List.map AV.d (aC.enc b0))⟩, ⟨153, (List.map AV.d (aO.enc b1))⟩, ⟨42, [.d (.str b2_0), .d (.str b2_1), .d (.int .i64 b2_2), .d (.bool b2_3), .d (.int .i64 b2_4), .d (.int .i64 b2_5), .d (.str b2_6), .d (.int .i64 b2_7), .row 50208]⟩] [] [] [(50208, ⟨aG.ks, 128, 32, (List.map aG.enc w50208)⟩)]) =
 cond (b1.e == 0) (
 γ118 [aC.av (aC.mk b2_0 b2_1 b2_2 b2_3 b2_4 b2_5 b2_6 b2_7 w50208)] [] [] fun r15 =>
 ajx (yL Γ γ125 γ126 γ128 γ127 γ118) Λ2 J (aC.enc b0) (aO.enc (aO.mk b1.b b1.at_ r15)) b2_0 b2_1 b2_2 b2_3 b2_4 b2_5 b2_6 b2_7 (List.map aG.enc w50208)) (
 ajx (yL Γ γ125 γ126 γ128 γ127 γ118) Λ2 J (aC.enc b0) (aO.enc b1) b2_0 b2_1 b2_2 b2_3 b2_4 b2_5 b2_6 b2_7 (List.map aG.enc w50208)) := by kernel_rfl
theorem as9 (x10 x11 : Int) (b0 : aC) (b1 : aO) (b2_0 b2_1 : Str) (b2_2 : Int) (b2_3 : Bool) (b2_4 b2_5 : Int) (b2_6 : Str) (b2_7 : Int) (w50208 : List aG) : bR SE (yL Γ γ125 γ126 γ128 γ127 γ118) Λ2 J 101 0 [1, 1, 1, 1, 1, 1, 1, 1, 1, 1, 1, 1, 1, 1, 1, 1, 0, 1, 0] (aU [(4, .ptr 1000000000 0), (7, .ptr 1000000001 0), (8, .ptr 1000000002 0), (10, .d (.int .i64 x10)), (11, .d (.int .i64 x11))] [⟨42, (List.map AV.d (aC.enc b0))⟩, ⟨153, (List.map AV.d (aO.enc b1))⟩, ⟨42, [.d (.str b2_0), .d (.str b2_1), .d (.int .i64 b2_2), .d (.bool b2_3), .d (.int .i64 b2_4), .d (.int .i64 b2_5), .d (.str b2_6), .d (.int .i64 b2_7), .row 50208]⟩] [] [] [(50208, ⟨aG.ks, 128, 32, (List.map aG.enc w50208)⟩)]) =
 cond (decide (x11 < x10)) (
 cond (b1.e == 0) (
  ans (yL Γ γ125 γ126 γ128 γ127 γ118) Λ2 J x10 x11 b1.e (b1.e == 0) (aC.enc b0) (aO.enc b1) b2_0 b2_1 b2_2 b2_3 b2_4 b2_5 b2_6 b2_7 (List.map aG.enc w50208)) (
 ajL (yL Γ γ125 γ126 γ128 γ127 γ118) Λ2 J (aC.enc b0) (aO.enc b1) b2_0 b2_1 b2_2 b2_3 b2_4 b2_5 b2_6 b2_7 (List.map aG.enc w50208))) (
 ajL (yL Γ γ125 γ126 γ128 γ127 γ118) Λ2 J (aC.enc b0) (aO.enc b1) b2_0 b2_1 b2_2 b2_3 b2_4 b2_5 b2_6 b2_7 (List.map aG.enc w50208)) := by kernel_rfl
end
abbrev adr : aN := yL gG (cT 125 fK) (cT 126 fX) (cT 128 brokerref01_lower_out) (cT 127 fJ) (cT 118 brokerref43_Check_out)
theorem aie : adr = aQ gG := by unfold adr yL; repeat rw [bB fun _ h => h]
abbrev atw := ans adr (bQ SE gG (SE.hl 101) (SE.hr 101)) (J0 SE adr)
abbrev atc := ajx adr (bQ SE gG (SE.hl 101) (SE.hr 101)) (J0 SE adr)
abbrev atN := ajL adr (bQ SE gG (SE.hl 101) (SE.hr 101)) (J0 SE adr)
abbrev ani := ajB adr (bQ SE gG (SE.hl 101) (SE.hr 101)) (J0 SE adr)
theorem afC (k17 : Int → Int → aC → aO → Str → Str → Int → Bool → Int → Int → Str → Int → (List aG) → Option (aC × Int × Int)) (hk17 : ∀ (x10 x11 : Int) (b0 : aC) (b1 : aO) (b2_0 b2_1 : Str) (b2_2 : Int) (b2_3 : Bool) (b2_4 b2_5 : Int) (b2_6 : Str) (b2_7 : Int) (w50208 : List aG), Le (Option.map eY (k17 x10 x11 b0 b1 b2_0 b2_1 b2_2 b2_3 b2_4 b2_5 b2_6 b2_7 w50208)) (ani x10 x11 (aC.enc b0) (aO.enc b1) b2_0 b2_1 b2_2 b2_3 b2_4 b2_5 b2_6 b2_7 (List.map aG.enc w50208))) (x10 x11 x65 : Int) (x66 : Bool) (b0 : aC) (b1 : aO) (b2_0 b2_1 : Str) (b2_2 : Int) (b2_3 : Bool) (b2_4 b2_5 : Int) (b2_6 : Str) (b2_7 : Int) (w50208 : List aG) : Le (Option.map eY (w1 k17 x10 x11 x65 x66 b0 b1 b2_0 b2_1 b2_2 b2_3 b2_4 b2_5 b2_6 b2_7 w50208)) (atw x10 x11 x65 x66 (aC.enc b0) (aO.enc b1) b2_0 b2_1 b2_2 b2_3 b2_4 b2_5 b2_6 b2_7 (List.map aG.enc w50208)) := by
 refine Le.trans ?_ (le_of_eq ((aX aie).trans (atz ..)).symm)
 unfold w1
 refine lQ eX g4 (iG _ _) fun r13 _ => ?_
 refine lQ eX g4 (iG _ _) fun r14 _ => ?_
 refine lG (by simp only [EN]) ?_
 (try simp only [EN]); exact hk17 x10 (w6 (x11 + 1)) b0 r14.2 b2_0 b2_1 b2_2 b2_3 b2_4 b2_5 b2_6 b2_7 (w50208 ++ [(aG.mk r13.1 r14.1)])
theorem zD (b0 : aC) (b1 : aO) (b2_0 b2_1 : Str) (b2_2 : Int) (b2_3 : Bool) (b2_4 b2_5 : Int) (b2_6 : Str) (b2_7 : Int) (w50208 : List aG) : Le (Option.map eY (sE b0 b1 b2_0 b2_1 b2_2 b2_3 b2_4 b2_5 b2_6 b2_7 w50208)) (atc (aC.enc b0) (aO.enc b1) b2_0 b2_1 b2_2 b2_3 b2_4 b2_5 b2_6 b2_7 (List.map aG.enc w50208)) := by
 refine Le.trans ?_ (le_of_eq ((aX aie).trans (atD ..)).symm)
 unfold sE
 refine lC ?_ ?_
 ·exact aI rfl
 ·exact aI rfl
theorem zH (b0 : aC) (b1 : aO) (b2_0 b2_1 : Str) (b2_2 : Int) (b2_3 : Bool) (b2_4 b2_5 : Int) (b2_6 : Str) (b2_7 : Int) (w50208 : List aG) : Le (Option.map eY (rW b0 b1 b2_0 b2_1 b2_2 b2_3 b2_4 b2_5 b2_6 b2_7 w50208)) (atN (aC.enc b0) (aO.enc b1) b2_0 b2_1 b2_2 b2_3 b2_4 b2_5 b2_6 b2_7 (List.map aG.enc w50208)) := by
 refine Le.trans ?_ (le_of_eq ((aX aie).trans (ata ..)).symm)
 unfold rW
 refine lC ?_ ?_
 ·refine lQ eX brokerref43_Check_inj (sD _) fun r15 _ => ?_
  exact zD b0 (aO.mk b1.b b1.at_ r15) b2_0 b2_1 b2_2 b2_3 b2_4 b2_5 b2_6 b2_7 w50208
 ·exact zD b0 b1 b2_0 b2_1 b2_2 b2_3 b2_4 b2_5 b2_6 b2_7 w50208
theorem afh : ∀ (fu : Nat) (x10 x11 : Int) (b0 : aC) (b1 : aO) (b2_0 b2_1 : Str) (b2_2 : Int) (b2_3 : Bool) (b2_4 b2_5 : Int) (b2_6 : Str) (b2_7 : Int) (w50208 : List aG), Le (Option.map eY (sF fu x10 x11 b0 b1 b2_0 b2_1 b2_2 b2_3 b2_4 b2_5 b2_6 b2_7 w50208)) (ani x10 x11 (aC.enc b0) (aO.enc b1) b2_0 b2_1 b2_2 b2_3 b2_4 b2_5 b2_6 b2_7 (List.map aG.enc w50208)) := by
 intro fu
 induction fu with
 | zero => intros; exact le_none
 | succ fu ih =>
  intro x10 x11 b0 b1 b2_0 b2_1 b2_2 b2_3 b2_4 b2_5 b2_6 b2_7 w50208
  refine Le.trans ?_ (le_of_eq ((aX aie).trans (as9 ..)).symm)
  unfold sF
  refine lC ?_ ?_
  ·refine lC ?_ ?_
   ·exact afC _ (ih) x10 x11 b1.e (b1.e == 0) b0 b1 b2_0 b2_1 b2_2 b2_3 b2_4 b2_5 b2_6 b2_7 w50208
   ·exact zH b0 b1 b2_0 b2_1 b2_2 b2_3 b2_4 b2_5 b2_6 b2_7 w50208
  ·exact zH b0 b1 b2_0 b2_1 b2_2 b2_3 b2_4 b2_5 b2_6 b2_7 w50208
theorem aiI (p0 : List Int) (p1 : Int) : Le (Option.map eY (aby p0 p1)) (bD SE 101 [.d (.sl [.int .u8] (List.map (encI .u8) p0)), .d (.int .i64 p1)] [] []) := by
 refine aV aie rfl ?_
 refine Le.trans ?_ (le_of_eq (aCH ..).symm)
 unfold aby
 refine lQ eX g4 (iG _ _) fun r0 _ => ?_
 refine lQ eX g4 (iG _ _) fun r1 _ => ?_
 refine lQ eX fW (gH _) fun r2 _ => ?_
 refine lQ eX fW (gH _) fun r3 _ => ?_
 refine lQ eX brokerref01_lower_inj (pO _ _) fun r4 _ => ?_
 refine lQ eX nJ (oI _ _ _) fun r5 _ => ?_
 refine lQ eX fW (gH _) fun r6 _ => ?_
 refine lQ eX fW (gH _) fun r7 _ => ?_
 refine lQ eX g4 (iG _ _) fun r8 _ => ?_
 refine lQ eX fW (gH _) fun r9 _ => ?_
 refine lQ eX fW (gH _) fun r10 _ => ?_
 refine lQ eX nJ (oI _ _ _) fun r11 _ => ?_
 refine lQ eX nJ (oI _ _ _) fun r12 _ => ?_
 (try simp only [EN]); exact afh fuel r10.1 0 ((aC.mk [] [] 0 false 0 0 [] 0 [])) r12 r0.1 r1.1 r2.1 (r3.1 == 1) r6.1 r7.1 r8.1 r9.1 []
section
variable (Γ : Fun) (γ101 : Gm (aC × Int × Int)) (Λ2 J : Lam)
def C52 : aN := aZ (aQ Γ) 101 eY γ101
theorem T52 (p0 : aH) : bF SE (C52 Γ γ101) Λ2 J 52 [.ptr 2000000000 0] [⟨85, (aH.avs p0)⟩] [] =
 cond (p0.err != 0) (
 (some (.ret [.agg [.d (.str []), .d (.str []), .d (.int .i64 0), .d (.bool false), .d (.int .i64 0), .d (.int .i64 0), .d (.str []), .d (.int .i64 0), .row 0]] [⟨85, (aH.avs p0)⟩] [⟨aG.ks, 128, 32, (List.map aG.enc [])⟩]))) (
 γ101 [.d (.sl [.int .u8] (List.map (encI .u8) p0.b)), .d (.int .i64 p0.at_)] [] [] fun r0 =>
 cond (r0.2.2 != 0) (
 (some (.ret [.agg [.d (.str []), .d (.str []), .d (.int .i64 0), .d (.bool false), .d (.int .i64 0), .d (.int .i64 0), .d (.str []), .d (.int .i64 0), .row 0]] [⟨85, (aH.avs (aH.mk p0.b p0.at_ r0.2.2))⟩] [⟨aG.ks, 128, 32, (List.map aG.enc [])⟩]))) (
 (some (.ret [.agg [.d (.str r0.1.Topic), .d (.str r0.1.Payload), .d (.int .i64 r0.1.Level), .d (.bool r0.1.Retain), .d (.int .i64 r0.1.Priority), .d (.int .i64 r0.1.Expires), .d (.str r0.1.From), .d (.int .i64 r0.1.Seq), .row 0]] [⟨85, (aH.avs (aH.mk p0.b r0.2.1 p0.err))⟩] [⟨aG.ks, 128, 32, (List.map aG.enc r0.1.Props)⟩])))) := by kernel_rfl
end
abbrev X52 : aN := C52 gG (cT 101 eY)
theorem aAH : X52 = aQ gG := by unfold X52 C52; rw [bB fun _ h => h]
theorem lR (p0 : aH) : Le (Option.map cX (iC p0)) (bD SE 52 [.ptr 2000000000 0] [⟨85, (aH.avs p0)⟩] []) := by
 refine aV aAH rfl ?_
 refine Le.trans ?_ (le_of_eq (T52 ..).symm)
 unfold iC
 refine lC ?_ ?_
 ·exact aI rfl
 ·refine lQ eX ahN (aiI _ _) fun r0 _ => ?_
  refine lC ?_ ?_
  ·exact aI rfl
  ·exact aI rfl
def al6 (C : aN) (Λ2 J : Lam) (a0 : Int) (a1 : List D) (a2 : List (List D)) : Res := lab SE C Λ2 J 51 1 [1, 1, 1, 1, 1, 1, 0, 0] (aU [(0, .ptr 2000000000 0), (2, .fn 52 [.ptr 2000000000 0] []), (7, .d (.int .i64 a0)), (8, .row 3008)] [] [⟨85, (List.map AV.d a1)⟩] [] [(3008, ⟨aC.ks, 42, 112, a2⟩)])
section
variable (Γ : Fun) (γ48 : Gm (Int × aH)) (γ52 : Gm (aC × aH)) (Λ2 J : Lam)
def C51 : aN := aZ (aZ (aQ Γ) 48 bU γ48) 52 cX γ52
theorem T51 (p0 : aH) (p1 : Int) : bF SE (C51 Γ γ48 γ52) Λ2 J 51 [.ptr 2000000000 0, .d (.int .i64 p1), .fn 52 [.ptr 2000000000 0] []] [⟨85, (aH.avs p0)⟩] [] =
 γ48 [.ptr 2000000000 0] [⟨85, (aH.avs p0)⟩] [] fun r0 =>
 cond (r0.2.err != 0) (
 (some (.ret [.row 0] [⟨85, (aH.avs r0.2)⟩] [⟨aC.ks, 42, 112, []⟩]))) (
 cond (decide (r0.1 < 0)) (
 (some (.ret [.row 0] [⟨85, (aH.avs (aH.mk r0.2.b r0.2.at_ 2))⟩] [⟨aC.ks, 42, 112, []⟩]))) (
 cond (decide (r0.1 > p1)) (
 (some (.ret [.row 0] [⟨85, (aH.avs (aH.mk r0.2.b r0.2.at_ 5))⟩] [⟨aC.ks, 42, 112, []⟩]))) (
 al6 (C51 Γ γ48 γ52) Λ2 J r0.1 (aH.enc r0.2) (List.map aC.enc [])))) := by kernel_rfl
theorem avT (x7 : Int) (q0 : aH) (w3008 : List aC) : bR SE (C51 Γ γ48 γ52) Λ2 J 51 1 [1, 1, 1, 1, 1, 1, 0, 0] (aU [(0, .ptr 2000000000 0), (2, .fn 52 [.ptr 2000000000 0] []), (7, .d (.int .i64 x7)), (8, .row 3008)] [] [⟨85, (List.map AV.d (aH.enc q0))⟩] [] [(3008, ⟨aC.ks, 42, 112, (List.map aC.enc w3008)⟩)]) =
 cond (decide ((lM aC.enc w3008 : Int) < x7)) (
 cond (q0.err == 0) (
  γ52 [.ptr 2000000000 0] [⟨85, (aH.avs q0)⟩] [] fun r1 =>
  cond (decide ((lM aC.enc w3008 + lM aC.enc [r1.1]) * 112 ≤ 140737488355328)) (
  al6 (C51 Γ γ48 γ52) Λ2 J x7 (aH.enc r1.2) (((List.map aC.enc w3008) ++ (List.map aC.enc [r1.1])))) none) (
 (some (.ret [.row 0] [⟨85, (aH.avs q0)⟩] [⟨aC.ks, 42, 112, (List.map aC.enc w3008)⟩])))) (
 (some (.ret [.row 0] [⟨85, (aH.avs q0)⟩] [⟨aC.ks, 42, 112, (List.map aC.enc w3008)⟩]))) := by kernel_rfl
end
abbrev X51 : aN := C51 gG (cT 48 bU) (cT 52 cX)
theorem auT : X51 = aQ gG := by unfold X51 C51; repeat rw [bB fun _ h => h]
abbrev au6 := al6 X51 (bQ SE gG (SE.hl 51) (SE.hr 51)) (J0 SE X51)
theorem w4 : ∀ (fu : Nat) (x7 : Int) (q0 : aH) (w3008 : List aC), Le (Option.map dY (iM fu x7 q0 w3008)) (au6 x7 (aH.enc q0) (List.map aC.enc w3008)) := by
 intro fu
 induction fu with
 | zero => intros; exact le_none
 | succ fu ih =>
  intro x7 q0 w3008
  refine Le.trans ?_ (le_of_eq ((aX auT).trans (avT ..)).symm)
  unfold iM
  refine lD (by simp only [EN]) ?_ ?_
  ·refine lC ?_ ?_
   ·refine lQ eX k8 (lR _) fun r1 _ => ?_
    refine lG (by simp only [EN]) ?_
    (try simp only [EN]); exact ih x7 r1.2 (w3008 ++ [r1.1])
   ·exact aI rfl
  ·exact aI rfl
theorem aai (p0 : aH) (p1 : Int) : Le (Option.map dY (oA p0 p1)) (bD SE 51 [.ptr 2000000000 0, .d (.int .i64 p1), .fn 52 [.ptr 2000000000 0] []] [⟨85, (aH.avs p0)⟩] []) := by
 refine aV auT rfl ?_
 refine Le.trans ?_ (le_of_eq (T51 ..).symm)
 unfold oA
 refine lQ eX cB (cC _) fun r0 _ => ?_
 refine lC ?_ ?_
 ·exact aI rfl
 ·refine lC ?_ ?_
  ·exact aI rfl
  ·refine lC ?_ ?_
   ·exact aI rfl
   ·(try simp only [EN]); exact w4 fuel r0.1 r0.2 []
section
variable (Γ : Fun) (γ48 : Gm (Int × aH)) (γ52 : Gm (aC × aH)) (Λ2 J : Lam)
def C54 : aN := aZ (aZ (aQ Γ) 48 bU γ48) 52 cX γ52
theorem T54 (p0 : aH) : bF SE (C54 Γ γ48 γ52) Λ2 J 54 [.ptr 2000000000 0] [⟨85, (aH.avs p0)⟩] [] =
 γ48 [.ptr 2000000000 0] [⟨85, (aH.avs p0)⟩] [] fun r0 =>
 γ48 [.ptr 2000000000 0] [⟨85, (aH.avs r0.2)⟩] [] fun r1 =>
 γ52 [.ptr 2000000000 0] [⟨85, (aH.avs r1.2)⟩] [] fun r2 =>
 (some (.ret [.agg [.d (.int .i64 r0.1), .d (.int .i64 r1.1), .d (.str r2.1.Topic), .d (.str r2.1.Payload), .d (.int .i64 r2.1.Level), .d (.bool r2.1.Retain), .d (.int .i64 r2.1.Priority), .d (.int .i64 r2.1.Expires), .d (.str r2.1.From), .d (.int .i64 r2.1.Seq), .row 0]] [⟨85, (aH.avs r2.2)⟩] [⟨aG.ks, 128, 32, (List.map aG.enc r2.1.Props)⟩])) := by kernel_rfl
end
abbrev X54 : aN := C54 gG (cT 48 bU) (cT 52 cX)
theorem aBt : X54 = aQ gG := by unfold X54 C54; repeat rw [bB fun _ h => h]
theorem aaE (p0 : aH) : Le (Option.map eS (o8 p0)) (bD SE 54 [.ptr 2000000000 0] [⟨85, (aH.avs p0)⟩] []) := by
 refine aV aBt rfl ?_
 refine Le.trans ?_ (le_of_eq (T54 ..).symm)
 unfold o8
 refine lQ eX cB (cC _) fun r0 _ => ?_
 refine lQ eX cB (cC _) fun r1 _ => ?_
 refine lQ eX k8 (lR _) fun r2 _ => ?_
 exact aI rfl
def alI (C : aN) (Λ2 J : Lam) (a0 : Int) (a1 : List D) (a2 : List (List D)) : Res := lab SE C Λ2 J 53 1 [1, 1, 1, 1, 1, 1, 0, 0] (aU [(0, .ptr 2000000000 0), (2, .fn 54 [.ptr 2000000000 0] []), (7, .d (.int .i64 a0)), (8, .row 3008)] [] [⟨85, (List.map AV.d a1)⟩] [] [(3008, ⟨aE.ks, 78, 128, a2⟩)])
section
variable (Γ : Fun) (γ48 : Gm (Int × aH)) (γ54 : Gm (aE × aH)) (Λ2 J : Lam)
def C53 : aN := aZ (aZ (aQ Γ) 48 bU γ48) 54 eS γ54
theorem T53 (p0 : aH) (p1 : Int) : bF SE (C53 Γ γ48 γ54) Λ2 J 53 [.ptr 2000000000 0, .d (.int .i64 p1), .fn 54 [.ptr 2000000000 0] []] [⟨85, (aH.avs p0)⟩] [] =
 γ48 [.ptr 2000000000 0] [⟨85, (aH.avs p0)⟩] [] fun r0 =>
 cond (r0.2.err != 0) (
 (some (.ret [.row 0] [⟨85, (aH.avs r0.2)⟩] [⟨aE.ks, 78, 128, []⟩]))) (
 cond (decide (r0.1 < 0)) (
 (some (.ret [.row 0] [⟨85, (aH.avs (aH.mk r0.2.b r0.2.at_ 2))⟩] [⟨aE.ks, 78, 128, []⟩]))) (
 cond (decide (r0.1 > p1)) (
 (some (.ret [.row 0] [⟨85, (aH.avs (aH.mk r0.2.b r0.2.at_ 5))⟩] [⟨aE.ks, 78, 128, []⟩]))) (
 alI (C53 Γ γ48 γ54) Λ2 J r0.1 (aH.enc r0.2) (List.map aE.enc [])))) := by kernel_rfl
theorem axj (x7 : Int) (q0 : aH) (w3008 : List aE) : bR SE (C53 Γ γ48 γ54) Λ2 J 53 1 [1, 1, 1, 1, 1, 1, 0, 0] (aU [(0, .ptr 2000000000 0), (2, .fn 54 [.ptr 2000000000 0] []), (7, .d (.int .i64 x7)), (8, .row 3008)] [] [⟨85, (List.map AV.d (aH.enc q0))⟩] [] [(3008, ⟨aE.ks, 78, 128, (List.map aE.enc w3008)⟩)]) =
 cond (decide ((lM aE.enc w3008 : Int) < x7)) (
 cond (q0.err == 0) (
  γ54 [.ptr 2000000000 0] [⟨85, (aH.avs q0)⟩] [] fun r1 =>
  cond (decide ((lM aE.enc w3008 + lM aE.enc [r1.1]) * 128 ≤ 140737488355328)) (
  alI (C53 Γ γ48 γ54) Λ2 J x7 (aH.enc r1.2) (((List.map aE.enc w3008) ++ (List.map aE.enc [r1.1])))) none) (
 (some (.ret [.row 0] [⟨85, (aH.avs q0)⟩] [⟨aE.ks, 78, 128, (List.map aE.enc w3008)⟩])))) (
 (some (.ret [.row 0] [⟨85, (aH.avs q0)⟩] [⟨aE.ks, 78, 128, (List.map aE.enc w3008)⟩]))) := by kernel_rfl
end
abbrev X53 : aN := C53 gG (cT 48 bU) (cT 54 eS)
theorem auR : X53 = aQ gG := by unfold X53 C53; repeat rw [bB fun _ h => h]
abbrev auU := alI X53 (bQ SE gG (SE.hl 53) (SE.hr 53)) (J0 SE X53)
theorem xR : ∀ (fu : Nat) (x7 : Int) (q0 : aH) (w3008 : List aE), Le (Option.map dZ (iZ fu x7 q0 w3008)) (auU x7 (aH.enc q0) (List.map aE.enc w3008)) := by
 intro fu
 induction fu with
 | zero => intros; exact le_none
 | succ fu ih =>
  intro x7 q0 w3008
  refine Le.trans ?_ (le_of_eq ((aX auR).trans (axj ..)).symm)
  unfold iZ
  refine lD (by simp only [EN]) ?_ ?_
  ·refine lC ?_ ?_
   ·refine lQ eX zO (aaE _) fun r1 _ => ?_
    refine lG (by simp only [EN]) ?_
    (try simp only [EN]); exact ih x7 r1.2 (w3008 ++ [r1.1])
   ·exact aI rfl
  ·exact aI rfl
theorem aaF (p0 : aH) (p1 : Int) : Le (Option.map dZ (oT p0 p1)) (bD SE 53 [.ptr 2000000000 0, .d (.int .i64 p1), .fn 54 [.ptr 2000000000 0] []] [⟨85, (aH.avs p0)⟩] []) := by
 refine aV auR rfl ?_
 refine Le.trans ?_ (le_of_eq (T53 ..).symm)
 unfold oT
 refine lQ eX cB (cC _) fun r0 _ => ?_
 refine lC ?_ ?_
 ·exact aI rfl
 ·refine lC ?_ ?_
  ·exact aI rfl
  ·refine lC ?_ ?_
   ·exact aI rfl
   ·(try simp only [EN]); exact xR fuel r0.1 r0.2 []
def alG (C : aN) (Λ2 J : Lam) (a0 : Int) (a1 : List D) (a2 : List (List D)) : Res := lab SE C Λ2 J 55 1 [1, 1, 1, 1, 1, 1, 0, 0] (aU [(0, .ptr 2000000000 0), (2, .fn 48 [.ptr 2000000000 0] []), (7, .d (.int .i64 a0)), (8, .row 3008)] [] [⟨85, (List.map AV.d a1)⟩] [] [(3008, ⟨[.int .i64], 3, 8, a2⟩)])
section
variable (Γ : Fun) (γ48 : Gm (Int × aH)) (Λ2 J : Lam)
def C55 : aN := aZ (aQ Γ) 48 bU γ48
theorem T55 (p0 : aH) (p1 : Int) : bF SE (C55 Γ γ48) Λ2 J 55 [.ptr 2000000000 0, .d (.int .i64 p1), .fn 48 [.ptr 2000000000 0] []] [⟨85, (aH.avs p0)⟩] [] =
 γ48 [.ptr 2000000000 0] [⟨85, (aH.avs p0)⟩] [] fun r0 =>
 cond (r0.2.err != 0) (
 (some (.ret [.row 0] [⟨85, (aH.avs r0.2)⟩] [⟨[.int .i64], 3, 8, []⟩]))) (
 cond (decide (r0.1 < 0)) (
 (some (.ret [.row 0] [⟨85, (aH.avs (aH.mk r0.2.b r0.2.at_ 2))⟩] [⟨[.int .i64], 3, 8, []⟩]))) (
 cond (decide (r0.1 > p1)) (
 (some (.ret [.row 0] [⟨85, (aH.avs (aH.mk r0.2.b r0.2.at_ 5))⟩] [⟨[.int .i64], 3, 8, []⟩]))) (
 alG (C55 Γ γ48) Λ2 J r0.1 (aH.enc r0.2) (List.map eI [])))) := by kernel_rfl
theorem av7 (x7 : Int) (q0 : aH) (w3008 : List Int) : bR SE (C55 Γ γ48) Λ2 J 55 1 [1, 1, 1, 1, 1, 1, 0, 0] (aU [(0, .ptr 2000000000 0), (2, .fn 48 [.ptr 2000000000 0] []), (7, .d (.int .i64 x7)), (8, .row 3008)] [] [⟨85, (List.map AV.d (aH.enc q0))⟩] [] [(3008, ⟨[.int .i64], 3, 8, (List.map eI w3008)⟩)]) =
 cond (decide ((lM eI w3008 : Int) < x7)) (
 cond (q0.err == 0) (
  γ48 [.ptr 2000000000 0] [⟨85, (aH.avs q0)⟩] [] fun r1 =>
  cond (decide ((lM eI w3008 + lM eI [r1.1]) * 8 ≤ 140737488355328)) (
  alG (C55 Γ γ48) Λ2 J x7 (aH.enc r1.2) (((List.map eI w3008) ++ (List.map eI [r1.1])))) none) (
 (some (.ret [.row 0] [⟨85, (aH.avs q0)⟩] [⟨[.int .i64], 3, 8, (List.map eI w3008)⟩])))) (
 (some (.ret [.row 0] [⟨85, (aH.avs q0)⟩] [⟨[.int .i64], 3, 8, (List.map eI w3008)⟩]))) := by kernel_rfl
end
abbrev X55 : aN := C55 gG (cT 48 bU)
theorem au8 : X55 = aQ gG := by unfold X55 C55; rw [bB fun _ h => h]
abbrev awx := alG X55 (bQ SE gG (SE.hl 55) (SE.hr 55)) (J0 SE X55)
theorem abR : ∀ (fu : Nat) (x7 : Int) (q0 : aH) (w3008 : List Int), Le (Option.map gC (nH fu x7 q0 w3008)) (awx x7 (aH.enc q0) (List.map eI w3008)) := by
 intro fu
 induction fu with
 | zero => intros; exact le_none
 | succ fu ih =>
  intro x7 q0 w3008
  refine Le.trans ?_ (le_of_eq ((aX au8).trans (av7 ..)).symm)
  unfold nH
  refine lD (by simp only [EN]) ?_ ?_
  ·refine lC ?_ ?_
   ·refine lQ eX cB (cC _) fun r1 _ => ?_
    refine lG (by simp only [EN]) ?_
    (try simp only [EN]); exact ih x7 r1.2 (w3008 ++ [r1.1])
   ·exact aI rfl
  ·exact aI rfl
theorem yO (p0 : aH) (p1 : Int) : Le (Option.map gC (qS p0 p1)) (bD SE 55 [.ptr 2000000000 0, .d (.int .i64 p1), .fn 48 [.ptr 2000000000 0] []] [⟨85, (aH.avs p0)⟩] []) := by
 refine aV au8 rfl ?_
 refine Le.trans ?_ (le_of_eq (T55 ..).symm)
 unfold qS
 refine lQ eX cB (cC _) fun r0 _ => ?_
 refine lC ?_ ?_
 ·exact aI rfl
 ·refine lC ?_ ?_
  ·exact aI rfl
  ·refine lC ?_ ?_
   ·exact aI rfl
   ·(try simp only [EN]); exact abR fuel r0.1 r0.2 []
def aiA (C : aN) (Λ2 J : Lam) (a0 a1 : List D) (a2 a3 : Str) (a4 : Bool) (a5 a6 a7 a8 a9 a10 : Int) (a11 : Bool) (a12 : Int) (a13 a14 : Str) (a15 : Int) (a16 : Bool) (a17 a18 : Int) (a19 : Str) (a20 : Int) (a21 a22 a23 a24 a25 a26 : List (List D)) : Res := lab SE C Λ2 J 21 0 [1, 1, 1, 1, 1, 1, 1, 1, 1, 1, 1, 1, 1, 1, 1, 1, 1, 1, 0, 0] (aU [(2, .ptr 1000000000 0), (4, .ptr 1000000001 0), (5, .ptr 1000000002 0)] [⟨46, (List.map AV.d a0)⟩, ⟨85, (List.map AV.d a1)⟩, ⟨46, [.d (.str a2), .d (.str a3), .d (.bool a4), .d (.int .i64 a5), .d (.int .i64 a6), .d (.int .i64 a7), .d (.int .i64 a8), .row 50207, .row 50208, .d (.int .i64 a9), .row 50210, .row 50211, .d (.int .i64 a10), .row 50213, .d (.bool a11), .d (.int .i64 a12), .d (.str a13), .d (.str a14), .d (.int .i64 a15), .d (.bool a16), .d (.int .i64 a17), .d (.int .i64 a18), .d (.str a19), .d (.int .i64 a20), .row 50224]⟩] [] [] [(50207, ⟨aK.ks, 72, 32, a21⟩), (50208, ⟨aC.ks, 42, 112, a22⟩), (50210, ⟨aE.ks, 78, 128, a23⟩), (50211, ⟨[.int .i64], 3, 8, a24⟩), (50213, ⟨[.int .i64], 3, 8, a25⟩), (50224, ⟨aG.ks, 128, 32, a26⟩)])
def amq (C : aN) (Λ2 J : Lam) (a0 : List (List D)) (a1 a2 : List D) (a3 a4 : Str) (a5 : Bool) (a6 a7 a8 a9 a10 a11 : Int) (a12 : Bool) (a13 : Int) (a14 a15 : Str) (a16 : Int) (a17 : Bool) (a18 a19 : Int) (a20 : Str) (a21 : Int) (a22 a23 a24 a25 a26 a27 : List (List D)) : Res := lab SE C Λ2 J 21 0 [1, 1, 1, 1, 1, 1, 1, 1, 1, 1, 1, 1, 1, 1, 1, 1, 1, 0, 0] (aU [(0, .d (.sl [.int .u8] a0)), (2, .ptr 1000000000 0), (4, .ptr 1000000001 0), (5, .ptr 1000000002 0)] [⟨46, (List.map AV.d a1)⟩, ⟨85, (List.map AV.d a2)⟩, ⟨46, [.d (.str a3), .d (.str a4), .d (.bool a5), .d (.int .i64 a6), .d (.int .i64 a7), .d (.int .i64 a8), .d (.int .i64 a9), .row 50207, .row 50208, .d (.int .i64 a10), .row 50210, .row 50211, .d (.int .i64 a11), .row 50213, .d (.bool a12), .d (.int .i64 a13), .d (.str a14), .d (.str a15), .d (.int .i64 a16), .d (.bool a17), .d (.int .i64 a18), .d (.int .i64 a19), .d (.str a20), .d (.int .i64 a21), .row 50224]⟩] [] [] [(50207, ⟨aK.ks, 72, 32, a22⟩), (50208, ⟨aC.ks, 42, 112, a23⟩), (50210, ⟨aE.ks, 78, 128, a24⟩), (50211, ⟨[.int .i64], 3, 8, a25⟩), (50213, ⟨[.int .i64], 3, 8, a26⟩), (50224, ⟨aG.ks, 128, 32, a27⟩)])
section
variable (Γ : Fun) (γ47 : Gm (Str × aH)) (γ48 : Gm (Int × aH)) (γ49 : Gm ((List aK) × aH)) (γ51 : Gm ((List aC) × aH)) (γ53 : Gm ((List aE) × aH)) (γ55 : Gm ((List Int) × aH)) (γ56 : Gm (Bool × aH)) (γ52 : Gm (aC × aH)) (γ35 : Gm (Int)) (Λ2 J : Lam)
def C21 : aN := aZ (aZ (aZ (aZ (aZ (aZ (aZ (aZ (aZ (aQ Γ) 47 dX γ47) 48 bU γ48) 49 eL γ49) 51 dY γ51) 53 dZ γ53) 55 gC γ55) 56 dW γ56) 52 cX γ52) 35 brokerref43_Check_out γ35
theorem T21 (p0 : List Int) : bF SE (C21 Γ γ47 γ48 γ49 γ51 γ53 γ55 γ56 γ52 γ35) Λ2 J 21 [.d (.sl [.int .u8] (List.map (encI .u8) p0))] [] [] =
 γ47 [.ptr 2000000000 0, .d (.int .i64 16)] [⟨85, (aH.avs (aH.mk p0 0 0))⟩] [] fun r0 =>
 γ47 [.ptr 2000000000 0, .d (.int .i64 16)] [⟨85, (aH.avs r0.2)⟩] [] fun r1 =>
 γ48 [.ptr 2000000000 0] [⟨85, (aH.avs r1.2)⟩] [] fun r2 =>
 γ48 [.ptr 2000000000 0] [⟨85, (aH.avs r2.2)⟩] [] fun r3 =>
 γ48 [.ptr 2000000000 0] [⟨85, (aH.avs r3.2)⟩] [] fun r4 =>
 γ49 [.ptr 2000000000 0, .d (.int .i64 32), .fn 50 [.ptr 2000000000 0] []] [⟨85, (aH.avs r4.2)⟩] [] fun r5 =>
 γ51 [.ptr 2000000000 0, .d (.int .i64 256), .fn 52 [.ptr 2000000000 0] []] [⟨85, (aH.avs r5.2)⟩] [] fun r6 =>
 γ48 [.ptr 2000000000 0] [⟨85, (aH.avs r6.2)⟩] [] fun r7 =>
 γ53 [.ptr 2000000000 0, .d (.int .i64 32), .fn 54 [.ptr 2000000000 0] []] [⟨85, (aH.avs r7.2)⟩] [] fun r8 =>
 γ55 [.ptr 2000000000 0, .d (.int .i64 32), .fn 48 [.ptr 2000000000 0] []] [⟨85, (aH.avs r8.2)⟩] [] fun r9 =>
 γ48 [.ptr 2000000000 0] [⟨85, (aH.avs r9.2)⟩] [] fun r10 =>
 γ55 [.ptr 2000000000 0, .d (.int .i64 32), .fn 48 [.ptr 2000000000 0] []] [⟨85, (aH.avs r10.2)⟩] [] fun r11 =>
 γ56 [.ptr 2000000000 0] [⟨85, (aH.avs r11.2)⟩] [] fun r12 =>
 cond r12.1 (
 γ48 [.ptr 2000000000 0] [⟨85, (aH.avs r12.2)⟩] [] fun r13 =>
 γ52 [.ptr 2000000000 0] [⟨85, (aH.avs r13.2)⟩] [] fun r14 =>
 amq (C21 Γ γ47 γ48 γ49 γ51 γ53 γ55 γ56 γ52 γ35) Λ2 J (List.map (encI .u8) p0) [D.str [], D.str [], D.bool false, D.int .i64 0, D.int .i64 0, D.int .i64 0, D.int .i64 0, D.sl aK.ks (List.map aK.enc []), D.sl aC.ks (List.map aC.enc []), D.int .i64 0, D.sl aE.ks (List.map aE.enc []), D.sl [.int .i64] (List.map eI []), D.int .i64 0, D.sl [.int .i64] (List.map eI []), D.bool false, D.int .i64 0, D.str [], D.str [], D.int .i64 0, D.bool false, D.int .i64 0, D.int .i64 0, D.str [], D.int .i64 0, D.sl aG.ks (List.map aG.enc [])] (aH.enc r14.2) r0.1 r1.1 false 0 r2.1 r3.1 r4.1 r7.1 r10.1 r12.1 r13.1 r14.1.Topic r14.1.Payload r14.1.Level r14.1.Retain r14.1.Priority r14.1.Expires r14.1.From r14.1.Seq (List.map aK.enc r5.1) (List.map aC.enc r6.1) (List.map aE.enc r8.1) (List.map eI r9.1) (List.map eI r11.1) (List.map aG.enc r14.1.Props)) (
 amq (C21 Γ γ47 γ48 γ49 γ51 γ53 γ55 γ56 γ52 γ35) Λ2 J (List.map (encI .u8) p0) [D.str [], D.str [], D.bool false, D.int .i64 0, D.int .i64 0, D.int .i64 0, D.int .i64 0, D.sl aK.ks (List.map aK.enc []), D.sl aC.ks (List.map aC.enc []), D.int .i64 0, D.sl aE.ks (List.map aE.enc []), D.sl [.int .i64] (List.map eI []), D.int .i64 0, D.sl [.int .i64] (List.map eI []), D.bool false, D.int .i64 0, D.str [], D.str [], D.int .i64 0, D.bool false, D.int .i64 0, D.int .i64 0, D.str [], D.int .i64 0, D.sl aG.ks (List.map aG.enc [])] (aH.enc r12.2) r0.1 r1.1 false 0 r2.1 r3.1 r4.1 r7.1 r10.1 r12.1 0 [] [] 0 false 0 0 [] 0 (List.map aK.enc r5.1) (List.map aC.enc r6.1) (List.map aE.enc r8.1) (List.map eI r9.1) (List.map eI r11.1) (List.map aG.enc [])) := by kernel_rfl
theorem atT (b0 : aJ) (b1 : aH) (b2_0 b2_1 : Str) (b2_2 : Bool) (b2_3 b2_4 b2_5 b2_6 b2_9 b2_12 : Int) (b2_14 : Bool) (b2_15 : Int) (b2_16 b2_17 : Str) (b2_18 : Int) (b2_19 : Bool) (b2_20 b2_21 : Int) (b2_22 : Str) (b2_23 : Int) (w50207 : List aK) (w50208 : List aC) (w50210 : List aE) (w50211 w50213 : List Int) (w50224 : List aG) : bR SE (C21 Γ γ47 γ48 γ49 γ51 γ53 γ55 γ56 γ52 γ35) Λ2 J 21 0 [1, 1, 1, 1, 1, 1, 1, 1, 1, 1, 1, 1, 1, 1, 1, 1, 1, 1, 0, 0] (aU [(2, .ptr 1000000000 0), (4, .ptr 1000000001 0), (5, .ptr 1000000002 0)] [⟨46, (List.map AV.d (aJ.enc b0))⟩, ⟨85, (List.map AV.d (aH.enc b1))⟩, ⟨46, [.d (.str b2_0), .d (.str b2_1), .d (.bool b2_2), .d (.int .i64 b2_3), .d (.int .i64 b2_4), .d (.int .i64 b2_5), .d (.int .i64 b2_6), .row 50207, .row 50208, .d (.int .i64 b2_9), .row 50210, .row 50211, .d (.int .i64 b2_12), .row 50213, .d (.bool b2_14), .d (.int .i64 b2_15), .d (.str b2_16), .d (.str b2_17), .d (.int .i64 b2_18), .d (.bool b2_19), .d (.int .i64 b2_20), .d (.int .i64 b2_21), .d (.str b2_22), .d (.int .i64 b2_23), .row 50224]⟩] [] [] [(50207, ⟨aK.ks, 72, 32, (List.map aK.enc w50207)⟩), (50208, ⟨aC.ks, 42, 112, (List.map aC.enc w50208)⟩), (50210, ⟨aE.ks, 78, 128, (List.map aE.enc w50210)⟩), (50211, ⟨[.int .i64], 3, 8, (List.map eI w50211)⟩), (50213, ⟨[.int .i64], 3, 8, (List.map eI w50213)⟩), (50224, ⟨aG.ks, 128, 32, (List.map aG.enc w50224)⟩)]) =
 cond (b1.err != 0) (
 (some (.ret [.agg [.d (.str []), .d (.str []), .d (.bool false), .d (.int .i64 0), .d (.int .i64 0), .d (.int .i64 0), .d (.int .i64 0), .row 0, .row 1, .d (.int .i64 0), .row 2, .row 3, .d (.int .i64 0), .row 4, .d (.bool false), .d (.int .i64 0), .d (.str []), .d (.str []), .d (.int .i64 0), .d (.bool false), .d (.int .i64 0), .d (.int .i64 0), .d (.str []), .d (.int .i64 0), .row 5], .d (.int .i64 b1.err)] [] [⟨aK.ks, 72, 32, (List.map aK.enc [])⟩, ⟨aC.ks, 42, 112, (List.map aC.enc [])⟩, ⟨aE.ks, 78, 128, (List.map aE.enc [])⟩, ⟨[.int .i64], 3, 8, (List.map eI [])⟩, ⟨[.int .i64], 3, 8, (List.map eI [])⟩, ⟨aG.ks, 128, 32, (List.map aG.enc [])⟩]))) (
 γ35 [aJ.av (aJ.mk b2_0 b2_1 b2_2 b2_3 b2_4 b2_5 b2_6 w50207 w50208 (aM.mk b2_9 w50210 (bC.mk w50211 b2_12)) (bM.mk w50213) (bO.mk b2_14 b2_15 (aC.mk b2_16 b2_17 b2_18 b2_19 b2_20 b2_21 b2_22 b2_23 w50224)))] [] [] fun r15 =>
 cond (r15 != 0) (
 (some (.ret [.agg [.d (.str []), .d (.str []), .d (.bool false), .d (.int .i64 0), .d (.int .i64 0), .d (.int .i64 0), .d (.int .i64 0), .row 0, .row 1, .d (.int .i64 0), .row 2, .row 3, .d (.int .i64 0), .row 4, .d (.bool false), .d (.int .i64 0), .d (.str []), .d (.str []), .d (.int .i64 0), .d (.bool false), .d (.int .i64 0), .d (.int .i64 0), .d (.str []), .d (.int .i64 0), .row 5], .d (.int .i64 r15)] [] [⟨aK.ks, 72, 32, (List.map aK.enc [])⟩, ⟨aC.ks, 42, 112, (List.map aC.enc [])⟩, ⟨aE.ks, 78, 128, (List.map aE.enc [])⟩, ⟨[.int .i64], 3, 8, (List.map eI [])⟩, ⟨[.int .i64], 3, 8, (List.map eI [])⟩, ⟨aG.ks, 128, 32, (List.map aG.enc [])⟩]))) (
 (some (.ret [.agg [.d (.str b2_0), .d (.str b2_1), .d (.bool b2_2), .d (.int .i64 b2_3), .d (.int .i64 b2_4), .d (.int .i64 b2_5), .d (.int .i64 b2_6), .row 0, .row 1, .d (.int .i64 b2_9), .row 2, .row 3, .d (.int .i64 b2_12), .row 4, .d (.bool b2_14), .d (.int .i64 b2_15), .d (.str b2_16), .d (.str b2_17), .d (.int .i64 b2_18), .d (.bool b2_19), .d (.int .i64 b2_20), .d (.int .i64 b2_21), .d (.str b2_22), .d (.int .i64 b2_23), .row 5], .d (.int .i64 0)] [] [⟨aK.ks, 72, 32, (List.map aK.enc w50207)⟩, ⟨aC.ks, 42, 112, (List.map aC.enc w50208)⟩, ⟨aE.ks, 78, 128, (List.map aE.enc w50210)⟩, ⟨[.int .i64], 3, 8, (List.map eI w50211)⟩, ⟨[.int .i64], 3, 8, (List.map eI w50213)⟩, ⟨aG.ks, 128, 32, (List.map aG.enc w50224)⟩])))) := by kernel_rfl
theorem aws (x0 : List Int) (b0 : aJ) (b1 : aH) (b2_0 b2_1 : Str) (b2_2 : Bool) (b2_3 b2_4 b2_5 b2_6 b2_9 b2_12 : Int) (b2_14 : Bool) (b2_15 : Int) (b2_16 b2_17 : Str) (b2_18 : Int) (b2_19 : Bool) (b2_20 b2_21 : Int) (b2_22 : Str) (b2_23 : Int) (w50207 : List aK) (w50208 : List aC) (w50210 : List aE) (w50211 w50213 : List Int) (w50224 : List aG) : bR SE (C21 Γ γ47 γ48 γ49 γ51 γ53 γ55 γ56 γ52 γ35) Λ2 J 21 0 [1, 1, 1, 1, 1, 1, 1, 1, 1, 1, 1, 1, 1, 1, 1, 1, 1, 0, 0] (aU [(0, .d (.sl [.int .u8] (List.map (encI .u8) x0))), (2, .ptr 1000000000 0), (4, .ptr 1000000001 0), (5, .ptr 1000000002 0)] [⟨46, (List.map AV.d (aJ.enc b0))⟩, ⟨85, (List.map AV.d (aH.enc b1))⟩, ⟨46, [.d (.str b2_0), .d (.str b2_1), .d (.bool b2_2), .d (.int .i64 b2_3), .d (.int .i64 b2_4), .d (.int .i64 b2_5), .d (.int .i64 b2_6), .row 50207, .row 50208, .d (.int .i64 b2_9), .row 50210, .row 50211, .d (.int .i64 b2_12), .row 50213, .d (.bool b2_14), .d (.int .i64 b2_15), .d (.str b2_16), .d (.str b2_17), .d (.int .i64 b2_18), .d (.bool b2_19), .d (.int .i64 b2_20), .d (.int .i64 b2_21), .d (.str b2_22), .d (.int .i64 b2_23), .row 50224]⟩] [] [] [(50207, ⟨aK.ks, 72, 32, (List.map aK.enc w50207)⟩), (50208, ⟨aC.ks, 42, 112, (List.map aC.enc w50208)⟩), (50210, ⟨aE.ks, 78, 128, (List.map aE.enc w50210)⟩), (50211, ⟨[.int .i64], 3, 8, (List.map eI w50211)⟩), (50213, ⟨[.int .i64], 3, 8, (List.map eI w50213)⟩), (50224, ⟨aG.ks, 128, 32, (List.map aG.enc w50224)⟩)]) =
 cond (b1.err == 0) (
 cond (b1.at_ != (lM (encI .u8) x0 : Int)) (
  aiA (C21 Γ γ47 γ48 γ49 γ51 γ53 γ55 γ56 γ52 γ35) Λ2 J (aJ.enc b0) (aH.enc (aH.mk b1.b b1.at_ 2)) b2_0 b2_1 b2_2 b2_3 b2_4 b2_5 b2_6 b2_9 b2_12 b2_14 b2_15 b2_16 b2_17 b2_18 b2_19 b2_20 b2_21 b2_22 b2_23 (List.map aK.enc w50207) (List.map aC.enc w50208) (List.map aE.enc w50210) (List.map eI w50211) (List.map eI w50213) (List.map aG.enc w50224)) (
 aiA (C21 Γ γ47 γ48 γ49 γ51 γ53 γ55 γ56 γ52 γ35) Λ2 J (aJ.enc b0) (aH.enc b1) b2_0 b2_1 b2_2 b2_3 b2_4 b2_5 b2_6 b2_9 b2_12 b2_14 b2_15 b2_16 b2_17 b2_18 b2_19 b2_20 b2_21 b2_22 b2_23 (List.map aK.enc w50207) (List.map aC.enc w50208) (List.map aE.enc w50210) (List.map eI w50211) (List.map eI w50213) (List.map aG.enc w50224))) (
 aiA (C21 Γ γ47 γ48 γ49 γ51 γ53 γ55 γ56 γ52 γ35) Λ2 J (aJ.enc b0) (aH.enc b1) b2_0 b2_1 b2_2 b2_3 b2_4 b2_5 b2_6 b2_9 b2_12 b2_14 b2_15 b2_16 b2_17 b2_18 b2_19 b2_20 b2_21 b2_22 b2_23 (List.map aK.enc w50207) (List.map aC.enc w50208) (List.map aE.enc w50210) (List.map eI w50211) (List.map eI w50213) (List.map aG.enc w50224)) := by kernel_rfl
end
abbrev X21 : aN := C21 gG (cT 47 dX) (cT 48 bU) (cT 49 eL) (cT 51 dY) (cT 53 dZ) (cT 55 gC) (cT 56 dW) (cT 52 cX) (cT 35 brokerref43_Check_out)
theorem aq1 : X21 = aQ gG := by unfold X21 C21; repeat rw [bB fun _ h => h]
abbrev awV := aiA X21 (bQ SE gG (SE.hl 21) (SE.hr 21)) (J0 SE X21)
abbrev au1 := amq X21 (bQ SE gG (SE.hl 21) (SE.hr 21)) (J0 SE X21)
theorem rH (b0 : aJ) (b1 : aH) (b2_0 b2_1 : Str) (b2_2 : Bool) (b2_3 b2_4 b2_5 b2_6 b2_9 b2_12 : Int) (b2_14 : Bool) (b2_15 : Int) (b2_16 b2_17 : Str) (b2_18 : Int) (b2_19 : Bool) (b2_20 b2_21 : Int) (b2_22 : Str) (b2_23 : Int) (w50207 : List aK) (w50208 : List aC) (w50210 : List aE) (w50211 w50213 : List Int) (w50224 : List aG) : Le (Option.map dJ (mX b0 b1 b2_0 b2_1 b2_2 b2_3 b2_4 b2_5 b2_6 b2_9 b2_12 b2_14 b2_15 b2_16 b2_17 b2_18 b2_19 b2_20 b2_21 b2_22 b2_23 w50207 w50208 w50210 w50211 w50213 w50224)) (awV (aJ.enc b0) (aH.enc b1) b2_0 b2_1 b2_2 b2_3 b2_4 b2_5 b2_6 b2_9 b2_12 b2_14 b2_15 b2_16 b2_17 b2_18 b2_19 b2_20 b2_21 b2_22 b2_23 (List.map aK.enc w50207) (List.map aC.enc w50208) (List.map aE.enc w50210) (List.map eI w50211) (List.map eI w50213) (List.map aG.enc w50224)) := by
 refine Le.trans ?_ (le_of_eq ((aX aq1).trans (atT ..)).symm)
 unfold mX
 refine lC ?_ ?_
 ·exact aI rfl
 ·refine lQ eX brokerref43_Check_inj (abS _) fun r15 _ => ?_
  refine lC ?_ ?_
  ·exact aI rfl
  ·exact aI rfl
theorem xA (x0 : List Int) (b0 : aJ) (b1 : aH) (b2_0 b2_1 : Str) (b2_2 : Bool) (b2_3 b2_4 b2_5 b2_6 b2_9 b2_12 : Int) (b2_14 : Bool) (b2_15 : Int) (b2_16 b2_17 : Str) (b2_18 : Int) (b2_19 : Bool) (b2_20 b2_21 : Int) (b2_22 : Str) (b2_23 : Int) (w50207 : List aK) (w50208 : List aC) (w50210 : List aE) (w50211 w50213 : List Int) (w50224 : List aG) : Le (Option.map dJ (qB x0 b0 b1 b2_0 b2_1 b2_2 b2_3 b2_4 b2_5 b2_6 b2_9 b2_12 b2_14 b2_15 b2_16 b2_17 b2_18 b2_19 b2_20 b2_21 b2_22 b2_23 w50207 w50208 w50210 w50211 w50213 w50224)) (au1 (List.map (encI .u8) x0) (aJ.enc b0) (aH.enc b1) b2_0 b2_1 b2_2 b2_3 b2_4 b2_5 b2_6 b2_9 b2_12 b2_14 b2_15 b2_16 b2_17 b2_18 b2_19 b2_20 b2_21 b2_22 b2_23 (List.map aK.enc w50207) (List.map aC.enc w50208) (List.map aE.enc w50210) (List.map eI w50211) (List.map eI w50213) (List.map aG.enc w50224)) := by
 refine Le.trans ?_ (le_of_eq ((aX aq1).trans (aws ..)).symm)
 unfold qB
 refine lC ?_ ?_
 ·refine lD (by simp only [EN]) ?_ ?_
  ·exact rH b0 (aH.mk b1.b b1.at_ 2) b2_0 b2_1 b2_2 b2_3 b2_4 b2_5 b2_6 b2_9 b2_12 b2_14 b2_15 b2_16 b2_17 b2_18 b2_19 b2_20 b2_21 b2_22 b2_23 w50207 w50208 w50210 w50211 w50213 w50224
  ·exact rH b0 b1 b2_0 b2_1 b2_2 b2_3 b2_4 b2_5 b2_6 b2_9 b2_12 b2_14 b2_15 b2_16 b2_17 b2_18 b2_19 b2_20 b2_21 b2_22 b2_23 w50207 w50208 w50210 w50211 w50213 w50224
 ·exact rH b0 b1 b2_0 b2_1 b2_2 b2_3 b2_4 b2_5 b2_6 b2_9 b2_12 b2_14 b2_15 b2_16 b2_17 b2_18 b2_19 b2_20 b2_21 b2_22 b2_23 w50207 w50208 w50210 w50211 w50213 w50224
theorem kR (p0 : List Int) : Le (Option.map dJ (j9 p0)) (bD SE 21 [.d (.sl [.int .u8] (List.map (encI .u8) p0))] [] []) := by
 refine aV aq1 rfl ?_
 refine Le.trans ?_ (le_of_eq (T21 ..).symm)
 unfold j9
 refine lQ eX nN (n8 _ _) fun r0 _ => ?_
 refine lQ eX nN (n8 _ _) fun r1 _ => ?_
 refine lQ eX cB (cC _) fun r2 _ => ?_
 refine lQ eX cB (cC _) fun r3 _ => ?_
 refine lQ eX cB (cC _) fun r4 _ => ?_
 refine lQ eX aa5 (abt _ _) fun r5 _ => ?_
 refine lQ eX y9 (aai _ _) fun r6 _ => ?_
 refine lQ eX cB (cC _) fun r7 _ => ?_
 refine lQ eX zU (aaF _ _) fun r8 _ => ?_
 refine lQ eX xK (yO _ _) fun r9 _ => ?_
 refine lQ eX cB (cC _) fun r10 _ => ?_
 refine lQ eX xK (yO _ _) fun r11 _ => ?_
 refine lQ eX s0 (tQ _) fun r12 _ => ?_
 refine lC ?_ ?_
 ·refine lQ eX cB (cC _) fun r13 _ => ?_
  refine lQ eX k8 (lR _) fun r14 _ => ?_
  (try simp only [EN]); exact xA p0 ((aJ.mk [] [] false 0 0 0 0 [] [] (aM.mk 0 [] (bC.mk [] 0)) (bM.mk []) (bO.mk false 0 (aC.mk [] [] 0 false 0 0 [] 0 [])))) r14.2 r0.1 r1.1 false 0 r2.1 r3.1 r4.1 r7.1 r10.1 r12.1 r13.1 r14.1.Topic r14.1.Payload r14.1.Level r14.1.Retain r14.1.Priority r14.1.Expires r14.1.From r14.1.Seq r5.1 r6.1 r8.1 r9.1 r11.1 r14.1.Props
 ·(try simp only [EN]); exact xA p0 ((aJ.mk [] [] false 0 0 0 0 [] [] (aM.mk 0 [] (bC.mk [] 0)) (bM.mk []) (bO.mk false 0 (aC.mk [] [] 0 false 0 0 [] 0 [])))) r12.2 r0.1 r1.1 false 0 r2.1 r3.1 r4.1 r7.1 r10.1 r12.1 0 [] [] 0 false 0 0 [] 0 r5.1 r6.1 r8.1 r9.1 r11.1 []
section
variable (Γ : Fun)  (Λ2 J : Lam)
def C20 : aN := aQ Γ
theorem T20 (p0 p1 : List Int) : bF SE (C20 Γ) Λ2 J 20 [.d (.sl [.int .u8] (List.map (encI .u8) p0)), .d (.sl [.int .u8] (List.map (encI .u8) p1))] [] [] =
 (rB ((wK (List.map (encI .u8) p0)) == (wK (List.map (encI .u8) p1)))) := by kernel_rfl
end
abbrev X20 : aN := C20 gG
theorem aAT : X20 = aQ gG := rfl
theorem pI (p0 p1 : List Int) : Le (Option.map brokerref01_lower_out (lO p0 p1)) (bD SE 20 [.d (.sl [.int .u8] (List.map (encI .u8) p0)), .d (.sl [.int .u8] (List.map (encI .u8) p1))] [] []) := by
 refine aV aAT rfl ?_
 refine Le.trans ?_ (le_of_eq (T20 ..).symm)
 unfold lO
 exact aI (by first | rfl | simp only [EN, brokerref01_lower_out] <;> rfl)
end Te
end PX
