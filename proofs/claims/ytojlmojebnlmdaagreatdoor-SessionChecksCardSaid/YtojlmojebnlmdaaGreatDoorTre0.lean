import Derived.Test.YtojlmojebnlmdaaGreatDoorTab
set_option linter.unusedVariables false
set_option linter.unusedSimpArgs false
set_option maxRecDepth 100000
noncomputable section
namespace PX
open Go
open Md
namespace Te
section
variable (Γ : Fun)  (Λ2 J : Lam)
def aqV : aO := aP Γ
theorem avS (p0 : (List aC)) : bD SE (aqV Γ) Λ2 J 138 [.d (.sl aC.ks (List.map aC.enc p0))] [] [] =
 cond (List.isEmpty (List.map aC.enc p0)) (
 xA (
  (some (.ret [.row 0] [] [⟨aC.ks, 130, 32, []⟩]))) (
  cond (decide ((List.length (List.map aC.enc []) + List.length (List.map aC.enc p0)) * 32 ≤ 140737488355328)) (
  (some (.ret [.row 0] [] [⟨aC.ks, 130, 32, ((List.map aC.enc []) ++ (List.map aC.enc p0))⟩]))) none)) (
 cond (decide ((List.length (List.map aC.enc []) + List.length (List.map aC.enc p0)) * 32 ≤ 140737488355328)) (
 (some (.ret [.row 0] [] [⟨aC.ks, 130, 32, ((List.map aC.enc []) ++ (List.map aC.enc p0))⟩]))) none) := by kernel_rfl
end
abbrev avM : aO := aqV gG
theorem atl : avM = aP gG := rfl
theorem lU (p0 : (List aC)) : Le (Option.map bP (fL p0)) (aY SE 138 [.d (.sl aC.ks (List.map aC.enc p0))] [] []) := by
 refine aR atl rfl ?_
 refine Le.trans ?_ (le_of_eq (avS _ _ _  p0).symm)
 unfold fL
 refine lD (by simp only [EN]) ?_ ?_
 ·refine ahP ?_ ?_
  ·exact aH rfl
  ·refine lG (by simp only [EN]) ?_
   exact aH rfl
 ·refine lG (by simp only [EN]) ?_
  exact aH rfl
section
variable (Γ : Fun) (γ138 : Gm ((List aC))) (Λ2 J : Lam)
def C80 : aO := bA (aP Γ) 138 bP γ138
theorem T80 (p0 : aA) : bD SE (C80 Γ γ138) Λ2 J 80 [aA.av p0] [] [] =
 γ138 [.d (.sl aC.ks (List.map aC.enc p0.Props))] [] [] fun r0 =>
 (some (.ret [.agg [.d (.str p0.Topic), .d (.str p0.Payload), .d (.int .i64 p0.Level), .d (.bool p0.Retain), .d (.int .i64 p0.Priority), .d (.int .i64 p0.Expires), .d (.str p0.From), .d (.int .i64 p0.Seq), .row 0]] [] [⟨aC.ks, 130, 32, (List.map aC.enc r0)⟩])) := by kernel_rfl
end
abbrev X80 : aO := C80 gG (cT 138 bP)
theorem au8 : X80 = aP gG := by unfold X80 C80; rw [aK fun _ h => h]
theorem fE (p0 : aA) : Le (Option.map cV (jU p0)) (aY SE 80 [aA.av p0] [] []) := by
 refine aR au8 rfl ?_
 refine Le.trans ?_ (le_of_eq (T80 _ _ _ _  p0).symm)
 unfold jU
 refine aM (good := good) eX lM (lU _) fun r0 _ => ?_
 exact aH rfl
section
variable (Γ : Fun)  (Λ2 J : Lam)
def C81 : aO := aP Γ
theorem T81 (p0 : Int) : bD SE (C81 Γ) Λ2 J 81 [.d (.int .i64 p0)] [] [] =
 cond (decide (p0 < 0)) (
 (some (.ret [.agg [.d (.int .i64 (if 32 < 0 then 32 else 0)), .row 0, .row 1, .d (.int .i64 0)]] [] [⟨aB.ks, 122, 128, (List.map aB.enc [])⟩, ⟨[.int .i64], 3, 8, (List.map (encI .i64) [])⟩]))) (
 (some (.ret [.agg [.d (.int .i64 (if 32 < p0 then 32 else p0)), .row 0, .row 1, .d (.int .i64 0)]] [] [⟨aB.ks, 122, 128, (List.map aB.enc [])⟩, ⟨[.int .i64], 3, 8, (List.map (encI .i64) [])⟩]))) := by kernel_rfl
end
abbrev X81 : aO := C81 gG
theorem au5 : X81 = aP gG := rfl
theorem agx (p0 : Int) : Le (Option.map k9 (aan p0)) (aY SE 81 [.d (.int .i64 p0)] [] []) := by
 refine aR au5 rfl ?_
 refine Le.trans ?_ (le_of_eq (T81 _ _ _  p0).symm)
 unfold aan
 refine lC ?_ ?_
 ·exact aH rfl
 ·exact aH rfl
section
variable (Γ : Fun) (γ80 : Gm (aA)) (γ81 : Gm (aG)) (Λ2 J : Lam)
def C31 : aO := bA (bA (aP Γ) 80 cV γ80) 81 k9 γ81
theorem T31 (p0 : aE) (p1 : Int) : bD SE (C31 Γ γ80 γ81) Λ2 J 31 [aE.av p0, .d (.int .i64 p1)] [] [] =
 γ80 [aA.av p0.Will.Message] [] [] fun r0 =>
 γ81 [.d (.int .i64 p0.Window)] [] [] fun r1 =>
 (some (.ret [.agg [.d (.str p0.Client), .d (.str p0.User), .d (.bool true), .d (.int .i64 p1), .d (.int .i64 p0.Expiry), .d (.int .i64 0), .d (.int .i64 0), .row 0, .row 1, .d (.int .i64 r1.Limit), .row 2, .row 3, .d (.int .i64 r1.Pool.Last), .row 4, .d (.bool p0.Will.Set), .d (.int .i64 p0.Will.Delay), .d (.str r0.Topic), .d (.str r0.Payload), .d (.int .i64 r0.Level), .d (.bool r0.Retain), .d (.int .i64 r0.Priority), .d (.int .i64 r0.Expires), .d (.str r0.From), .d (.int .i64 r0.Seq), .row 5]] [] [⟨aF.ks, 60, 32, (List.map aF.enc [])⟩, ⟨aA.ks, 34, 112, (List.map aA.enc [])⟩, ⟨aB.ks, 122, 128, (List.map aB.enc r1.Items)⟩, ⟨[.int .i64], 3, 8, (List.map (encI .i64) r1.Pool.Used)⟩, ⟨[.int .i64], 3, 8, (List.map (encI .i64) [])⟩, ⟨aC.ks, 130, 32, (List.map aC.enc r0.Props)⟩])) := by kernel_rfl
end
abbrev X31 : aO := C31 gG (cT 80 cV) (cT 81 k9)
theorem avB : X31 = aP gG := by unfold X31 C31; rw [aK fun _ h => h, aK fun _ h => h]
theorem abz (p0 : aE) (p1 : Int) : Le (Option.map lZ (abe p0 p1)) (aY SE 31 [aE.av p0, .d (.int .i64 p1)] [] []) := by
 refine aR avB rfl ?_
 refine Le.trans ?_ (le_of_eq (T31 _ _ _ _ _  p0 p1).symm)
 unfold abe
 refine aM (good := good) eX jT (fE _) fun r0 _ => ?_
 refine aM (good := good) eX afY (agx _) fun r1 _ => ?_
 exact aH rfl
section
variable (Γ : Fun)  (Λ2 J : Lam)
def aso : aO := aP Γ
theorem avI (p0 : Str) (p1 : Str) : bD SE (aso Γ) Λ2 J 163 [.d (.str p0), .d (.str p1)] [] [] =
 cond (decide ((List.length p0 : Int) ≥ (List.length p1 : Int))) (
 cond (decide (0 ≤ (List.length p1 : Int)) && decide ((List.length p1 : Int) ≤ ((List.length p0) : Int))) (
  (some (.ret [.d (.bool ((bN p0 none (some (List.length p1 : Int))) == p1))] [] []))) none) (
 (some (.ret [.d (.bool false)] [] []))) := by kernel_rfl
end
abbrev av3 : aO := aso gG
theorem asS : av3 = aP gG := rfl
theorem rY (p0 : Str) (p1 : Str) : Le (Option.map cZ (gW p0 p1)) (aY SE 163 [.d (.str p0), .d (.str p1)] [] []) := by
 refine aR asS rfl ?_
 refine Le.trans ?_ (le_of_eq (avI _ _ _  p0 p1).symm)
 unfold gW
 refine lC ?_ ?_
 ·refine lF ?_
  exact aH rfl
 ·exact aH rfl
section
variable (Γ : Fun) (γ163 : Gm (Bool)) (Λ2 J : Lam)
def am6 : aO := bA (aP Γ) 163 cZ γ163
theorem awb (p0 : Str) (p1 : Str) : bD SE (am6 Γ γ163) Λ2 J 179 [.d (.str p0), .d (.str p1)] [] [] =
 γ163 [.d (.str p0), .d (.str p1)] [] [] fun r0 =>
 cond (!r0) (
 (some (.ret [.d (.str p0), .d (.bool false)] [] []))) (
 cond (decide (0 ≤ (List.length p1 : Int)) && decide ((List.length p1 : Int) ≤ ((List.length p0) : Int))) (
 (some (.ret [.d (.str (bN p0 (some (List.length p1 : Int)) none)), .d (.bool true)] [] []))) none) := by kernel_rfl
end
abbrev apO : aO := am6 gG (cT 163 cZ)
theorem asR : apO = aP gG := by unfold apO am6; rw [aK fun _ h => h]
theorem aaA (p0 : Str) (p1 : Str) : Le (Option.map eY (l4 p0 p1)) (aY SE 179 [.d (.str p0), .d (.str p1)] [] []) := by
 refine aR asR rfl ?_
 refine Le.trans ?_ (le_of_eq (awb _ _ _ _  p0 p1).symm)
 unfold l4
 refine aM (good := good) eX rC (rY _ _) fun r0 _ => ?_
 refine lC ?_ ?_
 ·exact aH rfl
 ·refine lF ?_
  exact aH rfl
section
variable (Γ : Fun) (γ179 : Gm (Str × Bool)) (Λ2 J : Lam)
def an2 : aO := bA (aP Γ) 179 eY γ179
theorem au4 (p0 : Str) (p1 : Str) : bD SE (an2 Γ γ179) Λ2 J 159 [.d (.str p0), .d (.str p1)] [] [] =
 γ179 [.d (.str p0), .d (.str p1)] [] [] fun r0 =>
 (some (.ret [.d (.str r0.1), .d (.bool r0.2)] [] [])) := by kernel_rfl
end
abbrev arM : aO := an2 gG (cT 179 eY)
theorem at1 : arM = aP gG := by unfold arM an2; rw [aK fun _ h => h]
theorem acG (p0 : Str) (p1 : Str) : Le (Option.map g7 (mQ p0 p1)) (aY SE 159 [.d (.str p0), .d (.str p1)] [] []) := by
 refine aR at1 rfl ?_
 refine Le.trans ?_ (le_of_eq (au4 _ _ _ _  p0 p1).symm)
 unfold mQ
 refine aM (good := good) eX yS (aaA _ _) fun r0 _ => ?_
 exact aH rfl
section
variable (Γ : Fun)  (Λ2 J : Lam)
def aqQ : aO := aP Γ
theorem avZ (p0 : Str) (p1 : Int) : bD SE (aqQ Γ) Λ2 J 193 [.d (.str p0), .d (.int .u8 p1)] [] [] =
 (some (.ret [.d (.int .i64 (Lib.indexByte p0 (UInt8.ofNat (Int.toNat p1)) : Int))] [] [])) := by kernel_rfl
end
abbrev aut : aO := aqQ gG
theorem atP : aut = aP gG := rfl
theorem aab (p0 : Str) (p1 : Int) : Le (Option.map eU (pF p0 p1)) (aY SE 193 [.d (.str p0), .d (.int .u8 p1)] [] []) := by
 refine aR atP rfl ?_
 refine Le.trans ?_ (le_of_eq (avZ _ _ _  p0 p1).symm)
 unfold pF
 exact aH rfl
section
variable (Γ : Fun) (γ193 : Gm (Int)) (Λ2 J : Lam)
def anO : aO := bA (aP Γ) 193 eU γ193
theorem auQ (p0 : Str) (p1 : Str) : bD SE (anO Γ γ193) Λ2 J 189 [.d (.str p0), .d (.str p1)] [] [] =
 cond ((List.length p1 : Int) == 0) (
 (some (.ret [.d (.int .i64 0)] [] []))) (
 cond (p1 == p0) (
 (some (.ret [.d (.int .i64 0)] [] []))) (
 cond ((List.length p1 : Int) == 1) (
 cond (decide (0 ≤ 0) && decide (0 < (List.length p1 : Int))) (
  γ193 [.d (.str p0), .d (.int .u8 (UInt8.toNat (List.getD p1 (Int.toNat 0) 0) : Int))] [] [] fun r0 =>
  (some (.ret [.d (.int .i64 r0)] [] []))) none) (
 cond (decide ((List.length p1 : Int) ≥ (List.length p0 : Int))) (
 (some (.ret [.d (.int .i64 (-1))] [] []))) none))) := by kernel_rfl
end
abbrev arH : aO := anO gG (cT 193 eU)
theorem atv : arH = aP gG := by unfold arH anO; rw [aK fun _ h => h]
theorem vQ (p0 : Str) (p1 : Str) : Le (Option.map eD (iM p0 p1)) (aY SE 189 [.d (.str p0), .d (.str p1)] [] []) := by
 refine aR atv rfl ?_
 refine Le.trans ?_ (le_of_eq (auQ _ _ _ _  p0 p1).symm)
 unfold iM
 refine lC ?_ ?_
 ·exact aH rfl
 ·refine lC ?_ ?_
  ·exact aH rfl
  ·refine lC ?_ ?_
   ·refine lF ?_
    refine aM (good := good) eX y7 (aab _ _) fun r0 _ => ?_
    exact aH rfl
   ·refine lF ?_
    exact aH rfl
section
variable (Γ : Fun) (γ189 : Gm (Int)) (Λ2 J : Lam)
def anc : aO := bA (aP Γ) 189 eD γ189
theorem auF (p0 : Str) (p1 : Str) : bD SE (anc Γ γ189) Λ2 J 180 [.d (.str p0), .d (.str p1)] [] [] =
 γ189 [.d (.str p0), .d (.str p1)] [] [] fun r0 =>
 cond (decide (r0 ≥ 0)) (
 cond (decide (0 ≤ r0) && decide (r0 ≤ ((List.length p0) : Int))) (
  cond (decide (0 ≤ (IntKind.wrap .i64 (r0 + (List.length p1 : Int)))) && decide ((IntKind.wrap .i64 (r0 + (List.length p1 : Int))) ≤ ((List.length p0) : Int))) (
  (some (.ret [.d (.str (bN p0 none (some r0))), .d (.str (bN p0 (some (IntKind.wrap .i64 (r0 + (List.length p1 : Int)))) none)), .d (.bool true)] [] []))) none) none) (
 (some (.ret [.d (.str p0), .d (.str ([] : Str)), .d (.bool false)] [] []))) := by kernel_rfl
end
abbrev ap4 : aO := anc gG (cT 189 eD)
theorem auj : ap4 = aP gG := by unfold ap4 anc; rw [aK fun _ h => h]
theorem aef (p0 : Str) (p1 : Str) : Le (Option.map iY (qW p0 p1)) (aY SE 180 [.d (.str p0), .d (.str p1)] [] []) := by
 refine aR auj rfl ?_
 refine Le.trans ?_ (le_of_eq (auF _ _ _ _  p0 p1).symm)
 unfold qW
 refine aM (good := good) eX uF (vQ _ _) fun r0 _ => ?_
 refine lC ?_ ?_
 ·refine lF ?_
  refine lF ?_
  exact aH rfl
 ·exact aH rfl
section
variable (Γ : Fun) (γ180 : Gm (Str × Str × Bool)) (Λ2 J : Lam)
def anh : aO := bA (aP Γ) 180 iY γ180
theorem avm (p0 : Str) (p1 : Str) : bD SE (anh Γ γ180) Λ2 J 160 [.d (.str p0), .d (.str p1)] [] [] =
 γ180 [.d (.str p0), .d (.str p1)] [] [] fun r0 =>
 (some (.ret [.d (.str r0.1), .d (.str r0.2.1), .d (.bool r0.2.2)] [] [])) := by kernel_rfl
end
abbrev ar0 : aO := anh gG (cT 180 iY)
theorem atK : ar0 = aP gG := by unfold ar0 anh; rw [aK fun _ h => h]
theorem ahs (p0 : Str) (p1 : Str) : Le (Option.map l8 (s0 p0 p1)) (aY SE 160 [.d (.str p0), .d (.str p1)] [] []) := by
 refine aR atK rfl ?_
 refine Le.trans ?_ (le_of_eq (avm _ _ _ _  p0 p1).symm)
 unfold s0
 refine aM (good := good) eX adt (aef _ _) fun r0 _ => ?_
 exact aH rfl
def akr (C : aO) (Λ2 J : Lam) (a0 : Int) (a1 : Int) (a2 : Bool) (a3 : Str) (a4 : Nat) : Res := lab SE C Λ2 J 139 0 [1, 1, 0, 1, 0, 0, 1, 1, 0, 1, 1, 0] (aZ [(3, .d (.int .i64 a0)), (4, .d (.int .i32 a1)), (5, .d (.bool a2)), (15, .it 4000)] [] [] [(4000, (a3, a4))] [])
def aey (C : aO) (Λ2 J : Lam) (a0 : Str) (a1 : Nat) : Res := lab SE C Λ2 J 139 0 [1, 1, 0, 1, 0] (aZ [(15, .it 4000)] [] [] [(4000, (a0, a1))] [])
def aml (C : aO) (Λ2 J : Lam) (a0 : Str) : Res := lab SE C Λ2 J 139 0 [1, 1, 0, 0] (aZ [(0, .d (.str a0))] [] [] [] [])
section
variable (Γ : Fun)  (Λ2 J : Lam)
def yF : aO := aP Γ
theorem auE (p0 : Str) : bD SE (yF Γ) Λ2 J 139 [.d (.str p0)] [] [] =
 cond (decide ((List.length p0 : Int) < 1)) (
 (some (.ret [.d (.bool false)] [] []))) (
 cond (decide ((List.length p0 : Int) > 16)) (
 (some (.ret [.d (.bool false)] [] []))) (
 aml (yF Γ) Λ2 J p0)) := by kernel_rfl
theorem ap8 (x3 : Int) (x4 : Int) (x5 : Bool) (s4000 : Str) (i4000 : Nat) : cB SE (yF Γ) Λ2 J 139 0 [1, 1, 0, 1, 0, 0, 1, 1, 0, 1, 1, 0] (aZ [(3, .d (.int .i64 x3)), (4, .d (.int .i32 x4)), (5, .d (.bool x5)), (15, .it 4000)] [] [] [(4000, (s4000, i4000))] []) =
 cond (!x5) (
 cond (x3 == 0) (
  (some (.ret [.d (.bool false)] [] []))) (
 cond (x4 != 45) (
  cond (decide (x4 < 48)) (
  (some (.ret [.d (.bool false)] [] []))) (
  cond (decide (x4 > 57)) (
  (some (.ret [.d (.bool false)] [] []))) (
  aey (yF Γ) Λ2 J s4000 i4000))) (
 aey (yF Γ) Λ2 J s4000 i4000))) (
 aey (yF Γ) Λ2 J s4000 i4000) := by kernel_rfl
theorem apX (s4000 : Str) (i4000 : Nat) : cB SE (yF Γ) Λ2 J 139 0 [1, 1, 0, 1, 0] (aZ [(15, .it 4000)] [] [] [(4000, (s4000, i4000))] []) =
 cond (decide (i4000 < List.length s4000)) (
 cond (decide (((dec s4000 i4000).1 : Int) ≥ 97)) (
  akr (yF Γ) Λ2 J (i4000 : Int) ((dec s4000 i4000).1 : Int) (decide (((dec s4000 i4000).1 : Int) ≤ 122)) s4000 (i4000 + (dec s4000 i4000).2)) (
 akr (yF Γ) Λ2 J (i4000 : Int) ((dec s4000 i4000).1 : Int) false s4000 (i4000 + (dec s4000 i4000).2))) (
 (some (.ret [.d (.bool true)] [] []))) := by kernel_rfl
theorem asb (x0 : Str) : cB SE (yF Γ) Λ2 J 139 0 [1, 1, 0, 0] (aZ [(0, .d (.str x0))] [] [] [] []) =
 aey (yF Γ) Λ2 J x0 0 := by kernel_rfl
end
abbrev afI : aO := yF gG
theorem aiZ : afI = aP gG := rfl
noncomputable abbrev arz (a0 : Int) (a1 : Int) (a2 : Bool) (a3 : Str) (a4 : Nat) : Res := akr afI (bV SE gG (SE.hl 139) (SE.hr 139)) (J0 SE afI) a0 a1 a2 a3 a4
noncomputable abbrev am2 (a0 : Str) (a1 : Nat) : Res := aey afI (bV SE gG (SE.hl 139) (SE.hr 139)) (J0 SE afI) a0 a1
noncomputable abbrev apW (a0 : Str) : Res := aml afI (bV SE gG (SE.hl 139) (SE.hr 139)) (J0 SE afI) a0
theorem aax (k4 : Str → Nat → Option (Bool)) (hk4 : ∀ (s4000 : Str) (i4000 : Nat), Le (Option.map dD (k4 s4000 i4000)) (am2 s4000 i4000)) (x3 : Int) (x4 : Int) (x5 : Bool) (s4000 : Str) (i4000 : Nat) : Le (Option.map dD (mD k4 x3 x4 x5 s4000 i4000)) (arz x3 x4 x5 s4000 i4000) := by
 refine Le.trans ?_ (le_of_eq ((bC aiZ).trans (ap8 _ _ _  x3 x4 x5 s4000 i4000)).symm)
 unfold mD
 refine lC ?_ ?_
 ·refine lC ?_ ?_
  ·exact aH rfl
  ·refine lC ?_ ?_
   ·refine lC ?_ ?_
    ·exact aH rfl
    ·refine lC ?_ ?_
     ·exact aH rfl
     ·exact hk4 s4000 i4000
   ·exact hk4 s4000 i4000
 ·exact hk4 s4000 i4000
theorem afB : ∀ (fu : Nat) (s4000 : Str) (i4000 : Nat), Le (Option.map dD (jG fu s4000 i4000)) (am2 s4000 i4000) := by
 intro fu
 induction fu with
 | zero => intros; exact le_none
 | succ fu ih =>
  intro s4000 i4000
  refine Le.trans ?_ (le_of_eq ((bC aiZ).trans (apX _ _ _  s4000 i4000)).symm)
  unfold jG
  refine lC ?_ ?_
  ·refine lC ?_ ?_
   ·exact aax _ (ih) (i4000 : Int) ((dec s4000 i4000).1 : Int) (decide (((dec s4000 i4000).1 : Int) ≤ 122)) s4000 (i4000 + (dec s4000 i4000).2)
   ·exact aax _ (ih) (i4000 : Int) ((dec s4000 i4000).1 : Int) false s4000 (i4000 + (dec s4000 i4000).2)
  ·exact aH rfl
theorem afP (x0 : Str) : Le (Option.map dD (tS x0)) (apW x0) := by
 refine Le.trans ?_ (le_of_eq ((bC aiZ).trans (asb _ _ _  x0)).symm)
 unfold tS
 exact afB fuel x0 0
theorem tO (p0 : Str) : Le (Option.map dD (oS p0)) (aY SE 139 [.d (.str p0)] [] []) := by
 refine aR aiZ rfl ?_
 refine Le.trans ?_ (le_of_eq (auE _ _ _  p0).symm)
 unfold oS
 refine lC ?_ ?_
 ·exact aH rfl
 ·refine lC ?_ ?_
  ·exact aH rfl
  ·exact afP p0
def ag3 (C : aO) (Λ2 J : Lam) (a0 : Int) (a1 : Str) (a2 : Nat) : Res := lab SE C Λ2 J 161 0 [1, 1, 1, 0, 1, 0] (aZ [(3, .d (.int .i64 a0)), (15, .it 4000)] [] [] [(4000, (a1, a2))] [])
def amr (C : aO) (Λ2 J : Lam) (a0 : Str) : Res := lab SE C Λ2 J 161 0 [1, 1, 0] (aZ [(0, .d (.str a0))] [] [] [] [])
section
variable (Γ : Fun)  (Λ2 J : Lam)
def adN : aO := aP Γ
theorem avT (p0 : Str) : bD SE (adN Γ) Λ2 J 161 [.d (.str p0)] [] [] =
 cond (decide ((List.length p0 : Int) < 1)) (
 (some (.ret [.d (.bool false)] [] []))) (
 cond (decide ((List.length p0 : Int) > 64)) (
 (some (.ret [.d (.bool false)] [] []))) (
 amr (adN Γ) Λ2 J p0)) := by kernel_rfl
theorem arF (x3 : Int) (s4000 : Str) (i4000 : Nat) : cB SE (adN Γ) Λ2 J 161 0 [1, 1, 1, 0, 1, 0] (aZ [(3, .d (.int .i64 x3)), (15, .it 4000)] [] [] [(4000, (s4000, i4000))] []) =
 cond (decide (i4000 < List.length s4000)) (
 cond (((dec s4000 i4000).1 : Int) == 0) (
  (some (.ret [.d (.bool false)] [] []))) (
 cond (((dec s4000 i4000).1 : Int) == 47) (
  ag3 (adN Γ) Λ2 J (IntKind.wrap .i64 (x3 + 1)) s4000 (i4000 + (dec s4000 i4000).2)) (
 ag3 (adN Γ) Λ2 J x3 s4000 (i4000 + (dec s4000 i4000).2)))) (
 (some (.ret [.d (.bool (decide (x3 ≤ 8)))] [] []))) := by kernel_rfl
theorem arf (x0 : Str) : cB SE (adN Γ) Λ2 J 161 0 [1, 1, 0] (aZ [(0, .d (.str x0))] [] [] [] []) =
 ag3 (adN Γ) Λ2 J 1 x0 0 := by kernel_rfl
end
abbrev ajQ : aO := adN gG
theorem alu : ajQ = aP gG := rfl
noncomputable abbrev arL (a0 : Int) (a1 : Str) (a2 : Nat) : Res := ag3 ajQ (bV SE gG (SE.hl 161) (SE.hr 161)) (J0 SE ajQ) a0 a1 a2
noncomputable abbrev asd (a0 : Str) : Res := amr ajQ (bV SE gG (SE.hl 161) (SE.hr 161)) (J0 SE ajQ) a0
theorem afb : ∀ (fu : Nat) (x3 : Int) (s4000 : Str) (i4000 : Nat), Le (Option.map fM (iG fu x3 s4000 i4000)) (arL x3 s4000 i4000) := by
 intro fu
 induction fu with
 | zero => intros; exact le_none
 | succ fu ih =>
  intro x3 s4000 i4000
  refine Le.trans ?_ (le_of_eq ((bC alu).trans (arF _ _ _  x3 s4000 i4000)).symm)
  unfold iG
  refine lC ?_ ?_
  ·refine lC ?_ ?_
   ·exact aH rfl
   ·refine lC ?_ ?_
    ·exact ih (IntKind.wrap .i64 (x3 + 1)) s4000 (i4000 + (dec s4000 i4000).2)
    ·exact ih x3 s4000 (i4000 + (dec s4000 i4000).2)
  ·exact aH rfl
theorem ae6 (x0 : Str) : Le (Option.map fM (sE x0)) (asd x0) := by
 refine Le.trans ?_ (le_of_eq ((bC alu).trans (arf _ _ _  x0)).symm)
 unfold sE
 exact afb fuel 1 x0 0
theorem ack (p0 : Str) : Le (Option.map fM (qQ p0)) (aY SE 161 [.d (.str p0)] [] []) := by
 refine aR alu rfl ?_
 refine Le.trans ?_ (le_of_eq (avT _ _ _  p0).symm)
 unfold qQ
 refine lC ?_ ?_
 ·exact aH rfl
 ·refine lC ?_ ?_
  ·exact aH rfl
  ·exact ae6 p0
section
variable (Γ : Fun) (γ189 : Gm (Int)) (Λ2 J : Lam)
def anr : aO := bA (aP Γ) 189 eD γ189
theorem av9 (p0 : Str) (p1 : Str) : bD SE (anr Γ γ189) Λ2 J 199 [.d (.str p0), .d (.str p1)] [] [] =
 γ189 [.d (.str p0), .d (.str p1)] [] [] fun r0 =>
 (some (.ret [.d (.int .i64 r0)] [] [])) := by kernel_rfl
end
abbrev aqF : aO := anr gG (cT 189 eD)
theorem asQ : aqF = aP gG := by unfold aqF anr; rw [aK fun _ h => h]
theorem aap (p0 : Str) (p1 : Str) : Le (Option.map gI (kO p0 p1)) (aY SE 199 [.d (.str p0), .d (.str p1)] [] []) := by
 refine aR asQ rfl ?_
 refine Le.trans ?_ (le_of_eq (av9 _ _ _ _  p0 p1).symm)
 unfold kO
 refine aM (good := good) eX uF (vQ _ _) fun r0 _ => ?_
 exact aH rfl
def aju (C : aO) (Λ2 J : Lam) (a0 : Str) (a1 : Str) (a2 : Int) : Res := lab SE C Λ2 J 198 0 [1, 1, 1, 1, 0] (aZ [(0, .d (.str a0)), (1, .d (.str a1)), (5, .d (.int .i64 a2))] [] [] [] [])
section
variable (Γ : Fun) (γ199 : Gm (Int)) (Λ2 J : Lam)
def ahK : aO := bA (aP Γ) 199 gI γ199
theorem avQ (p0 : Str) (p1 : Str) : bD SE (ahK Γ γ199) Λ2 J 198 [.d (.str p0), .d (.str p1)] [] [] =
 cond ((List.length p1 : Int) == 0) (
 none) (
 cond ((List.length p1 : Int) == 1) (
 cond (decide (0 ≤ 0) && decide (0 < (List.length p1 : Int))) (
  (some (.ret [.d (.int .i64 (Lib.countByte p0 (UInt8.ofNat (Int.toNat (UInt8.toNat (List.getD p1 (Int.toNat 0) 0) : Int))) : Int))] [] []))) none) (
 aju (ahK Γ γ199) Λ2 J p0 p1 0)) := by kernel_rfl
theorem apL (x0 : Str) (x1 : Str) (x5 : Int) : cB SE (ahK Γ γ199) Λ2 J 198 0 [1, 1, 1, 1, 0] (aZ [(0, .d (.str x0)), (1, .d (.str x1)), (5, .d (.int .i64 x5))] [] [] [] []) =
 γ199 [.d (.str x0), .d (.str x1)] [] [] fun r0 =>
 cond (r0 == (-1)) (
 (some (.ret [.d (.int .i64 x5)] [] []))) (
 cond (decide (0 ≤ (IntKind.wrap .i64 (r0 + (List.length x1 : Int)))) && decide ((IntKind.wrap .i64 (r0 + (List.length x1 : Int))) ≤ ((List.length x0) : Int))) (
 aju (ahK Γ γ199) Λ2 J (bN x0 (some (IntKind.wrap .i64 (r0 + (List.length x1 : Int)))) none) x1 (IntKind.wrap .i64 (x5 + 1))) none) := by kernel_rfl
end
abbrev ale : aO := ahK gG (cT 199 gI)
theorem aoT : ale = aP gG := by unfold ale ahK; rw [aK fun _ h => h]
noncomputable abbrev apS (a0 : Str) (a1 : Str) (a2 : Int) : Res := aju ale (bV SE gG (SE.hl 198) (SE.hr 198)) (J0 SE ale) a0 a1 a2
theorem adB : ∀ (fu : Nat) (x0 : Str) (x1 : Str) (x5 : Int), Le (Option.map iJ (p8 fu x0 x1 x5)) (apS x0 x1 x5) := by
 intro fu
 induction fu with
 | zero => intros; exact le_none
 | succ fu ih =>
  intro x0 x1 x5
  refine Le.trans ?_ (le_of_eq ((bC aoT).trans (apL _ _ _ _  x0 x1 x5)).symm)
  unfold p8
  refine aM (good := good) eX yN (aap _ _) fun r0 _ => ?_
  refine lC ?_ ?_
  ·exact aH rfl
  ·refine lF ?_
   exact ih (bN x0 (some (IntKind.wrap .i64 (r0 + (List.length x1 : Int)))) none) x1 (IntKind.wrap .i64 (x5 + 1))
theorem af0 (p0 : Str) (p1 : Str) : Le (Option.map iJ (qL p0 p1)) (aY SE 198 [.d (.str p0), .d (.str p1)] [] []) := by
 refine aR aoT rfl ?_
 refine Le.trans ?_ (le_of_eq (avQ _ _ _ _  p0 p1).symm)
 unfold qL
 refine lC ?_ ?_
 ·exact le_none
 ·refine lC ?_ ?_
  ·refine lF ?_
   exact aH rfl
  ·exact adB fuel p0 p1 0
def ahH (C : aO) (Λ2 J : Lam) (a0 : Str) (a1 : Int) (a2 : (List (List D))) : Res := lab SE C Λ2 J 190 0 [1, 1, 1, 1, 1, 1, 1, 1, 1, 0] (aZ [(0, .d (.str a0)), (9, .row 3009), (10, .d (.int .i64 a1))] [] [] [] [(3009, ⟨[.str], 9, 16, a2⟩)])
def ahX (C : aO) (Λ2 J : Lam) (a0 : Str) (a1 : Str) (a2 : Int) (a3 : Int) (a4 : Int) (a5 : (List (List D))) : Res := lab SE C Λ2 J 190 0 [1, 1, 1, 1, 1, 1, 1, 1, 0, 0] (aZ [(0, .d (.str a0)), (1, .d (.str a1)), (2, .d (.int .i64 a2)), (3, .d (.int .i64 a3)), (9, .row 3009), (10, .d (.int .i64 a4))] [] [] [] [(3009, ⟨[.str], 9, 16, a5⟩)])
def ajV (C : aO) (Λ2 J : Lam) (a0 : Str) (a1 : Str) (a2 : Int) (a3 : Int) : Res := lab SE C Λ2 J 190 0 [1, 1, 1, 1, 0] (aZ [(0, .d (.str a0)), (1, .d (.str a1)), (2, .d (.int .i64 a2)), (3, .d (.int .i64 a3))] [] [] [] [])
section
variable (Γ : Fun) (γ198 : Gm (Int)) (γ199 : Gm (Int)) (Λ2 J : Lam)
def yE : aO := bA (bA (aP Γ) 198 iJ γ198) 199 gI γ199
theorem auJ (p0 : Str) (p1 : Str) (p2 : Int) (p3 : Int) : bD SE (yE Γ γ198 γ199) Λ2 J 190 [.d (.str p0), .d (.str p1), .d (.int .i64 p2), .d (.int .i64 p3)] [] [] =
 cond (p3 == 0) (
 (some (.ret [.d (.sl [.str] (List.map bF []))] [] []))) (
 cond (p1 == ([] : Str)) (
 none) (
 cond (decide (p3 < 0)) (
 γ198 [.d (.str p0), .d (.str p1)] [] [] fun r0 =>
 ajV (yE Γ γ198 γ199) Λ2 J p0 p1 p2 (IntKind.wrap .i64 (r0 + 1))) (
 ajV (yE Γ γ198 γ199) Λ2 J p0 p1 p2 p3))) := by kernel_rfl
theorem aph (x0 : Str) (x10 : Int) (w3009 : (List Str)) : cB SE (yE Γ γ198 γ199) Λ2 J 190 0 [1, 1, 1, 1, 1, 1, 1, 1, 1, 0] (aZ [(0, .d (.str x0)), (9, .row 3009), (10, .d (.int .i64 x10))] [] [] [] [(3009, ⟨[.str], 9, 16, (List.map bF w3009)⟩)]) =
 cond (decide (0 ≤ x10) && decide (x10 < (List.length (List.map bF w3009) : Int))) (
 cond (decide (0 ≤ (IntKind.wrap .i64 (x10 + 1))) && decide ((IntKind.wrap .i64 (x10 + 1)) ≤ ((List.length (gT (List.map bF w3009) (Int.toNat x10) 0 [D.str x0])) : Int))) (
  (some (.ret [.d (.sl [.str] (List.take ((Int.toNat (IntKind.wrap .i64 (x10 + 1))) - 0) (List.drop 0 (gT (List.map bF w3009) (Int.toNat x10) 0 [D.str x0]))))] [] []))) none) none := by kernel_rfl
theorem apF (x0 : Str) (x1 : Str) (x2 : Int) (x3 : Int) (x10 : Int) (w3009 : (List Str)) : cB SE (yE Γ γ198 γ199) Λ2 J 190 0 [1, 1, 1, 1, 1, 1, 1, 1, 0, 0] (aZ [(0, .d (.str x0)), (1, .d (.str x1)), (2, .d (.int .i64 x2)), (3, .d (.int .i64 x3)), (9, .row 3009), (10, .d (.int .i64 x10))] [] [] [] [(3009, ⟨[.str], 9, 16, (List.map bF w3009)⟩)]) =
 cond (decide (x10 < x3)) (
 γ199 [.d (.str x0), .d (.str x1)] [] [] fun r1 =>
 cond (decide (r1 < 0)) (
  ahH (yE Γ γ198 γ199) Λ2 J x0 x10 (List.map bF w3009)) (
 cond (decide (0 ≤ (IntKind.wrap .i64 (r1 + x2))) && decide ((IntKind.wrap .i64 (r1 + x2)) ≤ ((List.length x0) : Int))) (
  cond (decide (0 ≤ x10) && decide (x10 < (List.length (List.map bF w3009) : Int))) (
  cond (decide (0 ≤ (IntKind.wrap .i64 (r1 + (List.length x1 : Int)))) && decide ((IntKind.wrap .i64 (r1 + (List.length x1 : Int))) ≤ ((List.length x0) : Int))) (
   ahX (yE Γ γ198 γ199) Λ2 J (bN x0 (some (IntKind.wrap .i64 (r1 + (List.length x1 : Int)))) none) x1 x2 x3 (IntKind.wrap .i64 (x10 + 1)) ((gT (List.map bF w3009) (Int.toNat x10) 0 [D.str (bN x0 none (some (IntKind.wrap .i64 (r1 + x2))))]))) none) none) none)) (
 ahH (yE Γ γ198 γ199) Λ2 J x0 x10 (List.map bF w3009)) := by kernel_rfl
theorem asa (x0 : Str) (x1 : Str) (x2 : Int) (x3 : Int) : cB SE (yE Γ γ198 γ199) Λ2 J 190 0 [1, 1, 1, 1, 0] (aZ [(0, .d (.str x0)), (1, .d (.str x1)), (2, .d (.int .i64 x2)), (3, .d (.int .i64 x3))] [] [] [] []) =
 cond (decide (0 ≤ (if (IntKind.wrap .i64 ((List.length x0 : Int) + 1)) < x3 then (IntKind.wrap .i64 ((List.length x0 : Int) + 1)) else x3)) && decide ((if (IntKind.wrap .i64 ((List.length x0 : Int) + 1)) < x3 then (IntKind.wrap .i64 ((List.length x0 : Int) + 1)) else x3) ≤ (if (IntKind.wrap .i64 ((List.length x0 : Int) + 1)) < x3 then (IntKind.wrap .i64 ((List.length x0 : Int) + 1)) else x3)) && decide ((if (IntKind.wrap .i64 ((List.length x0 : Int) + 1)) < x3 then (IntKind.wrap .i64 ((List.length x0 : Int) + 1)) else x3) * 16 ≤ 281474976710656)) (
 ahX (yE Γ γ198 γ199) Λ2 J x0 x1 x2 ((IntKind.wrap .i64 ((if (IntKind.wrap .i64 ((List.length x0 : Int) + 1)) < x3 then (IntKind.wrap .i64 ((List.length x0 : Int) + 1)) else x3) - 1))) 0 ((List.replicate (Int.toNat (if (IntKind.wrap .i64 ((List.length x0 : Int) + 1)) < x3 then (IntKind.wrap .i64 ((List.length x0 : Int) + 1)) else x3)) [D.str ([] : Str)]))) none := by kernel_rfl
end
abbrev aeh : aO := yE gG (cT 198 iJ) (cT 199 gI)
theorem aiX : aeh = aP gG := by unfold aeh yE; rw [aK fun _ h => h, aK fun _ h => h]
noncomputable abbrev apB (a0 : Str) (a1 : Int) (a2 : (List (List D))) : Res := ahH aeh (bV SE gG (SE.hl 190) (SE.hr 190)) (J0 SE aeh) a0 a1 a2
noncomputable abbrev apg (a0 : Str) (a1 : Str) (a2 : Int) (a3 : Int) (a4 : Int) (a5 : (List (List D))) : Res := ahX aeh (bV SE gG (SE.hl 190) (SE.hr 190)) (J0 SE aeh) a0 a1 a2 a3 a4 a5
noncomputable abbrev arY (a0 : Str) (a1 : Str) (a2 : Int) (a3 : Int) : Res := ajV aeh (bV SE gG (SE.hl 190) (SE.hr 190)) (J0 SE aeh) a0 a1 a2 a3
theorem sS (x0 : Str) (x10 : Int) (w3009 : (List Str)) : Le (Option.map c9 (j9 x0 x10 w3009)) (apB x0 x10 (List.map bF w3009)) := by
 refine Le.trans ?_ (le_of_eq ((bC aiX).trans (aph _ _ _ _ _  x0 x10 w3009)).symm)
 unfold j9
 refine lG (by simp only [EN]) ?_
 refine lG (by simp only [EN]) ?_
 exact aH (by first | rfl | simp only [EN, c9] <;> rfl)
theorem sV : ∀ (fu : Nat) (x0 : Str) (x1 : Str) (x2 : Int) (x3 : Int) (x10 : Int) (w3009 : (List Str)), Le (Option.map c9 (fX fu x0 x1 x2 x3 x10 w3009)) (apg x0 x1 x2 x3 x10 (List.map bF w3009)) := by
 intro fu
 induction fu with
 | zero => intros; exact le_none
 | succ fu ih =>
  intro x0 x1 x2 x3 x10 w3009
  refine Le.trans ?_ (le_of_eq ((bC aiX).trans (apF _ _ _ _ _  x0 x1 x2 x3 x10 w3009)).symm)
  unfold fX
  refine lC ?_ ?_
  ·refine aM (good := good) eX yN (aap _ _) fun r1 _ => ?_
   refine lC ?_ ?_
   ·exact sS x0 x10 w3009
   ·refine lF ?_
    refine lG (by simp only [EN]) ?_
    refine lF ?_
    first | (simp only [EN]; exact ih (bN x0 (some (IntKind.wrap .i64 (r1 + (List.length x1 : Int)))) none) x1 x2 x3 (IntKind.wrap .i64 (x10 + 1)) ((List.set w3009 (Int.toNat x10) (bN x0 none (some (IntKind.wrap .i64 (r1 + x2))))))) | exact ih (bN x0 (some (IntKind.wrap .i64 (r1 + (List.length x1 : Int)))) none) x1 x2 x3 (IntKind.wrap .i64 (x10 + 1)) ((List.set w3009 (Int.toNat x10) (bN x0 none (some (IntKind.wrap .i64 (r1 + x2))))))
  ·exact sS x0 x10 w3009
theorem tL (x0 : Str) (x1 : Str) (x2 : Int) (x3 : Int) : Le (Option.map c9 (kY x0 x1 x2 x3)) (arY x0 x1 x2 x3) := by
 refine Le.trans ?_ (le_of_eq ((bC aiX).trans (asa _ _ _ _ _  x0 x1 x2 x3)).symm)
 unfold kY
 refine lF ?_
 first | (simp only [EN]; exact sV fuel x0 x1 x2 ((IntKind.wrap .i64 ((if (IntKind.wrap .i64 ((List.length x0 : Int) + 1)) < x3 then (IntKind.wrap .i64 ((List.length x0 : Int) + 1)) else x3) - 1))) 0 ((List.replicate (Int.toNat (if (IntKind.wrap .i64 ((List.length x0 : Int) + 1)) < x3 then (IntKind.wrap .i64 ((List.length x0 : Int) + 1)) else x3)) default))) | exact sV fuel x0 x1 x2 ((IntKind.wrap .i64 ((if (IntKind.wrap .i64 ((List.length x0 : Int) + 1)) < x3 then (IntKind.wrap .i64 ((List.length x0 : Int) + 1)) else x3) - 1))) 0 ((List.replicate (Int.toNat (if (IntKind.wrap .i64 ((List.length x0 : Int) + 1)) < x3 then (IntKind.wrap .i64 ((List.length x0 : Int) + 1)) else x3)) default))
theorem adA (p0 : Str) (p1 : Str) (p2 : Int) (p3 : Int) : Le (Option.map c9 (p7 p0 p1 p2 p3)) (aY SE 190 [.d (.str p0), .d (.str p1), .d (.int .i64 p2), .d (.int .i64 p3)] [] []) := by
 refine aR aiX rfl ?_
 refine Le.trans ?_ (le_of_eq (auJ _ _ _ _ _  p0 p1 p2 p3).symm)
 unfold p7
 refine lC ?_ ?_
 ·exact aH rfl
 ·refine lC ?_ ?_
  ·exact le_none
  ·refine lC ?_ ?_
   ·refine aM (good := good) eX ae7 (af0 _ _) fun r0 _ => ?_
    exact tL p0 p1 p2 (IntKind.wrap .i64 (r0 + 1))
   ·exact tL p0 p1 p2 p3
section
variable (Γ : Fun) (γ190 : Gm ((List Str))) (Λ2 J : Lam)
def anF : aO := bA (aP Γ) 190 c9 γ190
theorem avo (p0 : Str) (p1 : Str) : bD SE (anF Γ γ190) Λ2 J 181 [.d (.str p0), .d (.str p1)] [] [] =
 γ190 [.d (.str p0), .d (.str p1), .d (.int .i64 0), .d (.int .i64 (-1))] [] [] fun r0 =>
 (some (.ret [.d (.sl [.str] (List.map bF r0))] [] [])) := by kernel_rfl
end
abbrev arj : aO := anF gG (cT 190 c9)
theorem atn : arj = aP gG := by unfold arj anF; rw [aK fun _ h => h]
theorem af6 (p0 : Str) (p1 : Str) : Le (Option.map kF (qF p0 p1)) (aY SE 181 [.d (.str p0), .d (.str p1)] [] []) := by
 refine aR atn rfl ?_
 refine Le.trans ?_ (le_of_eq (avo _ _ _ _  p0 p1).symm)
 unfold qF
 refine aM (good := good) eX acN (adA _ _ _ _) fun r0 _ => ?_
 exact aH rfl
section
variable (Γ : Fun) (γ181 : Gm ((List Str))) (Λ2 J : Lam)
def anp : aO := bA (aP Γ) 181 kF γ181
theorem avk (p0 : Str) : bD SE (anp Γ γ181) Λ2 J 162 [.d (.str p0)] [] [] =
 γ181 [.d (.str p0), .d (.str ([47] : Str))] [] [] fun r0 =>
 (some (.ret [.d (.sl [.str] (List.map bF r0))] [] [])) := by kernel_rfl
end
abbrev ap3 : aO := anp gG (cT 181 kF)
theorem aup : ap3 = aP gG := by unfold ap3 anp; rw [aK fun _ h => h]
theorem ag1 (p0 : Str) : Le (Option.map lJ (rE p0)) (aY SE 162 [.d (.str p0)] [] []) := by
 refine aR aup rfl ?_
 refine Le.trans ?_ (le_of_eq (avk _ _ _ _  p0).symm)
 unfold rE
 refine aM (good := good) eX aeZ (af6 _ _) fun r0 _ => ?_
 exact aH rfl
def abN (C : aO) (Λ2 J : Lam) (a0 : (List (List D))) (a1 : Bool) (a2 : Int) (a3 : Str) (a4 : (List (List D))) (a5 : Int) (a6 : Int) (a7 : Str) (a8 : Nat) : Res := lab SE C Λ2 J 126 0 [1, 0, 1, 1, 1, 1, 0, 1, 0, 0, 1, 1, 0, 0, 1, 1, 0] (aZ [(3, .d (.sl [.str] a0)), (4, .d (.bool a1)), (5, .d (.int .i64 a2)), (6, .d (.str a3)), (15, .d (.sl [.str] a4)), (16, .d (.int .i64 a5)), (17, .d (.int .i64 a6)), (23, .it 4000)] [] [] [(4000, (a7, a8))] [])
def ajz (C : aO) (Λ2 J : Lam) (a0 : (List (List D))) (a1 : Bool) (a2 : (List (List D))) (a3 : Int) (a4 : Int) : Res := lab SE C Λ2 J 126 0 [1, 0, 1, 1, 1, 1, 0, 1, 0] (aZ [(3, .d (.sl [.str] a0)), (4, .d (.bool a1)), (15, .d (.sl [.str] a2)), (16, .d (.int .i64 a3)), (17, .d (.int .i64 a4))] [] [] [] [])
section
variable (Γ : Fun) (γ161 : Gm (Bool)) (γ162 : Gm ((List Str))) (Λ2 J : Lam)
def yC : aO := bA (bA (aP Γ) 161 fM γ161) 162 lJ γ162
theorem awr (p0 : Str) : bD SE (yC Γ γ161 γ162) Λ2 J 126 [.d (.str p0)] [] [] =
 γ161 [.d (.str p0)] [] [] fun r0 =>
 cond (!r0) (
 (some (.ret [.d (.bool false)] [] []))) (
 γ162 [.d (.str p0)] [] [] fun r1 =>
 ajz (yC Γ γ161 γ162) Λ2 J (List.map bF r1) true (List.map bF r1) (List.length (List.map bF r1) : Int) 0) := by kernel_rfl
theorem aqd (x3 : (List Str)) (x4 : Bool) (x5 : Int) (x6 : Str) (x15 : (List Str)) (x16 : Int) (x17 : Int) (s4000 : Str) (i4000 : Nat) : cB SE (yC Γ γ161 γ162) Λ2 J 126 0 [1, 0, 1, 1, 1, 1, 0, 1, 0, 0, 1, 1, 0, 0, 1, 1, 0] (aZ [(3, .d (.sl [.str] (List.map bF x3))), (4, .d (.bool x4)), (5, .d (.int .i64 x5)), (6, .d (.str x6)), (15, .d (.sl [.str] (List.map bF x15))), (16, .d (.int .i64 x16)), (17, .d (.int .i64 x17)), (23, .it 4000)] [] [] [(4000, (s4000, i4000))] []) =
 cond (decide (i4000 < List.length s4000)) (
 cond (((dec s4000 i4000).1 : Int) == 43) (
  cond (!((List.length x6 : Int) == 1)) (
  (some (.ret [.d (.bool false)] [] []))) (
  cond (((dec s4000 i4000).1 : Int) == 35) (
  cond (!((List.length x6 : Int) == 1)) (
   (some (.ret [.d (.bool false)] [] []))) (
  cond (decide (x5 < (IntKind.wrap .i64 ((List.length (List.map bF x3) : Int) - 1)))) (
   (some (.ret [.d (.bool false)] [] []))) (
  abN (yC Γ γ161 γ162) Λ2 J (List.map bF x3) x4 x5 x6 (List.map bF x15) x16 x17 s4000 (i4000 + (dec s4000 i4000).2)))) (
  abN (yC Γ γ161 γ162) Λ2 J (List.map bF x3) x4 x5 x6 (List.map bF x15) x16 x17 s4000 (i4000 + (dec s4000 i4000).2)))) (
 cond (((dec s4000 i4000).1 : Int) == 35) (
  cond (!((List.length x6 : Int) == 1)) (
  (some (.ret [.d (.bool false)] [] []))) (
  cond (decide (x5 < (IntKind.wrap .i64 ((List.length (List.map bF x3) : Int) - 1)))) (
  (some (.ret [.d (.bool false)] [] []))) (
  abN (yC Γ γ161 γ162) Λ2 J (List.map bF x3) x4 x5 x6 (List.map bF x15) x16 x17 s4000 (i4000 + (dec s4000 i4000).2)))) (
 abN (yC Γ γ161 γ162) Λ2 J (List.map bF x3) x4 x5 x6 (List.map bF x15) x16 x17 s4000 (i4000 + (dec s4000 i4000).2)))) (
 ajz (yC Γ γ161 γ162) Λ2 J (List.map bF x3) x4 (List.map bF x15) x16 (IntKind.wrap .i64 (x17 + 1))) := by kernel_rfl
theorem arV (x3 : (List Str)) (x4 : Bool) (x15 : (List Str)) (x16 : Int) (x17 : Int) : cB SE (yC Γ γ161 γ162) Λ2 J 126 0 [1, 0, 1, 1, 1, 1, 0, 1, 0] (aZ [(3, .d (.sl [.str] (List.map bF x3))), (4, .d (.bool x4)), (15, .d (.sl [.str] (List.map bF x15))), (16, .d (.int .i64 x16)), (17, .d (.int .i64 x17))] [] [] [] []) =
 cond (decide (x17 < x16)) (
 cond (decide (0 ≤ x17) && decide (x17 < (List.length (List.map bF x15) : Int))) (
  abN (yC Γ γ161 γ162) Λ2 J (List.map bF x3) x4 x17 ((aV (cellAt (elemAt (List.map bF x15) (Int.toNat x17)) 0))) (List.map bF x15) x16 x17 ((aV (cellAt (elemAt (List.map bF x15) (Int.toNat x17)) 0))) 0) none) (
 (some (.ret [.d (.bool x4)] [] []))) := by kernel_rfl
end
abbrev ahr : aO := yC gG (cT 161 fM) (cT 162 lJ)
theorem alE : ahr = aP gG := by unfold ahr yC; rw [aK fun _ h => h, aK fun _ h => h]
noncomputable abbrev aqN (a0 : (List (List D))) (a1 : Bool) (a2 : Int) (a3 : Str) (a4 : (List (List D))) (a5 : Int) (a6 : Int) (a7 : Str) (a8 : Nat) : Res := abN ahr (bV SE gG (SE.hl 126) (SE.hr 126)) (J0 SE ahr) a0 a1 a2 a3 a4 a5 a6 a7 a8
noncomputable abbrev am3 (a0 : (List (List D))) (a1 : Bool) (a2 : (List (List D))) (a3 : Int) (a4 : Int) : Res := ajz ahr (bV SE gG (SE.hl 126) (SE.hr 126)) (J0 SE ahr) a0 a1 a2 a3 a4
theorem xW : ∀ (fu : Nat) (k6 : (List Str) → Bool → (List Str) → Int → Int → Option (Bool)) (hk6 : ∀ (x3 : (List Str)) (x4 : Bool) (x15 : (List Str)) (x16 : Int) (x17 : Int), Le (Option.map dX (k6 x3 x4 x15 x16 x17)) (am3 (List.map bF x3) x4 (List.map bF x15) x16 x17)) (x3 : (List Str)) (x4 : Bool) (x5 : Int) (x6 : Str) (x15 : (List Str)) (x16 : Int) (x17 : Int) (s4000 : Str) (i4000 : Nat), Le (Option.map dX (eM fu k6 x3 x4 x5 x6 x15 x16 x17 s4000 i4000)) (aqN (List.map bF x3) x4 x5 x6 (List.map bF x15) x16 x17 s4000 i4000) := by
 intro fu
 induction fu with
 | zero => intros; exact le_none
 | succ fu ih =>
  intro k6 hk6 x3 x4 x5 x6 x15 x16 x17 s4000 i4000
  refine Le.trans ?_ (le_of_eq ((bC alE).trans (aqd _ _ _ _ _  x3 x4 x5 x6 x15 x16 x17 s4000 i4000)).symm)
  unfold eM
  refine lC ?_ ?_
  ·refine lC ?_ ?_
   ·refine lC ?_ ?_
    ·exact aH rfl
    ·refine lC ?_ ?_
     ·refine lC ?_ ?_
      ·exact aH rfl
      ·refine lD (by simp only [EN]) ?_ ?_
       ·exact aH rfl
       ·exact ih _ hk6 x3 x4 x5 x6 x15 x16 x17 s4000 (i4000 + (dec s4000 i4000).2)
     ·exact ih _ hk6 x3 x4 x5 x6 x15 x16 x17 s4000 (i4000 + (dec s4000 i4000).2)
   ·refine lC ?_ ?_
    ·refine lC ?_ ?_
     ·exact aH rfl
     ·refine lD (by simp only [EN]) ?_ ?_
      ·exact aH rfl
      ·exact ih _ hk6 x3 x4 x5 x6 x15 x16 x17 s4000 (i4000 + (dec s4000 i4000).2)
    ·exact ih _ hk6 x3 x4 x5 x6 x15 x16 x17 s4000 (i4000 + (dec s4000 i4000).2)
  ·exact hk6 x3 x4 x15 x16 (IntKind.wrap .i64 (x17 + 1))
theorem xL : ∀ (fu : Nat) (x3 : (List Str)) (x4 : Bool) (x15 : (List Str)) (x16 : Int) (x17 : Int), Le (Option.map dX (j5 fu x3 x4 x15 x16 x17)) (am3 (List.map bF x3) x4 (List.map bF x15) x16 x17) := by
 intro fu
 induction fu with
 | zero => intros; exact le_none
 | succ fu ih =>
  intro x3 x4 x15 x16 x17
  refine Le.trans ?_ (le_of_eq ((bC alE).trans (arV _ _ _ _ _  x3 x4 x15 x16 x17)).symm)
  unfold j5
  refine lC ?_ ?_
  ·refine lG (by simp only [EN]) ?_
   first | (simp only [EN]; exact xW fuel _ (ih) x3 x4 x17 (List.getD x15 (Int.toNat x17) default) x15 x16 x17 (List.getD x15 (Int.toNat x17) default) 0) | exact xW fuel _ (ih) x3 x4 x17 (List.getD x15 (Int.toNat x17) default) x15 x16 x17 (List.getD x15 (Int.toNat x17) default) 0
  ·exact aH rfl
theorem aaW (p0 : Str) : Le (Option.map dX (pG p0)) (aY SE 126 [.d (.str p0)] [] []) := by
 refine aR alE rfl ?_
 refine Le.trans ?_ (le_of_eq (awr _ _ _ _ _  p0).symm)
 unfold pG
 refine aM (good := good) eX aa1 (ack _) fun r0 _ => ?_
 refine lC ?_ ?_
 ·exact aH rfl
 ·refine aM (good := good) eX afZ (ag1 _) fun r1 _ => ?_
  first | (simp only [EN]; exact xL fuel r1 true r1 (List.length r1 : Int) 0) | exact xL fuel r1 true r1 (List.length r1 : Int) 0
section
variable (Γ : Fun) (γ163 : Gm (Bool)) (Λ2 J : Lam)
def anq : aO := bA (aP Γ) 163 cZ γ163
theorem au3 (p0 : Str) (p1 : Str) : bD SE (anq Γ γ163) Λ2 J 127 [.d (.str p0), .d (.str p1)] [] [] =
 γ163 [.d (.str p0), .d (.str p1)] [] [] fun r0 =>
 (some (.ret [.d (.bool r0)] [] [])) := by kernel_rfl
end
abbrev ark : aO := anq gG (cT 163 cZ)
theorem atO : ark = aP gG := by unfold ark anq; rw [aK fun _ h => h]
theorem vV (p0 : Str) (p1 : Str) : Le (Option.map eA (kE p0 p1)) (aY SE 127 [.d (.str p0), .d (.str p1)] [] []) := by
 refine aR atO rfl ?_
 refine Le.trans ?_ (le_of_eq (au3 _ _ _ _  p0 p1).symm)
 unfold kE
 refine aM (good := good) eX rC (rY _ _) fun r0 _ => ?_
 exact aH rfl
section
variable (Γ : Fun) (γ159 : Gm (Str × Bool)) (γ160 : Gm (Str × Str × Bool)) (γ139 : Gm (Bool)) (γ126 : Gm (Bool)) (γ127 : Gm (Bool)) (Λ2 J : Lam)
def an6 : aO := bA (bA (bA (bA (bA (aP Γ) 159 g7 γ159) 160 l8 γ160) 139 dD γ139) 126 dX γ126) 127 eA γ127
theorem aws (p0 : Str) : bD SE (an6 Γ γ159 γ160 γ139 γ126 γ127) Λ2 J 124 [.d (.str p0)] [] [] =
 γ159 [.d (.str p0), .d (.str ([36, 115, 104, 97, 114, 101, 47] : Str))] [] [] fun r0 =>
 cond (!r0.2) (
 (some (.ret [.d (.str ([] : Str)), .d (.str ([] : Str)), .d (.bool false)] [] []))) (
 γ160 [.d (.str r0.1), .d (.str ([47] : Str))] [] [] fun r1 =>
 cond (!r1.2.2) (
 (some (.ret [.d (.str ([] : Str)), .d (.str ([] : Str)), .d (.bool false)] [] []))) (
 γ139 [.d (.str r1.1)] [] [] fun r2 =>
 cond (!r2) (
 (some (.ret [.d (.str ([] : Str)), .d (.str ([] : Str)), .d (.bool false)] [] []))) (
 γ126 [.d (.str r1.2.1)] [] [] fun r3 =>
 cond (!r3) (
 (some (.ret [.d (.str ([] : Str)), .d (.str ([] : Str)), .d (.bool false)] [] []))) (
 γ127 [.d (.str r1.2.1), .d (.str ([36, 115, 104, 97, 114, 101, 47] : Str))] [] [] fun r4 =>
 cond r4 (
 (some (.ret [.d (.str ([] : Str)), .d (.str ([] : Str)), .d (.bool false)] [] []))) (
 (some (.ret [.d (.str r1.1), .d (.str r1.2.1), .d (.bool true)] [] []))))))) := by kernel_rfl
end
abbrev aqX : aO := an6 gG (cT 159 g7) (cT 160 l8) (cT 139 dD) (cT 126 dX) (cT 127 eA)
theorem atk : aqX = aP gG := by unfold aqX an6; rw [aK fun _ h => h, aK fun _ h => h, aK fun _ h => h, aK fun _ h => h, aK fun _ h => h]
theorem agN (p0 : Str) : Le (Option.map lH (rQ p0)) (aY SE 124 [.d (.str p0)] [] []) := by
 refine aR atk rfl ?_
 refine Le.trans ?_ (le_of_eq (aws _ _ _ _ _ _ _ _  p0).symm)
 unfold rQ
 refine aM (good := good) eX abY (acG _ _) fun r0 _ => ?_
 refine lC ?_ ?_
 ·exact aH rfl
 ·refine aM (good := good) eX agP (ahs _ _) fun r1 _ => ?_
  refine lC ?_ ?_
  ·exact aH rfl
  ·refine aM (good := good) eX sL (tO _) fun r2 _ => ?_
   refine lC ?_ ?_
   ·exact aH rfl
   ·refine aM (good := good) eX aao (aaW _) fun r3 _ => ?_
    refine lC ?_ ?_
    ·exact aH rfl
    ·refine aM (good := good) eX uR (vV _ _) fun r4 _ => ?_
     refine lC ?_ ?_
     ·exact aH rfl
     ·exact aH rfl
section
variable (Γ : Fun) (γ126 : Gm (Bool)) (γ127 : Gm (Bool)) (Λ2 J : Lam)
def aoq : aO := bA (bA (aP Γ) 126 dX γ126) 127 eA γ127
theorem avn (p0 : aF) : bD SE (aoq Γ γ126 γ127) Λ2 J 125 [.ptr 2000000000 0] [⟨60, (aF.avs p0)⟩] [] =
 γ126 [.d (.str p0.Filter)] [] [] fun r0 =>
 cond r0 (
 γ127 [.d (.str p0.Filter), .d (.str ([36, 115, 104, 97, 114, 101, 47] : Str))] [] [] fun r1 =>
 (some (.ret [.d (.bool (!r1))] [⟨60, (aF.avs p0)⟩] []))) (
 (some (.ret [.d (.bool false)] [⟨60, (aF.avs p0)⟩] []))) := by kernel_rfl
end
abbrev ar4 : aO := aoq gG (cT 126 dX) (cT 127 eA)
theorem at0 : ar4 = aP gG := by unfold ar4 aoq; rw [aK fun _ h => h, aK fun _ h => h]
theorem acb (p0 : aF) : Le (Option.map gC (oQ p0)) (aY SE 125 [.ptr 2000000000 0] [⟨60, (aF.avs p0)⟩] []) := by
 refine aR at0 rfl ?_
 refine Le.trans ?_ (le_of_eq (avn _ _ _ _ _  p0).symm)
 unfold oQ
 refine aM (good := good) eX aao (aaW _) fun r0 _ => ?_
 refine lC ?_ ?_
 ·refine aM (good := good) eX uR (vV _ _) fun r1 _ => ?_
  exact aH rfl
 ·exact aH rfl
section
variable (Γ : Fun) (γ124 : Gm (Str × Str × Bool)) (γ125 : Gm (Bool × aF)) (Λ2 J : Lam)
def C66 : aO := bA (bA (aP Γ) 124 lH γ124) 125 gC γ125
theorem T66 (p0 : aF) : bD SE (C66 Γ γ124 γ125) Λ2 J 66 [aF.av p0] [] [] =
 γ124 [.d (.str p0.Filter)] [] [] fun r0 =>
 cond (!r0.2.2) (
 γ125 [.ptr 2000000000 0] [⟨60, (aF.avs p0)⟩] [] fun r1 =>
 cond (!r1.1) (
  (some (.ret [.d (.int .i64 13)] [] []))) (
 cond (decide (r1.2.Level < 0)) (
  (some (.ret [.d (.int .i64 14)] [] []))) (
 cond (decide (r1.2.Level > 2)) (
  (some (.ret [.d (.int .i64 14)] [] []))) (
 cond r1.2.NoLocal (
  cond r0.2.2 (
  (some (.ret [.d (.int .i64 28)] [] []))) (
  (some (.ret [.d (.int .i64 0)] [] [])))) (
 (some (.ret [.d (.int .i64 0)] [] []))))))) (
 cond (decide (p0.Level < 0)) (
 (some (.ret [.d (.int .i64 14)] [] []))) (
 cond (decide (p0.Level > 2)) (
 (some (.ret [.d (.int .i64 14)] [] []))) (
 cond p0.NoLocal (
 cond r0.2.2 (
  (some (.ret [.d (.int .i64 28)] [] []))) (
 (some (.ret [.d (.int .i64 0)] [] [])))) (
 (some (.ret [.d (.int .i64 0)] [] [])))))) := by kernel_rfl
end
abbrev X66 : aO := C66 gG (cT 124 lH) (cT 125 gC)
theorem auW : X66 = aP gG := by unfold X66 C66; rw [aK fun _ h => h, aK fun _ h => h]
theorem qT (p0 : aF) : Le (Option.map eP (lA p0)) (aY SE 66 [aF.av p0] [] []) := by
 refine aR auW rfl ?_
 refine Le.trans ?_ (le_of_eq (T66 _ _ _ _ _  p0).symm)
 unfold lA
 refine aM (good := good) eX afw (agN _) fun r0 _ => ?_
 refine lC ?_ ?_
 ·refine aM (good := good) eX abh (acb _) fun r1 _ => ?_
  refine lC ?_ ?_
  ·exact aH rfl
  ·refine lC ?_ ?_
   ·exact aH rfl
   ·refine lC ?_ ?_
    ·exact aH rfl
    ·refine lC ?_ ?_
     ·refine lC ?_ ?_
      ·exact aH rfl
      ·exact aH rfl
     ·exact aH rfl
 ·refine lC ?_ ?_
  ·exact aH rfl
  ·refine lC ?_ ?_
   ·exact aH rfl
   ·refine lC ?_ ?_
    ·refine lC ?_ ?_
     ·exact aH rfl
     ·exact aH rfl
    ·exact aH rfl
section
variable (Γ : Fun)  (Λ2 J : Lam)
def aqR : aO := aP Γ
theorem avh (p0 : Str) (p1 : Str) : bD SE (aqR Γ) Λ2 J 164 [.d (.str p0), .d (.str p1)] [] [] =
 (some (.ret [.d (.int .i64 (Lib.compareBytes p0 p1))] [] [])) := by kernel_rfl
end
abbrev auD : aO := aqR gG
theorem asu : auD = aP gG := rfl
theorem aaz (p0 : Str) (p1 : Str) : Le (Option.map eV (pH p0 p1)) (aY SE 164 [.d (.str p0), .d (.str p1)] [] []) := by
 refine aR asu rfl ?_
 refine Le.trans ?_ (le_of_eq (avh _ _ _  p0 p1).symm)
 unfold pH
 exact aH rfl
section
variable (Γ : Fun) (γ164 : Gm (Int)) (Λ2 J : Lam)
def anY : aO := bA (aP Γ) 164 eV γ164
theorem au0 (p0 : Str) (p1 : Str) : bD SE (anY Γ γ164) Λ2 J 130 [.d (.str p0), .d (.str p1)] [] [] =
 γ164 [.d (.str p0), .d (.str p1)] [] [] fun r0 =>
 (some (.ret [.d (.int .i64 r0)] [] [])) := by kernel_rfl
end
abbrev aqu : aO := anY gG (cT 164 eV)
theorem auh : aqu = aP gG := by unfold aqu anY; rw [aK fun _ h => h]
theorem adS (p0 : Str) (p1 : Str) : Le (Option.map iW (uT p0 p1)) (aY SE 130 [.d (.str p0), .d (.str p1)] [] []) := by
 refine aR auh rfl ?_
 refine Le.trans ?_ (le_of_eq (au0 _ _ _ _  p0 p1).symm)
 unfold uT
 refine aM (good := good) eX yY (aaz _ _) fun r0 _ => ?_
 exact aH rfl
section
variable (Γ : Fun) (γ130 : Gm (Int)) (Λ2 J : Lam)
def anR : aO := bA (aP Γ) 130 iW γ130
theorem avj (p0 : aF) (p1 : Str) : bD SE (anR Γ γ130) Λ2 J 129 [aF.av p0, .d (.str p1)] [] [] =
 γ130 [.d (.str p0.Filter), .d (.str p1)] [] [] fun r0 =>
 (some (.ret [.d (.int .i64 r0)] [] [])) := by kernel_rfl
end
abbrev ars : aO := anR gG (cT 130 iW)
theorem atT : ars = aP gG := by unfold ars anR; rw [aK fun _ h => h]
theorem o5 (p0 : aF) (p1 : Str) : Le (Option.map jK (sK p0 p1)) (aY SE 129 [aF.av p0, .d (.str p1)] [] []) := by
 refine aR atT rfl ?_
 refine Le.trans ?_ (le_of_eq (avj _ _ _ _  p0 p1).symm)
 unfold sK
 refine aM (good := good) eX adx (adS _ _) fun r0 _ => ?_
 exact aH rfl
def ahb (C : aO) (Λ2 J : Lam) (a0 : (List (List D))) (a1 : Str) (a2 : Int) (a3 : Int) (a4 : Int) : Res := lab SE C Λ2 J 128 0 [1, 1, 1, 0, 0] (aZ [(0, .d (.sl aF.ks a0)), (1, .d (.str a1)), (2, .fn 129 [] []), (8, .d (.int .i64 a2)), (9, .d (.int .i64 a3)), (10, .d (.int .i64 a4))] [] [] [] [])
section
variable (Γ : Fun) (γ129 : Gm (Int)) (Λ2 J : Lam)
def afR : aO := bA (aP Γ) 129 jK γ129
theorem awk (p0 : (List aF)) (p1 : Str) : bD SE (afR Γ γ129) Λ2 J 128 [.d (.sl aF.ks (List.map aF.enc p0)), .d (.str p1), .fn 129 [] []] [] [] =
 ahb (afR Γ γ129) Λ2 J (List.map aF.enc p0) p1 (List.length (List.map aF.enc p0) : Int) 0 (List.length (List.map aF.enc p0) : Int) := by kernel_rfl
theorem aqs (x0 : (List aF)) (x1 : Str) (x8 : Int) (x9 : Int) (x10 : Int) : cB SE (afR Γ γ129) Λ2 J 128 0 [1, 1, 1, 0, 0] (aZ [(0, .d (.sl aF.ks (List.map aF.enc x0))), (1, .d (.str x1)), (2, .fn 129 [] []), (8, .d (.int .i64 x8)), (9, .d (.int .i64 x9)), (10, .d (.int .i64 x10))] [] [] [] []) =
 cond (decide (x9 < x10)) (
 cond (decide (0 ≤ (IntKind.wrap .i64 (shr .u64 (IntKind.wrap .u64 (IntKind.wrap .i64 (x9 + x10))) 1))) && decide ((IntKind.wrap .i64 (shr .u64 (IntKind.wrap .u64 (IntKind.wrap .i64 (x9 + x10))) 1)) < (List.length (List.map aF.enc x0) : Int))) (
  γ129 [.agg [.d (.str (aV (cellAt (elemAt (List.map aF.enc x0) (Int.toNat (IntKind.wrap .i64 (shr .u64 (IntKind.wrap .u64 (IntKind.wrap .i64 (x9 + x10))) 1)))) 0))), .d (.int .i64 (aL (cellAt (elemAt (List.map aF.enc x0) (Int.toNat (IntKind.wrap .i64 (shr .u64 (IntKind.wrap .u64 (IntKind.wrap .i64 (x9 + x10))) 1)))) 1))), .d (.bool (bB (cellAt (elemAt (List.map aF.enc x0) (Int.toNat (IntKind.wrap .i64 (shr .u64 (IntKind.wrap .u64 (IntKind.wrap .i64 (x9 + x10))) 1)))) 2)))], .d (.str x1)] [] [] fun r0 =>
  cond (decide (r0 < 0)) (
  ahb (afR Γ γ129) Λ2 J (List.map aF.enc x0) x1 x8 (IntKind.wrap .i64 ((IntKind.wrap .i64 (shr .u64 (IntKind.wrap .u64 (IntKind.wrap .i64 (x9 + x10))) 1)) + 1)) x10) (
  ahb (afR Γ γ129) Λ2 J (List.map aF.enc x0) x1 x8 x9 (IntKind.wrap .i64 (shr .u64 (IntKind.wrap .u64 (IntKind.wrap .i64 (x9 + x10))) 1)))) none) (
 cond (decide (x9 < x8)) (
 cond (decide (0 ≤ x9) && decide (x9 < (List.length (List.map aF.enc x0) : Int))) (
  γ129 [.agg [.d (.str (aV (cellAt (elemAt (List.map aF.enc x0) (Int.toNat x9)) 0))), .d (.int .i64 (aL (cellAt (elemAt (List.map aF.enc x0) (Int.toNat x9)) 1))), .d (.bool (bB (cellAt (elemAt (List.map aF.enc x0) (Int.toNat x9)) 2)))], .d (.str x1)] [] [] fun r1 =>
  (some (.ret [.d (.int .i64 x9), .d (.bool (r1 == 0))] [] []))) none) (
 (some (.ret [.d (.int .i64 x9), .d (.bool false)] [] [])))) := by kernel_rfl
end
abbrev alK : aO := afR gG (cT 129 jK)
theorem aoN : alK = aP gG := by unfold alK afR; rw [aK fun _ h => h]
noncomputable abbrev ar7 (a0 : (List (List D))) (a1 : Str) (a2 : Int) (a3 : Int) (a4 : Int) : Res := ahb alK (bV SE gG (SE.hl 128) (SE.hr 128)) (J0 SE alK) a0 a1 a2 a3 a4
theorem fK : ∀ (fu : Nat) (x0 : (List aF)) (x1 : Str) (x8 : Int) (x9 : Int) (x10 : Int), Le (Option.map bH (bW fu x0 x1 x8 x9 x10)) (ar7 (List.map aF.enc x0) x1 x8 x9 x10) := by
 intro fu
 induction fu with
 | zero => intros; exact le_none
 | succ fu ih =>
  intro x0 x1 x8 x9 x10
  refine Le.trans ?_ (le_of_eq ((bC aoN).trans (aqs _ _ _ _  x0 x1 x8 x9 x10)).symm)
  unfold bW
  refine lC ?_ ?_
  ·refine lG (by simp only [EN]) ?_
   refine aM (good := good) eX xD (by first | (simp only [EN]; exact o5 (List.getD x0 (Int.toNat (IntKind.wrap .i64 (shr .u64 (IntKind.wrap .u64 (IntKind.wrap .i64 (x9 + x10))) 1))) default) x1) | exact o5 (List.getD x0 (Int.toNat (IntKind.wrap .i64 (shr .u64 (IntKind.wrap .u64 (IntKind.wrap .i64 (x9 + x10))) 1))) default) x1) fun r0 _ => ?_
   refine lC ?_ ?_
   ·exact ih x0 x1 x8 (IntKind.wrap .i64 ((IntKind.wrap .i64 (shr .u64 (IntKind.wrap .u64 (IntKind.wrap .i64 (x9 + x10))) 1)) + 1)) x10
   ·exact ih x0 x1 x8 x9 (IntKind.wrap .i64 (shr .u64 (IntKind.wrap .u64 (IntKind.wrap .i64 (x9 + x10))) 1))
  ·refine lC ?_ ?_
   ·refine lG (by simp only [EN]) ?_
    refine aM (good := good) eX xD (by first | (simp only [EN]; exact o5 (List.getD x0 (Int.toNat x9) default) x1) | exact o5 (List.getD x0 (Int.toNat x9) default) x1) fun r1 _ => ?_
    exact aH rfl
   ·exact aH rfl
theorem mC (p0 : (List aF)) (p1 : Str) : Le (Option.map bH (dR p0 p1)) (aY SE 128 [.d (.sl aF.ks (List.map aF.enc p0)), .d (.str p1), .fn 129 [] []] [] []) := by
 refine aR aoN rfl ?_
 refine Le.trans ?_ (le_of_eq (awk _ _ _ _  p0 p1).symm)
 unfold dR
 first | (simp only [EN]; exact fK fuel p0 p1 (List.length p0 : Int) 0 (List.length p0 : Int)) | exact fK fuel p0 p1 (List.length p0 : Int) 0 (List.length p0 : Int)
section
variable (Γ : Fun) (γ128 : Gm (Int × Bool)) (Λ2 J : Lam)
def C67 : aO := bA (aP Γ) 128 bH γ128
theorem T67 (p0 : (List aF)) (p1 : Str) : bD SE (C67 Γ γ128) Λ2 J 67 [.d (.sl aF.ks (List.map aF.enc p0)), .d (.str p1)] [] [] =
 γ128 [.d (.sl aF.ks (List.map aF.enc p0)), .d (.str p1), .fn 129 [] []] [] [] fun r0 =>
 (some (.ret [.d (.int .i64 r0.1), .d (.bool r0.2)] [] [])) := by kernel_rfl
end
abbrev X67 : aO := C67 gG (cT 128 bH)
theorem av2 : X67 = aP gG := by unfold X67 C67; rw [aK fun _ h => h]
theorem agd (p0 : (List aF)) (p1 : Str) : Le (Option.map lK (zM p0 p1)) (aY SE 67 [.d (.sl aF.ks (List.map aF.enc p0)), .d (.str p1)] [] []) := by
 refine aR av2 rfl ?_
 refine Le.trans ?_ (le_of_eq (T67 _ _ _ _  p0 p1).symm)
 unfold zM
 refine aM (good := good) eX lX (mC _ _) fun r0 _ => ?_
 exact aH rfl
section
variable (Γ : Fun)  (Λ2 J : Lam)
def arc : aO := aP Γ
theorem avX (p0 : (List aF)) : bD SE (arc Γ) Λ2 J 103 [.d (.sl aF.ks (List.map aF.enc p0))] [] [] =
 cond (List.isEmpty (List.map aF.enc p0)) (
 xA (
  (some (.ret [.row 0] [] [⟨aF.ks, 60, 32, []⟩]))) (
  cond (decide ((List.length (List.map aF.enc []) + List.length (List.map aF.enc p0)) * 32 ≤ 140737488355328)) (
  (some (.ret [.row 0] [] [⟨aF.ks, 60, 32, ((List.map aF.enc []) ++ (List.map aF.enc p0))⟩]))) none)) (
 cond (decide ((List.length (List.map aF.enc []) + List.length (List.map aF.enc p0)) * 32 ≤ 140737488355328)) (
 (some (.ret [.row 0] [] [⟨aF.ks, 60, 32, ((List.map aF.enc []) ++ (List.map aF.enc p0))⟩]))) none) := by kernel_rfl
end
abbrev avK : aO := arc gG
theorem asW : avK = aP gG := rfl
theorem sW (p0 : (List aF)) : Le (Option.map cN (j3 p0)) (aY SE 103 [.d (.sl aF.ks (List.map aF.enc p0))] [] []) := by
 refine aR asW rfl ?_
 refine Le.trans ?_ (le_of_eq (avX _ _ _  p0).symm)
 unfold j3
 refine lD (by simp only [EN]) ?_ ?_
 ·refine ahP ?_ ?_
  ·exact aH rfl
  ·refine lG (by simp only [EN]) ?_
   exact aH rfl
 ·refine lG (by simp only [EN]) ?_
  exact aH rfl
section
variable (Γ : Fun)  (Λ2 J : Lam)
def ar1 : aO := aP Γ
theorem auZ (p0 : (List Int)) : bD SE (ar1 Γ) Λ2 J 104 [.d (.sl [.int .i64] (List.map (encI .i64) p0))] [] [] =
 cond (List.isEmpty (List.map (encI .i64) p0)) (
 xA (
  (some (.ret [.row 0] [] [⟨[.int .i64], 3, 8, []⟩]))) (
  cond (decide ((List.length (List.map (encI .i64) []) + List.length (List.map (encI .i64) p0)) * 8 ≤ 140737488355328)) (
  (some (.ret [.row 0] [] [⟨[.int .i64], 3, 8, ((List.map (encI .i64) []) ++ (List.map (encI .i64) p0))⟩]))) none)) (
 cond (decide ((List.length (List.map (encI .i64) []) + List.length (List.map (encI .i64) p0)) * 8 ≤ 140737488355328)) (
 (some (.ret [.row 0] [] [⟨[.int .i64], 3, 8, ((List.map (encI .i64) []) ++ (List.map (encI .i64) p0))⟩]))) none) := by kernel_rfl
end
abbrev avi : aO := ar1 gG
theorem atC : avi = aP gG := rfl
theorem fY (p0 : (List Int)) : Le (Option.map bO (eL p0)) (aY SE 104 [.d (.sl [.int .i64] (List.map (encI .i64) p0))] [] []) := by
 refine aR atC rfl ?_
 refine Le.trans ?_ (le_of_eq (auZ _ _ _  p0).symm)
 unfold eL
 refine lD (by simp only [EN]) ?_ ?_
 ·refine ahP ?_ ?_
  ·exact aH rfl
  ·refine lG (by simp only [EN]) ?_
   exact aH rfl
 ·refine lG (by simp only [EN]) ?_
  exact aH rfl
def aj6 (C : aO) (Λ2 J : Lam) (a0 : (List (List D))) (a1 : Int) (a2 : Int) (a3 : Str) (a4 : Str) (a5 : Bool) (a6 : Int) (a7 : Int) (a8 : Int) (a9 : Int) (a10 : Int) (a11 : (List (List D))) (a12 : (List (List D))) (a13 : Int) (a14 : (List (List D))) (a15 : Bool) (a16 : Int) (a17 : Str) (a18 : Str) (a19 : Int) (a20 : Bool) (a21 : Int) (a22 : Int) (a23 : Str) (a24 : Int) (a25 : (List (List D))) (a26 : (List D)) (a27 : (List (List D))) (a28 : (List (List D))) (a29 : (List (List D))) : Res := lab SE C Λ2 J 50 0 [1, 1, 1, 1, 1, 1, 0, 1, 0] (aZ [(1, .ptr 1000000000 0), (2, .ptr 1000000001 0), (6, .row 3006), (39, .d (.sl aB.ks a0)), (40, .d (.int .i64 a1)), (41, .d (.int .i64 a2))] [⟨38, [.d (.str a3), .d (.str a4), .d (.bool a5), .d (.int .i64 a6), .d (.int .i64 a7), .d (.int .i64 a8), .d (.int .i64 a9), .row 50007, .row 50008, .d (.int .i64 a10), .d (.sl aB.ks a11), .d (.sl [.int .i64] a12), .d (.int .i64 a13), .d (.sl [.int .i64] a14), .d (.bool a15), .d (.int .i64 a16), .d (.str a17), .d (.str a18), .d (.int .i64 a19), .d (.bool a20), .d (.int .i64 a21), .d (.int .i64 a22), .d (.str a23), .d (.int .i64 a24), .d (.sl aC.ks a25)]⟩, ⟨38, (List.map AV.d a26)⟩] [] [] [(3006, ⟨aB.ks, 122, 128, a27⟩), (50007, ⟨aF.ks, 60, 32, a28⟩), (50008, ⟨aA.ks, 34, 112, a29⟩)])
def al4 (C : aO) (Λ2 J : Lam) (a0 : (List (List D))) (a1 : Int) (a2 : Int) (a3 : Str) (a4 : Str) (a5 : Bool) (a6 : Int) (a7 : Int) (a8 : Int) (a9 : Int) (a10 : (List (List D))) (a11 : Int) (a12 : (List (List D))) (a13 : (List (List D))) (a14 : Int) (a15 : (List (List D))) (a16 : Bool) (a17 : Int) (a18 : Str) (a19 : Str) (a20 : Int) (a21 : Bool) (a22 : Int) (a23 : Int) (a24 : Str) (a25 : Int) (a26 : (List (List D))) (a27 : (List D)) (a28 : (List (List D))) (a29 : (List (List D))) : Res := lab SE C Λ2 J 50 0 [1, 1, 1, 0, 1, 0] (aZ [(1, .ptr 1000000000 0), (2, .ptr 1000000001 0), (3, .row 3003), (18, .d (.sl aA.ks a0)), (19, .d (.int .i64 a1)), (20, .d (.int .i64 a2))] [⟨38, [.d (.str a3), .d (.str a4), .d (.bool a5), .d (.int .i64 a6), .d (.int .i64 a7), .d (.int .i64 a8), .d (.int .i64 a9), .row 50007, .d (.sl aA.ks a10), .d (.int .i64 a11), .d (.sl aB.ks a12), .d (.sl [.int .i64] a13), .d (.int .i64 a14), .d (.sl [.int .i64] a15), .d (.bool a16), .d (.int .i64 a17), .d (.str a18), .d (.str a19), .d (.int .i64 a20), .d (.bool a21), .d (.int .i64 a22), .d (.int .i64 a23), .d (.str a24), .d (.int .i64 a25), .d (.sl aC.ks a26)]⟩, ⟨38, (List.map AV.d a27)⟩] [] [] [(3003, ⟨aA.ks, 34, 112, a28⟩), (50007, ⟨aF.ks, 60, 32, a29⟩)])
section
variable (Γ : Fun) (γ103 : Gm ((List aF))) (γ80 : Gm (aA)) (γ104 : Gm ((List Int))) (Λ2 J : Lam)
def C50 : aO := bA (bA (bA (aP Γ) 103 cN γ103) 80 cV γ80) 104 bO γ104
theorem T50 (p0 : aD) : bD SE (C50 Γ γ103 γ80 γ104) Λ2 J 50 [aD.av p0] [] [] =
 γ103 [.d (.sl aF.ks (List.map aF.enc p0.Subs))] [] [] fun r0 =>
 cond (decide (0 ≤ 0) && decide (0 ≤ (List.length (List.map aA.enc p0.Queue) : Int)) && decide ((List.length (List.map aA.enc p0.Queue) : Int) * 112 ≤ 281474976710656)) (
 al4 (C50 Γ γ103 γ80 γ104) Λ2 J (List.map aA.enc p0.Queue) (List.length (List.map aA.enc p0.Queue) : Int) 0 p0.Client p0.User p0.Online p0.Conn p0.Expiry p0.Until p0.Dropped (List.map aA.enc p0.Queue) p0.Out.Limit (List.map aB.enc p0.Out.Items) (List.map (encI .i64) p0.Out.Pool.Used) p0.Out.Pool.Last (List.map (encI .i64) p0.In.IDs) p0.Will.Set p0.Will.Delay p0.Will.Message.Topic p0.Will.Message.Payload p0.Will.Message.Level p0.Will.Message.Retain p0.Will.Message.Priority p0.Will.Message.Expires p0.Will.Message.From p0.Will.Message.Seq (List.map aC.enc p0.Will.Message.Props) [D.str ([] : Str), D.str ([] : Str), D.bool false, D.int .i64 0, D.int .i64 0, D.int .i64 0, D.int .i64 0, D.sl aF.ks (List.map aF.enc []), D.sl aA.ks (List.map aA.enc []), D.int .i64 0, D.sl aB.ks (List.map aB.enc []), D.sl [.int .i64] (List.map (encI .i64) []), D.int .i64 0, D.sl [.int .i64] (List.map (encI .i64) []), D.bool false, D.int .i64 0, D.str ([] : Str), D.str ([] : Str), D.int .i64 0, D.bool false, D.int .i64 0, D.int .i64 0, D.str ([] : Str), D.int .i64 0, D.sl aC.ks (List.map aC.enc [])] (List.map aA.enc []) (List.map aF.enc r0)) none := by kernel_rfl
theorem asi (x39 : (List aB)) (x40 : Int) (x41 : Int) (b0_0 : Str) (b0_1 : Str) (b0_2 : Bool) (b0_3 : Int) (b0_4 : Int) (b0_5 : Int) (b0_6 : Int) (b0_9 : Int) (b0_10 : (List aB)) (b0_11 : (List Int)) (b0_12 : Int) (b0_13 : (List Int)) (b0_14 : Bool) (b0_15 : Int) (b0_16 : Str) (b0_17 : Str) (b0_18 : Int) (b0_19 : Bool) (b0_20 : Int) (b0_21 : Int) (b0_22 : Str) (b0_23 : Int) (b0_24 : (List aC)) (b1 : aD) (w3006 : (List aB)) (w50007 : (List aF)) (w50008 : (List aA)) : cB SE (C50 Γ γ103 γ80 γ104) Λ2 J 50 0 [1, 1, 1, 1, 1, 1, 0, 1, 0] (aZ [(1, .ptr 1000000000 0), (2, .ptr 1000000001 0), (6, .row 3006), (39, .d (.sl aB.ks (List.map aB.enc x39))), (40, .d (.int .i64 x40)), (41, .d (.int .i64 x41))] [⟨38, [.d (.str b0_0), .d (.str b0_1), .d (.bool b0_2), .d (.int .i64 b0_3), .d (.int .i64 b0_4), .d (.int .i64 b0_5), .d (.int .i64 b0_6), .row 50007, .row 50008, .d (.int .i64 b0_9), .d (.sl aB.ks (List.map aB.enc b0_10)), .d (.sl [.int .i64] (List.map (encI .i64) b0_11)), .d (.int .i64 b0_12), .d (.sl [.int .i64] (List.map (encI .i64) b0_13)), .d (.bool b0_14), .d (.int .i64 b0_15), .d (.str b0_16), .d (.str b0_17), .d (.int .i64 b0_18), .d (.bool b0_19), .d (.int .i64 b0_20), .d (.int .i64 b0_21), .d (.str b0_22), .d (.int .i64 b0_23), .d (.sl aC.ks (List.map aC.enc b0_24))]⟩, ⟨38, (List.map AV.d (aD.enc b1))⟩] [] [] [(3006, ⟨aB.ks, 122, 128, (List.map aB.enc w3006)⟩), (50007, ⟨aF.ks, 60, 32, (List.map aF.enc w50007)⟩), (50008, ⟨aA.ks, 34, 112, (List.map aA.enc w50008)⟩)]) =
 cond (decide (x41 < x40)) (
 cond (decide (0 ≤ x41) && decide (x41 < (List.length (List.map aB.enc x39) : Int))) (
  γ80 [.agg [.d (.str (aV (cellAt (elemAt (List.map aB.enc x39) (Int.toNat x41)) 2))), .d (.str (aV (cellAt (elemAt (List.map aB.enc x39) (Int.toNat x41)) 3))), .d (.int .i64 (aL (cellAt (elemAt (List.map aB.enc x39) (Int.toNat x41)) 4))), .d (.bool (bB (cellAt (elemAt (List.map aB.enc x39) (Int.toNat x41)) 5))), .d (.int .i64 (aL (cellAt (elemAt (List.map aB.enc x39) (Int.toNat x41)) 6))), .d (.int .i64 (aL (cellAt (elemAt (List.map aB.enc x39) (Int.toNat x41)) 7))), .d (.str (aV (cellAt (elemAt (List.map aB.enc x39) (Int.toNat x41)) 8))), .d (.int .i64 (aL (cellAt (elemAt (List.map aB.enc x39) (Int.toNat x41)) 9))), .d (.sl aC.ks (dSl (cellAt (elemAt (List.map aB.enc x39) (Int.toNat x41)) 10)))]] [] [] fun r2 =>
  cond (decide ((List.length (List.map aB.enc w3006) + List.length [[D.int .i64 (aL (cellAt (elemAt (List.map aB.enc x39) (Int.toNat x41)) 0)), D.int .i64 (aL (cellAt (elemAt (List.map aB.enc x39) (Int.toNat x41)) 1)), D.str r2.Topic, D.str r2.Payload, D.int .i64 r2.Level, D.bool r2.Retain, D.int .i64 r2.Priority, D.int .i64 r2.Expires, D.str r2.From, D.int .i64 r2.Seq, D.sl aC.ks (List.map aC.enc r2.Props)]]) * 128 ≤ 140737488355328)) (
  aj6 (C50 Γ γ103 γ80 γ104) Λ2 J (List.map aB.enc x39) x40 (IntKind.wrap .i64 (x41 + 1)) b0_0 b0_1 b0_2 b0_3 b0_4 b0_5 b0_6 b0_9 (List.map aB.enc b0_10) (List.map (encI .i64) b0_11) b0_12 (List.map (encI .i64) b0_13) b0_14 b0_15 b0_16 b0_17 b0_18 b0_19 b0_20 b0_21 b0_22 b0_23 (List.map aC.enc b0_24) (aD.enc b1) (((List.map aB.enc w3006) ++ [[D.int .i64 (aL (cellAt (elemAt (List.map aB.enc x39) (Int.toNat x41)) 0)), D.int .i64 (aL (cellAt (elemAt (List.map aB.enc x39) (Int.toNat x41)) 1)), D.str r2.Topic, D.str r2.Payload, D.int .i64 r2.Level, D.bool r2.Retain, D.int .i64 r2.Priority, D.int .i64 r2.Expires, D.str r2.From, D.int .i64 r2.Seq, D.sl aC.ks (List.map aC.enc r2.Props)]])) (List.map aF.enc w50007) (List.map aA.enc w50008)) none) none) (
 γ104 [.d (.sl [.int .i64] (List.map (encI .i64) b0_11))] [] [] fun r3 =>
 γ104 [.d (.sl [.int .i64] (List.map (encI .i64) b0_13))] [] [] fun r4 =>
 γ80 [aA.av (aA.mk b0_16 b0_17 b0_18 b0_19 b0_20 b0_21 b0_22 b0_23 b0_24)] [] [] fun r5 =>
 (some (.ret [.agg [.d (.str b0_0), .d (.str b0_1), .d (.bool b0_2), .d (.int .i64 b0_3), .d (.int .i64 b0_4), .d (.int .i64 b0_5), .d (.int .i64 b0_6), .row 0, .row 1, .d (.int .i64 b0_9), .row 2, .row 3, .d (.int .i64 b0_12), .row 4, .d (.bool b0_14), .d (.int .i64 b0_15), .d (.str r5.Topic), .d (.str r5.Payload), .d (.int .i64 r5.Level), .d (.bool r5.Retain), .d (.int .i64 r5.Priority), .d (.int .i64 r5.Expires), .d (.str r5.From), .d (.int .i64 r5.Seq), .row 5]] [] [⟨aF.ks, 60, 32, (List.map aF.enc w50007)⟩, ⟨aA.ks, 34, 112, (List.map aA.enc w50008)⟩, ⟨aB.ks, 122, 128, (List.map aB.enc w3006)⟩, ⟨[.int .i64], 3, 8, (List.map (encI .i64) r3)⟩, ⟨[.int .i64], 3, 8, (List.map (encI .i64) r4)⟩, ⟨aC.ks, 130, 32, (List.map aC.enc r5.Props)⟩]))) := by kernel_rfl
theorem ate (x18 : (List aA)) (x19 : Int) (x20 : Int) (b0_0 : Str) (b0_1 : Str) (b0_2 : Bool) (b0_3 : Int) (b0_4 : Int) (b0_5 : Int) (b0_6 : Int) (b0_8 : (List aA)) (b0_9 : Int) (b0_10 : (List aB)) (b0_11 : (List Int)) (b0_12 : Int) (b0_13 : (List Int)) (b0_14 : Bool) (b0_15 : Int) (b0_16 : Str) (b0_17 : Str) (b0_18 : Int) (b0_19 : Bool) (b0_20 : Int) (b0_21 : Int) (b0_22 : Str) (b0_23 : Int) (b0_24 : (List aC)) (b1 : aD) (w3003 : (List aA)) (w50007 : (List aF)) : cB SE (C50 Γ γ103 γ80 γ104) Λ2 J 50 0 [1, 1, 1, 0, 1, 0] (aZ [(1, .ptr 1000000000 0), (2, .ptr 1000000001 0), (3, .row 3003), (18, .d (.sl aA.ks (List.map aA.enc x18))), (19, .d (.int .i64 x19)), (20, .d (.int .i64 x20))] [⟨38, [.d (.str b0_0), .d (.str b0_1), .d (.bool b0_2), .d (.int .i64 b0_3), .d (.int .i64 b0_4), .d (.int .i64 b0_5), .d (.int .i64 b0_6), .row 50007, .d (.sl aA.ks (List.map aA.enc b0_8)), .d (.int .i64 b0_9), .d (.sl aB.ks (List.map aB.enc b0_10)), .d (.sl [.int .i64] (List.map (encI .i64) b0_11)), .d (.int .i64 b0_12), .d (.sl [.int .i64] (List.map (encI .i64) b0_13)), .d (.bool b0_14), .d (.int .i64 b0_15), .d (.str b0_16), .d (.str b0_17), .d (.int .i64 b0_18), .d (.bool b0_19), .d (.int .i64 b0_20), .d (.int .i64 b0_21), .d (.str b0_22), .d (.int .i64 b0_23), .d (.sl aC.ks (List.map aC.enc b0_24))]⟩, ⟨38, (List.map AV.d (aD.enc b1))⟩] [] [] [(3003, ⟨aA.ks, 34, 112, (List.map aA.enc w3003)⟩), (50007, ⟨aF.ks, 60, 32, (List.map aF.enc w50007)⟩)]) =
 cond (decide (x20 < x19)) (
 cond (decide (0 ≤ x20) && decide (x20 < (List.length (List.map aA.enc x18) : Int))) (
  γ80 [.agg [.d (.str (aV (cellAt (elemAt (List.map aA.enc x18) (Int.toNat x20)) 0))), .d (.str (aV (cellAt (elemAt (List.map aA.enc x18) (Int.toNat x20)) 1))), .d (.int .i64 (aL (cellAt (elemAt (List.map aA.enc x18) (Int.toNat x20)) 2))), .d (.bool (bB (cellAt (elemAt (List.map aA.enc x18) (Int.toNat x20)) 3))), .d (.int .i64 (aL (cellAt (elemAt (List.map aA.enc x18) (Int.toNat x20)) 4))), .d (.int .i64 (aL (cellAt (elemAt (List.map aA.enc x18) (Int.toNat x20)) 5))), .d (.str (aV (cellAt (elemAt (List.map aA.enc x18) (Int.toNat x20)) 6))), .d (.int .i64 (aL (cellAt (elemAt (List.map aA.enc x18) (Int.toNat x20)) 7))), .d (.sl aC.ks (dSl (cellAt (elemAt (List.map aA.enc x18) (Int.toNat x20)) 8)))]] [] [] fun r1 =>
  cond (decide ((List.length (List.map aA.enc w3003) + List.length (List.map aA.enc [r1])) * 112 ≤ 140737488355328)) (
  al4 (C50 Γ γ103 γ80 γ104) Λ2 J (List.map aA.enc x18) x19 (IntKind.wrap .i64 (x20 + 1)) b0_0 b0_1 b0_2 b0_3 b0_4 b0_5 b0_6 (List.map aA.enc b0_8) b0_9 (List.map aB.enc b0_10) (List.map (encI .i64) b0_11) b0_12 (List.map (encI .i64) b0_13) b0_14 b0_15 b0_16 b0_17 b0_18 b0_19 b0_20 b0_21 b0_22 b0_23 (List.map aC.enc b0_24) (aD.enc b1) (((List.map aA.enc w3003) ++ (List.map aA.enc [r1]))) (List.map aF.enc w50007)) none) none) (
 cond (decide (0 ≤ 0) && decide (0 ≤ (List.length (List.map aB.enc b0_10) : Int)) && decide ((List.length (List.map aB.enc b0_10) : Int) * 128 ≤ 281474976710656)) (
 aj6 (C50 Γ γ103 γ80 γ104) Λ2 J (List.map aB.enc b0_10) (List.length (List.map aB.enc b0_10) : Int) 0 b0_0 b0_1 b0_2 b0_3 b0_4 b0_5 b0_6 b0_9 (List.map aB.enc b0_10) (List.map (encI .i64) b0_11) b0_12 (List.map (encI .i64) b0_13) b0_14 b0_15 b0_16 b0_17 b0_18 b0_19 b0_20 b0_21 b0_22 b0_23 (List.map aC.enc b0_24) (aD.enc b1) (List.map aB.enc []) (List.map aF.enc w50007) (List.map aA.enc w3003)) none) := by kernel_rfl
end
abbrev X50 : aO := C50 gG (cT 103 cN) (cT 80 cV) (cT 104 bO)
theorem aoh : X50 = aP gG := by unfold X50 C50; rw [aK fun _ h => h, aK fun _ h => h, aK fun _ h => h]
noncomputable abbrev apT (a0 : (List (List D))) (a1 : Int) (a2 : Int) (a3 : Str) (a4 : Str) (a5 : Bool) (a6 : Int) (a7 : Int) (a8 : Int) (a9 : Int) (a10 : Int) (a11 : (List (List D))) (a12 : (List (List D))) (a13 : Int) (a14 : (List (List D))) (a15 : Bool) (a16 : Int) (a17 : Str) (a18 : Str) (a19 : Int) (a20 : Bool) (a21 : Int) (a22 : Int) (a23 : Str) (a24 : Int) (a25 : (List (List D))) (a26 : (List D)) (a27 : (List (List D))) (a28 : (List (List D))) (a29 : (List (List D))) : Res := aj6 X50 (bV SE gG (SE.hl 50) (SE.hr 50)) (J0 SE X50) a0 a1 a2 a3 a4 a5 a6 a7 a8 a9 a10 a11 a12 a13 a14 a15 a16 a17 a18 a19 a20 a21 a22 a23 a24 a25 a26 a27 a28 a29
noncomputable abbrev atQ (a0 : (List (List D))) (a1 : Int) (a2 : Int) (a3 : Str) (a4 : Str) (a5 : Bool) (a6 : Int) (a7 : Int) (a8 : Int) (a9 : Int) (a10 : (List (List D))) (a11 : Int) (a12 : (List (List D))) (a13 : (List (List D))) (a14 : Int) (a15 : (List (List D))) (a16 : Bool) (a17 : Int) (a18 : Str) (a19 : Str) (a20 : Int) (a21 : Bool) (a22 : Int) (a23 : Int) (a24 : Str) (a25 : Int) (a26 : (List (List D))) (a27 : (List D)) (a28 : (List (List D))) (a29 : (List (List D))) : Res := al4 X50 (bV SE gG (SE.hl 50) (SE.hr 50)) (J0 SE X50) a0 a1 a2 a3 a4 a5 a6 a7 a8 a9 a10 a11 a12 a13 a14 a15 a16 a17 a18 a19 a20 a21 a22 a23 a24 a25 a26 a27 a28 a29
theorem vL : ∀ (fu : Nat) (x39 : (List aB)) (x40 : Int) (x41 : Int) (b0_0 : Str) (b0_1 : Str) (b0_2 : Bool) (b0_3 : Int) (b0_4 : Int) (b0_5 : Int) (b0_6 : Int) (b0_9 : Int) (b0_10 : (List aB)) (b0_11 : (List Int)) (b0_12 : Int) (b0_13 : (List Int)) (b0_14 : Bool) (b0_15 : Int) (b0_16 : Str) (b0_17 : Str) (b0_18 : Int) (b0_19 : Bool) (b0_20 : Int) (b0_21 : Int) (b0_22 : Str) (b0_23 : Int) (b0_24 : (List aC)) (b1 : aD) (w3006 : (List aB)) (w50007 : (List aF)) (w50008 : (List aA)), Le (Option.map bU (pD fu x39 x40 x41 b0_0 b0_1 b0_2 b0_3 b0_4 b0_5 b0_6 b0_9 b0_10 b0_11 b0_12 b0_13 b0_14 b0_15 b0_16 b0_17 b0_18 b0_19 b0_20 b0_21 b0_22 b0_23 b0_24 b1 w3006 w50007 w50008)) (apT (List.map aB.enc x39) x40 x41 b0_0 b0_1 b0_2 b0_3 b0_4 b0_5 b0_6 b0_9 (List.map aB.enc b0_10) (List.map (encI .i64) b0_11) b0_12 (List.map (encI .i64) b0_13) b0_14 b0_15 b0_16 b0_17 b0_18 b0_19 b0_20 b0_21 b0_22 b0_23 (List.map aC.enc b0_24) (aD.enc b1) (List.map aB.enc w3006) (List.map aF.enc w50007) (List.map aA.enc w50008)) := by
 intro fu
 induction fu with
 | zero => intros; exact le_none
 | succ fu ih =>
  intro x39 x40 x41 b0_0 b0_1 b0_2 b0_3 b0_4 b0_5 b0_6 b0_9 b0_10 b0_11 b0_12 b0_13 b0_14 b0_15 b0_16 b0_17 b0_18 b0_19 b0_20 b0_21 b0_22 b0_23 b0_24 b1 w3006 w50007 w50008
  refine Le.trans ?_ (le_of_eq ((bC aoh).trans (asi _ _ _ _ _ _  x39 x40 x41 b0_0 b0_1 b0_2 b0_3 b0_4 b0_5 b0_6 b0_9 b0_10 b0_11 b0_12 b0_13 b0_14 b0_15 b0_16 b0_17 b0_18 b0_19 b0_20 b0_21 b0_22 b0_23 b0_24 b1 w3006 w50007 w50008)).symm)
  unfold pD
  refine lC ?_ ?_
  ·refine lG (by simp only [EN]) ?_
   refine aM (good := good) eX jT (by first | (simp only [EN]; exact fE ((List.getD x39 (Int.toNat x41) default).Message)) | exact fE ((List.getD x39 (Int.toNat x41) default).Message)) fun r2 _ => ?_
   refine lG (by simp only [EN]) ?_
   first | (simp only [EN]; exact ih x39 x40 (IntKind.wrap .i64 (x41 + 1)) b0_0 b0_1 b0_2 b0_3 b0_4 b0_5 b0_6 b0_9 b0_10 b0_11 b0_12 b0_13 b0_14 b0_15 b0_16 b0_17 b0_18 b0_19 b0_20 b0_21 b0_22 b0_23 b0_24 b1 ((w3006 ++ [(aB.mk (List.getD x39 (Int.toNat x41) default).ID (List.getD x39 (Int.toNat x41) default).State r2)])) w50007 w50008) | exact ih x39 x40 (IntKind.wrap .i64 (x41 + 1)) b0_0 b0_1 b0_2 b0_3 b0_4 b0_5 b0_6 b0_9 b0_10 b0_11 b0_12 b0_13 b0_14 b0_15 b0_16 b0_17 b0_18 b0_19 b0_20 b0_21 b0_22 b0_23 b0_24 b1 ((w3006 ++ [(aB.mk (List.getD x39 (Int.toNat x41) default).ID (List.getD x39 (Int.toNat x41) default).State r2)])) w50007 w50008
  ·refine aM (good := good) eX fQ (fY _) fun r3 _ => ?_
   refine aM (good := good) eX fQ (fY _) fun r4 _ => ?_
   refine aM (good := good) eX jT (fE _) fun r5 _ => ?_
   exact aH rfl
theorem v8 : ∀ (fu : Nat) (x18 : (List aA)) (x19 : Int) (x20 : Int) (b0_0 : Str) (b0_1 : Str) (b0_2 : Bool) (b0_3 : Int) (b0_4 : Int) (b0_5 : Int) (b0_6 : Int) (b0_8 : (List aA)) (b0_9 : Int) (b0_10 : (List aB)) (b0_11 : (List Int)) (b0_12 : Int) (b0_13 : (List Int)) (b0_14 : Bool) (b0_15 : Int) (b0_16 : Str) (b0_17 : Str) (b0_18 : Int) (b0_19 : Bool) (b0_20 : Int) (b0_21 : Int) (b0_22 : Str) (b0_23 : Int) (b0_24 : (List aC)) (b1 : aD) (w3003 : (List aA)) (w50007 : (List aF)), Le (Option.map bU (pX fu x18 x19 x20 b0_0 b0_1 b0_2 b0_3 b0_4 b0_5 b0_6 b0_8 b0_9 b0_10 b0_11 b0_12 b0_13 b0_14 b0_15 b0_16 b0_17 b0_18 b0_19 b0_20 b0_21 b0_22 b0_23 b0_24 b1 w3003 w50007)) (atQ (List.map aA.enc x18) x19 x20 b0_0 b0_1 b0_2 b0_3 b0_4 b0_5 b0_6 (List.map aA.enc b0_8) b0_9 (List.map aB.enc b0_10) (List.map (encI .i64) b0_11) b0_12 (List.map (encI .i64) b0_13) b0_14 b0_15 b0_16 b0_17 b0_18 b0_19 b0_20 b0_21 b0_22 b0_23 (List.map aC.enc b0_24) (aD.enc b1) (List.map aA.enc w3003) (List.map aF.enc w50007)) := by
 intro fu
 induction fu with
 | zero => intros; exact le_none
 | succ fu ih =>
  intro x18 x19 x20 b0_0 b0_1 b0_2 b0_3 b0_4 b0_5 b0_6 b0_8 b0_9 b0_10 b0_11 b0_12 b0_13 b0_14 b0_15 b0_16 b0_17 b0_18 b0_19 b0_20 b0_21 b0_22 b0_23 b0_24 b1 w3003 w50007
  refine Le.trans ?_ (le_of_eq ((bC aoh).trans (ate _ _ _ _ _ _  x18 x19 x20 b0_0 b0_1 b0_2 b0_3 b0_4 b0_5 b0_6 b0_8 b0_9 b0_10 b0_11 b0_12 b0_13 b0_14 b0_15 b0_16 b0_17 b0_18 b0_19 b0_20 b0_21 b0_22 b0_23 b0_24 b1 w3003 w50007)).symm)
  unfold pX
  refine lC ?_ ?_
  ·refine lG (by simp only [EN]) ?_
   refine aM (good := good) eX jT (by first | (simp only [EN]; exact fE (List.getD x18 (Int.toNat x20) default)) | exact fE (List.getD x18 (Int.toNat x20) default)) fun r1 _ => ?_
   refine lG (by simp only [EN]) ?_
   first | (simp only [EN]; exact ih x18 x19 (IntKind.wrap .i64 (x20 + 1)) b0_0 b0_1 b0_2 b0_3 b0_4 b0_5 b0_6 b0_8 b0_9 b0_10 b0_11 b0_12 b0_13 b0_14 b0_15 b0_16 b0_17 b0_18 b0_19 b0_20 b0_21 b0_22 b0_23 b0_24 b1 (w3003 ++ [r1]) w50007) | exact ih x18 x19 (IntKind.wrap .i64 (x20 + 1)) b0_0 b0_1 b0_2 b0_3 b0_4 b0_5 b0_6 b0_8 b0_9 b0_10 b0_11 b0_12 b0_13 b0_14 b0_15 b0_16 b0_17 b0_18 b0_19 b0_20 b0_21 b0_22 b0_23 b0_24 b1 (w3003 ++ [r1]) w50007
  ·refine lG (by simp only [EN]) ?_
   first | (simp only [EN]; exact vL fuel b0_10 (List.length b0_10 : Int) 0 b0_0 b0_1 b0_2 b0_3 b0_4 b0_5 b0_6 b0_9 b0_10 b0_11 b0_12 b0_13 b0_14 b0_15 b0_16 b0_17 b0_18 b0_19 b0_20 b0_21 b0_22 b0_23 b0_24 b1 ([] : List aB) w50007 w3003) | exact vL fuel b0_10 (List.length b0_10 : Int) 0 b0_0 b0_1 b0_2 b0_3 b0_4 b0_5 b0_6 b0_9 b0_10 b0_11 b0_12 b0_13 b0_14 b0_15 b0_16 b0_17 b0_18 b0_19 b0_20 b0_21 b0_22 b0_23 b0_24 b1 ([] : List aB) w50007 w3003
theorem jJ (p0 : aD) : Le (Option.map bU (jH p0)) (aY SE 50 [aD.av p0] [] []) := by
 refine aR aoh rfl ?_
 refine Le.trans ?_ (le_of_eq (T50 _ _ _ _ _ _  p0).symm)
 unfold jH
 refine aM (good := good) eX sG (sW _) fun r0 _ => ?_
 refine lG (by simp only [EN]) ?_
 first | (simp only [EN]; exact v8 fuel p0.Queue (List.length p0.Queue : Int) 0 p0.Client p0.User p0.Online p0.Conn p0.Expiry p0.Until p0.Dropped p0.Queue p0.Out.Limit p0.Out.Items p0.Out.Pool.Used p0.Out.Pool.Last p0.In.IDs p0.Will.Set p0.Will.Delay p0.Will.Message.Topic p0.Will.Message.Payload p0.Will.Message.Level p0.Will.Message.Retain p0.Will.Message.Priority p0.Will.Message.Expires p0.Will.Message.From p0.Will.Message.Seq p0.Will.Message.Props ((aD.mk ([] : Str) ([] : Str) false 0 0 0 0 ([] : List aF) ([] : List aA) (aG.mk 0 ([] : List aB) (aJ.mk ([] : List Int) 0)) (aS.mk ([] : List Int)) (aN.mk false 0 (aA.mk ([] : Str) ([] : Str) 0 false 0 0 ([] : Str) 0 ([] : List aC))))) ([] : List aA) r0) | exact v8 fuel p0.Queue (List.length p0.Queue : Int) 0 p0.Client p0.User p0.Online p0.Conn p0.Expiry p0.Until p0.Dropped p0.Queue p0.Out.Limit p0.Out.Items p0.Out.Pool.Used p0.Out.Pool.Last p0.In.IDs p0.Will.Set p0.Will.Delay p0.Will.Message.Topic p0.Will.Message.Payload p0.Will.Message.Level p0.Will.Message.Retain p0.Will.Message.Priority p0.Will.Message.Expires p0.Will.Message.From p0.Will.Message.Seq p0.Will.Message.Props ((aD.mk ([] : Str) ([] : Str) false 0 0 0 0 ([] : List aF) ([] : List aA) (aG.mk 0 ([] : List aB) (aJ.mk ([] : List Int) 0)) (aS.mk ([] : List Int)) (aN.mk false 0 (aA.mk ([] : Str) ([] : Str) 0 false 0 0 ([] : Str) 0 ([] : List aC))))) ([] : List aA) r0
theorem sC (p0 : (List aF)) (p1 : Int) (p2 : (List aF)) : Le (Option.map cJ (nR p0 p1 p2)) (aY SE 68 [.row 2000000000, .d (.int .i64 p1), .row 2000000001] [] [⟨aF.ks, 60, 32, (List.map aF.enc p0)⟩, ⟨aF.ks, 60, 32, (List.map aF.enc p2)⟩]) := ah4 (f := 68) (enc := aF.enc) rfl rfl p0 p1 p2
def ak0 (C : aO) (Λ2 J : Lam) (a0 : Int) (a1 : Bool) (a2 : (List D)) (a3 : (List D)) (a4 : (List D)) : Res := lab SE C Λ2 J 26 0 [1, 1, 1, 1, 0] (aZ [(2, .ptr 1000000000 0), (3, .ptr 1000000001 0), (4, .ptr 1000000002 0), (8, .d (.int .i64 a0)), (9, .d (.bool a1))] [⟨38, (List.map AV.d a2)⟩, ⟨60, (List.map AV.d a3)⟩, ⟨38, (List.map AV.d a4)⟩] [] [] [])
section
variable (Γ : Fun) (γ66 : Gm (Int)) (γ67 : Gm (Int × Bool)) (γ50 : Gm (aD)) (γ68 : Gm ((List aF))) (Λ2 J : Lam)
def C26 : aO := bA (bA (bA (bA (aP Γ) 66 eP γ66) 67 lK γ67) 50 bU γ50) 68 cJ γ68
theorem T26 (p0 : aD) (p1 : aF) : bD SE (C26 Γ γ66 γ67 γ50 γ68) Λ2 J 26 [aD.av p0, aF.av p1] [] [] =
 γ66 [aF.av p1] [] [] fun r0 =>
 cond (r0 != 0) (
 (some (.ret [.agg [.d (.str ([] : Str)), .d (.str ([] : Str)), .d (.bool false), .d (.int .i64 0), .d (.int .i64 0), .d (.int .i64 0), .d (.int .i64 0), .row 0, .row 1, .d (.int .i64 0), .row 2, .row 3, .d (.int .i64 0), .row 4, .d (.bool false), .d (.int .i64 0), .d (.str ([] : Str)), .d (.str ([] : Str)), .d (.int .i64 0), .d (.bool false), .d (.int .i64 0), .d (.int .i64 0), .d (.str ([] : Str)), .d (.int .i64 0), .row 5], .d (.bool false), .d (.int .i64 r0)] [] [⟨aF.ks, 60, 32, (List.map aF.enc [])⟩, ⟨aA.ks, 34, 112, (List.map aA.enc [])⟩, ⟨aB.ks, 122, 128, (List.map aB.enc [])⟩, ⟨[.int .i64], 3, 8, (List.map (encI .i64) [])⟩, ⟨[.int .i64], 3, 8, (List.map (encI .i64) [])⟩, ⟨aC.ks, 130, 32, (List.map aC.enc [])⟩]))) (
 γ67 [.d (.sl aF.ks (List.map aF.enc p0.Subs)), .d (.str p1.Filter)] [] [] fun r1 =>
 cond (!r1.2) (
 cond (decide ((List.length (List.map aF.enc p0.Subs) : Int) ≥ 32)) (
  (some (.ret [.agg [.d (.str ([] : Str)), .d (.str ([] : Str)), .d (.bool false), .d (.int .i64 0), .d (.int .i64 0), .d (.int .i64 0), .d (.int .i64 0), .row 0, .row 1, .d (.int .i64 0), .row 2, .row 3, .d (.int .i64 0), .row 4, .d (.bool false), .d (.int .i64 0), .d (.str ([] : Str)), .d (.str ([] : Str)), .d (.int .i64 0), .d (.bool false), .d (.int .i64 0), .d (.int .i64 0), .d (.str ([] : Str)), .d (.int .i64 0), .row 5], .d (.bool false), .d (.int .i64 6)] [] [⟨aF.ks, 60, 32, (List.map aF.enc [])⟩, ⟨aA.ks, 34, 112, (List.map aA.enc [])⟩, ⟨aB.ks, 122, 128, (List.map aB.enc [])⟩, ⟨[.int .i64], 3, 8, (List.map (encI .i64) [])⟩, ⟨[.int .i64], 3, 8, (List.map (encI .i64) [])⟩, ⟨aC.ks, 130, 32, (List.map aC.enc [])⟩]))) (
 ak0 (C26 Γ γ66 γ67 γ50 γ68) Λ2 J r1.1 r1.2 (aD.enc p0) (aF.enc p1) [D.str ([] : Str), D.str ([] : Str), D.bool false, D.int .i64 0, D.int .i64 0, D.int .i64 0, D.int .i64 0, D.sl aF.ks (List.map aF.enc []), D.sl aA.ks (List.map aA.enc []), D.int .i64 0, D.sl aB.ks (List.map aB.enc []), D.sl [.int .i64] (List.map (encI .i64) []), D.int .i64 0, D.sl [.int .i64] (List.map (encI .i64) []), D.bool false, D.int .i64 0, D.str ([] : Str), D.str ([] : Str), D.int .i64 0, D.bool false, D.int .i64 0, D.int .i64 0, D.str ([] : Str), D.int .i64 0, D.sl aC.ks (List.map aC.enc [])])) (
 ak0 (C26 Γ γ66 γ67 γ50 γ68) Λ2 J r1.1 r1.2 (aD.enc p0) (aF.enc p1) [D.str ([] : Str), D.str ([] : Str), D.bool false, D.int .i64 0, D.int .i64 0, D.int .i64 0, D.int .i64 0, D.sl aF.ks (List.map aF.enc []), D.sl aA.ks (List.map aA.enc []), D.int .i64 0, D.sl aB.ks (List.map aB.enc []), D.sl [.int .i64] (List.map (encI .i64) []), D.int .i64 0, D.sl [.int .i64] (List.map (encI .i64) []), D.bool false, D.int .i64 0, D.str ([] : Str), D.str ([] : Str), D.int .i64 0, D.bool false, D.int .i64 0, D.int .i64 0, D.str ([] : Str), D.int .i64 0, D.sl aC.ks (List.map aC.enc [])])) := by kernel_rfl
theorem asC (x8 : Int) (x9 : Bool) (b0 : aD) (b1 : aF) (b2 : aD) : cB SE (C26 Γ γ66 γ67 γ50 γ68) Λ2 J 26 0 [1, 1, 1, 1, 0] (aZ [(2, .ptr 1000000000 0), (3, .ptr 1000000001 0), (4, .ptr 1000000002 0), (8, .d (.int .i64 x8)), (9, .d (.bool x9))] [⟨38, (List.map AV.d (aD.enc b0))⟩, ⟨60, (List.map AV.d (aF.enc b1))⟩, ⟨38, (List.map AV.d (aD.enc b2))⟩] [] [] []) =
 γ50 [aD.av b0] [] [] fun r2 =>
 cond x9 (
 cond (decide (0 ≤ x8) && decide (x8 < (List.length (List.map aF.enc r2.Subs) : Int))) (
  (some (.ret [.agg [.d (.str r2.Client), .d (.str r2.User), .d (.bool r2.Online), .d (.int .i64 r2.Conn), .d (.int .i64 r2.Expiry), .d (.int .i64 r2.Until), .d (.int .i64 r2.Dropped), .row 0, .row 1, .d (.int .i64 r2.Out.Limit), .row 2, .row 3, .d (.int .i64 r2.Out.Pool.Last), .row 4, .d (.bool r2.Will.Set), .d (.int .i64 r2.Will.Delay), .d (.str r2.Will.Message.Topic), .d (.str r2.Will.Message.Payload), .d (.int .i64 r2.Will.Message.Level), .d (.bool r2.Will.Message.Retain), .d (.int .i64 r2.Will.Message.Priority), .d (.int .i64 r2.Will.Message.Expires), .d (.str r2.Will.Message.From), .d (.int .i64 r2.Will.Message.Seq), .row 5], .d (.bool x9), .d (.int .i64 0)] [] [⟨aF.ks, 60, 32, (gT (List.map aF.enc r2.Subs) (Int.toNat x8) 0 (aF.enc b1))⟩, ⟨aA.ks, 34, 112, (List.map aA.enc r2.Queue)⟩, ⟨aB.ks, 122, 128, (List.map aB.enc r2.Out.Items)⟩, ⟨[.int .i64], 3, 8, (List.map (encI .i64) r2.Out.Pool.Used)⟩, ⟨[.int .i64], 3, 8, (List.map (encI .i64) r2.In.IDs)⟩, ⟨aC.ks, 130, 32, (List.map aC.enc r2.Will.Message.Props)⟩]))) none) (
 γ68 [.row 2000000000, .d (.int .i64 x8), .row 2000000001] [] [⟨aF.ks, 60, 32, (List.map aF.enc r2.Subs)⟩, ⟨aF.ks, 60, 32, (List.map aF.enc [b1])⟩] fun r3 =>
 (some (.ret [.agg [.d (.str r2.Client), .d (.str r2.User), .d (.bool r2.Online), .d (.int .i64 r2.Conn), .d (.int .i64 r2.Expiry), .d (.int .i64 r2.Until), .d (.int .i64 r2.Dropped), .row 0, .row 1, .d (.int .i64 r2.Out.Limit), .row 2, .row 3, .d (.int .i64 r2.Out.Pool.Last), .row 4, .d (.bool r2.Will.Set), .d (.int .i64 r2.Will.Delay), .d (.str r2.Will.Message.Topic), .d (.str r2.Will.Message.Payload), .d (.int .i64 r2.Will.Message.Level), .d (.bool r2.Will.Message.Retain), .d (.int .i64 r2.Will.Message.Priority), .d (.int .i64 r2.Will.Message.Expires), .d (.str r2.Will.Message.From), .d (.int .i64 r2.Will.Message.Seq), .row 5], .d (.bool x9), .d (.int .i64 0)] [] [⟨aF.ks, 60, 32, (List.map aF.enc r3)⟩, ⟨aA.ks, 34, 112, (List.map aA.enc r2.Queue)⟩, ⟨aB.ks, 122, 128, (List.map aB.enc r2.Out.Items)⟩, ⟨[.int .i64], 3, 8, (List.map (encI .i64) r2.Out.Pool.Used)⟩, ⟨[.int .i64], 3, 8, (List.map (encI .i64) r2.In.IDs)⟩, ⟨aC.ks, 130, 32, (List.map aC.enc r2.Will.Message.Props)⟩]))) := by kernel_rfl
end
abbrev X26 : aO := C26 gG (cT 66 eP) (cT 67 lK) (cT 50 bU) (cT 68 cJ)
theorem aql : X26 = aP gG := by unfold X26 C26; rw [aK fun _ h => h, aK fun _ h => h, aK fun _ h => h, aK fun _ h => h]
noncomputable abbrev auk (a0 : Int) (a1 : Bool) (a2 : (List D)) (a3 : (List D)) (a4 : (List D)) : Res := ak0 X26 (bV SE gG (SE.hl 26) (SE.hr 26)) (J0 SE X26) a0 a1 a2 a3 a4
theorem kR (x8 : Int) (x9 : Bool) (b0 : aD) (b1 : aF) (b2 : aD) : Le (Option.map eE (m0 x8 x9 b0 b1 b2)) (auk x8 x9 (aD.enc b0) (aF.enc b1) (aD.enc b2)) := by
 refine Le.trans ?_ (le_of_eq ((bC aql).trans (asC _ _ _ _ _ _ _  x8 x9 b0 b1 b2)).symm)
 unfold m0
 refine aM (good := good) eX iH (jJ _) fun r2 _ => ?_
 refine lC ?_ ?_
 ·refine lG (by simp only [EN]) ?_
  exact aH (by first | rfl | simp only [EN, eE] <;> rfl)
 ·refine aM (good := good) eX rN (sC _ _ _) fun r3 _ => ?_
  exact aH rfl
theorem ac4 (p0 : aD) (p1 : aF) : Le (Option.map eE (sY p0 p1)) (aY SE 26 [aD.av p0, aF.av p1] [] []) := by
 refine aR aql rfl ?_
 refine Le.trans ?_ (le_of_eq (T26 _ _ _ _ _ _ _  p0 p1).symm)
 unfold sY
 refine aM (good := good) eX vD (qT _) fun r0 _ => ?_
 refine lC ?_ ?_
 ·exact aH rfl
 ·refine aM (good := good) eX afy (agd _ _) fun r1 _ => ?_
  refine lC ?_ ?_
  ·refine lD (by simp only [EN]) ?_ ?_
   ·exact aH rfl
   ·first | (simp only [EN]; exact kR r1.1 r1.2 p0 p1 ((aD.mk ([] : Str) ([] : Str) false 0 0 0 0 ([] : List aF) ([] : List aA) (aG.mk 0 ([] : List aB) (aJ.mk ([] : List Int) 0)) (aS.mk ([] : List Int)) (aN.mk false 0 (aA.mk ([] : Str) ([] : Str) 0 false 0 0 ([] : Str) 0 ([] : List aC)))))) | exact kR r1.1 r1.2 p0 p1 ((aD.mk ([] : Str) ([] : Str) false 0 0 0 0 ([] : List aF) ([] : List aA) (aG.mk 0 ([] : List aB) (aJ.mk ([] : List Int) 0)) (aS.mk ([] : List Int)) (aN.mk false 0 (aA.mk ([] : Str) ([] : Str) 0 false 0 0 ([] : Str) 0 ([] : List aC)))))
  ·first | (simp only [EN]; exact kR r1.1 r1.2 p0 p1 ((aD.mk ([] : Str) ([] : Str) false 0 0 0 0 ([] : List aF) ([] : List aA) (aG.mk 0 ([] : List aB) (aJ.mk ([] : List Int) 0)) (aS.mk ([] : List Int)) (aN.mk false 0 (aA.mk ([] : Str) ([] : Str) 0 false 0 0 ([] : Str) 0 ([] : List aC)))))) | exact kR r1.1 r1.2 p0 p1 ((aD.mk ([] : Str) ([] : Str) false 0 0 0 0 ([] : List aF) ([] : List aA) (aG.mk 0 ([] : List aB) (aJ.mk ([] : List Int) 0)) (aS.mk ([] : List Int)) (aN.mk false 0 (aA.mk ([] : Str) ([] : Str) 0 false 0 0 ([] : Str) 0 ([] : List aC)))))
section
variable (Γ : Fun)  (Λ2 J : Lam)
def C51 : aO := aP Γ
theorem T51 (p0 : aD) (p1 : Int) : bD SE (C51 Γ) Λ2 J 51 [aD.av p0, .d (.int .i64 p1)] [] [] =
 (some (.ret [aD.av (aD.mk p0.Client p0.User p0.Online p0.Conn p0.Expiry p0.Until (if 1099511627776 < (IntKind.wrap .i64 (p0.Dropped + p1)) then 1099511627776 else (IntKind.wrap .i64 (p0.Dropped + p1))) p0.Subs p0.Queue p0.Out p0.In p0.Will)] [] [])) := by kernel_rfl
end
abbrev X51 : aO := C51 gG
theorem avG : X51 = aP gG := rfl
theorem j1 (p0 : aD) (p1 : Int) : Le (Option.map dF (l5 p0 p1)) (aY SE 51 [aD.av p0, .d (.int .i64 p1)] [] []) := by
 refine aR avG rfl ?_
 refine Le.trans ?_ (le_of_eq (T51 _ _ _  p0 p1).symm)
 unfold l5
 exact aH rfl
section
variable (Γ : Fun)  (Λ2 J : Lam)
def asn : aO := aP Γ
theorem awl (p0 : aA) : bD SE (asn Γ) Λ2 J 106 [aA.av p0] [] [] =
 cond (decide (List.length (List.map aC.enc p0.Props) * 32 ≤ 140737488355328)) (
 (some (.ret [.agg [.d (.str p0.Topic), .d (.str p0.Payload), .d (.int .i64 p0.Level), .d (.bool p0.Retain), .d (.int .i64 p0.Priority), .d (.int .i64 p0.Expires), .d (.str p0.From), .d (.int .i64 p0.Seq), .row 0]] [] [⟨aC.ks, 130, 32, (List.map aC.enc p0.Props)⟩]))) none := by kernel_rfl
end
abbrev auS : aO := asn gG
theorem atA : auS = aP gG := rfl
theorem nD (p0 : aA) : Le (Option.map iS (oW p0)) (aY SE 106 [aA.av p0] [] []) := by
 refine aR atA rfl ?_
 refine Le.trans ?_ (le_of_eq (awl _ _ _  p0).symm)
 unfold oW
 refine lG (by simp only [EN]) ?_
 exact aH rfl
def akl (C : aO) (Λ2 J : Lam) (a0 : (List (List D))) (a1 : Int) (a2 : Int) (a3 : (List (List D))) : Res := lab SE C Λ2 J 105 0 [1, 1, 0, 1, 0] (aZ [(5, .row 3005), (13, .d (.sl aA.ks a0)), (14, .d (.int .i64 a1)), (15, .d (.int .i64 a2))] [] [] [] [(3005, ⟨aA.ks, 34, 112, a3⟩)])
section
variable (Γ : Fun) (γ106 : Gm (aA)) (Λ2 J : Lam)
def ahz : aO := bA (aP Γ) 106 iS γ106
theorem auI (p0 : (List aA)) (p1 : Int) : bD SE (ahz Γ γ106) Λ2 J 105 [.d (.sl aA.ks (List.map aA.enc p0)), .d (.int .i64 p1)] [] [] =
 cond (decide (0 ≤ 0) && decide (0 ≤ (IntKind.wrap .i64 ((List.length (List.map aA.enc p0) : Int) + p1))) && decide ((IntKind.wrap .i64 ((List.length (List.map aA.enc p0) : Int) + p1)) * 112 ≤ 281474976710656)) (
 akl (ahz Γ γ106) Λ2 J (List.map aA.enc p0) (List.length (List.map aA.enc p0) : Int) 0 (List.map aA.enc [])) none := by kernel_rfl
theorem aqx (x13 : (List aA)) (x14 : Int) (x15 : Int) (w3005 : (List aA)) : cB SE (ahz Γ γ106) Λ2 J 105 0 [1, 1, 0, 1, 0] (aZ [(5, .row 3005), (13, .d (.sl aA.ks (List.map aA.enc x13))), (14, .d (.int .i64 x14)), (15, .d (.int .i64 x15))] [] [] [] [(3005, ⟨aA.ks, 34, 112, (List.map aA.enc w3005)⟩)]) =
 cond (decide (x15 < x14)) (
 cond (decide (0 ≤ x15) && decide (x15 < (List.length (List.map aA.enc x13) : Int))) (
  γ106 [.agg [.d (.str (aV (cellAt (elemAt (List.map aA.enc x13) (Int.toNat x15)) 0))), .d (.str (aV (cellAt (elemAt (List.map aA.enc x13) (Int.toNat x15)) 1))), .d (.int .i64 (aL (cellAt (elemAt (List.map aA.enc x13) (Int.toNat x15)) 2))), .d (.bool (bB (cellAt (elemAt (List.map aA.enc x13) (Int.toNat x15)) 3))), .d (.int .i64 (aL (cellAt (elemAt (List.map aA.enc x13) (Int.toNat x15)) 4))), .d (.int .i64 (aL (cellAt (elemAt (List.map aA.enc x13) (Int.toNat x15)) 5))), .d (.str (aV (cellAt (elemAt (List.map aA.enc x13) (Int.toNat x15)) 6))), .d (.int .i64 (aL (cellAt (elemAt (List.map aA.enc x13) (Int.toNat x15)) 7))), .d (.sl aC.ks (dSl (cellAt (elemAt (List.map aA.enc x13) (Int.toNat x15)) 8)))]] [] [] fun r0 =>
  cond (decide ((List.length (List.map aA.enc w3005) + List.length (List.map aA.enc [r0])) * 112 ≤ 140737488355328)) (
  akl (ahz Γ γ106) Λ2 J (List.map aA.enc x13) x14 (IntKind.wrap .i64 (x15 + 1)) (((List.map aA.enc w3005) ++ (List.map aA.enc [r0])))) none) none) (
 (some (.ret [.row 0] [] [⟨aA.ks, 34, 112, (List.map aA.enc w3005)⟩]))) := by kernel_rfl
end
abbrev alT : aO := ahz gG (cT 106 iS)
theorem aoF : alT = aP gG := by unfold alT ahz; rw [aK fun _ h => h]
noncomputable abbrev aqS (a0 : (List (List D))) (a1 : Int) (a2 : Int) (a3 : (List (List D))) : Res := akl alT (bV SE gG (SE.hl 105) (SE.hr 105)) (J0 SE alT) a0 a1 a2 a3
theorem aac : ∀ (fu : Nat) (x13 : (List aA)) (x14 : Int) (x15 : Int) (w3005 : (List aA)), Le (Option.map lE (tP fu x13 x14 x15 w3005)) (aqS (List.map aA.enc x13) x14 x15 (List.map aA.enc w3005)) := by
 intro fu
 induction fu with
 | zero => intros; exact le_none
 | succ fu ih =>
  intro x13 x14 x15 w3005
  refine Le.trans ?_ (le_of_eq ((bC aoF).trans (aqx _ _ _ _  x13 x14 x15 w3005)).symm)
  unfold tP
  refine lC ?_ ?_
  ·refine lG (by simp only [EN]) ?_
   refine aM (good := good) eX oF (by first | (simp only [EN]; exact nD (List.getD x13 (Int.toNat x15) default)) | exact nD (List.getD x13 (Int.toNat x15) default)) fun r0 _ => ?_
   refine lG (by simp only [EN]) ?_
   first | (simp only [EN]; exact ih x13 x14 (IntKind.wrap .i64 (x15 + 1)) (w3005 ++ [r0])) | exact ih x13 x14 (IntKind.wrap .i64 (x15 + 1)) (w3005 ++ [r0])
  ·exact aH rfl
theorem aiF (p0 : (List aA)) (p1 : Int) : Le (Option.map lE (acz p0 p1)) (aY SE 105 [.d (.sl aA.ks (List.map aA.enc p0)), .d (.int .i64 p1)] [] []) := by
 refine aR aoF rfl ?_
 refine Le.trans ?_ (le_of_eq (auI _ _ _ _  p0 p1).symm)
 unfold acz
 refine lG (by simp only [EN]) ?_
 first | (simp only [EN]; exact aac fuel p0 (List.length p0 : Int) 0 ([] : List aA)) | exact aac fuel p0 (List.length p0 : Int) 0 ([] : List aA)
def aoK (C : aO) (Λ2 J : Lam) (a0 : (List D)) (a1 : (List (List D))) : Res := lab SE C Λ2 J 52 0 [1, 1, 1, 1, 0] (aZ [(5, .ptr 1000000000 0), (11, .row 3011)] [⟨34, (List.map AV.d a0)⟩] [] [] [(3011, ⟨aA.ks, 34, 112, a1⟩)])
section
variable (Γ : Fun) (γ105 : Gm ((List aA))) (γ106 : Gm (aA)) (Λ2 J : Lam)
def C52 : aO := bA (bA (aP Γ) 105 lE γ105) 106 iS γ106
theorem T52 (p0 : (List aA)) (p1 : aA) (p2 : Int) (p3 : Int) : bD SE (C52 Γ γ105 γ106) Λ2 J 52 [.d (.sl aA.ks (List.map aA.enc p0)), aA.av p1, .d (.int .i64 p2), .d (.int .i64 p3)] [] [] =
 γ105 [.d (.sl aA.ks (List.map aA.enc p0)), .d (.int .i64 1)] [] [] fun r0 =>
 cond (decide ((List.length (List.map aA.enc p0) : Int) < p2)) (
 γ106 [aA.av p1] [] [] fun r1 =>
 cond (decide ((List.length (List.map aA.enc r0) + List.length (List.map aA.enc [r1])) * 112 ≤ 140737488355328)) (
  (some (.ret [.row 0, .row 1, .d (.bool false)] [] [⟨aA.ks, 34, 112, ((List.map aA.enc r0) ++ (List.map aA.enc [r1]))⟩, ⟨aA.ks, 34, 112, []⟩]))) none) (
 cond (p3 != 1) (
 γ106 [aA.av p1] [] [] fun r2 =>
 (some (.ret [.row 0, .row 1, .d (.bool (p3 == 3))] [] [⟨aA.ks, 34, 112, (List.map aA.enc r0)⟩, ⟨aA.ks, 34, 112, (List.map aA.enc [r2])⟩]))) (
 cond (decide (p2 < 1)) (
 γ106 [aA.av p1] [] [] fun r3 =>
 (some (.ret [.row 0, .row 1, .d (.bool (p3 == 3))] [] [⟨aA.ks, 34, 112, (List.map aA.enc r0)⟩, ⟨aA.ks, 34, 112, (List.map aA.enc [r3])⟩]))) (
 aoK (C52 Γ γ105 γ106) Λ2 J (aA.enc p1) (List.map aA.enc r0)))) := by kernel_rfl
theorem auc (b0 : aA) (w3011 : (List aA)) : cB SE (C52 Γ γ105 γ106) Λ2 J 52 0 [1, 1, 1, 1, 0] (aZ [(5, .ptr 1000000000 0), (11, .row 3011)] [⟨34, (List.map AV.d (aA.enc b0))⟩] [] [] [(3011, ⟨aA.ks, 34, 112, (List.map aA.enc w3011)⟩)]) =
 cond (decide (0 ≤ 0) && decide (0 < (List.length (List.map aA.enc w3011) : Int))) (
 cond (decide (0 ≤ 1) && decide (1 ≤ ((List.length (List.map aA.enc w3011)) : Int))) (
  γ106 [aA.av b0] [] [] fun r4 =>
  cond (decide (0 ≤ (IntKind.wrap .i64 ((List.length (List.take (List.length (List.map aA.enc w3011)) (List.take ((List.length (List.map aA.enc w3011)) - (Int.toNat 1)) (List.drop (Int.toNat 1) (List.map aA.enc w3011))) ++ List.drop (min (List.length (List.take ((List.length (List.map aA.enc w3011)) - (Int.toNat 1)) (List.drop (Int.toNat 1) (List.map aA.enc w3011)))) (List.length (List.map aA.enc w3011))) (List.map aA.enc w3011)) : Int) - 1))) && decide ((IntKind.wrap .i64 ((List.length (List.take (List.length (List.map aA.enc w3011)) (List.take ((List.length (List.map aA.enc w3011)) - (Int.toNat 1)) (List.drop (Int.toNat 1) (List.map aA.enc w3011))) ++ List.drop (min (List.length (List.take ((List.length (List.map aA.enc w3011)) - (Int.toNat 1)) (List.drop (Int.toNat 1) (List.map aA.enc w3011)))) (List.length (List.map aA.enc w3011))) (List.map aA.enc w3011)) : Int) - 1)) < (List.length (List.take (List.length (List.map aA.enc w3011)) (List.take ((List.length (List.map aA.enc w3011)) - (Int.toNat 1)) (List.drop (Int.toNat 1) (List.map aA.enc w3011))) ++ List.drop (min (List.length (List.take ((List.length (List.map aA.enc w3011)) - (Int.toNat 1)) (List.drop (Int.toNat 1) (List.map aA.enc w3011)))) (List.length (List.map aA.enc w3011))) (List.map aA.enc w3011)) : Int))) (
  (some (.ret [.row 0, .row 1, .d (.bool false)] [] [⟨aA.ks, 34, 112, (gT (List.take (List.length (List.map aA.enc w3011)) (List.take ((List.length (List.map aA.enc w3011)) - (Int.toNat 1)) (List.drop (Int.toNat 1) (List.map aA.enc w3011))) ++ List.drop (min (List.length (List.take ((List.length (List.map aA.enc w3011)) - (Int.toNat 1)) (List.drop (Int.toNat 1) (List.map aA.enc w3011)))) (List.length (List.map aA.enc w3011))) (List.map aA.enc w3011)) (Int.toNat (IntKind.wrap .i64 ((List.length (List.take (List.length (List.map aA.enc w3011)) (List.take ((List.length (List.map aA.enc w3011)) - (Int.toNat 1)) (List.drop (Int.toNat 1) (List.map aA.enc w3011))) ++ List.drop (min (List.length (List.take ((List.length (List.map aA.enc w3011)) - (Int.toNat 1)) (List.drop (Int.toNat 1) (List.map aA.enc w3011)))) (List.length (List.map aA.enc w3011))) (List.map aA.enc w3011)) : Int) - 1))) 0 (aA.enc r4))⟩, ⟨aA.ks, 34, 112, [[D.str (aV (cellAt (elemAt (List.map aA.enc w3011) (Int.toNat 0)) 0)), D.str (aV (cellAt (elemAt (List.map aA.enc w3011) (Int.toNat 0)) 1)), D.int .i64 (aL (cellAt (elemAt (List.map aA.enc w3011) (Int.toNat 0)) 2)), D.bool (bB (cellAt (elemAt (List.map aA.enc w3011) (Int.toNat 0)) 3)), D.int .i64 (aL (cellAt (elemAt (List.map aA.enc w3011) (Int.toNat 0)) 4)), D.int .i64 (aL (cellAt (elemAt (List.map aA.enc w3011) (Int.toNat 0)) 5)), D.str (aV (cellAt (elemAt (List.map aA.enc w3011) (Int.toNat 0)) 6)), D.int .i64 (aL (cellAt (elemAt (List.map aA.enc w3011) (Int.toNat 0)) 7)), D.sl aC.ks (dSl (cellAt (elemAt (List.map aA.enc w3011) (Int.toNat 0)) 8))]]⟩]))) none) none) none := by kernel_rfl
end
abbrev X52 : aO := C52 gG (cT 105 lE) (cT 106 iS)
theorem aqD : X52 = aP gG := by unfold X52 C52; rw [aK fun _ h => h, aK fun _ h => h]
noncomputable abbrev atW (a0 : (List D)) (a1 : (List (List D))) : Res := aoK X52 (bV SE gG (SE.hl 52) (SE.hr 52)) (J0 SE X52) a0 a1
theorem agb (b0 : aA) (w3011 : (List aA)) : Le (Option.map jF (aaq b0 w3011)) (atW (aA.enc b0) (List.map aA.enc w3011)) := by
 refine Le.trans ?_ (le_of_eq ((bC aqD).trans (auc _ _ _ _ _  b0 w3011)).symm)
 unfold aaq
 refine lG (by simp only [EN]) ?_
 refine lG (by simp only [EN]) ?_
 refine aM (good := good) eX oF (nD _) fun r4 _ => ?_
 refine lG (by simp only [EN]) ?_
 exact aH (by first | rfl | simp only [EN, jF] <;> rfl)
theorem aj1 (p0 : (List aA)) (p1 : aA) (p2 : Int) (p3 : Int) : Le (Option.map jF (ad4 p0 p1 p2 p3)) (aY SE 52 [.d (.sl aA.ks (List.map aA.enc p0)), aA.av p1, .d (.int .i64 p2), .d (.int .i64 p3)] [] []) := by
 refine aR aqD rfl ?_
 refine Le.trans ?_ (le_of_eq (T52 _ _ _ _ _  p0 p1 p2 p3).symm)
 unfold ad4
 refine aM (good := good) eX ahN (aiF _ _) fun r0 _ => ?_
 refine lD (by simp only [EN]) ?_ ?_
 ·refine aM (good := good) eX oF (nD _) fun r1 _ => ?_
  refine lG (by simp only [EN]) ?_
  exact aH (by first | rfl | simp only [EN, jF] <;> rfl)
 ·refine lC ?_ ?_
  ·refine aM (good := good) eX oF (nD _) fun r2 _ => ?_
   exact aH rfl
  ·refine lC ?_ ?_
   ·refine aM (good := good) eX oF (nD _) fun r3 _ => ?_
    exact aH rfl
   ·exact agb p1 r0
def ak6 (C : aO) (Λ2 J : Lam) (a0 : Int) (a1 : Int) (a2 : (List D)) (a3 : (List D)) (a4 : (List D)) (a5 : Str) (a6 : Str) (a7 : Bool) (a8 : Int) (a9 : Int) (a10 : Int) (a11 : Int) (a12 : Int) (a13 : Int) (a14 : Bool) (a15 : Int) (a16 : Str) (a17 : Str) (a18 : Int) (a19 : Bool) (a20 : Int) (a21 : Int) (a22 : Str) (a23 : Int) (a24 : (List (List D))) (a25 : (List (List D))) (a26 : (List (List D))) (a27 : (List (List D))) (a28 : (List (List D))) (a29 : (List (List D))) : Res := lab SE C Λ2 J 15 0 [1, 1, 1, 0] (aZ [(2, .d (.int .i64 a0)), (3, .d (.int .i64 a1)), (4, .ptr 1000000000 0), (5, .ptr 1000000001 0), (8, .ptr 1000000002 0), (10, .ptr 1000000003 0)] [⟨38, (List.map AV.d a2)⟩, ⟨34, (List.map AV.d a3)⟩, ⟨38, (List.map AV.d a4)⟩, ⟨38, [.d (.str a5), .d (.str a6), .d (.bool a7), .d (.int .i64 a8), .d (.int .i64 a9), .d (.int .i64 a10), .d (.int .i64 a11), .row 50307, .row 50308, .d (.int .i64 a12), .row 50310, .row 50311, .d (.int .i64 a13), .row 50313, .d (.bool a14), .d (.int .i64 a15), .d (.str a16), .d (.str a17), .d (.int .i64 a18), .d (.bool a19), .d (.int .i64 a20), .d (.int .i64 a21), .d (.str a22), .d (.int .i64 a23), .row 50324]⟩] [] [] [(50307, ⟨aF.ks, 60, 32, a24⟩), (50308, ⟨aA.ks, 34, 112, a25⟩), (50310, ⟨aB.ks, 122, 128, a26⟩), (50311, ⟨[.int .i64], 3, 8, a27⟩), (50313, ⟨[.int .i64], 3, 8, a28⟩), (50324, ⟨aC.ks, 130, 32, a29⟩)])
section
variable (Γ : Fun) (γ50 : Gm (aD)) (γ51 : Gm (aD)) (γ52 : Gm ((List aA) × (List aA) × Bool)) (Λ2 J : Lam)
def C15 : aO := bA (bA (bA (aP Γ) 50 bU γ50) 51 dF γ51) 52 jF γ52
theorem T15 (p0 : aD) (p1 : aA) (p2 : Int) (p3 : Int) : bD SE (C15 Γ γ50 γ51 γ52) Λ2 J 15 [aD.av p0, aA.av p1, .d (.int .i64 p2), .d (.int .i64 p3)] [] [] =
 γ50 [aD.av p0] [] [] fun r0 =>
 cond (!p0.Online) (
 cond (p1.Level == 0) (
  γ51 [aD.av r0, .d (.int .i64 1)] [] [] fun r1 =>
  (some (.ret [aD.av r1, .d (.bool false)] [] []))) (
 ak6 (C15 Γ γ50 γ51 γ52) Λ2 J p2 p3 (aD.enc p0) (aA.enc p1) [D.str ([] : Str), D.str ([] : Str), D.bool false, D.int .i64 0, D.int .i64 0, D.int .i64 0, D.int .i64 0, D.sl aF.ks (List.map aF.enc []), D.sl aA.ks (List.map aA.enc []), D.int .i64 0, D.sl aB.ks (List.map aB.enc []), D.sl [.int .i64] (List.map (encI .i64) []), D.int .i64 0, D.sl [.int .i64] (List.map (encI .i64) []), D.bool false, D.int .i64 0, D.str ([] : Str), D.str ([] : Str), D.int .i64 0, D.bool false, D.int .i64 0, D.int .i64 0, D.str ([] : Str), D.int .i64 0, D.sl aC.ks (List.map aC.enc [])] r0.Client r0.User r0.Online r0.Conn r0.Expiry r0.Until r0.Dropped r0.Out.Limit r0.Out.Pool.Last r0.Will.Set r0.Will.Delay r0.Will.Message.Topic r0.Will.Message.Payload r0.Will.Message.Level r0.Will.Message.Retain r0.Will.Message.Priority r0.Will.Message.Expires r0.Will.Message.From r0.Will.Message.Seq (List.map aF.enc r0.Subs) (List.map aA.enc r0.Queue) (List.map aB.enc r0.Out.Items) (List.map (encI .i64) r0.Out.Pool.Used) (List.map (encI .i64) r0.In.IDs) (List.map aC.enc r0.Will.Message.Props))) (
 ak6 (C15 Γ γ50 γ51 γ52) Λ2 J p2 p3 (aD.enc p0) (aA.enc p1) [D.str ([] : Str), D.str ([] : Str), D.bool false, D.int .i64 0, D.int .i64 0, D.int .i64 0, D.int .i64 0, D.sl aF.ks (List.map aF.enc []), D.sl aA.ks (List.map aA.enc []), D.int .i64 0, D.sl aB.ks (List.map aB.enc []), D.sl [.int .i64] (List.map (encI .i64) []), D.int .i64 0, D.sl [.int .i64] (List.map (encI .i64) []), D.bool false, D.int .i64 0, D.str ([] : Str), D.str ([] : Str), D.int .i64 0, D.bool false, D.int .i64 0, D.int .i64 0, D.str ([] : Str), D.int .i64 0, D.sl aC.ks (List.map aC.enc [])] r0.Client r0.User r0.Online r0.Conn r0.Expiry r0.Until r0.Dropped r0.Out.Limit r0.Out.Pool.Last r0.Will.Set r0.Will.Delay r0.Will.Message.Topic r0.Will.Message.Payload r0.Will.Message.Level r0.Will.Message.Retain r0.Will.Message.Priority r0.Will.Message.Expires r0.Will.Message.From r0.Will.Message.Seq (List.map aF.enc r0.Subs) (List.map aA.enc r0.Queue) (List.map aB.enc r0.Out.Items) (List.map (encI .i64) r0.Out.Pool.Used) (List.map (encI .i64) r0.In.IDs) (List.map aC.enc r0.Will.Message.Props)) := by kernel_rfl
theorem atp (x2 : Int) (x3 : Int) (b0 : aD) (b1 : aA) (b2 : aD) (b3_0 : Str) (b3_1 : Str) (b3_2 : Bool) (b3_3 : Int) (b3_4 : Int) (b3_5 : Int) (b3_6 : Int) (b3_9 : Int) (b3_12 : Int) (b3_14 : Bool) (b3_15 : Int) (b3_16 : Str) (b3_17 : Str) (b3_18 : Int) (b3_19 : Bool) (b3_20 : Int) (b3_21 : Int) (b3_22 : Str) (b3_23 : Int) (w50307 : (List aF)) (w50308 : (List aA)) (w50310 : (List aB)) (w50311 : (List Int)) (w50313 : (List Int)) (w50324 : (List aC)) : cB SE (C15 Γ γ50 γ51 γ52) Λ2 J 15 0 [1, 1, 1, 0] (aZ [(2, .d (.int .i64 x2)), (3, .d (.int .i64 x3)), (4, .ptr 1000000000 0), (5, .ptr 1000000001 0), (8, .ptr 1000000002 0), (10, .ptr 1000000003 0)] [⟨38, (List.map AV.d (aD.enc b0))⟩, ⟨34, (List.map AV.d (aA.enc b1))⟩, ⟨38, (List.map AV.d (aD.enc b2))⟩, ⟨38, [.d (.str b3_0), .d (.str b3_1), .d (.bool b3_2), .d (.int .i64 b3_3), .d (.int .i64 b3_4), .d (.int .i64 b3_5), .d (.int .i64 b3_6), .row 50307, .row 50308, .d (.int .i64 b3_9), .row 50310, .row 50311, .d (.int .i64 b3_12), .row 50313, .d (.bool b3_14), .d (.int .i64 b3_15), .d (.str b3_16), .d (.str b3_17), .d (.int .i64 b3_18), .d (.bool b3_19), .d (.int .i64 b3_20), .d (.int .i64 b3_21), .d (.str b3_22), .d (.int .i64 b3_23), .row 50324]⟩] [] [] [(50307, ⟨aF.ks, 60, 32, (List.map aF.enc w50307)⟩), (50308, ⟨aA.ks, 34, 112, (List.map aA.enc w50308)⟩), (50310, ⟨aB.ks, 122, 128, (List.map aB.enc w50310)⟩), (50311, ⟨[.int .i64], 3, 8, (List.map (encI .i64) w50311)⟩), (50313, ⟨[.int .i64], 3, 8, (List.map (encI .i64) w50313)⟩), (50324, ⟨aC.ks, 130, 32, (List.map aC.enc w50324)⟩)]) =
 γ52 [.d (.sl aA.ks (List.map aA.enc w50308)), aA.av b1, .d (.int .i64 (if 256 < x2 then 256 else x2)), .d (.int .i64 x3)] [] [] fun r2 =>
 γ51 [aD.av (aD.mk b3_0 b3_1 b3_2 b3_3 b3_4 b3_5 b3_6 w50307 r2.1 (aG.mk b3_9 w50310 (aJ.mk w50311 b3_12)) (aS.mk w50313) (aN.mk b3_14 b3_15 (aA.mk b3_16 b3_17 b3_18 b3_19 b3_20 b3_21 b3_22 b3_23 w50324))), .d (.int .i64 (List.length (List.map aA.enc r2.2.1) : Int))] [] [] fun r3 =>
 cond r2.2.2 (
 (some (.ret [aD.av r3, .d (.bool b0.Online)] [] []))) (
 (some (.ret [aD.av r3, .d (.bool false)] [] []))) := by kernel_rfl
end
abbrev X15 : aO := C15 gG (cT 50 bU) (cT 51 dF) (cT 52 jF)
theorem aqt : X15 = aP gG := by unfold X15 C15; rw [aK fun _ h => h, aK fun _ h => h, aK fun _ h => h]
noncomputable abbrev atL (a0 : Int) (a1 : Int) (a2 : (List D)) (a3 : (List D)) (a4 : (List D)) (a5 : Str) (a6 : Str) (a7 : Bool) (a8 : Int) (a9 : Int) (a10 : Int) (a11 : Int) (a12 : Int) (a13 : Int) (a14 : Bool) (a15 : Int) (a16 : Str) (a17 : Str) (a18 : Int) (a19 : Bool) (a20 : Int) (a21 : Int) (a22 : Str) (a23 : Int) (a24 : (List (List D))) (a25 : (List (List D))) (a26 : (List (List D))) (a27 : (List (List D))) (a28 : (List (List D))) (a29 : (List (List D))) : Res := ak6 X15 (bV SE gG (SE.hl 15) (SE.hr 15)) (J0 SE X15) a0 a1 a2 a3 a4 a5 a6 a7 a8 a9 a10 a11 a12 a13 a14 a15 a16 a17 a18 a19 a20 a21 a22 a23 a24 a25 a26 a27 a28 a29
theorem nW (x2 : Int) (x3 : Int) (b0 : aD) (b1 : aA) (b2 : aD) (b3_0 : Str) (b3_1 : Str) (b3_2 : Bool) (b3_3 : Int) (b3_4 : Int) (b3_5 : Int) (b3_6 : Int) (b3_9 : Int) (b3_12 : Int) (b3_14 : Bool) (b3_15 : Int) (b3_16 : Str) (b3_17 : Str) (b3_18 : Int) (b3_19 : Bool) (b3_20 : Int) (b3_21 : Int) (b3_22 : Str) (b3_23 : Int) (w50307 : (List aF)) (w50308 : (List aA)) (w50310 : (List aB)) (w50311 : (List Int)) (w50313 : (List Int)) (w50324 : (List aC)) : Le (Option.map iQ (qD x2 x3 b0 b1 b2 b3_0 b3_1 b3_2 b3_3 b3_4 b3_5 b3_6 b3_9 b3_12 b3_14 b3_15 b3_16 b3_17 b3_18 b3_19 b3_20 b3_21 b3_22 b3_23 w50307 w50308 w50310 w50311 w50313 w50324)) (atL x2 x3 (aD.enc b0) (aA.enc b1) (aD.enc b2) b3_0 b3_1 b3_2 b3_3 b3_4 b3_5 b3_6 b3_9 b3_12 b3_14 b3_15 b3_16 b3_17 b3_18 b3_19 b3_20 b3_21 b3_22 b3_23 (List.map aF.enc w50307) (List.map aA.enc w50308) (List.map aB.enc w50310) (List.map (encI .i64) w50311) (List.map (encI .i64) w50313) (List.map aC.enc w50324)) := by
 refine Le.trans ?_ (le_of_eq ((bC aqt).trans (atp _ _ _ _ _ _  x2 x3 b0 b1 b2 b3_0 b3_1 b3_2 b3_3 b3_4 b3_5 b3_6 b3_9 b3_12 b3_14 b3_15 b3_16 b3_17 b3_18 b3_19 b3_20 b3_21 b3_22 b3_23 w50307 w50308 w50310 w50311 w50313 w50324)).symm)
 unfold qD
 refine aM (good := good) eX aiN (aj1 _ _ _ _) fun r2 _ => ?_
 refine aM (good := good) eX nX (by first | (simp only [EN]; exact j1 ((aD.mk b3_0 b3_1 b3_2 b3_3 b3_4 b3_5 b3_6 w50307 r2.1 (aG.mk b3_9 w50310 (aJ.mk w50311 b3_12)) (aS.mk w50313) (aN.mk b3_14 b3_15 (aA.mk b3_16 b3_17 b3_18 b3_19 b3_20 b3_21 b3_22 b3_23 w50324)))) (List.length r2.2.1 : Int)) | exact j1 ((aD.mk b3_0 b3_1 b3_2 b3_3 b3_4 b3_5 b3_6 w50307 r2.1 (aG.mk b3_9 w50310 (aJ.mk w50311 b3_12)) (aS.mk w50313) (aN.mk b3_14 b3_15 (aA.mk b3_16 b3_17 b3_18 b3_19 b3_20 b3_21 b3_22 b3_23 w50324)))) (List.length r2.2.1 : Int)) fun r3 _ => ?_
 refine lC ?_ ?_
 ·exact aH rfl
 ·exact aH rfl
theorem p9 (p0 : aD) (p1 : aA) (p2 : Int) (p3 : Int) : Le (Option.map iQ (tQ p0 p1 p2 p3)) (aY SE 15 [aD.av p0, aA.av p1, .d (.int .i64 p2), .d (.int .i64 p3)] [] []) := by
 refine aR aqt rfl ?_
 refine Le.trans ?_ (le_of_eq (T15 _ _ _ _ _ _  p0 p1 p2 p3).symm)
 unfold tQ
 refine aM (good := good) eX iH (jJ _) fun r0 _ => ?_
 refine lC ?_ ?_
 ·refine lC ?_ ?_
  ·refine aM (good := good) eX nX (j1 _ _) fun r1 _ => ?_
   exact aH rfl
  ·first | (simp only [EN]; exact nW p2 p3 p0 p1 ((aD.mk ([] : Str) ([] : Str) false 0 0 0 0 ([] : List aF) ([] : List aA) (aG.mk 0 ([] : List aB) (aJ.mk ([] : List Int) 0)) (aS.mk ([] : List Int)) (aN.mk false 0 (aA.mk ([] : Str) ([] : Str) 0 false 0 0 ([] : Str) 0 ([] : List aC))))) r0.Client r0.User r0.Online r0.Conn r0.Expiry r0.Until r0.Dropped r0.Out.Limit r0.Out.Pool.Last r0.Will.Set r0.Will.Delay r0.Will.Message.Topic r0.Will.Message.Payload r0.Will.Message.Level r0.Will.Message.Retain r0.Will.Message.Priority r0.Will.Message.Expires r0.Will.Message.From r0.Will.Message.Seq r0.Subs r0.Queue r0.Out.Items r0.Out.Pool.Used r0.In.IDs r0.Will.Message.Props) | exact nW p2 p3 p0 p1 ((aD.mk ([] : Str) ([] : Str) false 0 0 0 0 ([] : List aF) ([] : List aA) (aG.mk 0 ([] : List aB) (aJ.mk ([] : List Int) 0)) (aS.mk ([] : List Int)) (aN.mk false 0 (aA.mk ([] : Str) ([] : Str) 0 false 0 0 ([] : Str) 0 ([] : List aC))))) r0.Client r0.User r0.Online r0.Conn r0.Expiry r0.Until r0.Dropped r0.Out.Limit r0.Out.Pool.Last r0.Will.Set r0.Will.Delay r0.Will.Message.Topic r0.Will.Message.Payload r0.Will.Message.Level r0.Will.Message.Retain r0.Will.Message.Priority r0.Will.Message.Expires r0.Will.Message.From r0.Will.Message.Seq r0.Subs r0.Queue r0.Out.Items r0.Out.Pool.Used r0.In.IDs r0.Will.Message.Props
 ·first | (simp only [EN]; exact nW p2 p3 p0 p1 ((aD.mk ([] : Str) ([] : Str) false 0 0 0 0 ([] : List aF) ([] : List aA) (aG.mk 0 ([] : List aB) (aJ.mk ([] : List Int) 0)) (aS.mk ([] : List Int)) (aN.mk false 0 (aA.mk ([] : Str) ([] : Str) 0 false 0 0 ([] : Str) 0 ([] : List aC))))) r0.Client r0.User r0.Online r0.Conn r0.Expiry r0.Until r0.Dropped r0.Out.Limit r0.Out.Pool.Last r0.Will.Set r0.Will.Delay r0.Will.Message.Topic r0.Will.Message.Payload r0.Will.Message.Level r0.Will.Message.Retain r0.Will.Message.Priority r0.Will.Message.Expires r0.Will.Message.From r0.Will.Message.Seq r0.Subs r0.Queue r0.Out.Items r0.Out.Pool.Used r0.In.IDs r0.Will.Message.Props) | exact nW p2 p3 p0 p1 ((aD.mk ([] : Str) ([] : Str) false 0 0 0 0 ([] : List aF) ([] : List aA) (aG.mk 0 ([] : List aB) (aJ.mk ([] : List Int) 0)) (aS.mk ([] : List Int)) (aN.mk false 0 (aA.mk ([] : Str) ([] : Str) 0 false 0 0 ([] : Str) 0 ([] : List aC))))) r0.Client r0.User r0.Online r0.Conn r0.Expiry r0.Until r0.Dropped r0.Out.Limit r0.Out.Pool.Last r0.Will.Set r0.Will.Delay r0.Will.Message.Topic r0.Will.Message.Payload r0.Will.Message.Level r0.Will.Message.Retain r0.Will.Message.Priority r0.Will.Message.Expires r0.Will.Message.From r0.Will.Message.Seq r0.Subs r0.Queue r0.Out.Items r0.Out.Pool.Used r0.In.IDs r0.Will.Message.Props
section
variable (Γ : Fun)  (Λ2 J : Lam)
def ash : aO := aP Γ
theorem au9 (p0 : aA) (p1 : Int) : bD SE (ash Γ) Λ2 J 113 [aA.av p0, .d (.int .i64 p1)] [] [] =
 cond (p0.Expires != 0) (
 (some (.ret [.d (.bool (decide (p1 ≥ p0.Expires)))] [] []))) (
 (some (.ret [.d (.bool false)] [] []))) := by kernel_rfl
end
abbrev auA : aO := ash gG
theorem asz : auA = aP gG := rfl
theorem xZ (p0 : aA) (p1 : Int) : Le (Option.map jC (vC p0 p1)) (aY SE 113 [aA.av p0, .d (.int .i64 p1)] [] []) := by
 refine aR asz rfl ?_
 refine Le.trans ?_ (le_of_eq (au9 _ _ _  p0 p1).symm)
 unfold vC
 refine lC ?_ ?_
 ·exact aH rfl
 ·exact aH rfl
section
variable (Γ : Fun)  (Λ2 J : Lam)
def arT : aO := aP Γ
theorem auM (p0 : aG) : bD SE (arT Γ) Λ2 J 156 [aG.av p0] [] [] =
 (some (.ret [.d (.int .i64 (if 0 > (IntKind.wrap .i64 (p0.Limit - (List.length (List.map aB.enc p0.Items) : Int))) then 0 else (IntKind.wrap .i64 (p0.Limit - (List.length (List.map aB.enc p0.Items) : Int)))))] [] [])) := by kernel_rfl
end
abbrev awh : aO := arT gG
theorem aun : awh = aP gG := rfl
theorem afU (p0 : aG) : Le (Option.map iO (yB p0)) (aY SE 156 [aG.av p0] [] []) := by
 refine aR aun rfl ?_
 refine Le.trans ?_ (le_of_eq (auM _ _ _  p0).symm)
 unfold yB
 exact aH (by first | rfl | simp only [EN, iO] <;> rfl)
def ajv (C : aO) (Λ2 J : Lam) (a0 : Str) (a1 : Nat) : Res := lab SE C Λ2 J 169 0 [1, 1, 0, 1, 0] (aZ [(9, .it 4000)] [] [] [(4000, (a0, a1))] [])
section
variable (Γ : Fun) (γ161 : Gm (Bool)) (Λ2 J : Lam)
def ahF : aO := bA (aP Γ) 161 fM γ161
theorem auu (p0 : Str) : bD SE (ahF Γ γ161) Λ2 J 169 [.d (.str p0)] [] [] =
 γ161 [.d (.str p0)] [] [] fun r0 =>
 cond (!r0) (
 (some (.ret [.d (.bool false)] [] []))) (
 ajv (ahF Γ γ161) Λ2 J p0 0) := by kernel_rfl
theorem aqa (s4000 : Str) (i4000 : Nat) : cB SE (ahF Γ γ161) Λ2 J 169 0 [1, 1, 0, 1, 0] (aZ [(9, .it 4000)] [] [] [(4000, (s4000, i4000))] []) =
 cond (decide (i4000 < List.length s4000)) (
 cond (((dec s4000 i4000).1 : Int) == 43) (
  (some (.ret [.d (.bool false)] [] []))) (
 cond (((dec s4000 i4000).1 : Int) == 35) (
  (some (.ret [.d (.bool false)] [] []))) (
 ajv (ahF Γ γ161) Λ2 J s4000 (i4000 + (dec s4000 i4000).2)))) (
 (some (.ret [.d (.bool true)] [] []))) := by kernel_rfl
end
abbrev aln : aO := ahF gG (cT 161 fM)
theorem ao8 : aln = aP gG := by unfold aln ahF; rw [aK fun _ h => h]
noncomputable abbrev arB (a0 : Str) (a1 : Nat) : Res := ajv aln (bV SE gG (SE.hl 169) (SE.hr 169)) (J0 SE aln) a0 a1
theorem ae2 : ∀ (fu : Nat) (s4000 : Str) (i4000 : Nat), Le (Option.map kA (jN fu s4000 i4000)) (arB s4000 i4000) := by
 intro fu
 induction fu with
 | zero => intros; exact le_none
 | succ fu ih =>
  intro s4000 i4000
  refine Le.trans ?_ (le_of_eq ((bC ao8).trans (aqa _ _ _ _  s4000 i4000)).symm)
  unfold jN
  refine lC ?_ ?_
  ·refine lC ?_ ?_
   ·exact aH rfl
   ·refine lC ?_ ?_
    ·exact aH rfl
    ·exact ih s4000 (i4000 + (dec s4000 i4000).2)
  ·exact aH rfl
theorem ahQ (p0 : Str) : Le (Option.map kA (tE p0)) (aY SE 169 [.d (.str p0)] [] []) := by
 refine aR ao8 rfl ?_
 refine Le.trans ?_ (le_of_eq (auu _ _ _ _  p0).symm)
 unfold tE
 refine aM (good := good) eX aa1 (ack _) fun r0 _ => ?_
 refine lC ?_ ?_
 ·exact aH rfl
 ·exact ae2 fuel p0 0
section
variable (Γ : Fun)  (Λ2 J : Lam)
def aq8 : aO := aP Γ
theorem au1 (p0 : Int) (p1 : Int) : bD SE (aq8 Γ) Λ2 J 170 [.d (.int .i64 p0), .d (.int .i64 p1)] [] [] =
 cond (decide (p0 ≥ 0)) (
 (some (.ret [.d (.bool (decide (p0 ≤ p1)))] [] []))) (
 (some (.ret [.d (.bool false)] [] []))) := by kernel_rfl
end
abbrev auU : aO := aq8 gG
theorem atN : auU = aP gG := rfl
theorem qK (p0 : Int) (p1 : Int) : Le (Option.map nC (mV p0 p1)) (aY SE 170 [.d (.int .i64 p0), .d (.int .i64 p1)] [] []) := by
 refine aR atN rfl ?_
 refine Le.trans ?_ (le_of_eq (au1 _ _ _  p0 p1).symm)
 unfold mV
 refine lC ?_ ?_
 ·exact aH rfl
 ·exact aH rfl
def vN (C : aO) (Λ2 J : Lam) (a0 : Str) (a1 : Int) : Res := lab SE C Λ2 J 184 0 [1, 1, 0, 1, 0] (aZ [(0, .d (.str a0)), (3, .d (.int .i64 a1))] [] [] [] [])
def amH (C : aO) (Λ2 J : Lam) (a0 : Str) : Res := lab SE C Λ2 J 184 0 [1, 1, 0, 0] (aZ [(0, .d (.str a0))] [] [] [] [])
section
variable (Γ : Fun)  (Λ2 J : Lam)
def wQ : aO := aP Γ
theorem auy (p0 : Str) : bD SE (wQ Γ) Λ2 J 184 [.d (.str p0)] [] [] =
 cond (decide ((List.length p0 : Int) < 1)) (
 (some (.ret [.d (.bool false)] [] []))) (
 cond (decide ((List.length p0 : Int) > 16)) (
 (some (.ret [.d (.bool false)] [] []))) (
 amH (wQ Γ) Λ2 J p0)) := by kernel_rfl
theorem aq5 (x0 : Str) (x3 : Int) : cB SE (wQ Γ) Λ2 J 184 0 [1, 1, 0, 1, 0] (aZ [(0, .d (.str x0)), (3, .d (.int .i64 x3))] [] [] [] []) =
 cond (decide (x3 < (List.length x0 : Int))) (
 cond (decide (0 ≤ x3) && decide (x3 < (List.length x0 : Int))) (
  cond (decide ((UInt8.toNat (List.getD x0 (Int.toNat x3) 0) : Int) < 97)) (
  cond (decide ((UInt8.toNat (List.getD x0 (Int.toNat x3) 0) : Int) < 48)) (
   cond ((UInt8.toNat (List.getD x0 (Int.toNat x3) 0) : Int) != 45) (
   (some (.ret [.d (.bool false)] [] []))) (
   vN (wQ Γ) Λ2 J x0 (IntKind.wrap .i64 (x3 + 1)))) (
  cond (decide ((UInt8.toNat (List.getD x0 (Int.toNat x3) 0) : Int) > 57)) (
   cond ((UInt8.toNat (List.getD x0 (Int.toNat x3) 0) : Int) != 45) (
   (some (.ret [.d (.bool false)] [] []))) (
   vN (wQ Γ) Λ2 J x0 (IntKind.wrap .i64 (x3 + 1)))) (
  vN (wQ Γ) Λ2 J x0 (IntKind.wrap .i64 (x3 + 1))))) (
  cond (decide ((UInt8.toNat (List.getD x0 (Int.toNat x3) 0) : Int) > 122)) (
  cond (decide ((UInt8.toNat (List.getD x0 (Int.toNat x3) 0) : Int) < 48)) (
   cond ((UInt8.toNat (List.getD x0 (Int.toNat x3) 0) : Int) != 45) (
   (some (.ret [.d (.bool false)] [] []))) (
   vN (wQ Γ) Λ2 J x0 (IntKind.wrap .i64 (x3 + 1)))) (
  cond (decide ((UInt8.toNat (List.getD x0 (Int.toNat x3) 0) : Int) > 57)) (
   cond ((UInt8.toNat (List.getD x0 (Int.toNat x3) 0) : Int) != 45) (
   (some (.ret [.d (.bool false)] [] []))) (
   vN (wQ Γ) Λ2 J x0 (IntKind.wrap .i64 (x3 + 1)))) (
  vN (wQ Γ) Λ2 J x0 (IntKind.wrap .i64 (x3 + 1))))) (
  vN (wQ Γ) Λ2 J x0 (IntKind.wrap .i64 (x3 + 1))))) none) (
 (some (.ret [.d (.bool true)] [] []))) := by kernel_rfl
theorem aqf (x0 : Str) : cB SE (wQ Γ) Λ2 J 184 0 [1, 1, 0, 0] (aZ [(0, .d (.str x0))] [] [] [] []) =
 vN (wQ Γ) Λ2 J x0 0 := by kernel_rfl
end
abbrev aj4 : aO := wQ gG
theorem ak5 : aj4 = aP gG := rfl
noncomputable abbrev arU (a0 : Str) (a1 : Int) : Res := vN aj4 (bV SE gG (SE.hl 184) (SE.hr 184)) (J0 SE aj4) a0 a1
noncomputable abbrev aqz (a0 : Str) : Res := amH aj4 (bV SE gG (SE.hl 184) (SE.hr 184)) (J0 SE aj4) a0
theorem afc : ∀ (fu : Nat) (x0 : Str) (x3 : Int), Le (Option.map iT (dO fu x0 x3)) (arU x0 x3) := by
 intro fu
 induction fu with
 | zero => intros; exact le_none
 | succ fu ih =>
  intro x0 x3
  refine Le.trans ?_ (le_of_eq ((bC ak5).trans (aq5 _ _ _  x0 x3)).symm)
  unfold dO
  refine lC ?_ ?_
  ·refine lF ?_
   refine lC ?_ ?_
   ·refine lC ?_ ?_
    ·refine lC ?_ ?_
     ·exact aH rfl
     ·exact ih x0 (IntKind.wrap .i64 (x3 + 1))
    ·refine lC ?_ ?_
     ·refine lC ?_ ?_
      ·exact aH rfl
      ·exact ih x0 (IntKind.wrap .i64 (x3 + 1))
     ·exact ih x0 (IntKind.wrap .i64 (x3 + 1))
   ·refine lC ?_ ?_
    ·refine lC ?_ ?_
     ·refine lC ?_ ?_
      ·exact aH rfl
      ·exact ih x0 (IntKind.wrap .i64 (x3 + 1))
     ·refine lC ?_ ?_
      ·refine lC ?_ ?_
       ·exact aH rfl
       ·exact ih x0 (IntKind.wrap .i64 (x3 + 1))
      ·exact ih x0 (IntKind.wrap .i64 (x3 + 1))
    ·exact ih x0 (IntKind.wrap .i64 (x3 + 1))
  ·exact aH rfl
theorem ae3 (x0 : Str) : Le (Option.map iT (sM x0)) (aqz x0) := by
 refine Le.trans ?_ (le_of_eq ((bC ak5).trans (aqf _ _ _  x0)).symm)
 unfold sM
 exact afc fuel x0 0
theorem abZ (p0 : Str) : Le (Option.map iT (s9 p0)) (aY SE 184 [.d (.str p0)] [] []) := by
 refine aR ak5 rfl ?_
 refine Le.trans ?_ (le_of_eq (auy _ _ _  p0).symm)
 unfold s9
 refine lC ?_ ?_
 ·exact aH rfl
 ·refine lC ?_ ?_
  ·exact aH rfl
  ·exact ae3 p0
def ahf (C : aO) (Λ2 J : Lam) (a0 : (List (List D))) (a1 : (List (List D))) (a2 : Int) (a3 : Int) : Res := lab SE C Λ2 J 171 0 [1, 1, 0, 1, 0] (aZ [(0, .d (.sl aC.ks a0)), (8, .d (.sl aC.ks a1)), (9, .d (.int .i64 a2)), (10, .d (.int .i64 a3))] [] [] [] [])
section
variable (Γ : Fun) (γ184 : Gm (Bool)) (Λ2 J : Lam)
def afF : aO := bA (aP Γ) 184 iT γ184
theorem awn (p0 : (List aC)) : bD SE (afF Γ γ184) Λ2 J 171 [.d (.sl aC.ks (List.map aC.enc p0))] [] [] =
 cond (decide ((List.length (List.map aC.enc p0) : Int) > 8)) (
 (some (.ret [.d (.int .i64 5)] [] []))) (
 ahf (afF Γ γ184) Λ2 J (List.map aC.enc p0) (List.map aC.enc p0) (List.length (List.map aC.enc p0) : Int) 0) := by kernel_rfl
theorem aqh (x0 : (List aC)) (x8 : (List aC)) (x9 : Int) (x10 : Int) : cB SE (afF Γ γ184) Λ2 J 171 0 [1, 1, 0, 1, 0] (aZ [(0, .d (.sl aC.ks (List.map aC.enc x0))), (8, .d (.sl aC.ks (List.map aC.enc x8))), (9, .d (.int .i64 x9)), (10, .d (.int .i64 x10))] [] [] [] []) =
 cond (decide (x10 < x9)) (
 cond (decide (0 ≤ x10) && decide (x10 < (List.length (List.map aC.enc x8) : Int))) (
  γ184 [.d (.str (aV (cellAt (elemAt (List.map aC.enc x8) (Int.toNat x10)) 0)))] [] [] fun r0 =>
  cond (!r0) (
  (some (.ret [.d (.int .i64 16)] [] []))) (
  cond (decide ((List.length (aV (cellAt (elemAt (List.map aC.enc x8) (Int.toNat x10)) 1)) : Int) > 160)) (
  (some (.ret [.d (.int .i64 5)] [] []))) (
  cond (decide (x10 > 0)) (
  cond (decide (0 ≤ (IntKind.wrap .i64 (x10 - 1))) && decide ((IntKind.wrap .i64 (x10 - 1)) < (List.length (List.map aC.enc x0) : Int))) (
   cond (Op.bytesLess (aV (cellAt (elemAt (List.map aC.enc x8) (Int.toNat x10)) 0)) (aV (cellAt (elemAt (List.map aC.enc x0) (Int.toNat (IntKind.wrap .i64 (x10 - 1)))) 0)) || (aV (cellAt (elemAt (List.map aC.enc x8) (Int.toNat x10)) 0)) == (aV (cellAt (elemAt (List.map aC.enc x0) (Int.toNat (IntKind.wrap .i64 (x10 - 1)))) 0))) (
   (some (.ret [.d (.int .i64 16)] [] []))) (
   ahf (afF Γ γ184) Λ2 J (List.map aC.enc x0) (List.map aC.enc x8) x9 (IntKind.wrap .i64 (x10 + 1)))) none) (
  ahf (afF Γ γ184) Λ2 J (List.map aC.enc x0) (List.map aC.enc x8) x9 (IntKind.wrap .i64 (x10 + 1)))))) none) (
 (some (.ret [.d (.int .i64 0)] [] []))) := by kernel_rfl
end
abbrev alz : aO := afF gG (cT 184 iT)
theorem aoG : alz = aP gG := by unfold alz afF; rw [aK fun _ h => h]
noncomputable abbrev aqG (a0 : (List (List D))) (a1 : (List (List D))) (a2 : Int) (a3 : Int) : Res := ahf alz (bV SE gG (SE.hl 171) (SE.hr 171)) (J0 SE alz) a0 a1 a2 a3
theorem vZ : ∀ (fu : Nat) (x0 : (List aC)) (x8 : (List aC)) (x9 : Int) (x10 : Int), Le (Option.map iL (hX fu x0 x8 x9 x10)) (aqG (List.map aC.enc x0) (List.map aC.enc x8) x9 x10) := by
 intro fu
 induction fu with
 | zero => intros; exact le_none
 | succ fu ih =>
  intro x0 x8 x9 x10
  refine Le.trans ?_ (le_of_eq ((bC aoG).trans (aqh _ _ _ _  x0 x8 x9 x10)).symm)
  unfold hX
  refine lC ?_ ?_
  ·refine lG (by simp only [EN]) ?_
   refine aM (good := good) eX agf (by first | (simp only [EN]; exact abZ ((List.getD x8 (Int.toNat x10) default).Key)) | exact abZ ((List.getD x8 (Int.toNat x10) default).Key)) fun r0 _ => ?_
   refine lC ?_ ?_
   ·exact aH rfl
   ·refine lD (by simp only [EN]) ?_ ?_
    ·exact aH rfl
    ·refine lC ?_ ?_
     ·refine lG (by simp only [EN]) ?_
      refine lD (by simp only [EN]) ?_ ?_
      ·exact aH rfl
      ·exact ih x0 x8 x9 (IntKind.wrap .i64 (x10 + 1))
     ·exact ih x0 x8 x9 (IntKind.wrap .i64 (x10 + 1))
  ·exact aH rfl
theorem aaf (p0 : (List aC)) : Le (Option.map iL (n5 p0)) (aY SE 171 [.d (.sl aC.ks (List.map aC.enc p0))] [] []) := by
 refine aR aoG rfl ?_
 refine Le.trans ?_ (le_of_eq (awn _ _ _ _  p0).symm)
 unfold n5
 refine lD (by simp only [EN]) ?_ ?_
 ·exact aH rfl
 ·first | (simp only [EN]; exact vZ fuel p0 p0 (List.length p0 : Int) 0) | exact vZ fuel p0 p0 (List.length p0 : Int) 0
section
variable (Γ : Fun) (γ169 : Gm (Bool)) (γ170 : Gm (Bool)) (γ139 : Gm (Bool)) (γ171 : Gm (Int)) (Λ2 J : Lam)
def an7 : aO := bA (bA (bA (bA (aP Γ) 169 kA γ169) 170 nC γ170) 139 dD γ139) 171 iL γ171
theorem avx (p0 : aA) : bD SE (an7 Γ γ169 γ170 γ139 γ171) Λ2 J 141 [aA.av p0] [] [] =
 γ169 [.d (.str p0.Topic)] [] [] fun r0 =>
 cond (!r0) (
 (some (.ret [.d (.int .i64 12)] [] []))) (
 cond (decide ((List.length p0.Payload : Int) > 256)) (
 (some (.ret [.d (.int .i64 5)] [] []))) (
 γ170 [.d (.int .i64 p0.Level), .d (.int .i64 2)] [] [] fun r1 =>
 cond (!r1) (
 (some (.ret [.d (.int .i64 14)] [] []))) (
 γ170 [.d (.int .i64 p0.Priority), .d (.int .i64 9)] [] [] fun r2 =>
 cond (!r2) (
 (some (.ret [.d (.int .i64 1)] [] []))) (
 γ170 [.d (.int .i64 p0.Expires), .d (.int .i64 1099511627776)] [] [] fun r3 =>
 cond (!r3) (
 (some (.ret [.d (.int .i64 1)] [] []))) (
 cond (!(p0.From == ([] : Str))) (
 γ139 [.d (.str p0.From)] [] [] fun r4 =>
 cond (!r4) (
  (some (.ret [.d (.int .i64 11)] [] []))) (
 γ170 [.d (.int .i64 p0.Seq), .d (.int .i64 1099511627776)] [] [] fun r5 =>
 cond (!r5) (
  (some (.ret [.d (.int .i64 1)] [] []))) (
 γ171 [.d (.sl aC.ks (List.map aC.enc p0.Props))] [] [] fun r6 =>
 (some (.ret [.d (.int .i64 r6)] [] []))))) (
 γ170 [.d (.int .i64 p0.Seq), .d (.int .i64 1099511627776)] [] [] fun r7 =>
 cond (!r7) (
 (some (.ret [.d (.int .i64 1)] [] []))) (
 γ171 [.d (.sl aC.ks (List.map aC.enc p0.Props))] [] [] fun r8 =>
 (some (.ret [.d (.int .i64 r8)] [] []))))))))) := by kernel_rfl
end
abbrev aq1 : aO := an7 gG (cT 169 kA) (cT 170 nC) (cT 139 dD) (cT 171 iL)
theorem as4 : aq1 = aP gG := by unfold aq1 an7; rw [aK fun _ h => h, aK fun _ h => h, aK fun _ h => h, aK fun _ h => h]
theorem nS (p0 : aA) : Le (Option.map c8 (kL p0)) (aY SE 141 [aA.av p0] [] []) := by
 refine aR as4 rfl ?_
 refine Le.trans ?_ (le_of_eq (avx _ _ _ _ _ _ _  p0).symm)
 unfold kL
 refine aM (good := good) eX agV (ahQ _) fun r0 _ => ?_
 refine lC ?_ ?_
 ·exact aH rfl
 ·refine lC ?_ ?_
  ·exact aH rfl
  ·refine aM (good := good) eX pS (qK _ _) fun r1 _ => ?_
   refine lC ?_ ?_
   ·exact aH rfl
   ·refine aM (good := good) eX pS (qK _ _) fun r2 _ => ?_
    refine lC ?_ ?_
    ·exact aH rfl
    ·refine aM (good := good) eX pS (qK _ _) fun r3 _ => ?_
     refine lC ?_ ?_
     ·exact aH rfl
     ·refine lC ?_ ?_
      ·refine aM (good := good) eX sL (tO _) fun r4 _ => ?_
       refine lC ?_ ?_
       ·exact aH rfl
       ·refine aM (good := good) eX pS (qK _ _) fun r5 _ => ?_
        refine lC ?_ ?_
        ·exact aH rfl
        ·refine aM (good := good) eX yJ (aaf _) fun r6 _ => ?_
         exact aH rfl
      ·refine aM (good := good) eX pS (qK _ _) fun r7 _ => ?_
       refine lC ?_ ?_
       ·exact aH rfl
       ·refine aM (good := good) eX yJ (aaf _) fun r8 _ => ?_
        exact aH rfl
section
variable (Γ : Fun)  (Λ2 J : Lam)
def aqv : aO := aP Γ
theorem auC (p0 : Int) : bD SE (aqv Γ) Λ2 J 177 [.d (.int .i64 p0)] [] [] =
 (some (.ret [.d (.int .i64 (IntKind.wrap .i64 ((Int.tmod p0 65535) + 1)))] [] [])) := by kernel_rfl
end
abbrev avV : aO := aqv gG
theorem atY : avV = aP gG := rfl
theorem aiB (p0 : Int) : Le (Option.map nI (acR p0)) (aY SE 177 [.d (.int .i64 p0)] [] []) := by
 refine aR atY rfl ?_
 refine Le.trans ?_ (le_of_eq (auC _ _ _  p0).symm)
 unfold acR
 exact aH rfl
section
variable (Γ : Fun)  (Λ2 J : Lam)
def ard : aO := aP Γ
theorem av5 (p0 : Int) : bD SE (ard Γ) Λ2 J 191 [.d (.int .i64 p0)] [] [] =
 (some (.ret [.d (.bool (p0 != p0))] [] [])) := by kernel_rfl
end
abbrev avz : aO := ard gG
theorem asX : avz = aP gG := rfl
theorem yI (p0 : Int) : Le (Option.map jR (pL p0)) (aY SE 191 [.d (.int .i64 p0)] [] []) := by
 refine aR asX rfl ?_
 refine Le.trans ?_ (le_of_eq (av5 _ _ _  p0).symm)
 unfold pL
 exact aH rfl
section
variable (Γ : Fun) (γ191 : Gm (Bool)) (Λ2 J : Lam)
def aoB : aO := bA (aP Γ) 191 jR γ191
theorem avJ (p0 : Int) (p1 : Int) : bD SE (aoB Γ γ191) Λ2 J 185 [.d (.int .i64 p0), .d (.int .i64 p1)] [] [] =
 γ191 [.d (.int .i64 p0)] [] [] fun r0 =>
 cond r0 (
 γ191 [.d (.int .i64 p1)] [] [] fun r1 =>
 cond (!r1) (
  (some (.ret [.d (.bool true)] [] []))) (
 (some (.ret [.d (.bool (decide (p0 < p1)))] [] [])))) (
 (some (.ret [.d (.bool (decide (p0 < p1)))] [] []))) := by kernel_rfl
end
abbrev aq7 : aO := aoB gG (cT 191 jR)
theorem at3 : aq7 = aP gG := by unfold aq7 aoB; rw [aK fun _ h => h]
theorem aah (p0 : Int) (p1 : Int) : Le (Option.map kH (qH p0 p1)) (aY SE 185 [.d (.int .i64 p0), .d (.int .i64 p1)] [] []) := by
 refine aR at3 rfl ?_
 refine Le.trans ?_ (le_of_eq (avJ _ _ _ _  p0 p1).symm)
 unfold qH
 refine aM (good := good) eX xV (yI _) fun r0 _ => ?_
 refine lC ?_ ?_
 ·refine aM (good := good) eX xV (yI _) fun r1 _ => ?_
  refine lC ?_ ?_
  ·exact aH rfl
  ·exact aH rfl
 ·exact aH rfl
section
variable (Γ : Fun)  (Λ2 J : Lam)
def aqy : aO := aP Γ
theorem avR (p0 : Int) : bD SE (aqy Γ) Λ2 J 186 [.d (.int .i64 p0)] [] [] =
 (some (.ret [.d (.bool (p0 != p0))] [] [])) := by kernel_rfl
end
abbrev auL : aO := aqy gG
theorem aul : auL = aP gG := rfl
theorem pW (p0 : Int) : Le (Option.map gZ (kD p0)) (aY SE 186 [.d (.int .i64 p0)] [] []) := by
 refine aR aul rfl ?_
 refine Le.trans ?_ (le_of_eq (avR _ _ _  p0).symm)
 unfold kD
 exact aH rfl
def agE (C : aO) (Λ2 J : Lam) (a0 : (List (List D))) (a1 : Int) (a2 : Int) (a3 : Int) (a4 : Int) : Res := lab SE C Λ2 J 175 0 [1, 1, 1, 0, 0] (aZ [(0, .d (.sl [.int .i64] a0)), (1, .d (.int .i64 a1)), (6, .d (.int .i64 a2)), (7, .d (.int .i64 a3)), (8, .d (.int .i64 a4))] [] [] [] [])
section
variable (Γ : Fun) (γ185 : Gm (Bool)) (γ186 : Gm (Bool)) (Λ2 J : Lam)
def afW : aO := bA (bA (aP Γ) 185 kH γ185) 186 gZ γ186
theorem avY (p0 : (List Int)) (p1 : Int) : bD SE (afW Γ γ185 γ186) Λ2 J 175 [.d (.sl [.int .i64] (List.map (encI .i64) p0)), .d (.int .i64 p1)] [] [] =
 agE (afW Γ γ185 γ186) Λ2 J (List.map (encI .i64) p0) p1 (List.length (List.map (encI .i64) p0) : Int) 0 (List.length (List.map (encI .i64) p0) : Int) := by kernel_rfl
theorem aqI (x0 : (List Int)) (x1 : Int) (x6 : Int) (x7 : Int) (x8 : Int) : cB SE (afW Γ γ185 γ186) Λ2 J 175 0 [1, 1, 1, 0, 0] (aZ [(0, .d (.sl [.int .i64] (List.map (encI .i64) x0))), (1, .d (.int .i64 x1)), (6, .d (.int .i64 x6)), (7, .d (.int .i64 x7)), (8, .d (.int .i64 x8))] [] [] [] []) =
 cond (decide (x7 < x8)) (
 cond (decide (0 ≤ (IntKind.wrap .i64 (shr .u64 (IntKind.wrap .u64 (IntKind.wrap .i64 (x7 + x8))) 1))) && decide ((IntKind.wrap .i64 (shr .u64 (IntKind.wrap .u64 (IntKind.wrap .i64 (x7 + x8))) 1)) < (List.length (List.map (encI .i64) x0) : Int))) (
  γ185 [.d (.int .i64 (aL (cellAt (elemAt (List.map (encI .i64) x0) (Int.toNat (IntKind.wrap .i64 (shr .u64 (IntKind.wrap .u64 (IntKind.wrap .i64 (x7 + x8))) 1)))) 0))), .d (.int .i64 x1)] [] [] fun r0 =>
  cond r0 (
  agE (afW Γ γ185 γ186) Λ2 J (List.map (encI .i64) x0) x1 x6 (IntKind.wrap .i64 ((IntKind.wrap .i64 (shr .u64 (IntKind.wrap .u64 (IntKind.wrap .i64 (x7 + x8))) 1)) + 1)) x8) (
  agE (afW Γ γ185 γ186) Λ2 J (List.map (encI .i64) x0) x1 x6 x7 (IntKind.wrap .i64 (shr .u64 (IntKind.wrap .u64 (IntKind.wrap .i64 (x7 + x8))) 1)))) none) (
 cond (decide (x7 < x6)) (
 cond (decide (0 ≤ x7) && decide (x7 < (List.length (List.map (encI .i64) x0) : Int))) (
  cond ((aL (cellAt (elemAt (List.map (encI .i64) x0) (Int.toNat x7)) 0)) == x1) (
  (some (.ret [.d (.int .i64 x7), .d (.bool true)] [] []))) (
  cond (decide (0 ≤ x7) && decide (x7 < (List.length (List.map (encI .i64) x0) : Int))) (
  γ186 [.d (.int .i64 (aL (cellAt (elemAt (List.map (encI .i64) x0) (Int.toNat x7)) 0)))] [] [] fun r1 =>
  cond r1 (
   γ186 [.d (.int .i64 x1)] [] [] fun r2 =>
   (some (.ret [.d (.int .i64 x7), .d (.bool r2)] [] []))) (
  (some (.ret [.d (.int .i64 x7), .d (.bool false)] [] [])))) none)) none) (
 (some (.ret [.d (.int .i64 x7), .d (.bool false)] [] [])))) := by kernel_rfl
end
abbrev ak1 : aO := afW gG (cT 185 kH) (cT 186 gZ)
theorem ao2 : ak1 = aP gG := by unfold ak1 afW; rw [aK fun _ h => h, aK fun _ h => h]
noncomputable abbrev asj (a0 : (List (List D))) (a1 : Int) (a2 : Int) (a3 : Int) (a4 : Int) : Res := agE ak1 (bV SE gG (SE.hl 175) (SE.hr 175)) (J0 SE ak1) a0 a1 a2 a3 a4
theorem lT : ∀ (fu : Nat) (x0 : (List Int)) (x1 : Int) (x6 : Int) (x7 : Int) (x8 : Int), Le (Option.map bI (bR fu x0 x1 x6 x7 x8)) (asj (List.map (encI .i64) x0) x1 x6 x7 x8) := by
 intro fu
 induction fu with
 | zero => intros; exact le_none
 | succ fu ih =>
  intro x0 x1 x6 x7 x8
  refine Le.trans ?_ (le_of_eq ((bC ao2).trans (aqI _ _ _ _ _  x0 x1 x6 x7 x8)).symm)
  unfold bR
  refine lC ?_ ?_
  ·refine lG (by simp only [EN]) ?_
   refine aM (good := good) eX ae8 (by first | (simp only [EN]; exact aah (List.getD x0 (Int.toNat (IntKind.wrap .i64 (shr .u64 (IntKind.wrap .u64 (IntKind.wrap .i64 (x7 + x8))) 1))) default) x1) | exact aah (List.getD x0 (Int.toNat (IntKind.wrap .i64 (shr .u64 (IntKind.wrap .u64 (IntKind.wrap .i64 (x7 + x8))) 1))) default) x1) fun r0 _ => ?_
   refine lC ?_ ?_
   ·exact ih x0 x1 x6 (IntKind.wrap .i64 ((IntKind.wrap .i64 (shr .u64 (IntKind.wrap .u64 (IntKind.wrap .i64 (x7 + x8))) 1)) + 1)) x8
   ·exact ih x0 x1 x6 x7 (IntKind.wrap .i64 (shr .u64 (IntKind.wrap .u64 (IntKind.wrap .i64 (x7 + x8))) 1))
  ·refine lC ?_ ?_
   ·refine lG (by simp only [EN]) ?_
    refine lD (by simp only [EN]) ?_ ?_
    ·exact aH rfl
    ·refine lG (by simp only [EN]) ?_
     refine aM (good := good) eX uC (by first | (simp only [EN]; exact pW (List.getD x0 (Int.toNat x7) default)) | exact pW (List.getD x0 (Int.toNat x7) default)) fun r1 _ => ?_
     refine lC ?_ ?_
     ·refine aM (good := good) eX uC (pW _) fun r2 _ => ?_
      exact aH rfl
     ·exact aH rfl
   ·exact aH rfl
theorem jD (p0 : (List Int)) (p1 : Int) : Le (Option.map bI (cQ p0 p1)) (aY SE 175 [.d (.sl [.int .i64] (List.map (encI .i64) p0)), .d (.int .i64 p1)] [] []) := by
 refine aR ao2 rfl ?_
 refine Le.trans ?_ (le_of_eq (avY _ _ _ _ _  p0 p1).symm)
 unfold cQ
 first | (simp only [EN]; exact lT fuel p0 p1 (List.length p0 : Int) 0 (List.length p0 : Int)) | exact lT fuel p0 p1 (List.length p0 : Int) 0 (List.length p0 : Int)
end Te
end PX
