import Derived.Test.YtcfpheihkbkloaaGreatDoorTre1
set_option linter.unusedVariables false
set_option linter.unusedSimpArgs false
set_option linter.unusedVariables false
set_option linter.unusedSimpArgs false
set_option maxRecDepth 100000
noncomputable section
namespace PX
open Go
open Md
namespace Te
def C27 (Γ : Fun) (γ50 : Gm (Bool)) (γ51 : Gm (Bool)) (γ52 : Gm (Bool)) (γ53 : Gm (Bool)) (γ54 : Gm (Bool)) : CFun := updC (updC (updC (updC (updC (bindC Γ) 50 brokerref05_Same_out γ50) 51 brokerref06_SameWill_out γ51) 52 brokerref06_SameSubs_out γ52) 53 brokerref01_Same_out γ53) 54 brokerref06_SameNumbers_out γ54
def R27_5 (C : CFun) (Λ2 J : Lam) (a0 : (List D)) (a1 : (List D)) : Res := lab SE C Λ2 J 27 0 [1, 1, 1, 0] (stoOf [(2, .ptr 1000000000 0), (3, .ptr 1000000001 0)] [⟨33, (List.map AV.d a0)⟩, ⟨33, (List.map AV.d a1)⟩] [] [] [])
def R27_3 (C : CFun) (Λ2 J : Lam) (a0 : (List D)) (a1 : (List D)) : Res := lab SE C Λ2 J 27 0 [1, 1, 0, 0] (stoOf [(2, .ptr 1000000000 0), (3, .ptr 1000000001 0)] [⟨33, (List.map AV.d a0)⟩, ⟨33, (List.map AV.d a1)⟩] [] [] [])
theorem T27 (Γ : Fun) (γ50 : Gm (Bool)) (γ51 : Gm (Bool)) (γ52 : Gm (Bool)) (γ53 : Gm (Bool)) (γ54 : Gm (Bool)) (Λ2 J : Lam) (p0 : api_Packet) (p1 : api_Packet) : bodyC SE (C27 Γ γ50 γ51 γ52 γ53 γ54) Λ2 J 27 [api_Packet.av p0, api_Packet.av p1] [] [] =
 cond (p0.Kind != p1.Kind) (
 (some (.ret [.d (.bool false)] [] []))) (
 cond (p0.ID != p1.ID) (
 (some (.ret [.d (.bool false)] [] []))) (
 cond (p0.Dup != p1.Dup) (
 (some (.ret [.d (.bool false)] [] []))) (
 γ50 [api_Message.av p0.Message, api_Message.av p1.Message] [] [] fun r0 =>
 cond (!r0) (
 (some (.ret [.d (.bool false)] [] []))) (
 cond (!(p0.Client == p1.Client)) (
 (some (.ret [.d (.bool false)] [] []))) (
 cond (!(p0.User == p1.User)) (
 (some (.ret [.d (.bool false)] [] []))) (
 R27_3 (C27 Γ γ50 γ51 γ52 γ53 γ54) Λ2 J (api_Packet.enc p0) (api_Packet.enc p1))))))) := by kernel_rfl
theorem T27_5 (Γ : Fun) (γ50 : Gm (Bool)) (γ51 : Gm (Bool)) (γ52 : Gm (Bool)) (γ53 : Gm (Bool)) (γ54 : Gm (Bool)) (Λ2 J : Lam) (b0 : api_Packet) (b1 : api_Packet) : labU SE (C27 Γ γ50 γ51 γ52 γ53 γ54) Λ2 J 27 0 [1, 1, 1, 0] (stoOf [(2, .ptr 1000000000 0), (3, .ptr 1000000001 0)] [⟨33, (List.map AV.d (api_Packet.enc b0))⟩, ⟨33, (List.map AV.d (api_Packet.enc b1))⟩] [] [] []) =
 cond (b0.Present == b1.Present) (
 cond (b0.Code == b1.Code) (
  γ52 [.d (.sl api_Sub.ks (List.map api_Sub.enc b0.Subs)), .d (.sl api_Sub.ks (List.map api_Sub.enc b1.Subs))] [] [] fun r2 =>
  cond r2 (
  γ53 [.d (.sl [.str] (List.map encS b0.Filters)), .d (.sl [.str] (List.map encS b1.Filters))] [] [] fun r3 =>
  cond r3 (
   γ54 [.d (.sl [.int .i64] (List.map (encI .i64) b0.Codes)), .d (.sl [.int .i64] (List.map (encI .i64) b1.Codes))] [] [] fun r4 =>
   (some (.ret [.d (.bool r4)] [] []))) (
  (some (.ret [.d (.bool false)] [] [])))) (
  (some (.ret [.d (.bool false)] [] [])))) (
 (some (.ret [.d (.bool false)] [] [])))) (
 (some (.ret [.d (.bool false)] [] []))) := by kernel_rfl
theorem T27_3 (Γ : Fun) (γ50 : Gm (Bool)) (γ51 : Gm (Bool)) (γ52 : Gm (Bool)) (γ53 : Gm (Bool)) (γ54 : Gm (Bool)) (Λ2 J : Lam) (b0 : api_Packet) (b1 : api_Packet) : labU SE (C27 Γ γ50 γ51 γ52 γ53 γ54) Λ2 J 27 0 [1, 1, 0, 0] (stoOf [(2, .ptr 1000000000 0), (3, .ptr 1000000001 0)] [⟨33, (List.map AV.d (api_Packet.enc b0))⟩, ⟨33, (List.map AV.d (api_Packet.enc b1))⟩] [] [] []) =
 cond (b0.Clean != b1.Clean) (
 (some (.ret [.d (.bool false)] [] []))) (
 cond (b0.Keep != b1.Keep) (
 (some (.ret [.d (.bool false)] [] []))) (
 cond (b0.Expiry != b1.Expiry) (
 (some (.ret [.d (.bool false)] [] []))) (
 cond (b0.Window != b1.Window) (
 (some (.ret [.d (.bool false)] [] []))) (
 γ51 [api_Will.av b0.Will, api_Will.av b1.Will] [] [] fun r1 =>
 cond (!r1) (
 (some (.ret [.d (.bool false)] [] []))) (
 R27_5 (C27 Γ γ50 γ51 γ52 γ53 γ54) Λ2 J (api_Packet.enc b0) (api_Packet.enc b1)))))) := by kernel_rfl
abbrev X27 : CFun := C27 (callG SE good) (callT SE good 50 brokerref05_Same_out) (callT SE good 51 brokerref06_SameWill_out) (callT SE good 52 brokerref06_SameSubs_out) (callT SE good 53 brokerref01_Same_out) (callT SE good 54 brokerref06_SameNumbers_out)
theorem Cr27 : C27 (callG SE good) (callT SE good 50 brokerref05_Same_out) (callT SE good 51 brokerref06_SameWill_out) (callT SE good 52 brokerref06_SameSubs_out) (callT SE good 53 brokerref01_Same_out) (callT SE good 54 brokerref06_SameNumbers_out) = bindC (callG SE good) := by unfold C27; rw [updC_real (fun _ h => h), updC_real (fun _ h => h), updC_real (fun _ h => h), updC_real (fun _ h => h), updC_real (fun _ h => h)]
noncomputable abbrev Q27_5 (a0 : (List D)) (a1 : (List D)) : Res := R27_5 X27 (lam2 SE (callG SE good) (SE.hl 27) (SE.hr 27)) (J0 SE X27) a0 a1
noncomputable abbrev Q27_3 (a0 : (List D)) (a1 : (List D)) : Res := R27_3 X27 (lam2 SE (callG SE good) (SE.hl 27) (SE.hr 27)) (J0 SE X27) a0 a1
theorem brokerref06_Same_j5_ok (b0 : api_Packet) (b1 : api_Packet) : Le (Option.map brokerref06_Same_out (brokerref06_Same_j5 b0 b1)) (Q27_5 (api_Packet.enc b0) (api_Packet.enc b1)) := by
 refine Le.trans ?_ (le_of_eq ((lab_realC Cr27).trans (T27_5 _ _ _ _ _ _ _ _  b0 b1)).symm)
 unfold brokerref06_Same_j5
 refine lC ?_ ?_
 ·refine lC ?_ ?_
  ·refine le_call (good := good) eX brokerref06_SameSubs_inj (brokerref06_SameSubs_ok b0.Subs b1.Subs) (fun r2 _ => ?_)
   refine lC ?_ ?_
   ·refine le_call (good := good) eX brokerref01_Same_inj (brokerref01_Same_ok b0.Filters b1.Filters) (fun r3 _ => ?_)
    refine lC ?_ ?_
    ·refine le_call (good := good) eX brokerref06_SameNumbers_inj (brokerref06_SameNumbers_ok b0.Codes b1.Codes) (fun r4 _ => ?_)
     exact le_ret (by first | rfl | simp only [EN, brokerref06_Same_out] <;> rfl)
    ·exact le_ret (by first | rfl | simp only [EN, brokerref06_Same_out] <;> rfl)
   ·exact le_ret (by first | rfl | simp only [EN, brokerref06_Same_out] <;> rfl)
  ·exact le_ret (by first | rfl | simp only [EN, brokerref06_Same_out] <;> rfl)
 ·exact le_ret (by first | rfl | simp only [EN, brokerref06_Same_out] <;> rfl)
theorem brokerref06_Same_j3_ok (b0 : api_Packet) (b1 : api_Packet) : Le (Option.map brokerref06_Same_out (brokerref06_Same_j3 b0 b1)) (Q27_3 (api_Packet.enc b0) (api_Packet.enc b1)) := by
 refine Le.trans ?_ (le_of_eq ((lab_realC Cr27).trans (T27_3 _ _ _ _ _ _ _ _  b0 b1)).symm)
 unfold brokerref06_Same_j3
 refine lC ?_ ?_
 ·exact le_ret (by first | rfl | simp only [EN, brokerref06_Same_out] <;> rfl)
 ·refine lC ?_ ?_
  ·exact le_ret (by first | rfl | simp only [EN, brokerref06_Same_out] <;> rfl)
  ·refine lC ?_ ?_
   ·exact le_ret (by first | rfl | simp only [EN, brokerref06_Same_out] <;> rfl)
   ·refine lC ?_ ?_
    ·exact le_ret (by first | rfl | simp only [EN, brokerref06_Same_out] <;> rfl)
    ·refine le_call (good := good) eX brokerref06_SameWill_inj (brokerref06_SameWill_ok b0.Will b1.Will) (fun r1 _ => ?_)
     refine lC ?_ ?_
     ·exact le_ret (by first | rfl | simp only [EN, brokerref06_Same_out] <;> rfl)
     ·exact brokerref06_Same_j5_ok b0 b1
theorem brokerref06_Same_ok (p0 : api_Packet) (p1 : api_Packet) : Le (Option.map brokerref06_Same_out (brokerref06_Same p0 p1)) (callW SE 27 [api_Packet.av p0, api_Packet.av p1] [] []) := by
 refine le_bodyC Cr27 rfl ?_
 refine Le.trans ?_ (le_of_eq (T27 _ _ _ _ _ _ _ _  p0 p1).symm)
 unfold brokerref06_Same
 refine lC ?_ ?_
 ·exact le_ret (by first | rfl | simp only [EN, brokerref06_Same_out] <;> rfl)
 ·refine lC ?_ ?_
  ·exact le_ret (by first | rfl | simp only [EN, brokerref06_Same_out] <;> rfl)
  ·refine lC ?_ ?_
   ·exact le_ret (by first | rfl | simp only [EN, brokerref06_Same_out] <;> rfl)
   ·refine le_call (good := good) eX brokerref05_Same_inj (brokerref05_Same_ok p0.Message p1.Message) (fun r0 _ => ?_)
    refine lC ?_ ?_
    ·exact le_ret (by first | rfl | simp only [EN, brokerref06_Same_out] <;> rfl)
    ·refine lC ?_ ?_
     ·exact le_ret (by first | rfl | simp only [EN, brokerref06_Same_out] <;> rfl)
     ·refine lC ?_ ?_
      ·exact le_ret (by first | rfl | simp only [EN, brokerref06_Same_out] <;> rfl)
      ·exact brokerref06_Same_j3_ok p0 p1
def C76 (Γ : Fun)  : CFun := bindC Γ
theorem T76 (Γ : Fun)  (Λ2 J : Lam) (p0 : Int) : bodyC SE (C76 Γ) Λ2 J 76 [.d (.int .u8 p0)] [] [] =
 cond (decide (p0 ≥ 97)) (
 (some (.ret [.d (.bool (decide (p0 ≤ 122)))] [] []))) (
 (some (.ret [.d (.bool false)] [] []))) := by kernel_rfl
abbrev X76 : CFun := C76 (callG SE good)
theorem Cr76 : C76 (callG SE good) = bindC (callG SE good) := by unfold C76; rfl
theorem brokerref01_lower_ok (p0 : Int) : Le (Option.map brokerref01_lower_out (brokerref01_lower p0)) (callW SE 76 [.d (.int .u8 p0)] [] []) := by
 refine le_bodyC Cr76 rfl ?_
 refine Le.trans ?_ (le_of_eq (T76 _ _ _  p0).symm)
 unfold brokerref01_lower
 refine lC ?_ ?_
 ·exact le_ret (by first | rfl | simp only [EN, brokerref01_lower_out] <;> rfl)
 ·exact le_ret (by first | rfl | simp only [EN, brokerref01_lower_out] <;> rfl)
def C77 (Γ : Fun)  : CFun := bindC Γ
theorem T77 (Γ : Fun)  (Λ2 J : Lam) (p0 : Int) : bodyC SE (C77 Γ) Λ2 J 77 [.d (.int .u8 p0)] [] [] =
 cond (decide (p0 ≥ 48)) (
 (some (.ret [.d (.bool (decide (p0 ≤ 57)))] [] []))) (
 (some (.ret [.d (.bool false)] [] []))) := by kernel_rfl
abbrev X77 : CFun := C77 (callG SE good)
theorem Cr77 : C77 (callG SE good) = bindC (callG SE good) := by unfold C77; rfl
theorem brokerref01_digit_ok (p0 : Int) : Le (Option.map brokerref01_digit_out (brokerref01_digit p0)) (callW SE 77 [.d (.int .u8 p0)] [] []) := by
 refine le_bodyC Cr77 rfl ?_
 refine Le.trans ?_ (le_of_eq (T77 _ _ _  p0).symm)
 unfold brokerref01_digit
 refine lC ?_ ?_
 ·exact le_ret (by first | rfl | simp only [EN, brokerref01_digit_out] <;> rfl)
 ·exact le_ret (by first | rfl | simp only [EN, brokerref01_digit_out] <;> rfl)
def C57 (Γ : Fun) (γ76 : Gm (Bool)) (γ77 : Gm (Bool)) : CFun := updC (updC (bindC Γ) 76 brokerref01_lower_out γ76) 77 brokerref01_digit_out γ77
def R57_4 (C : CFun) (Λ2 J : Lam) (a0 : Str) (a1 : Int) : Res := lab SE C Λ2 J 57 0 [1, 1, 0, 1, 0] (stoOf [(0, .d (.str a0)), (3, .d (.int .i64 a1))] [] [] [] [])
def R57_3 (C : CFun) (Λ2 J : Lam) (a0 : Str) : Res := lab SE C Λ2 J 57 0 [1, 1, 0, 0] (stoOf [(0, .d (.str a0))] [] [] [] [])
theorem T57 (Γ : Fun) (γ76 : Gm (Bool)) (γ77 : Gm (Bool)) (Λ2 J : Lam) (p0 : Str) : bodyC SE (C57 Γ γ76 γ77) Λ2 J 57 [.d (.str p0)] [] [] =
 cond (decide ((List.length p0 : Int) < 1)) (
 (some (.ret [.d (.bool false)] [] []))) (
 cond (decide ((List.length p0 : Int) > 16)) (
 (some (.ret [.d (.bool false)] [] []))) (
 cond (decide (0 ≤ 0) && decide (0 < (List.length p0 : Int))) (
 γ76 [.d (.int .u8 (UInt8.toNat (List.getD p0 (Int.toNat 0) 0) : Int))] [] [] fun r0 =>
 cond (!r0) (
  (some (.ret [.d (.bool false)] [] []))) (
 R57_3 (C57 Γ γ76 γ77) Λ2 J p0)) none)) := by kernel_rfl
theorem T57_4 (Γ : Fun) (γ76 : Gm (Bool)) (γ77 : Gm (Bool)) (Λ2 J : Lam) (x0 : Str) (x3 : Int) : labU SE (C57 Γ γ76 γ77) Λ2 J 57 0 [1, 1, 0, 1, 0] (stoOf [(0, .d (.str x0)), (3, .d (.int .i64 x3))] [] [] [] []) =
 cond (decide (x3 < (List.length x0 : Int))) (
 cond (decide (0 ≤ x3) && decide (x3 < (List.length x0 : Int))) (
  γ76 [.d (.int .u8 (UInt8.toNat (List.getD x0 (Int.toNat x3) 0) : Int))] [] [] fun r1 =>
  cond (!r1) (
  cond (decide (0 ≤ x3) && decide (x3 < (List.length x0 : Int))) (
   γ77 [.d (.int .u8 (UInt8.toNat (List.getD x0 (Int.toNat x3) 0) : Int))] [] [] fun r2 =>
   cond (!r2) (
   cond (decide (0 ≤ x3) && decide (x3 < (List.length x0 : Int))) (
    cond ((UInt8.toNat (List.getD x0 (Int.toNat x3) 0) : Int) != 45) (
    (some (.ret [.d (.bool false)] [] []))) (
    R57_4 (C57 Γ γ76 γ77) Λ2 J x0 (IntKind.wrap .i64 (x3 + 1)))) none) (
   R57_4 (C57 Γ γ76 γ77) Λ2 J x0 (IntKind.wrap .i64 (x3 + 1)))) none) (
  R57_4 (C57 Γ γ76 γ77) Λ2 J x0 (IntKind.wrap .i64 (x3 + 1)))) none) (
 (some (.ret [.d (.bool true)] [] []))) := by kernel_rfl
theorem T57_3 (Γ : Fun) (γ76 : Gm (Bool)) (γ77 : Gm (Bool)) (Λ2 J : Lam) (x0 : Str) : labU SE (C57 Γ γ76 γ77) Λ2 J 57 0 [1, 1, 0, 0] (stoOf [(0, .d (.str x0))] [] [] [] []) =
 R57_4 (C57 Γ γ76 γ77) Λ2 J x0 0 := by kernel_rfl
abbrev X57 : CFun := C57 (callG SE good) (callT SE good 76 brokerref01_lower_out) (callT SE good 77 brokerref01_digit_out)
theorem Cr57 : C57 (callG SE good) (callT SE good 76 brokerref01_lower_out) (callT SE good 77 brokerref01_digit_out) = bindC (callG SE good) := by unfold C57; rw [updC_real (fun _ h => h), updC_real (fun _ h => h)]
noncomputable abbrev Q57_4 (a0 : Str) (a1 : Int) : Res := R57_4 X57 (lam2 SE (callG SE good) (SE.hl 57) (SE.hr 57)) (J0 SE X57) a0 a1
noncomputable abbrev Q57_3 (a0 : Str) : Res := R57_3 X57 (lam2 SE (callG SE good) (SE.hl 57) (SE.hr 57)) (J0 SE X57) a0
theorem brokerref01_Name_l4_ok : ∀ (fu : Nat) (x0 : Str) (x3 : Int), Le (Option.map brokerref01_Name_out (brokerref01_Name_l4 fu x0 x3)) (Q57_4 x0 x3) := by
 intro fu
 induction fu with
 | zero => intros; exact le_none
 | succ fu ih =>
  intro x0 x3
  refine Le.trans ?_ (le_of_eq ((lab_realC Cr57).trans (T57_4 _ _ _ _ _  x0 x3)).symm)
  unfold brokerref01_Name_l4
  refine lC ?_ ?_
  ·refine lF ?_
   refine le_call (good := good) eX brokerref01_lower_inj (brokerref01_lower_ok (UInt8.toNat (List.getD x0 (Int.toNat x3) 0) : Int)) (fun r1 _ => ?_)
   refine lC ?_ ?_
   ·refine lF ?_
    refine le_call (good := good) eX brokerref01_digit_inj (brokerref01_digit_ok (UInt8.toNat (List.getD x0 (Int.toNat x3) 0) : Int)) (fun r2 _ => ?_)
    refine lC ?_ ?_
    ·refine lF ?_
     refine lC ?_ ?_
     ·exact le_ret (by first | rfl | simp only [EN, brokerref01_Name_out] <;> rfl)
     ·exact ih x0 (IntKind.wrap .i64 (x3 + 1))
    ·exact ih x0 (IntKind.wrap .i64 (x3 + 1))
   ·exact ih x0 (IntKind.wrap .i64 (x3 + 1))
  ·exact le_ret (by first | rfl | simp only [EN, brokerref01_Name_out] <;> rfl)
theorem brokerref01_Name_j3_ok (x0 : Str) : Le (Option.map brokerref01_Name_out (brokerref01_Name_j3 x0)) (Q57_3 x0) := by
 refine Le.trans ?_ (le_of_eq ((lab_realC Cr57).trans (T57_3 _ _ _ _ _  x0)).symm)
 unfold brokerref01_Name_j3
 exact brokerref01_Name_l4_ok fuel x0 0
theorem brokerref01_Name_ok (p0 : Str) : Le (Option.map brokerref01_Name_out (brokerref01_Name p0)) (callW SE 57 [.d (.str p0)] [] []) := by
 refine le_bodyC Cr57 rfl ?_
 refine Le.trans ?_ (le_of_eq (T57 _ _ _ _ _  p0).symm)
 unfold brokerref01_Name
 refine lC ?_ ?_
 ·exact le_ret (by first | rfl | simp only [EN, brokerref01_Name_out] <;> rfl)
 ·refine lC ?_ ?_
  ·exact le_ret (by first | rfl | simp only [EN, brokerref01_Name_out] <;> rfl)
  ·refine lF ?_
   refine le_call (good := good) eX brokerref01_lower_inj (brokerref01_lower_ok (UInt8.toNat (List.getD p0 (Int.toNat 0) 0) : Int)) (fun r0 _ => ?_)
   refine lC ?_ ?_
   ·exact le_ret (by first | rfl | simp only [EN, brokerref01_Name_out] <;> rfl)
   ·exact brokerref01_Name_j3_ok p0
def C92 (Γ : Fun)  : CFun := bindC Γ
def R92_2 (C : CFun) (Λ2 J : Lam) (a0 : Str) (a1 : Int) (a2 : Int) : Res := lab SE C Λ2 J 92 0 [1, 0, 1, 0] (stoOf [(0, .d (.str a0)), (1, .d (.int .u8 a1)), (5, .d (.int .i64 a2))] [] [] [] [])
theorem T92 (Γ : Fun)  (Λ2 J : Lam) (p0 : Str) (p1 : Int) : bodyC SE (C92 Γ) Λ2 J 92 [.d (.str p0), .d (.int .u8 p1)] [] [] =
 R92_2 (C92 Γ) Λ2 J p0 p1 0 := by kernel_rfl
theorem T92_2 (Γ : Fun)  (Λ2 J : Lam) (x0 : Str) (x1 : Int) (x5 : Int) : labU SE (C92 Γ) Λ2 J 92 0 [1, 0, 1, 0] (stoOf [(0, .d (.str x0)), (1, .d (.int .u8 x1)), (5, .d (.int .i64 x5))] [] [] [] []) =
 cond (decide (x5 < (List.length x0 : Int))) (
 cond (decide (0 ≤ x5) && decide (x5 < (List.length x0 : Int))) (
  cond ((UInt8.toNat (List.getD x0 (Int.toNat x5) 0) : Int) == x1) (
  (some (.ret [.d (.bool true)] [] []))) (
  R92_2 (C92 Γ) Λ2 J x0 x1 (IntKind.wrap .i64 (x5 + 1)))) none) (
 (some (.ret [.d (.bool false)] [] []))) := by kernel_rfl
abbrev X92 : CFun := C92 (callG SE good)
theorem Cr92 : C92 (callG SE good) = bindC (callG SE good) := by unfold C92; rfl
noncomputable abbrev Q92_2 (a0 : Str) (a1 : Int) (a2 : Int) : Res := R92_2 X92 (lam2 SE (callG SE good) (SE.hl 92) (SE.hr 92)) (J0 SE X92) a0 a1 a2
theorem brokerref01_Has_l2_ok : ∀ (fu : Nat) (x0 : Str) (x1 : Int) (x5 : Int), Le (Option.map brokerref01_Has_out (brokerref01_Has_l2 fu x0 x1 x5)) (Q92_2 x0 x1 x5) := by
 intro fu
 induction fu with
 | zero => intros; exact le_none
 | succ fu ih =>
  intro x0 x1 x5
  refine Le.trans ?_ (le_of_eq ((lab_realC Cr92).trans (T92_2 _ _ _  x0 x1 x5)).symm)
  unfold brokerref01_Has_l2
  refine lC ?_ ?_
  ·refine lF ?_
   refine lC ?_ ?_
   ·exact le_ret (by first | rfl | simp only [EN, brokerref01_Has_out] <;> rfl)
   ·exact ih x0 x1 (IntKind.wrap .i64 (x5 + 1))
  ·exact le_ret (by first | rfl | simp only [EN, brokerref01_Has_out] <;> rfl)
theorem brokerref01_Has_ok (p0 : Str) (p1 : Int) : Le (Option.map brokerref01_Has_out (brokerref01_Has p0 p1)) (callW SE 92 [.d (.str p0), .d (.int .u8 p1)] [] []) := by
 refine le_bodyC Cr92 rfl ?_
 refine Le.trans ?_ (le_of_eq (T92 _ _ _  p0 p1).symm)
 unfold brokerref01_Has
 exact brokerref01_Has_l2_ok fuel p0 p1 0
def C94 (Γ : Fun)  : CFun := bindC Γ
def R94_4 (C : CFun) (Λ2 J : Lam) (a0 : Str) (a1 : Int) (a2 : Int) (a3 : (List (List D))) : Res := lab SE C Λ2 J 94 0 [1, 1, 1, 0, 1, 0] (stoOf [(0, .d (.str a0)), (3, .row 3003), (4, .d (.int .i64 a1)), (5, .d (.int .i64 a2))] [] [] [] [(3003, ⟨[.str], 9, 16, a3⟩)])
theorem T94 (Γ : Fun)  (Λ2 J : Lam) (p0 : Str) : bodyC SE (C94 Γ) Λ2 J 94 [.d (.str p0)] [] [] =
 R94_4 (C94 Γ) Λ2 J p0 0 0 (List.map encS []) := by kernel_rfl
theorem T94_4 (Γ : Fun)  (Λ2 J : Lam) (x0 : Str) (x4 : Int) (x5 : Int) (w3003 : (List Str)) : labU SE (C94 Γ) Λ2 J 94 0 [1, 1, 1, 0, 1, 0] (stoOf [(0, .d (.str x0)), (3, .row 3003), (4, .d (.int .i64 x4)), (5, .d (.int .i64 x5))] [] [] [] [(3003, ⟨[.str], 9, 16, (List.map encS w3003)⟩)]) =
 cond (decide (x5 < (List.length x0 : Int))) (
 cond (decide (0 ≤ x5) && decide (x5 < (List.length x0 : Int))) (
  cond ((UInt8.toNat (List.getD x0 (Int.toNat x5) 0) : Int) == 47) (
  cond (decide (0 ≤ x5) && decide (x5 ≤ ((List.length x0) : Int))) (
   cond (decide (0 ≤ x4) && decide (x4 ≤ x5)) (
   cond (decide ((List.length (List.map encS w3003) + List.length (List.map encS [(cutL x0 (some x4) (some x5))])) * 16 ≤ 140737488355328)) (
    R94_4 (C94 Γ) Λ2 J x0 (IntKind.wrap .i64 (x5 + 1)) (IntKind.wrap .i64 (x5 + 1)) (((List.map encS w3003) ++ (List.map encS [(cutL x0 (some x4) (some x5))])))) none) none) none) (
  R94_4 (C94 Γ) Λ2 J x0 x4 (IntKind.wrap .i64 (x5 + 1)) (List.map encS w3003))) none) (
 cond (decide (0 ≤ x4) && decide (x4 ≤ ((List.length x0) : Int))) (
 cond (decide ((List.length (List.map encS w3003) + List.length (List.map encS [(cutL x0 (some x4) none)])) * 16 ≤ 140737488355328)) (
  (some (.ret [.row 0] [] [⟨[.str], 9, 16, ((List.map encS w3003) ++ (List.map encS [(cutL x0 (some x4) none)]))⟩]))) none) none) := by kernel_rfl
abbrev X94 : CFun := C94 (callG SE good)
theorem Cr94 : C94 (callG SE good) = bindC (callG SE good) := by unfold C94; rfl
noncomputable abbrev Q94_4 (a0 : Str) (a1 : Int) (a2 : Int) (a3 : (List (List D))) : Res := R94_4 X94 (lam2 SE (callG SE good) (SE.hl 94) (SE.hr 94)) (J0 SE X94) a0 a1 a2 a3
theorem brokerref01_Levels_l4_ok : ∀ (fu : Nat) (x0 : Str) (x4 : Int) (x5 : Int) (w3003 : (List Str)), Le (Option.map brokerref01_Levels_out (brokerref01_Levels_l4 fu x0 x4 x5 w3003)) (Q94_4 x0 x4 x5 (List.map encS w3003)) := by
 intro fu
 induction fu with
 | zero => intros; exact le_none
 | succ fu ih =>
  intro x0 x4 x5 w3003
  refine Le.trans ?_ (le_of_eq ((lab_realC Cr94).trans (T94_4 _ _ _  x0 x4 x5 w3003)).symm)
  unfold brokerref01_Levels_l4
  refine lC ?_ ?_
  ·refine lF ?_
   refine lC ?_ ?_
   ·refine lF ?_
    refine lF ?_
    refine le_cond (by simp only [EN]) (fun _ => ?_) (fun _ => le_none)
    first | (simp only [EN]; exact ih x0 (IntKind.wrap .i64 (x5 + 1)) (IntKind.wrap .i64 (x5 + 1)) ((w3003 ++ [(cutL x0 (some x4) (some x5))]))) | exact ih x0 (IntKind.wrap .i64 (x5 + 1)) (IntKind.wrap .i64 (x5 + 1)) ((w3003 ++ [(cutL x0 (some x4) (some x5))]))
   ·exact ih x0 x4 (IntKind.wrap .i64 (x5 + 1)) w3003
  ·refine lF ?_
   refine le_cond (by simp only [EN]) (fun _ => ?_) (fun _ => le_none)
   exact le_ret (by first | rfl | simp only [EN, brokerref01_Levels_out] <;> rfl)
theorem brokerref01_Levels_ok (p0 : Str) : Le (Option.map brokerref01_Levels_out (brokerref01_Levels p0)) (callW SE 94 [.d (.str p0)] [] []) := by
 refine le_bodyC Cr94 rfl ?_
 refine Le.trans ?_ (le_of_eq (T94 _ _ _  p0).symm)
 unfold brokerref01_Levels
 first | (simp only [EN]; exact brokerref01_Levels_l4_ok fuel p0 0 0 ([] : List Str)) | exact brokerref01_Levels_l4_ok fuel p0 0 0 ([] : List Str)
def C91 (Γ : Fun) (γ92 : Gm (Bool)) (γ94 : Gm ((List Str))) : CFun := updC (updC (bindC Γ) 92 brokerref01_Has_out γ92) 94 brokerref01_Levels_out γ94
theorem T91 (Γ : Fun) (γ92 : Gm (Bool)) (γ94 : Gm ((List Str))) (Λ2 J : Lam) (p0 : Str) : bodyC SE (C91 Γ γ92 γ94) Λ2 J 91 [.d (.str p0)] [] [] =
 cond (decide ((List.length p0 : Int) ≥ 1)) (
 cond (decide ((List.length p0 : Int) ≤ 64)) (
  γ92 [.d (.str p0), .d (.int .u8 0)] [] [] fun r0 =>
  cond (!r0) (
  γ94 [.d (.str p0)] [] [] fun r1 =>
  (some (.ret [.d (.bool (decide ((List.length (List.map encS r1) : Int) ≤ 8)))] [] []))) (
  (some (.ret [.d (.bool false)] [] [])))) (
 (some (.ret [.d (.bool false)] [] [])))) (
 (some (.ret [.d (.bool false)] [] []))) := by kernel_rfl
abbrev X91 : CFun := C91 (callG SE good) (callT SE good 92 brokerref01_Has_out) (callT SE good 94 brokerref01_Levels_out)
theorem Cr91 : C91 (callG SE good) (callT SE good 92 brokerref01_Has_out) (callT SE good 94 brokerref01_Levels_out) = bindC (callG SE good) := by unfold C91; rw [updC_real (fun _ h => h), updC_real (fun _ h => h)]
theorem brokerref01_sized_ok (p0 : Str) : Le (Option.map brokerref01_sized_out (brokerref01_sized p0)) (callW SE 91 [.d (.str p0)] [] []) := by
 refine le_bodyC Cr91 rfl ?_
 refine Le.trans ?_ (le_of_eq (T91 _ _ _ _ _  p0).symm)
 unfold brokerref01_sized
 refine lC ?_ ?_
 ·refine lC ?_ ?_
  ·refine le_call (good := good) eX brokerref01_Has_inj (brokerref01_Has_ok p0 0) (fun r0 _ => ?_)
   refine lC ?_ ?_
   ·refine le_call (good := good) eX brokerref01_Levels_inj (brokerref01_Levels_ok p0) (fun r1 _ => ?_)
    exact le_ret (by first | rfl | simp only [EN, brokerref01_sized_out] <;> rfl)
   ·exact le_ret (by first | rfl | simp only [EN, brokerref01_sized_out] <;> rfl)
  ·exact le_ret (by first | rfl | simp only [EN, brokerref01_sized_out] <;> rfl)
 ·exact le_ret (by first | rfl | simp only [EN, brokerref01_sized_out] <;> rfl)
def C78 (Γ : Fun) (γ91 : Gm (Bool)) (γ92 : Gm (Bool)) : CFun := updC (updC (bindC Γ) 91 brokerref01_sized_out γ91) 92 brokerref01_Has_out γ92
theorem T78 (Γ : Fun) (γ91 : Gm (Bool)) (γ92 : Gm (Bool)) (Λ2 J : Lam) (p0 : Str) : bodyC SE (C78 Γ γ91 γ92) Λ2 J 78 [.d (.str p0)] [] [] =
 γ91 [.d (.str p0)] [] [] fun r0 =>
 cond r0 (
 γ92 [.d (.str p0), .d (.int .u8 43)] [] [] fun r1 =>
 cond (!r1) (
  γ92 [.d (.str p0), .d (.int .u8 35)] [] [] fun r2 =>
  (some (.ret [.d (.bool (!r2))] [] []))) (
 (some (.ret [.d (.bool false)] [] [])))) (
 (some (.ret [.d (.bool false)] [] []))) := by kernel_rfl
abbrev X78 : CFun := C78 (callG SE good) (callT SE good 91 brokerref01_sized_out) (callT SE good 92 brokerref01_Has_out)
theorem Cr78 : C78 (callG SE good) (callT SE good 91 brokerref01_sized_out) (callT SE good 92 brokerref01_Has_out) = bindC (callG SE good) := by unfold C78; rw [updC_real (fun _ h => h), updC_real (fun _ h => h)]
theorem brokerref01_Valid_ok (p0 : Str) : Le (Option.map brokerref01_Valid_out (brokerref01_Valid p0)) (callW SE 78 [.d (.str p0)] [] []) := by
 refine le_bodyC Cr78 rfl ?_
 refine Le.trans ?_ (le_of_eq (T78 _ _ _ _ _  p0).symm)
 unfold brokerref01_Valid
 refine le_call (good := good) eX brokerref01_sized_inj (brokerref01_sized_ok p0) (fun r0 _ => ?_)
 refine lC ?_ ?_
 ·refine le_call (good := good) eX brokerref01_Has_inj (brokerref01_Has_ok p0 43) (fun r1 _ => ?_)
  refine lC ?_ ?_
  ·refine le_call (good := good) eX brokerref01_Has_inj (brokerref01_Has_ok p0 35) (fun r2 _ => ?_)
   exact le_ret (by first | rfl | simp only [EN, brokerref01_Valid_out] <;> rfl)
  ·exact le_ret (by first | rfl | simp only [EN, brokerref01_Valid_out] <;> rfl)
 ·exact le_ret (by first | rfl | simp only [EN, brokerref01_Valid_out] <;> rfl)
def C93 (Γ : Fun)  : CFun := bindC Γ
def R93_4 (C : CFun) (Λ2 J : Lam) (a0 : Str) (a1 : Int) : Res := lab SE C Λ2 J 93 0 [1, 1, 0, 1, 0] (stoOf [(0, .d (.str a0)), (3, .d (.int .i64 a1))] [] [] [] [])
def R93_3 (C : CFun) (Λ2 J : Lam) (a0 : Str) : Res := lab SE C Λ2 J 93 0 [1, 1, 0, 0] (stoOf [(0, .d (.str a0))] [] [] [] [])
theorem T93 (Γ : Fun)  (Λ2 J : Lam) (p0 : Str) : bodyC SE (C93 Γ) Λ2 J 93 [.d (.str p0)] [] [] =
 cond (decide ((List.length p0 : Int) < 1)) (
 (some (.ret [.d (.bool false)] [] []))) (
 cond (decide ((List.length p0 : Int) > 16)) (
 (some (.ret [.d (.bool false)] [] []))) (
 R93_3 (C93 Γ) Λ2 J p0)) := by kernel_rfl
theorem T93_4 (Γ : Fun)  (Λ2 J : Lam) (x0 : Str) (x3 : Int) : labU SE (C93 Γ) Λ2 J 93 0 [1, 1, 0, 1, 0] (stoOf [(0, .d (.str x0)), (3, .d (.int .i64 x3))] [] [] [] []) =
 cond (decide (x3 < (List.length x0 : Int))) (
 cond (decide (0 ≤ x3) && decide (x3 < (List.length x0 : Int))) (
  cond (decide ((UInt8.toNat (List.getD x0 (Int.toNat x3) 0) : Int) ≥ 97)) (
  cond (!(decide ((UInt8.toNat (List.getD x0 (Int.toNat x3) 0) : Int) ≤ 122))) (
   cond (decide ((UInt8.toNat (List.getD x0 (Int.toNat x3) 0) : Int) ≥ 48)) (
   cond (!(decide ((UInt8.toNat (List.getD x0 (Int.toNat x3) 0) : Int) ≤ 57))) (
    cond ((UInt8.toNat (List.getD x0 (Int.toNat x3) 0) : Int) != 45) (
    (some (.ret [.d (.bool false)] [] []))) (
    R93_4 (C93 Γ) Λ2 J x0 (IntKind.wrap .i64 (x3 + 1)))) (
   R93_4 (C93 Γ) Λ2 J x0 (IntKind.wrap .i64 (x3 + 1)))) (
   cond ((UInt8.toNat (List.getD x0 (Int.toNat x3) 0) : Int) != 45) (
   (some (.ret [.d (.bool false)] [] []))) (
   R93_4 (C93 Γ) Λ2 J x0 (IntKind.wrap .i64 (x3 + 1))))) (
  R93_4 (C93 Γ) Λ2 J x0 (IntKind.wrap .i64 (x3 + 1)))) (
  cond (decide ((UInt8.toNat (List.getD x0 (Int.toNat x3) 0) : Int) ≥ 48)) (
  cond (!(decide ((UInt8.toNat (List.getD x0 (Int.toNat x3) 0) : Int) ≤ 57))) (
   cond ((UInt8.toNat (List.getD x0 (Int.toNat x3) 0) : Int) != 45) (
   (some (.ret [.d (.bool false)] [] []))) (
   R93_4 (C93 Γ) Λ2 J x0 (IntKind.wrap .i64 (x3 + 1)))) (
  R93_4 (C93 Γ) Λ2 J x0 (IntKind.wrap .i64 (x3 + 1)))) (
  cond ((UInt8.toNat (List.getD x0 (Int.toNat x3) 0) : Int) != 45) (
  (some (.ret [.d (.bool false)] [] []))) (
  R93_4 (C93 Γ) Λ2 J x0 (IntKind.wrap .i64 (x3 + 1)))))) none) (
 (some (.ret [.d (.bool true)] [] []))) := by kernel_rfl
theorem T93_3 (Γ : Fun)  (Λ2 J : Lam) (x0 : Str) : labU SE (C93 Γ) Λ2 J 93 0 [1, 1, 0, 0] (stoOf [(0, .d (.str x0))] [] [] [] []) =
 R93_4 (C93 Γ) Λ2 J x0 0 := by kernel_rfl
abbrev X93 : CFun := C93 (callG SE good)
theorem Cr93 : C93 (callG SE good) = bindC (callG SE good) := by unfold C93; rfl
noncomputable abbrev Q93_4 (a0 : Str) (a1 : Int) : Res := R93_4 X93 (lam2 SE (callG SE good) (SE.hl 93) (SE.hr 93)) (J0 SE X93) a0 a1
noncomputable abbrev Q93_3 (a0 : Str) : Res := R93_3 X93 (lam2 SE (callG SE good) (SE.hl 93) (SE.hr 93)) (J0 SE X93) a0
theorem brokerref05_Key_l4_ok : ∀ (fu : Nat) (x0 : Str) (x3 : Int), Le (Option.map brokerref05_Key_out (brokerref05_Key_l4 fu x0 x3)) (Q93_4 x0 x3) := by
 intro fu
 induction fu with
 | zero => intros; exact le_none
 | succ fu ih =>
  intro x0 x3
  refine Le.trans ?_ (le_of_eq ((lab_realC Cr93).trans (T93_4 _ _ _  x0 x3)).symm)
  unfold brokerref05_Key_l4
  refine lC ?_ ?_
  ·refine lF ?_
   refine lC ?_ ?_
   ·refine lC ?_ ?_
    ·refine lC ?_ ?_
     ·refine lC ?_ ?_
      ·refine lC ?_ ?_
       ·exact le_ret (by first | rfl | simp only [EN, brokerref05_Key_out] <;> rfl)
       ·exact ih x0 (IntKind.wrap .i64 (x3 + 1))
      ·exact ih x0 (IntKind.wrap .i64 (x3 + 1))
     ·refine lC ?_ ?_
      ·exact le_ret (by first | rfl | simp only [EN, brokerref05_Key_out] <;> rfl)
      ·exact ih x0 (IntKind.wrap .i64 (x3 + 1))
    ·exact ih x0 (IntKind.wrap .i64 (x3 + 1))
   ·refine lC ?_ ?_
    ·refine lC ?_ ?_
     ·refine lC ?_ ?_
      ·exact le_ret (by first | rfl | simp only [EN, brokerref05_Key_out] <;> rfl)
      ·exact ih x0 (IntKind.wrap .i64 (x3 + 1))
     ·exact ih x0 (IntKind.wrap .i64 (x3 + 1))
    ·refine lC ?_ ?_
     ·exact le_ret (by first | rfl | simp only [EN, brokerref05_Key_out] <;> rfl)
     ·exact ih x0 (IntKind.wrap .i64 (x3 + 1))
  ·exact le_ret (by first | rfl | simp only [EN, brokerref05_Key_out] <;> rfl)
theorem brokerref05_Key_j3_ok (x0 : Str) : Le (Option.map brokerref05_Key_out (brokerref05_Key_j3 x0)) (Q93_3 x0) := by
 refine Le.trans ?_ (le_of_eq ((lab_realC Cr93).trans (T93_3 _ _ _  x0)).symm)
 unfold brokerref05_Key_j3
 exact brokerref05_Key_l4_ok fuel x0 0
theorem brokerref05_Key_ok (p0 : Str) : Le (Option.map brokerref05_Key_out (brokerref05_Key p0)) (callW SE 93 [.d (.str p0)] [] []) := by
 refine le_bodyC Cr93 rfl ?_
 refine Le.trans ?_ (le_of_eq (T93 _ _ _  p0).symm)
 unfold brokerref05_Key
 refine lC ?_ ?_
 ·exact le_ret (by first | rfl | simp only [EN, brokerref05_Key_out] <;> rfl)
 ·refine lC ?_ ?_
  ·exact le_ret (by first | rfl | simp only [EN, brokerref05_Key_out] <;> rfl)
  ·exact brokerref05_Key_j3_ok p0
def C79 (Γ : Fun) (γ93 : Gm (Bool)) : CFun := updC (bindC Γ) 93 brokerref05_Key_out γ93
def R79_4 (C : CFun) (Λ2 J : Lam) (a0 : (List (List D))) (a1 : Int) : Res := lab SE C Λ2 J 79 0 [1, 1, 0, 1, 0] (stoOf [(0, .d (.sl api_Prop.ks a0)), (3, .d (.int .i64 a1))] [] [] [] [])
theorem T79 (Γ : Fun) (γ93 : Gm (Bool)) (Λ2 J : Lam) (p0 : (List api_Prop)) : bodyC SE (C79 Γ γ93) Λ2 J 79 [.d (.sl api_Prop.ks (List.map api_Prop.enc p0))] [] [] =
 cond (decide ((List.length (List.map api_Prop.enc p0) : Int) > 8)) (
 (some (.ret [.d (.int .i64 5)] [] []))) (
 R79_4 (C79 Γ γ93) Λ2 J (List.map api_Prop.enc p0) 0) := by kernel_rfl
theorem T79_4 (Γ : Fun) (γ93 : Gm (Bool)) (Λ2 J : Lam) (x0 : (List api_Prop)) (x3 : Int) : labU SE (C79 Γ γ93) Λ2 J 79 0 [1, 1, 0, 1, 0] (stoOf [(0, .d (.sl api_Prop.ks (List.map api_Prop.enc x0))), (3, .d (.int .i64 x3))] [] [] [] []) =
 cond (decide (x3 < (List.length (List.map api_Prop.enc x0) : Int))) (
 cond (decide (0 ≤ x3) && decide (x3 < (List.length (List.map api_Prop.enc x0) : Int))) (
  γ93 [.d (.str (dStr (cellAt (elemAt (List.map api_Prop.enc x0) (Int.toNat x3)) 0)))] [] [] fun r0 =>
  cond (!r0) (
  (some (.ret [.d (.int .i64 16)] [] []))) (
  cond (decide (0 ≤ x3) && decide (x3 < (List.length (List.map api_Prop.enc x0) : Int))) (
  cond (decide ((List.length (dStr (cellAt (elemAt (List.map api_Prop.enc x0) (Int.toNat x3)) 1)) : Int) > 160)) (
   (some (.ret [.d (.int .i64 5)] [] []))) (
  cond (decide (x3 > 0)) (
   cond (decide (0 ≤ x3) && decide (x3 < (List.length (List.map api_Prop.enc x0) : Int))) (
   cond (decide (0 ≤ (IntKind.wrap .i64 (x3 - 1))) && decide ((IntKind.wrap .i64 (x3 - 1)) < (List.length (List.map api_Prop.enc x0) : Int))) (
    cond (Op.bytesLess (dStr (cellAt (elemAt (List.map api_Prop.enc x0) (Int.toNat x3)) 0)) (dStr (cellAt (elemAt (List.map api_Prop.enc x0) (Int.toNat (IntKind.wrap .i64 (x3 - 1)))) 0)) || (dStr (cellAt (elemAt (List.map api_Prop.enc x0) (Int.toNat x3)) 0)) == (dStr (cellAt (elemAt (List.map api_Prop.enc x0) (Int.toNat (IntKind.wrap .i64 (x3 - 1)))) 0))) (
    (some (.ret [.d (.int .i64 16)] [] []))) (
    R79_4 (C79 Γ γ93) Λ2 J (List.map api_Prop.enc x0) (IntKind.wrap .i64 (x3 + 1)))) none) none) (
  R79_4 (C79 Γ γ93) Λ2 J (List.map api_Prop.enc x0) (IntKind.wrap .i64 (x3 + 1))))) none)) none) (
 (some (.ret [.d (.int .i64 0)] [] []))) := by kernel_rfl
abbrev X79 : CFun := C79 (callG SE good) (callT SE good 93 brokerref05_Key_out)
theorem Cr79 : C79 (callG SE good) (callT SE good 93 brokerref05_Key_out) = bindC (callG SE good) := by unfold C79; rw [updC_real (fun _ h => h)]
noncomputable abbrev Q79_4 (a0 : (List (List D))) (a1 : Int) : Res := R79_4 X79 (lam2 SE (callG SE good) (SE.hl 79) (SE.hr 79)) (J0 SE X79) a0 a1
theorem brokerref05_Props_l4_ok : ∀ (fu : Nat) (x0 : (List api_Prop)) (x3 : Int), Le (Option.map brokerref05_Props_out (brokerref05_Props_l4 fu x0 x3)) (Q79_4 (List.map api_Prop.enc x0) x3) := by
 intro fu
 induction fu with
 | zero => intros; exact le_none
 | succ fu ih =>
  intro x0 x3
  refine Le.trans ?_ (le_of_eq ((lab_realC Cr79).trans (T79_4 _ _ _ _  x0 x3)).symm)
  unfold brokerref05_Props_l4
  refine le_cond (by simp only [EN]) (fun _ => ?_) (fun _ => ?_)
  ·refine le_cond (by simp only [EN]) (fun _ => ?_) (fun _ => le_none)
   refine le_call (good := good) eX brokerref05_Key_inj (by first | (simp only [EN]; exact brokerref05_Key_ok ((List.getD x0 (Int.toNat x3) default).Key)) | exact brokerref05_Key_ok ((List.getD x0 (Int.toNat x3) default).Key)) (fun r0 _ => ?_)
   refine lC ?_ ?_
   ·exact le_ret (by first | rfl | simp only [EN, brokerref05_Props_out] <;> rfl)
   ·refine le_cond (by simp only [EN]) (fun _ => ?_) (fun _ => le_none)
    refine le_cond (by simp only [EN]) (fun _ => ?_) (fun _ => ?_)
    ·exact le_ret (by first | rfl | simp only [EN, brokerref05_Props_out] <;> rfl)
    ·refine lC ?_ ?_
     ·refine le_cond (by simp only [EN]) (fun _ => ?_) (fun _ => le_none)
      refine le_cond (by simp only [EN]) (fun _ => ?_) (fun _ => le_none)
      refine le_cond (by simp only [EN]) (fun _ => ?_) (fun _ => ?_)
      ·exact le_ret (by first | rfl | simp only [EN, brokerref05_Props_out] <;> rfl)
      ·exact ih x0 (IntKind.wrap .i64 (x3 + 1))
     ·exact ih x0 (IntKind.wrap .i64 (x3 + 1))
  ·exact le_ret (by first | rfl | simp only [EN, brokerref05_Props_out] <;> rfl)
theorem brokerref05_Props_ok (p0 : (List api_Prop)) : Le (Option.map brokerref05_Props_out (brokerref05_Props p0)) (callW SE 79 [.d (.sl api_Prop.ks (List.map api_Prop.enc p0))] [] []) := by
 refine le_bodyC Cr79 rfl ?_
 refine Le.trans ?_ (le_of_eq (T79 _ _ _ _  p0).symm)
 unfold brokerref05_Props
 refine le_cond (by simp only [EN]) (fun _ => ?_) (fun _ => ?_)
 ·exact le_ret (by first | rfl | simp only [EN, brokerref05_Props_out] <;> rfl)
 ·exact brokerref05_Props_l4_ok fuel p0 0
def C59 (Γ : Fun) (γ78 : Gm (Bool)) (γ57 : Gm (Bool)) (γ79 : Gm (Int)) : CFun := updC (updC (updC (bindC Γ) 78 brokerref01_Valid_out γ78) 57 brokerref01_Name_out γ57) 79 brokerref05_Props_out γ79
def R59_11 (C : CFun) (Λ2 J : Lam) (a0 : (List D)) : Res := lab SE C Λ2 J 59 0 [1, 1, 1, 1, 1, 1, 0, 0] (stoOf [(1, .ptr 1000000000 0)] [⟨27, (List.map AV.d a0)⟩] [] [] [])
def R59_9 (C : CFun) (Λ2 J : Lam) (a0 : (List D)) : Res := lab SE C Λ2 J 59 0 [1, 1, 1, 1, 1, 0, 0] (stoOf [(1, .ptr 1000000000 0)] [⟨27, (List.map AV.d a0)⟩] [] [] [])
def R59_7 (C : CFun) (Λ2 J : Lam) (a0 : (List D)) : Res := lab SE C Λ2 J 59 0 [1, 1, 1, 1, 0, 0] (stoOf [(1, .ptr 1000000000 0)] [⟨27, (List.map AV.d a0)⟩] [] [] [])
theorem T59 (Γ : Fun) (γ78 : Gm (Bool)) (γ57 : Gm (Bool)) (γ79 : Gm (Int)) (Λ2 J : Lam) (p0 : api_Message) : bodyC SE (C59 Γ γ78 γ57 γ79) Λ2 J 59 [api_Message.av p0] [] [] =
 γ78 [.d (.str p0.Topic)] [] [] fun r0 =>
 cond (!r0) (
 (some (.ret [.d (.int .i64 12)] [] []))) (
 cond (decide ((List.length p0.Payload : Int) > 256)) (
 (some (.ret [.d (.int .i64 5)] [] []))) (
 cond (decide (p0.Level < 0)) (
 (some (.ret [.d (.int .i64 14)] [] []))) (
 cond (decide (p0.Level > 2)) (
 (some (.ret [.d (.int .i64 14)] [] []))) (
 R59_7 (C59 Γ γ78 γ57 γ79) Λ2 J (api_Message.enc p0))))) := by kernel_rfl
theorem T59_11 (Γ : Fun) (γ78 : Gm (Bool)) (γ57 : Gm (Bool)) (γ79 : Gm (Int)) (Λ2 J : Lam) (b0 : api_Message) : labU SE (C59 Γ γ78 γ57 γ79) Λ2 J 59 0 [1, 1, 1, 1, 1, 1, 0, 0] (stoOf [(1, .ptr 1000000000 0)] [⟨27, (List.map AV.d (api_Message.enc b0))⟩] [] [] []) =
 cond (decide (b0.Seq < 0)) (
 (some (.ret [.d (.int .i64 1)] [] []))) (
 cond (decide (b0.Seq > 1099511627776)) (
 (some (.ret [.d (.int .i64 1)] [] []))) (
 γ79 [.d (.sl api_Prop.ks (List.map api_Prop.enc b0.Props))] [] [] fun r2 =>
 (some (.ret [.d (.int .i64 r2)] [] [])))) := by kernel_rfl
theorem T59_9 (Γ : Fun) (γ78 : Gm (Bool)) (γ57 : Gm (Bool)) (γ79 : Gm (Int)) (Λ2 J : Lam) (b0 : api_Message) : labU SE (C59 Γ γ78 γ57 γ79) Λ2 J 59 0 [1, 1, 1, 1, 1, 0, 0] (stoOf [(1, .ptr 1000000000 0)] [⟨27, (List.map AV.d (api_Message.enc b0))⟩] [] [] []) =
 cond (!(b0.From == ([] : Str))) (
 γ57 [.d (.str b0.From)] [] [] fun r1 =>
 cond (!r1) (
  (some (.ret [.d (.int .i64 11)] [] []))) (
 R59_11 (C59 Γ γ78 γ57 γ79) Λ2 J (api_Message.enc b0))) (
 R59_11 (C59 Γ γ78 γ57 γ79) Λ2 J (api_Message.enc b0)) := by kernel_rfl
theorem T59_7 (Γ : Fun) (γ78 : Gm (Bool)) (γ57 : Gm (Bool)) (γ79 : Gm (Int)) (Λ2 J : Lam) (b0 : api_Message) : labU SE (C59 Γ γ78 γ57 γ79) Λ2 J 59 0 [1, 1, 1, 1, 0, 0] (stoOf [(1, .ptr 1000000000 0)] [⟨27, (List.map AV.d (api_Message.enc b0))⟩] [] [] []) =
 cond (decide (b0.Priority < 0)) (
 (some (.ret [.d (.int .i64 1)] [] []))) (
 cond (decide (b0.Priority > 9)) (
 (some (.ret [.d (.int .i64 1)] [] []))) (
 cond (decide (b0.Expires < 0)) (
 (some (.ret [.d (.int .i64 1)] [] []))) (
 cond (decide (b0.Expires > 1099511627776)) (
 (some (.ret [.d (.int .i64 1)] [] []))) (
 R59_9 (C59 Γ γ78 γ57 γ79) Λ2 J (api_Message.enc b0))))) := by kernel_rfl
abbrev X59 : CFun := C59 (callG SE good) (callT SE good 78 brokerref01_Valid_out) (callT SE good 57 brokerref01_Name_out) (callT SE good 79 brokerref05_Props_out)
theorem Cr59 : C59 (callG SE good) (callT SE good 78 brokerref01_Valid_out) (callT SE good 57 brokerref01_Name_out) (callT SE good 79 brokerref05_Props_out) = bindC (callG SE good) := by unfold C59; rw [updC_real (fun _ h => h), updC_real (fun _ h => h), updC_real (fun _ h => h)]
noncomputable abbrev Q59_11 (a0 : (List D)) : Res := R59_11 X59 (lam2 SE (callG SE good) (SE.hl 59) (SE.hr 59)) (J0 SE X59) a0
noncomputable abbrev Q59_9 (a0 : (List D)) : Res := R59_9 X59 (lam2 SE (callG SE good) (SE.hl 59) (SE.hr 59)) (J0 SE X59) a0
noncomputable abbrev Q59_7 (a0 : (List D)) : Res := R59_7 X59 (lam2 SE (callG SE good) (SE.hl 59) (SE.hr 59)) (J0 SE X59) a0
theorem brokerref05_Check_j11_ok (b0 : api_Message) : Le (Option.map brokerref05_Check_out (brokerref05_Check_j11 b0)) (Q59_11 (api_Message.enc b0)) := by
 refine Le.trans ?_ (le_of_eq ((lab_realC Cr59).trans (T59_11 _ _ _ _ _ _  b0)).symm)
 unfold brokerref05_Check_j11
 refine lC ?_ ?_
 ·exact le_ret (by first | rfl | simp only [EN, brokerref05_Check_out] <;> rfl)
 ·refine lC ?_ ?_
  ·exact le_ret (by first | rfl | simp only [EN, brokerref05_Check_out] <;> rfl)
  ·refine le_call (good := good) eX brokerref05_Props_inj (brokerref05_Props_ok b0.Props) (fun r2 _ => ?_)
   exact le_ret (by first | rfl | simp only [EN, brokerref05_Check_out] <;> rfl)
theorem brokerref05_Check_j9_ok (b0 : api_Message) : Le (Option.map brokerref05_Check_out (brokerref05_Check_j9 b0)) (Q59_9 (api_Message.enc b0)) := by
 refine Le.trans ?_ (le_of_eq ((lab_realC Cr59).trans (T59_9 _ _ _ _ _ _  b0)).symm)
 unfold brokerref05_Check_j9
 refine lC ?_ ?_
 ·refine le_call (good := good) eX brokerref01_Name_inj (brokerref01_Name_ok b0.From) (fun r1 _ => ?_)
  refine lC ?_ ?_
  ·exact le_ret (by first | rfl | simp only [EN, brokerref05_Check_out] <;> rfl)
  ·exact brokerref05_Check_j11_ok b0
 ·exact brokerref05_Check_j11_ok b0
theorem brokerref05_Check_j7_ok (b0 : api_Message) : Le (Option.map brokerref05_Check_out (brokerref05_Check_j7 b0)) (Q59_7 (api_Message.enc b0)) := by
 refine Le.trans ?_ (le_of_eq ((lab_realC Cr59).trans (T59_7 _ _ _ _ _ _  b0)).symm)
 unfold brokerref05_Check_j7
 refine lC ?_ ?_
 ·exact le_ret (by first | rfl | simp only [EN, brokerref05_Check_out] <;> rfl)
 ·refine lC ?_ ?_
  ·exact le_ret (by first | rfl | simp only [EN, brokerref05_Check_out] <;> rfl)
  ·refine lC ?_ ?_
   ·exact le_ret (by first | rfl | simp only [EN, brokerref05_Check_out] <;> rfl)
   ·refine lC ?_ ?_
    ·exact le_ret (by first | rfl | simp only [EN, brokerref05_Check_out] <;> rfl)
    ·exact brokerref05_Check_j9_ok b0
theorem brokerref05_Check_ok (p0 : api_Message) : Le (Option.map brokerref05_Check_out (brokerref05_Check p0)) (callW SE 59 [api_Message.av p0] [] []) := by
 refine le_bodyC Cr59 rfl ?_
 refine Le.trans ?_ (le_of_eq (T59 _ _ _ _ _ _  p0).symm)
 unfold brokerref05_Check
 refine le_call (good := good) eX brokerref01_Valid_inj (brokerref01_Valid_ok p0.Topic) (fun r0 _ => ?_)
 refine lC ?_ ?_
 ·exact le_ret (by first | rfl | simp only [EN, brokerref05_Check_out] <;> rfl)
 ·refine lC ?_ ?_
  ·exact le_ret (by first | rfl | simp only [EN, brokerref05_Check_out] <;> rfl)
  ·refine lC ?_ ?_
   ·exact le_ret (by first | rfl | simp only [EN, brokerref05_Check_out] <;> rfl)
   ·refine lC ?_ ?_
    ·exact le_ret (by first | rfl | simp only [EN, brokerref05_Check_out] <;> rfl)
    ·exact brokerref05_Check_j7_ok p0
def C58 (Γ : Fun) (γ50 : Gm (Bool)) (γ59 : Gm (Int)) : CFun := updC (updC (bindC Γ) 50 brokerref05_Same_out γ50) 59 brokerref05_Check_out γ59
theorem T58 (Γ : Fun) (γ50 : Gm (Bool)) (γ59 : Gm (Int)) (Λ2 J : Lam) (p0 : api_Will) : bodyC SE (C58 Γ γ50 γ59) Λ2 J 58 [api_Will.av p0] [] [] =
 cond (!p0.Set) (
 cond (p0.Delay != 0) (
  (some (.ret [.d (.int .i64 28)] [] []))) (
 γ50 [api_Message.av p0.Message, .agg [.d (.str ([] : Str)), .d (.str ([] : Str)), .d (.int .i64 0), .d (.bool false), .d (.int .i64 0), .d (.int .i64 0), .d (.str ([] : Str)), .d (.int .i64 0), .d (.sl api_Prop.ks (List.map api_Prop.enc []))]] [] [] fun r0 =>
 cond (!r0) (
  (some (.ret [.d (.int .i64 28)] [] []))) (
 (some (.ret [.d (.int .i64 0)] [] []))))) (
 cond (decide (p0.Delay < 0)) (
 (some (.ret [.d (.int .i64 1)] [] []))) (
 cond (decide (p0.Delay > 1099511627776)) (
 (some (.ret [.d (.int .i64 1)] [] []))) (
 γ59 [api_Message.av p0.Message] [] [] fun r1 =>
 (some (.ret [.d (.int .i64 r1)] [] []))))) := by kernel_rfl
abbrev X58 : CFun := C58 (callG SE good) (callT SE good 50 brokerref05_Same_out) (callT SE good 59 brokerref05_Check_out)
theorem Cr58 : C58 (callG SE good) (callT SE good 50 brokerref05_Same_out) (callT SE good 59 brokerref05_Check_out) = bindC (callG SE good) := by unfold C58; rw [updC_real (fun _ h => h), updC_real (fun _ h => h)]
theorem brokerref06_Will_ok (p0 : api_Will) : Le (Option.map brokerref06_Will_out (brokerref06_Will p0)) (callW SE 58 [api_Will.av p0] [] []) := by
 refine le_bodyC Cr58 rfl ?_
 refine Le.trans ?_ (le_of_eq (T58 _ _ _ _ _  p0).symm)
 unfold brokerref06_Will
 refine lC ?_ ?_
 ·refine lC ?_ ?_
  ·exact le_ret (by first | rfl | simp only [EN, brokerref06_Will_out] <;> rfl)
  ·refine le_call (good := good) eX brokerref05_Same_inj (by first | (simp only [EN]; exact brokerref05_Same_ok p0.Message ((api_Message.mk ([] : Str) ([] : Str) 0 false 0 0 ([] : Str) 0 ([] : List api_Prop)))) | exact brokerref05_Same_ok p0.Message ((api_Message.mk ([] : Str) ([] : Str) 0 false 0 0 ([] : Str) 0 ([] : List api_Prop)))) (fun r0 _ => ?_)
   refine lC ?_ ?_
   ·exact le_ret (by first | rfl | simp only [EN, brokerref06_Will_out] <;> rfl)
   ·exact le_ret (by first | rfl | simp only [EN, brokerref06_Will_out] <;> rfl)
 ·refine lC ?_ ?_
  ·exact le_ret (by first | rfl | simp only [EN, brokerref06_Will_out] <;> rfl)
  ·refine lC ?_ ?_
   ·exact le_ret (by first | rfl | simp only [EN, brokerref06_Will_out] <;> rfl)
   ·refine le_call (good := good) eX brokerref05_Check_inj (brokerref05_Check_ok p0.Message) (fun r1 _ => ?_)
    exact le_ret (by first | rfl | simp only [EN, brokerref06_Will_out] <;> rfl)
def C32 (Γ : Fun) (γ57 : Gm (Bool)) (γ58 : Gm (Int)) : CFun := updC (updC (bindC Γ) 57 brokerref01_Name_out γ57) 58 brokerref06_Will_out γ58
def R32_3 (C : CFun) (Λ2 J : Lam) (a0 : (List D)) : Res := lab SE C Λ2 J 32 0 [1, 1, 0, 0] (stoOf [(1, .ptr 1000000000 0)] [⟨33, (List.map AV.d a0)⟩] [] [] [])
theorem T32 (Γ : Fun) (γ57 : Gm (Bool)) (γ58 : Gm (Int)) (Λ2 J : Lam) (p0 : api_Packet) : bodyC SE (C32 Γ γ57 γ58) Λ2 J 32 [api_Packet.av p0] [] [] =
 γ57 [.d (.str p0.Client)] [] [] fun r0 =>
 cond (!r0) (
 (some (.ret [.d (.int .i64 11)] [] []))) (
 cond (!(p0.User == ([] : Str))) (
 γ57 [.d (.str p0.User)] [] [] fun r1 =>
 cond (!r1) (
  (some (.ret [.d (.int .i64 11)] [] []))) (
 R32_3 (C32 Γ γ57 γ58) Λ2 J (api_Packet.enc p0))) (
 R32_3 (C32 Γ γ57 γ58) Λ2 J (api_Packet.enc p0))) := by kernel_rfl
theorem T32_3 (Γ : Fun) (γ57 : Gm (Bool)) (γ58 : Gm (Int)) (Λ2 J : Lam) (b0 : api_Packet) : labU SE (C32 Γ γ57 γ58) Λ2 J 32 0 [1, 1, 0, 0] (stoOf [(1, .ptr 1000000000 0)] [⟨33, (List.map AV.d (api_Packet.enc b0))⟩] [] [] []) =
 cond (decide (b0.Keep < 0)) (
 (some (.ret [.d (.int .i64 1)] [] []))) (
 cond (decide (b0.Keep > 1099511627776)) (
 (some (.ret [.d (.int .i64 1)] [] []))) (
 cond (decide (b0.Expiry < 0)) (
 (some (.ret [.d (.int .i64 1)] [] []))) (
 cond (decide (b0.Expiry > 1099511627776)) (
 (some (.ret [.d (.int .i64 1)] [] []))) (
 cond (decide (b0.Window < 1)) (
 (some (.ret [.d (.int .i64 1)] [] []))) (
 cond (decide (b0.Window > 32)) (
 (some (.ret [.d (.int .i64 1)] [] []))) (
 γ58 [api_Will.av b0.Will] [] [] fun r2 =>
 (some (.ret [.d (.int .i64 r2)] [] [])))))))) := by kernel_rfl
abbrev X32 : CFun := C32 (callG SE good) (callT SE good 57 brokerref01_Name_out) (callT SE good 58 brokerref06_Will_out)
theorem Cr32 : C32 (callG SE good) (callT SE good 57 brokerref01_Name_out) (callT SE good 58 brokerref06_Will_out) = bindC (callG SE good) := by unfold C32; rw [updC_real (fun _ h => h), updC_real (fun _ h => h)]
noncomputable abbrev Q32_3 (a0 : (List D)) : Res := R32_3 X32 (lam2 SE (callG SE good) (SE.hl 32) (SE.hr 32)) (J0 SE X32) a0
theorem brokerref06_connect_j3_ok (b0 : api_Packet) : Le (Option.map brokerref06_connect_out (brokerref06_connect_j3 b0)) (Q32_3 (api_Packet.enc b0)) := by
 refine Le.trans ?_ (le_of_eq ((lab_realC Cr32).trans (T32_3 _ _ _ _ _  b0)).symm)
 unfold brokerref06_connect_j3
 refine lC ?_ ?_
 ·exact le_ret (by first | rfl | simp only [EN, brokerref06_connect_out] <;> rfl)
 ·refine lC ?_ ?_
  ·exact le_ret (by first | rfl | simp only [EN, brokerref06_connect_out] <;> rfl)
  ·refine lC ?_ ?_
   ·exact le_ret (by first | rfl | simp only [EN, brokerref06_connect_out] <;> rfl)
   ·refine lC ?_ ?_
    ·exact le_ret (by first | rfl | simp only [EN, brokerref06_connect_out] <;> rfl)
    ·refine lC ?_ ?_
     ·exact le_ret (by first | rfl | simp only [EN, brokerref06_connect_out] <;> rfl)
     ·refine lC ?_ ?_
      ·exact le_ret (by first | rfl | simp only [EN, brokerref06_connect_out] <;> rfl)
      ·refine le_call (good := good) eX brokerref06_Will_inj (brokerref06_Will_ok b0.Will) (fun r2 _ => ?_)
       exact le_ret (by first | rfl | simp only [EN, brokerref06_connect_out] <;> rfl)
theorem brokerref06_connect_ok (p0 : api_Packet) : Le (Option.map brokerref06_connect_out (brokerref06_connect p0)) (callW SE 32 [api_Packet.av p0] [] []) := by
 refine le_bodyC Cr32 rfl ?_
 refine Le.trans ?_ (le_of_eq (T32 _ _ _ _ _  p0).symm)
 unfold brokerref06_connect
 refine le_call (good := good) eX brokerref01_Name_inj (brokerref01_Name_ok p0.Client) (fun r0 _ => ?_)
 refine lC ?_ ?_
 ·exact le_ret (by first | rfl | simp only [EN, brokerref06_connect_out] <;> rfl)
 ·refine lC ?_ ?_
  ·refine le_call (good := good) eX brokerref01_Name_inj (brokerref01_Name_ok p0.User) (fun r1 _ => ?_)
   refine lC ?_ ?_
   ·exact le_ret (by first | rfl | simp only [EN, brokerref06_connect_out] <;> rfl)
   ·exact brokerref06_connect_j3_ok p0
  ·exact brokerref06_connect_j3_ok p0
def C35 (Γ : Fun)  : CFun := bindC Γ
theorem T35 (Γ : Fun)  (Λ2 J : Lam) (p0 : Int) : bodyC SE (C35 Γ) Λ2 J 35 [.d (.int .i64 p0)] [] [] =
 cond (decide (p0 < 1)) (
 (some (.ret [.d (.int .i64 15)] [] []))) (
 cond (decide (p0 > 65535)) (
 (some (.ret [.d (.int .i64 15)] [] []))) (
 (some (.ret [.d (.int .i64 0)] [] [])))) := by kernel_rfl
abbrev X35 : CFun := C35 (callG SE good)
theorem Cr35 : C35 (callG SE good) = bindC (callG SE good) := by unfold C35; rfl
theorem brokerref06_ident_ok (p0 : Int) : Le (Option.map brokerref06_ident_out (brokerref06_ident p0)) (callW SE 35 [.d (.int .i64 p0)] [] []) := by
 refine le_bodyC Cr35 rfl ?_
 refine Le.trans ?_ (le_of_eq (T35 _ _ _  p0).symm)
 unfold brokerref06_ident
 refine lC ?_ ?_
 ·exact le_ret (by first | rfl | simp only [EN, brokerref06_ident_out] <;> rfl)
 ·refine lC ?_ ?_
  ·exact le_ret (by first | rfl | simp only [EN, brokerref06_ident_out] <;> rfl)
  ·exact le_ret (by first | rfl | simp only [EN, brokerref06_ident_out] <;> rfl)
def C33 (Γ : Fun) (γ59 : Gm (Int)) (γ35 : Gm (Int)) : CFun := updC (updC (bindC Γ) 59 brokerref05_Check_out γ59) 35 brokerref06_ident_out γ35
theorem T33 (Γ : Fun) (γ59 : Gm (Int)) (γ35 : Gm (Int)) (Λ2 J : Lam) (p0 : api_Packet) : bodyC SE (C33 Γ γ59 γ35) Λ2 J 33 [api_Packet.av p0] [] [] =
 γ59 [api_Message.av p0.Message] [] [] fun r0 =>
 cond (r0 != 0) (
 (some (.ret [.d (.int .i64 r0)] [] []))) (
 cond (p0.Message.Level == 0) (
 cond (p0.ID != 0) (
  (some (.ret [.d (.int .i64 15)] [] []))) (
 cond p0.Dup (
  (some (.ret [.d (.int .i64 28)] [] []))) (
 (some (.ret [.d (.int .i64 0)] [] []))))) (
 γ35 [.d (.int .i64 p0.ID)] [] [] fun r1 =>
 (some (.ret [.d (.int .i64 r1)] [] [])))) := by kernel_rfl
abbrev X33 : CFun := C33 (callG SE good) (callT SE good 59 brokerref05_Check_out) (callT SE good 35 brokerref06_ident_out)
theorem Cr33 : C33 (callG SE good) (callT SE good 59 brokerref05_Check_out) (callT SE good 35 brokerref06_ident_out) = bindC (callG SE good) := by unfold C33; rw [updC_real (fun _ h => h), updC_real (fun _ h => h)]
theorem brokerref06_publish_ok (p0 : api_Packet) : Le (Option.map brokerref06_publish_out (brokerref06_publish p0)) (callW SE 33 [api_Packet.av p0] [] []) := by
 refine le_bodyC Cr33 rfl ?_
 refine Le.trans ?_ (le_of_eq (T33 _ _ _ _ _  p0).symm)
 unfold brokerref06_publish
 refine le_call (good := good) eX brokerref05_Check_inj (brokerref05_Check_ok p0.Message) (fun r0 _ => ?_)
 refine lC ?_ ?_
 ·exact le_ret (by first | rfl | simp only [EN, brokerref06_publish_out] <;> rfl)
 ·refine lC ?_ ?_
  ·refine lC ?_ ?_
   ·exact le_ret (by first | rfl | simp only [EN, brokerref06_publish_out] <;> rfl)
   ·refine lC ?_ ?_
    ·exact le_ret (by first | rfl | simp only [EN, brokerref06_publish_out] <;> rfl)
    ·exact le_ret (by first | rfl | simp only [EN, brokerref06_publish_out] <;> rfl)
  ·refine le_call (good := good) eX brokerref06_ident_inj (brokerref06_ident_ok p0.ID) (fun r1 _ => ?_)
   exact le_ret (by first | rfl | simp only [EN, brokerref06_publish_out] <;> rfl)
def C34 (Γ : Fun)  : CFun := bindC Γ
theorem T34 (Γ : Fun)  (Λ2 J : Lam) (p0 : Int) : bodyC SE (C34 Γ) Λ2 J 34 [.d (.int .i64 p0)] [] [] =
 cond (decide (p0 ≥ 0)) (
 (some (.ret [.d (.bool (decide (p0 ≤ 29)))] [] []))) (
 (some (.ret [.d (.bool false)] [] []))) := by kernel_rfl
abbrev X34 : CFun := C34 (callG SE good)
theorem Cr34 : C34 (callG SE good) = bindC (callG SE good) := by unfold C34; rfl
theorem brokerref06_Code_ok (p0 : Int) : Le (Option.map brokerref06_Code_out (brokerref06_Code p0)) (callW SE 34 [.d (.int .i64 p0)] [] []) := by
 refine le_bodyC Cr34 rfl ?_
 refine Le.trans ?_ (le_of_eq (T34 _ _ _  p0).symm)
 unfold brokerref06_Code
 refine lC ?_ ?_
 ·exact le_ret (by first | rfl | simp only [EN, brokerref06_Code_out] <;> rfl)
 ·exact le_ret (by first | rfl | simp only [EN, brokerref06_Code_out] <;> rfl)
def C36 (Γ : Fun)  : CFun := bindC Γ
theorem T36 (Γ : Fun)  (Λ2 J : Lam) (p0 : Int) : bodyC SE (C36 Γ) Λ2 J 36 [.d (.int .i64 p0)] [] [] =
 cond (p0 == 0) (
 (some (.ret [.d (.int .i64 1)] [] []))) (
 cond (decide (p0 > 32)) (
 (some (.ret [.d (.int .i64 5)] [] []))) (
 (some (.ret [.d (.int .i64 0)] [] [])))) := by kernel_rfl
abbrev X36 : CFun := C36 (callG SE good)
theorem Cr36 : C36 (callG SE good) = bindC (callG SE good) := by unfold C36; rfl
theorem brokerref06_count_ok (p0 : Int) : Le (Option.map brokerref06_count_out (brokerref06_count p0)) (callW SE 36 [.d (.int .i64 p0)] [] []) := by
 refine le_bodyC Cr36 rfl ?_
 refine Le.trans ?_ (le_of_eq (T36 _ _ _  p0).symm)
 unfold brokerref06_count
 refine lC ?_ ?_
 ·exact le_ret (by first | rfl | simp only [EN, brokerref06_count_out] <;> rfl)
 ·refine lC ?_ ?_
  ·exact le_ret (by first | rfl | simp only [EN, brokerref06_count_out] <;> rfl)
  ·exact le_ret (by first | rfl | simp only [EN, brokerref06_count_out] <;> rfl)
def C82 (Γ : Fun)  : CFun := bindC Γ
theorem T82 (Γ : Fun)  (Λ2 J : Lam) (p0 : Str) (p1 : Str) : bodyC SE (C82 Γ) Λ2 J 82 [.d (.str p0), .d (.str p1)] [] [] =
 cond (decide ((List.length p0 : Int) ≥ (List.length p1 : Int))) (
 cond (decide (0 ≤ (List.length p1 : Int)) && decide ((List.length p1 : Int) ≤ ((List.length p0) : Int))) (
  (some (.ret [.d (.bool ((cutL p0 none (some (List.length p1 : Int))) == p1))] [] []))) none) (
 (some (.ret [.d (.bool false)] [] []))) := by kernel_rfl
abbrev X82 : CFun := C82 (callG SE good)
theorem Cr82 : C82 (callG SE good) = bindC (callG SE good) := by unfold C82; rfl
theorem brokerref01_Begins_ok (p0 : Str) (p1 : Str) : Le (Option.map brokerref01_Begins_out (brokerref01_Begins p0 p1)) (callW SE 82 [.d (.str p0), .d (.str p1)] [] []) := by
 refine le_bodyC Cr82 rfl ?_
 refine Le.trans ?_ (le_of_eq (T82 _ _ _  p0 p1).symm)
 unfold brokerref01_Begins
 refine lC ?_ ?_
 ·refine lF ?_
  exact le_ret (by first | rfl | simp only [EN, brokerref01_Begins_out] <;> rfl)
 ·exact le_ret (by first | rfl | simp only [EN, brokerref01_Begins_out] <;> rfl)
def C81 (Γ : Fun) (γ91 : Gm (Bool)) (γ94 : Gm ((List Str))) (γ92 : Gm (Bool)) : CFun := updC (updC (updC (bindC Γ) 91 brokerref01_sized_out γ91) 94 brokerref01_Levels_out γ94) 92 brokerref01_Has_out γ92
def R81_9 (C : CFun) (Λ2 J : Lam) (a0 : Int) (a1 : (List (List D))) : Res := lab SE C Λ2 J 81 0 [1, 1, 1, 0, 1, 0, 0, 1, 0, 0, 1, 0] (stoOf [(3, .row 3003), (4, .d (.int .i64 a0))] [] [] [] [(3003, ⟨[.str], 9, 16, a1⟩)])
def R81_5 (C : CFun) (Λ2 J : Lam) (a0 : Int) (a1 : (List (List D))) : Res := lab SE C Λ2 J 81 0 [1, 1, 1, 0, 1, 0] (stoOf [(3, .row 3003), (4, .d (.int .i64 a0))] [] [] [] [(3003, ⟨[.str], 9, 16, a1⟩)])
theorem T81 (Γ : Fun) (γ91 : Gm (Bool)) (γ94 : Gm ((List Str))) (γ92 : Gm (Bool)) (Λ2 J : Lam) (p0 : Str) : bodyC SE (C81 Γ γ91 γ94 γ92) Λ2 J 81 [.d (.str p0)] [] [] =
 γ91 [.d (.str p0)] [] [] fun r0 =>
 cond (!r0) (
 (some (.ret [.d (.bool false)] [] []))) (
 γ94 [.d (.str p0)] [] [] fun r1 =>
 R81_5 (C81 Γ γ91 γ94 γ92) Λ2 J 0 (List.map encS r1)) := by kernel_rfl
theorem T81_9 (Γ : Fun) (γ91 : Gm (Bool)) (γ94 : Gm ((List Str))) (γ92 : Gm (Bool)) (Λ2 J : Lam) (x4 : Int) (w3003 : (List Str)) : labU SE (C81 Γ γ91 γ94 γ92) Λ2 J 81 0 [1, 1, 1, 0, 1, 0, 0, 1, 0, 0, 1, 0] (stoOf [(3, .row 3003), (4, .d (.int .i64 x4))] [] [] [] [(3003, ⟨[.str], 9, 16, (List.map encS w3003)⟩)]) =
 cond (decide (0 ≤ x4) && decide (x4 < (List.length (List.map encS w3003) : Int))) (
 γ92 [.d (.str (dStr (cellAt (elemAt (List.map encS w3003) (Int.toNat x4)) 0))), .d (.int .u8 35)] [] [] fun r3 =>
 cond r3 (
  cond (decide (0 ≤ x4) && decide (x4 < (List.length (List.map encS w3003) : Int))) (
  cond (!((dStr (cellAt (elemAt (List.map encS w3003) (Int.toNat x4)) 0)) == ([35] : Str))) (
   (some (.ret [.d (.bool false)] [] []))) (
  cond (x4 != (IntKind.wrap .i64 ((List.length (List.map encS w3003) : Int) - 1))) (
   (some (.ret [.d (.bool false)] [] []))) (
  R81_5 (C81 Γ γ91 γ94 γ92) Λ2 J (IntKind.wrap .i64 (x4 + 1)) (List.map encS w3003)))) none) (
 R81_5 (C81 Γ γ91 γ94 γ92) Λ2 J (IntKind.wrap .i64 (x4 + 1)) (List.map encS w3003))) none := by kernel_rfl
theorem T81_5 (Γ : Fun) (γ91 : Gm (Bool)) (γ94 : Gm ((List Str))) (γ92 : Gm (Bool)) (Λ2 J : Lam) (x4 : Int) (w3003 : (List Str)) : labU SE (C81 Γ γ91 γ94 γ92) Λ2 J 81 0 [1, 1, 1, 0, 1, 0] (stoOf [(3, .row 3003), (4, .d (.int .i64 x4))] [] [] [] [(3003, ⟨[.str], 9, 16, (List.map encS w3003)⟩)]) =
 cond (decide (x4 < (List.length (List.map encS w3003) : Int))) (
 cond (decide (0 ≤ x4) && decide (x4 < (List.length (List.map encS w3003) : Int))) (
  γ92 [.d (.str (dStr (cellAt (elemAt (List.map encS w3003) (Int.toNat x4)) 0))), .d (.int .u8 43)] [] [] fun r2 =>
  cond r2 (
  cond (decide (0 ≤ x4) && decide (x4 < (List.length (List.map encS w3003) : Int))) (
   cond (!((dStr (cellAt (elemAt (List.map encS w3003) (Int.toNat x4)) 0)) == ([43] : Str))) (
   (some (.ret [.d (.bool false)] [] []))) (
   R81_9 (C81 Γ γ91 γ94 γ92) Λ2 J x4 (List.map encS w3003))) none) (
  R81_9 (C81 Γ γ91 γ94 γ92) Λ2 J x4 (List.map encS w3003))) none) (
 (some (.ret [.d (.bool true)] [] []))) := by kernel_rfl
abbrev X81 : CFun := C81 (callG SE good) (callT SE good 91 brokerref01_sized_out) (callT SE good 94 brokerref01_Levels_out) (callT SE good 92 brokerref01_Has_out)
theorem Cr81 : C81 (callG SE good) (callT SE good 91 brokerref01_sized_out) (callT SE good 94 brokerref01_Levels_out) (callT SE good 92 brokerref01_Has_out) = bindC (callG SE good) := by unfold C81; rw [updC_real (fun _ h => h), updC_real (fun _ h => h), updC_real (fun _ h => h)]
noncomputable abbrev Q81_9 (a0 : Int) (a1 : (List (List D))) : Res := R81_9 X81 (lam2 SE (callG SE good) (SE.hl 81) (SE.hr 81)) (J0 SE X81) a0 a1
noncomputable abbrev Q81_5 (a0 : Int) (a1 : (List (List D))) : Res := R81_5 X81 (lam2 SE (callG SE good) (SE.hl 81) (SE.hr 81)) (J0 SE X81) a0 a1
theorem brokerref01_Filter_j9_ok (k5 : Int → (List Str) → Option (Bool)) (hk5 : ∀ (x4 : Int) (w3003 : (List Str)), Le (Option.map brokerref01_Filter_out (k5 x4 w3003)) (Q81_5 x4 (List.map encS w3003))) (x4 : Int) (w3003 : (List Str)) : Le (Option.map brokerref01_Filter_out (brokerref01_Filter_j9 k5 x4 w3003)) (Q81_9 x4 (List.map encS w3003)) := by
 refine Le.trans ?_ (le_of_eq ((lab_realC Cr81).trans (T81_9 _ _ _ _ _ _  x4 w3003)).symm)
 unfold brokerref01_Filter_j9
 refine le_cond (by simp only [EN]) (fun _ => ?_) (fun _ => le_none)
 refine le_call (good := good) eX brokerref01_Has_inj (by first | (simp only [EN]; exact brokerref01_Has_ok (List.getD w3003 (Int.toNat x4) default) 35) | exact brokerref01_Has_ok (List.getD w3003 (Int.toNat x4) default) 35) (fun r3 _ => ?_)
 refine lC ?_ ?_
 ·refine le_cond (by simp only [EN]) (fun _ => ?_) (fun _ => le_none)
  refine le_cond (by simp only [EN]) (fun _ => ?_) (fun _ => ?_)
  ·exact le_ret (by first | rfl | simp only [EN, brokerref01_Filter_out] <;> rfl)
  ·refine le_cond (by simp only [EN]) (fun _ => ?_) (fun _ => ?_)
   ·exact le_ret (by first | rfl | simp only [EN, brokerref01_Filter_out] <;> rfl)
   ·exact hk5 (IntKind.wrap .i64 (x4 + 1)) w3003
 ·exact hk5 (IntKind.wrap .i64 (x4 + 1)) w3003
theorem brokerref01_Filter_l5_ok : ∀ (fu : Nat) (x4 : Int) (w3003 : (List Str)), Le (Option.map brokerref01_Filter_out (brokerref01_Filter_l5 fu x4 w3003)) (Q81_5 x4 (List.map encS w3003)) := by
 intro fu
 induction fu with
 | zero => intros; exact le_none
 | succ fu ih =>
  intro x4 w3003
  refine Le.trans ?_ (le_of_eq ((lab_realC Cr81).trans (T81_5 _ _ _ _ _ _  x4 w3003)).symm)
  unfold brokerref01_Filter_l5
  refine le_cond (by simp only [EN]) (fun _ => ?_) (fun _ => ?_)
  ·refine le_cond (by simp only [EN]) (fun _ => ?_) (fun _ => le_none)
   refine le_call (good := good) eX brokerref01_Has_inj (by first | (simp only [EN]; exact brokerref01_Has_ok (List.getD w3003 (Int.toNat x4) default) 43) | exact brokerref01_Has_ok (List.getD w3003 (Int.toNat x4) default) 43) (fun r2 _ => ?_)
   refine lC ?_ ?_
   ·refine le_cond (by simp only [EN]) (fun _ => ?_) (fun _ => le_none)
    refine le_cond (by simp only [EN]) (fun _ => ?_) (fun _ => ?_)
    ·exact le_ret (by first | rfl | simp only [EN, brokerref01_Filter_out] <;> rfl)
    ·exact brokerref01_Filter_j9_ok _ (ih) x4 w3003
   ·exact brokerref01_Filter_j9_ok _ (ih) x4 w3003
  ·exact le_ret (by first | rfl | simp only [EN, brokerref01_Filter_out] <;> rfl)
theorem brokerref01_Filter_ok (p0 : Str) : Le (Option.map brokerref01_Filter_out (brokerref01_Filter p0)) (callW SE 81 [.d (.str p0)] [] []) := by
 refine le_bodyC Cr81 rfl ?_
 refine Le.trans ?_ (le_of_eq (T81 _ _ _ _ _ _  p0).symm)
 unfold brokerref01_Filter
 refine le_call (good := good) eX brokerref01_sized_inj (brokerref01_sized_ok p0) (fun r0 _ => ?_)
 refine lC ?_ ?_
 ·exact le_ret (by first | rfl | simp only [EN, brokerref01_Filter_out] <;> rfl)
 ·refine le_call (good := good) eX brokerref01_Levels_inj (brokerref01_Levels_ok p0) (fun r1 _ => ?_)
  exact brokerref01_Filter_l5_ok fuel 0 r1
def C80 (Γ : Fun) (γ82 : Gm (Bool)) (γ57 : Gm (Bool)) (γ81 : Gm (Bool)) : CFun := updC (updC (updC (bindC Γ) 82 brokerref01_Begins_out γ82) 57 brokerref01_Name_out γ57) 81 brokerref01_Filter_out γ81
def R80_9 (C : CFun) (Λ2 J : Lam) (a0 : Str) (a1 : Int) : Res := lab SE C Λ2 J 80 0 [1, 1, 1, 1, 1, 1, 0] (stoOf [(5, .d (.str a0)), (6, .d (.int .i64 a1))] [] [] [] [])
def R80_7 (C : CFun) (Λ2 J : Lam) (a0 : Str) (a1 : Int) : Res := lab SE C Λ2 J 80 0 [1, 1, 1, 1, 1, 0, 0] (stoOf [(5, .d (.str a0)), (6, .d (.int .i64 a1))] [] [] [] [])
def R80_5 (C : CFun) (Λ2 J : Lam) (a0 : Str) (a1 : Int) : Res := lab SE C Λ2 J 80 0 [1, 1, 1, 1, 0, 0] (stoOf [(5, .d (.str a0)), (6, .d (.int .i64 a1))] [] [] [] [])
theorem T80 (Γ : Fun) (γ82 : Gm (Bool)) (γ57 : Gm (Bool)) (γ81 : Gm (Bool)) (Λ2 J : Lam) (p0 : Str) : bodyC SE (C80 Γ γ82 γ57 γ81) Λ2 J 80 [.d (.str p0)] [] [] =
 γ82 [.d (.str p0), .d (.str ([36, 115, 104, 97, 114, 101, 47] : Str))] [] [] fun r0 =>
 cond (!r0) (
 (some (.ret [.d (.str ([] : Str)), .d (.str ([] : Str)), .d (.bool false)] [] []))) (
 cond (decide (0 ≤ 7) && decide (7 ≤ ((List.length p0) : Int))) (
 R80_5 (C80 Γ γ82 γ57 γ81) Λ2 J (cutL p0 (some 7) none) 0) none) := by kernel_rfl
theorem T80_9 (Γ : Fun) (γ82 : Gm (Bool)) (γ57 : Gm (Bool)) (γ81 : Gm (Bool)) (Λ2 J : Lam) (x5 : Str) (x6 : Int) : labU SE (C80 Γ γ82 γ57 γ81) Λ2 J 80 0 [1, 1, 1, 1, 1, 1, 0] (stoOf [(5, .d (.str x5)), (6, .d (.int .i64 x6))] [] [] [] []) =
 cond (decide (0 ≤ x6) && decide (x6 ≤ ((List.length x5) : Int))) (
 cond (decide (0 ≤ (IntKind.wrap .i64 (x6 + 1))) && decide ((IntKind.wrap .i64 (x6 + 1)) ≤ ((List.length x5) : Int))) (
  (some (.ret [.d (.str (cutL x5 none (some x6))), .d (.str (cutL x5 (some (IntKind.wrap .i64 (x6 + 1))) none)), .d (.bool true)] [] []))) none) none := by kernel_rfl
theorem T80_7 (Γ : Fun) (γ82 : Gm (Bool)) (γ57 : Gm (Bool)) (γ81 : Gm (Bool)) (Λ2 J : Lam) (x5 : Str) (x6 : Int) : labU SE (C80 Γ γ82 γ57 γ81) Λ2 J 80 0 [1, 1, 1, 1, 1, 0, 0] (stoOf [(5, .d (.str x5)), (6, .d (.int .i64 x6))] [] [] [] []) =
 cond (x6 == (List.length x5 : Int)) (
 (some (.ret [.d (.str ([] : Str)), .d (.str ([] : Str)), .d (.bool false)] [] []))) (
 cond (decide (0 ≤ x6) && decide (x6 ≤ ((List.length x5) : Int))) (
 γ57 [.d (.str (cutL x5 none (some x6)))] [] [] fun r1 =>
 cond (!r1) (
  (some (.ret [.d (.str ([] : Str)), .d (.str ([] : Str)), .d (.bool false)] [] []))) (
 cond (decide (0 ≤ (IntKind.wrap .i64 (x6 + 1))) && decide ((IntKind.wrap .i64 (x6 + 1)) ≤ ((List.length x5) : Int))) (
  γ81 [.d (.str (cutL x5 (some (IntKind.wrap .i64 (x6 + 1))) none))] [] [] fun r2 =>
  cond (!r2) (
  (some (.ret [.d (.str ([] : Str)), .d (.str ([] : Str)), .d (.bool false)] [] []))) (
  cond (decide (0 ≤ (IntKind.wrap .i64 (x6 + 1))) && decide ((IntKind.wrap .i64 (x6 + 1)) ≤ ((List.length x5) : Int))) (
  γ82 [.d (.str (cutL x5 (some (IntKind.wrap .i64 (x6 + 1))) none)), .d (.str ([36, 115, 104, 97, 114, 101, 47] : Str))] [] [] fun r3 =>
  cond r3 (
   (some (.ret [.d (.str ([] : Str)), .d (.str ([] : Str)), .d (.bool false)] [] []))) (
  R80_9 (C80 Γ γ82 γ57 γ81) Λ2 J x5 x6)) none)) none)) none) := by kernel_rfl
theorem T80_5 (Γ : Fun) (γ82 : Gm (Bool)) (γ57 : Gm (Bool)) (γ81 : Gm (Bool)) (Λ2 J : Lam) (x5 : Str) (x6 : Int) : labU SE (C80 Γ γ82 γ57 γ81) Λ2 J 80 0 [1, 1, 1, 1, 0, 0] (stoOf [(5, .d (.str x5)), (6, .d (.int .i64 x6))] [] [] [] []) =
 cond (decide (x6 < (List.length x5 : Int))) (
 cond (decide (0 ≤ x6) && decide (x6 < (List.length x5 : Int))) (
  cond ((UInt8.toNat (List.getD x5 (Int.toNat x6) 0) : Int) != 47) (
  R80_5 (C80 Γ γ82 γ57 γ81) Λ2 J x5 (IntKind.wrap .i64 (x6 + 1))) (
  R80_7 (C80 Γ γ82 γ57 γ81) Λ2 J x5 x6)) none) (
 R80_7 (C80 Γ γ82 γ57 γ81) Λ2 J x5 x6) := by kernel_rfl
abbrev X80 : CFun := C80 (callG SE good) (callT SE good 82 brokerref01_Begins_out) (callT SE good 57 brokerref01_Name_out) (callT SE good 81 brokerref01_Filter_out)
theorem Cr80 : C80 (callG SE good) (callT SE good 82 brokerref01_Begins_out) (callT SE good 57 brokerref01_Name_out) (callT SE good 81 brokerref01_Filter_out) = bindC (callG SE good) := by unfold C80; rw [updC_real (fun _ h => h), updC_real (fun _ h => h), updC_real (fun _ h => h)]
noncomputable abbrev Q80_9 (a0 : Str) (a1 : Int) : Res := R80_9 X80 (lam2 SE (callG SE good) (SE.hl 80) (SE.hr 80)) (J0 SE X80) a0 a1
noncomputable abbrev Q80_7 (a0 : Str) (a1 : Int) : Res := R80_7 X80 (lam2 SE (callG SE good) (SE.hl 80) (SE.hr 80)) (J0 SE X80) a0 a1
noncomputable abbrev Q80_5 (a0 : Str) (a1 : Int) : Res := R80_5 X80 (lam2 SE (callG SE good) (SE.hl 80) (SE.hr 80)) (J0 SE X80) a0 a1
theorem brokerref01_Shared_j9_ok (x5 : Str) (x6 : Int) : Le (Option.map brokerref01_Shared_out (brokerref01_Shared_j9 x5 x6)) (Q80_9 x5 x6) := by
 refine Le.trans ?_ (le_of_eq ((lab_realC Cr80).trans (T80_9 _ _ _ _ _ _  x5 x6)).symm)
 unfold brokerref01_Shared_j9
 refine lF ?_
 refine lF ?_
 exact le_ret (by first | rfl | simp only [EN, brokerref01_Shared_out] <;> rfl)
theorem brokerref01_Shared_j7_ok (x5 : Str) (x6 : Int) : Le (Option.map brokerref01_Shared_out (brokerref01_Shared_j7 x5 x6)) (Q80_7 x5 x6) := by
 refine Le.trans ?_ (le_of_eq ((lab_realC Cr80).trans (T80_7 _ _ _ _ _ _  x5 x6)).symm)
 unfold brokerref01_Shared_j7
 refine lC ?_ ?_
 ·exact le_ret (by first | rfl | simp only [EN, brokerref01_Shared_out] <;> rfl)
 ·refine lF ?_
  refine le_call (good := good) eX brokerref01_Name_inj (brokerref01_Name_ok (cutL x5 none (some x6))) (fun r1 _ => ?_)
  refine lC ?_ ?_
  ·exact le_ret (by first | rfl | simp only [EN, brokerref01_Shared_out] <;> rfl)
  ·refine lF ?_
   refine le_call (good := good) eX brokerref01_Filter_inj (brokerref01_Filter_ok (cutL x5 (some (IntKind.wrap .i64 (x6 + 1))) none)) (fun r2 _ => ?_)
   refine lC ?_ ?_
   ·exact le_ret (by first | rfl | simp only [EN, brokerref01_Shared_out] <;> rfl)
   ·refine lF ?_
    refine le_call (good := good) eX brokerref01_Begins_inj (brokerref01_Begins_ok (cutL x5 (some (IntKind.wrap .i64 (x6 + 1))) none) ([36, 115, 104, 97, 114, 101, 47] : Str)) (fun r3 _ => ?_)
    refine lC ?_ ?_
    ·exact le_ret (by first | rfl | simp only [EN, brokerref01_Shared_out] <;> rfl)
    ·exact brokerref01_Shared_j9_ok x5 x6
theorem brokerref01_Shared_l5_ok : ∀ (fu : Nat) (x5 : Str) (x6 : Int), Le (Option.map brokerref01_Shared_out (brokerref01_Shared_l5 fu x5 x6)) (Q80_5 x5 x6) := by
 intro fu
 induction fu with
 | zero => intros; exact le_none
 | succ fu ih =>
  intro x5 x6
  refine Le.trans ?_ (le_of_eq ((lab_realC Cr80).trans (T80_5 _ _ _ _ _ _  x5 x6)).symm)
  unfold brokerref01_Shared_l5
  refine lC ?_ ?_
  ·refine lF ?_
   refine lC ?_ ?_
   ·exact ih x5 (IntKind.wrap .i64 (x6 + 1))
   ·exact brokerref01_Shared_j7_ok x5 x6
  ·exact brokerref01_Shared_j7_ok x5 x6
theorem brokerref01_Shared_ok (p0 : Str) : Le (Option.map brokerref01_Shared_out (brokerref01_Shared p0)) (callW SE 80 [.d (.str p0)] [] []) := by
 refine le_bodyC Cr80 rfl ?_
 refine Le.trans ?_ (le_of_eq (T80 _ _ _ _ _ _  p0).symm)
 unfold brokerref01_Shared
 refine le_call (good := good) eX brokerref01_Begins_inj (brokerref01_Begins_ok p0 ([36, 115, 104, 97, 114, 101, 47] : Str)) (fun r0 _ => ?_)
 refine lC ?_ ?_
 ·exact le_ret (by first | rfl | simp only [EN, brokerref01_Shared_out] <;> rfl)
 ·refine lF ?_
  exact brokerref01_Shared_l5_ok fuel (cutL p0 (some 7) none) 0
def C61 (Γ : Fun) (γ80 : Gm (Str × Str × Bool)) (γ81 : Gm (Bool)) (γ82 : Gm (Bool)) : CFun := updC (updC (updC (bindC Γ) 80 brokerref01_Shared_out γ80) 81 brokerref01_Filter_out γ81) 82 brokerref01_Begins_out γ82
theorem T61 (Γ : Fun) (γ80 : Gm (Str × Str × Bool)) (γ81 : Gm (Bool)) (γ82 : Gm (Bool)) (Λ2 J : Lam) (p0 : Str) : bodyC SE (C61 Γ γ80 γ81 γ82) Λ2 J 61 [.d (.str p0)] [] [] =
 γ80 [.d (.str p0)] [] [] fun r0 =>
 cond r0.2.2 (
 (some (.ret [.d (.bool true)] [] []))) (
 γ81 [.d (.str p0)] [] [] fun r1 =>
 cond r1 (
 γ82 [.d (.str p0), .d (.str ([36, 115, 104, 97, 114, 101, 47] : Str))] [] [] fun r2 =>
 (some (.ret [.d (.bool (!r2))] [] []))) (
 (some (.ret [.d (.bool false)] [] [])))) := by kernel_rfl
abbrev X61 : CFun := C61 (callG SE good) (callT SE good 80 brokerref01_Shared_out) (callT SE good 81 brokerref01_Filter_out) (callT SE good 82 brokerref01_Begins_out)
theorem Cr61 : C61 (callG SE good) (callT SE good 80 brokerref01_Shared_out) (callT SE good 81 brokerref01_Filter_out) (callT SE good 82 brokerref01_Begins_out) = bindC (callG SE good) := by unfold C61; rw [updC_real (fun _ h => h), updC_real (fun _ h => h), updC_real (fun _ h => h)]
theorem brokerref01_Wanted_ok (p0 : Str) : Le (Option.map brokerref01_Wanted_out (brokerref01_Wanted p0)) (callW SE 61 [.d (.str p0)] [] []) := by
 refine le_bodyC Cr61 rfl ?_
 refine Le.trans ?_ (le_of_eq (T61 _ _ _ _ _ _  p0).symm)
 unfold brokerref01_Wanted
 refine le_call (good := good) eX brokerref01_Shared_inj (brokerref01_Shared_ok p0) (fun r0 _ => ?_)
 refine lC ?_ ?_
 ·exact le_ret (by first | rfl | simp only [EN, brokerref01_Wanted_out] <;> rfl)
 ·refine le_call (good := good) eX brokerref01_Filter_inj (brokerref01_Filter_ok p0) (fun r1 _ => ?_)
  refine lC ?_ ?_
  ·refine le_call (good := good) eX brokerref01_Begins_inj (brokerref01_Begins_ok p0 ([36, 115, 104, 97, 114, 101, 47] : Str)) (fun r2 _ => ?_)
   exact le_ret (by first | rfl | simp only [EN, brokerref01_Wanted_out] <;> rfl)
  ·exact le_ret (by first | rfl | simp only [EN, brokerref01_Wanted_out] <;> rfl)
def C60 (Γ : Fun) (γ61 : Gm (Bool)) (γ80 : Gm (Str × Str × Bool)) : CFun := updC (updC (bindC Γ) 61 brokerref01_Wanted_out γ61) 80 brokerref01_Shared_out γ80
def R60_5 (C : CFun) (Λ2 J : Lam) (a0 : (List D)) : Res := lab SE C Λ2 J 60 0 [1, 1, 1, 0] (stoOf [(1, .ptr 1000000000 0)] [⟨83, (List.map AV.d a0)⟩] [] [] [])
theorem T60 (Γ : Fun) (γ61 : Gm (Bool)) (γ80 : Gm (Str × Str × Bool)) (Λ2 J : Lam) (p0 : api_Sub) : bodyC SE (C60 Γ γ61 γ80) Λ2 J 60 [api_Sub.av p0] [] [] =
 γ61 [.d (.str p0.Filter)] [] [] fun r0 =>
 cond (!r0) (
 (some (.ret [.d (.int .i64 13)] [] []))) (
 cond (decide (p0.Level < 0)) (
 (some (.ret [.d (.int .i64 14)] [] []))) (
 cond (decide (p0.Level > 2)) (
 (some (.ret [.d (.int .i64 14)] [] []))) (
 R60_5 (C60 Γ γ61 γ80) Λ2 J (api_Sub.enc p0)))) := by kernel_rfl
theorem T60_5 (Γ : Fun) (γ61 : Gm (Bool)) (γ80 : Gm (Str × Str × Bool)) (Λ2 J : Lam) (b0 : api_Sub) : labU SE (C60 Γ γ61 γ80) Λ2 J 60 0 [1, 1, 1, 0] (stoOf [(1, .ptr 1000000000 0)] [⟨83, (List.map AV.d (api_Sub.enc b0))⟩] [] [] []) =
 γ80 [.d (.str b0.Filter)] [] [] fun r1 =>
 cond b0.NoLocal (
 cond r1.2.2 (
  (some (.ret [.d (.int .i64 28)] [] []))) (
 (some (.ret [.d (.int .i64 0)] [] [])))) (
 (some (.ret [.d (.int .i64 0)] [] []))) := by kernel_rfl
abbrev X60 : CFun := C60 (callG SE good) (callT SE good 61 brokerref01_Wanted_out) (callT SE good 80 brokerref01_Shared_out)
theorem Cr60 : C60 (callG SE good) (callT SE good 61 brokerref01_Wanted_out) (callT SE good 80 brokerref01_Shared_out) = bindC (callG SE good) := by unfold C60; rw [updC_real (fun _ h => h), updC_real (fun _ h => h)]
noncomputable abbrev Q60_5 (a0 : (List D)) : Res := R60_5 X60 (lam2 SE (callG SE good) (SE.hl 60) (SE.hr 60)) (J0 SE X60) a0
theorem brokerref06_Sub_j5_ok (b0 : api_Sub) : Le (Option.map brokerref06_Sub_out (brokerref06_Sub_j5 b0)) (Q60_5 (api_Sub.enc b0)) := by
 refine Le.trans ?_ (le_of_eq ((lab_realC Cr60).trans (T60_5 _ _ _ _ _  b0)).symm)
 unfold brokerref06_Sub_j5
 refine le_call (good := good) eX brokerref01_Shared_inj (brokerref01_Shared_ok b0.Filter) (fun r1 _ => ?_)
 refine lC ?_ ?_
 ·refine lC ?_ ?_
  ·exact le_ret (by first | rfl | simp only [EN, brokerref06_Sub_out] <;> rfl)
  ·exact le_ret (by first | rfl | simp only [EN, brokerref06_Sub_out] <;> rfl)
 ·exact le_ret (by first | rfl | simp only [EN, brokerref06_Sub_out] <;> rfl)
theorem brokerref06_Sub_ok (p0 : api_Sub) : Le (Option.map brokerref06_Sub_out (brokerref06_Sub p0)) (callW SE 60 [api_Sub.av p0] [] []) := by
 refine le_bodyC Cr60 rfl ?_
 refine Le.trans ?_ (le_of_eq (T60 _ _ _ _ _  p0).symm)
 unfold brokerref06_Sub
 refine le_call (good := good) eX brokerref01_Wanted_inj (brokerref01_Wanted_ok p0.Filter) (fun r0 _ => ?_)
 refine lC ?_ ?_
 ·exact le_ret (by first | rfl | simp only [EN, brokerref06_Sub_out] <;> rfl)
 ·refine lC ?_ ?_
  ·exact le_ret (by first | rfl | simp only [EN, brokerref06_Sub_out] <;> rfl)
  ·refine lC ?_ ?_
   ·exact le_ret (by first | rfl | simp only [EN, brokerref06_Sub_out] <;> rfl)
   ·exact brokerref06_Sub_j5_ok p0
def C37 (Γ : Fun) (γ60 : Gm (Int)) (γ61 : Gm (Bool)) (γ34 : Gm (Bool)) : CFun := updC (updC (updC (bindC Γ) 60 brokerref06_Sub_out γ60) 61 brokerref01_Wanted_out γ61) 34 brokerref06_Code_out γ34
def R37_13 (C : CFun) (Λ2 J : Lam) (a0 : Int) (a1 : (List D)) : Res := lab SE C Λ2 J 37 0 [1, 1, 1, 0, 1, 0] (stoOf [(1, .ptr 1000000000 0), (6, .d (.int .i64 a0))] [⟨33, (List.map AV.d a1)⟩] [] [] [])
def R37_8 (C : CFun) (Λ2 J : Lam) (a0 : Int) (a1 : (List D)) : Res := lab SE C Λ2 J 37 0 [1, 1, 0, 1, 0] (stoOf [(1, .ptr 1000000000 0), (5, .d (.int .i64 a0))] [⟨33, (List.map AV.d a1)⟩] [] [] [])
def R37_2 (C : CFun) (Λ2 J : Lam) (a0 : Int) (a1 : (List D)) : Res := lab SE C Λ2 J 37 0 [1, 0, 1, 0] (stoOf [(1, .ptr 1000000000 0), (3, .d (.int .i64 a0))] [⟨33, (List.map AV.d a1)⟩] [] [] [])
theorem T37 (Γ : Fun) (γ60 : Gm (Int)) (γ61 : Gm (Bool)) (γ34 : Gm (Bool)) (Λ2 J : Lam) (p0 : api_Packet) : bodyC SE (C37 Γ γ60 γ61 γ34) Λ2 J 37 [api_Packet.av p0] [] [] =
 R37_2 (C37 Γ γ60 γ61 γ34) Λ2 J 0 (api_Packet.enc p0) := by kernel_rfl
theorem T37_13 (Γ : Fun) (γ60 : Gm (Int)) (γ61 : Gm (Bool)) (γ34 : Gm (Bool)) (Λ2 J : Lam) (x6 : Int) (b0 : api_Packet) : labU SE (C37 Γ γ60 γ61 γ34) Λ2 J 37 0 [1, 1, 1, 0, 1, 0] (stoOf [(1, .ptr 1000000000 0), (6, .d (.int .i64 x6))] [⟨33, (List.map AV.d (api_Packet.enc b0))⟩] [] [] []) =
 cond (decide (x6 < (List.length (List.map (encI .i64) b0.Codes) : Int))) (
 cond (decide (0 ≤ x6) && decide (x6 < (List.length (List.map (encI .i64) b0.Codes) : Int))) (
  γ34 [.d (.int .i64 (dInt (cellAt (elemAt (List.map (encI .i64) b0.Codes) (Int.toNat x6)) 0)))] [] [] fun r2 =>
  cond (!r2) (
  (some (.ret [.d (.int .i64 1)] [] []))) (
  R37_13 (C37 Γ γ60 γ61 γ34) Λ2 J (IntKind.wrap .i64 (x6 + 1)) (api_Packet.enc b0))) none) (
 (some (.ret [.d (.int .i64 0)] [] []))) := by kernel_rfl
theorem T37_8 (Γ : Fun) (γ60 : Gm (Int)) (γ61 : Gm (Bool)) (γ34 : Gm (Bool)) (Λ2 J : Lam) (x5 : Int) (b0 : api_Packet) : labU SE (C37 Γ γ60 γ61 γ34) Λ2 J 37 0 [1, 1, 0, 1, 0] (stoOf [(1, .ptr 1000000000 0), (5, .d (.int .i64 x5))] [⟨33, (List.map AV.d (api_Packet.enc b0))⟩] [] [] []) =
 cond (decide (x5 < (List.length (List.map encS b0.Filters) : Int))) (
 cond (decide (0 ≤ x5) && decide (x5 < (List.length (List.map encS b0.Filters) : Int))) (
  γ61 [.d (.str (dStr (cellAt (elemAt (List.map encS b0.Filters) (Int.toNat x5)) 0)))] [] [] fun r1 =>
  cond (!r1) (
  (some (.ret [.d (.int .i64 13)] [] []))) (
  R37_8 (C37 Γ γ60 γ61 γ34) Λ2 J (IntKind.wrap .i64 (x5 + 1)) (api_Packet.enc b0))) none) (
 R37_13 (C37 Γ γ60 γ61 γ34) Λ2 J 0 (api_Packet.enc b0)) := by kernel_rfl
theorem T37_2 (Γ : Fun) (γ60 : Gm (Int)) (γ61 : Gm (Bool)) (γ34 : Gm (Bool)) (Λ2 J : Lam) (x3 : Int) (b0 : api_Packet) : labU SE (C37 Γ γ60 γ61 γ34) Λ2 J 37 0 [1, 0, 1, 0] (stoOf [(1, .ptr 1000000000 0), (3, .d (.int .i64 x3))] [⟨33, (List.map AV.d (api_Packet.enc b0))⟩] [] [] []) =
 cond (decide (x3 < (List.length (List.map api_Sub.enc b0.Subs) : Int))) (
 cond (decide (0 ≤ x3) && decide (x3 < (List.length (List.map api_Sub.enc b0.Subs) : Int))) (
  γ60 [.agg [.d (.str (dStr (cellAt (elemAt (List.map api_Sub.enc b0.Subs) (Int.toNat x3)) 0))), .d (.int .i64 (dInt (cellAt (elemAt (List.map api_Sub.enc b0.Subs) (Int.toNat x3)) 1))), .d (.bool (dBool (cellAt (elemAt (List.map api_Sub.enc b0.Subs) (Int.toNat x3)) 2)))]] [] [] fun r0 =>
  cond (r0 != 0) (
  (some (.ret [.d (.int .i64 r0)] [] []))) (
  R37_2 (C37 Γ γ60 γ61 γ34) Λ2 J (IntKind.wrap .i64 (x3 + 1)) (api_Packet.enc b0))) none) (
 R37_8 (C37 Γ γ60 γ61 γ34) Λ2 J 0 (api_Packet.enc b0)) := by kernel_rfl
abbrev X37 : CFun := C37 (callG SE good) (callT SE good 60 brokerref06_Sub_out) (callT SE good 61 brokerref01_Wanted_out) (callT SE good 34 brokerref06_Code_out)
theorem Cr37 : C37 (callG SE good) (callT SE good 60 brokerref06_Sub_out) (callT SE good 61 brokerref01_Wanted_out) (callT SE good 34 brokerref06_Code_out) = bindC (callG SE good) := by unfold C37; rw [updC_real (fun _ h => h), updC_real (fun _ h => h), updC_real (fun _ h => h)]
noncomputable abbrev Q37_13 (a0 : Int) (a1 : (List D)) : Res := R37_13 X37 (lam2 SE (callG SE good) (SE.hl 37) (SE.hr 37)) (J0 SE X37) a0 a1
noncomputable abbrev Q37_8 (a0 : Int) (a1 : (List D)) : Res := R37_8 X37 (lam2 SE (callG SE good) (SE.hl 37) (SE.hr 37)) (J0 SE X37) a0 a1
noncomputable abbrev Q37_2 (a0 : Int) (a1 : (List D)) : Res := R37_2 X37 (lam2 SE (callG SE good) (SE.hl 37) (SE.hr 37)) (J0 SE X37) a0 a1
theorem brokerref06_elements_l13_ok : ∀ (fu : Nat) (x6 : Int) (b0 : api_Packet), Le (Option.map brokerref06_elements_out (brokerref06_elements_l13 fu x6 b0)) (Q37_13 x6 (api_Packet.enc b0)) := by
 intro fu
 induction fu with
 | zero => intros; exact le_none
 | succ fu ih =>
  intro x6 b0
  refine Le.trans ?_ (le_of_eq ((lab_realC Cr37).trans (T37_13 _ _ _ _ _ _  x6 b0)).symm)
  unfold brokerref06_elements_l13
  refine le_cond (by simp only [EN]) (fun _ => ?_) (fun _ => ?_)
  ·refine le_cond (by simp only [EN]) (fun _ => ?_) (fun _ => le_none)
   refine le_call (good := good) eX brokerref06_Code_inj (by first | (simp only [EN]; exact brokerref06_Code_ok (List.getD b0.Codes (Int.toNat x6) default)) | exact brokerref06_Code_ok (List.getD b0.Codes (Int.toNat x6) default)) (fun r2 _ => ?_)
   refine lC ?_ ?_
   ·exact le_ret (by first | rfl | simp only [EN, brokerref06_elements_out] <;> rfl)
   ·exact ih (IntKind.wrap .i64 (x6 + 1)) b0
  ·exact le_ret (by first | rfl | simp only [EN, brokerref06_elements_out] <;> rfl)
theorem brokerref06_elements_l8_ok : ∀ (fu : Nat) (x5 : Int) (b0 : api_Packet), Le (Option.map brokerref06_elements_out (brokerref06_elements_l8 fu x5 b0)) (Q37_8 x5 (api_Packet.enc b0)) := by
 intro fu
 induction fu with
 | zero => intros; exact le_none
 | succ fu ih =>
  intro x5 b0
  refine Le.trans ?_ (le_of_eq ((lab_realC Cr37).trans (T37_8 _ _ _ _ _ _  x5 b0)).symm)
  unfold brokerref06_elements_l8
  refine le_cond (by simp only [EN]) (fun _ => ?_) (fun _ => ?_)
  ·refine le_cond (by simp only [EN]) (fun _ => ?_) (fun _ => le_none)
   refine le_call (good := good) eX brokerref01_Wanted_inj (by first | (simp only [EN]; exact brokerref01_Wanted_ok (List.getD b0.Filters (Int.toNat x5) default)) | exact brokerref01_Wanted_ok (List.getD b0.Filters (Int.toNat x5) default)) (fun r1 _ => ?_)
   refine lC ?_ ?_
   ·exact le_ret (by first | rfl | simp only [EN, brokerref06_elements_out] <;> rfl)
   ·exact ih (IntKind.wrap .i64 (x5 + 1)) b0
  ·exact brokerref06_elements_l13_ok fuel 0 b0
theorem brokerref06_elements_l2_ok : ∀ (fu : Nat) (x3 : Int) (b0 : api_Packet), Le (Option.map brokerref06_elements_out (brokerref06_elements_l2 fu x3 b0)) (Q37_2 x3 (api_Packet.enc b0)) := by
 intro fu
 induction fu with
 | zero => intros; exact le_none
 | succ fu ih =>
  intro x3 b0
  refine Le.trans ?_ (le_of_eq ((lab_realC Cr37).trans (T37_2 _ _ _ _ _ _  x3 b0)).symm)
  unfold brokerref06_elements_l2
  refine le_cond (by simp only [EN]) (fun _ => ?_) (fun _ => ?_)
  ·refine le_cond (by simp only [EN]) (fun _ => ?_) (fun _ => le_none)
   refine le_call (good := good) eX brokerref06_Sub_inj (by first | (simp only [EN]; exact brokerref06_Sub_ok (List.getD b0.Subs (Int.toNat x3) default)) | exact brokerref06_Sub_ok (List.getD b0.Subs (Int.toNat x3) default)) (fun r0 _ => ?_)
   refine lC ?_ ?_
   ·exact le_ret (by first | rfl | simp only [EN, brokerref06_elements_out] <;> rfl)
   ·exact ih (IntKind.wrap .i64 (x3 + 1)) b0
  ·exact brokerref06_elements_l8_ok fuel 0 b0
theorem brokerref06_elements_ok (p0 : api_Packet) : Le (Option.map brokerref06_elements_out (brokerref06_elements p0)) (callW SE 37 [api_Packet.av p0] [] []) := by
 refine le_bodyC Cr37 rfl ?_
 refine Le.trans ?_ (le_of_eq (T37 _ _ _ _ _ _  p0).symm)
 unfold brokerref06_elements
 exact brokerref06_elements_l2_ok fuel 0 p0
def C17 (Γ : Fun) (γ31 : Gm (api_Packet)) (γ27 : Gm (Bool)) (γ32 : Gm (Int)) (γ33 : Gm (Int)) (γ34 : Gm (Bool)) (γ35 : Gm (Int)) (γ36 : Gm (Int)) (γ37 : Gm (Int)) : CFun := updC (updC (updC (updC (updC (updC (updC (updC (bindC Γ) 31 brokerref06_Used_out γ31) 27 brokerref06_Same_out γ27) 32 brokerref06_connect_out γ32) 33 brokerref06_publish_out γ33) 34 brokerref06_Code_out γ34) 35 brokerref06_ident_out γ35) 36 brokerref06_count_out γ36) 37 brokerref06_elements_out γ37
def R17_20 (C : CFun) (Λ2 J : Lam) (a0 : (List D)) : Res := lab SE C Λ2 J 17 0 [1, 1, 1, 1, 1, 1, 1, 1, 1, 0] (stoOf [(1, .ptr 1000000000 0)] [⟨33, (List.map AV.d a0)⟩] [] [] [])
def R17_17 (C : CFun) (Λ2 J : Lam) (a0 : (List D)) : Res := lab SE C Λ2 J 17 0 [1, 1, 1, 1, 1, 1, 1, 0] (stoOf [(1, .ptr 1000000000 0)] [⟨33, (List.map AV.d a0)⟩] [] [] [])
def R17_15 (C : CFun) (Λ2 J : Lam) (a0 : (List D)) : Res := lab SE C Λ2 J 17 0 [1, 1, 1, 1, 1, 1, 0, 0] (stoOf [(1, .ptr 1000000000 0)] [⟨33, (List.map AV.d a0)⟩] [] [] [])
def R17_3 (C : CFun) (Λ2 J : Lam) (a0 : (List D)) : Res := lab SE C Λ2 J 17 0 [1, 1, 0, 0] (stoOf [(1, .ptr 1000000000 0)] [⟨33, (List.map AV.d a0)⟩] [] [] [])
theorem T17 (Γ : Fun) (γ31 : Gm (api_Packet)) (γ27 : Gm (Bool)) (γ32 : Gm (Int)) (γ33 : Gm (Int)) (γ34 : Gm (Bool)) (γ35 : Gm (Int)) (γ36 : Gm (Int)) (γ37 : Gm (Int)) (Λ2 J : Lam) (p0 : api_Packet) : bodyC SE (C17 Γ γ31 γ27 γ32 γ33 γ34 γ35 γ36 γ37) Λ2 J 17 [api_Packet.av p0] [] [] =
 cond (decide (p0.Kind < 1)) (
 (some (.ret [.d (.int .i64 10)] [] []))) (
 cond (decide (p0.Kind > 14)) (
 (some (.ret [.d (.int .i64 10)] [] []))) (
 R17_3 (C17 Γ γ31 γ27 γ32 γ33 γ34 γ35 γ36 γ37) Λ2 J (api_Packet.enc p0))) := by kernel_rfl
theorem T17_20 (Γ : Fun) (γ31 : Gm (api_Packet)) (γ27 : Gm (Bool)) (γ32 : Gm (Int)) (γ33 : Gm (Int)) (γ34 : Gm (Bool)) (γ35 : Gm (Int)) (γ36 : Gm (Int)) (γ37 : Gm (Int)) (Λ2 J : Lam) (b0 : api_Packet) : labU SE (C17 Γ γ31 γ27 γ32 γ33 γ34 γ35 γ36 γ37) Λ2 J 17 0 [1, 1, 1, 1, 1, 1, 1, 1, 1, 0] (stoOf [(1, .ptr 1000000000 0)] [⟨33, (List.map AV.d (api_Packet.enc b0))⟩] [] [] []) =
 γ36 [.d (.int .i64 (IntKind.wrap .i64 ((IntKind.wrap .i64 ((List.length (List.map api_Sub.enc b0.Subs) : Int) + (List.length (List.map encS b0.Filters) : Int))) + (List.length (List.map (encI .i64) b0.Codes) : Int))))] [] [] fun r7 =>
 cond (r7 != 0) (
 (some (.ret [.d (.int .i64 r7)] [] []))) (
 γ37 [api_Packet.av b0] [] [] fun r8 =>
 (some (.ret [.d (.int .i64 r8)] [] []))) := by kernel_rfl
theorem T17_17 (Γ : Fun) (γ31 : Gm (api_Packet)) (γ27 : Gm (Bool)) (γ32 : Gm (Int)) (γ33 : Gm (Int)) (γ34 : Gm (Bool)) (γ35 : Gm (Int)) (γ36 : Gm (Int)) (γ37 : Gm (Int)) (Λ2 J : Lam) (b0 : api_Packet) : labU SE (C17 Γ γ31 γ27 γ32 γ33 γ34 γ35 γ36 γ37) Λ2 J 17 0 [1, 1, 1, 1, 1, 1, 1, 0] (stoOf [(1, .ptr 1000000000 0)] [⟨33, (List.map AV.d (api_Packet.enc b0))⟩] [] [] []) =
 γ35 [.d (.int .i64 b0.ID)] [] [] fun r6 =>
 cond (r6 != 0) (
 (some (.ret [.d (.int .i64 r6)] [] []))) (
 cond (decide (b0.Kind ≤ 7)) (
 (some (.ret [.d (.int .i64 r6)] [] []))) (
 R17_20 (C17 Γ γ31 γ27 γ32 γ33 γ34 γ35 γ36 γ37) Λ2 J (api_Packet.enc b0))) := by kernel_rfl
theorem T17_15 (Γ : Fun) (γ31 : Gm (api_Packet)) (γ27 : Gm (Bool)) (γ32 : Gm (Int)) (γ33 : Gm (Int)) (γ34 : Gm (Bool)) (γ35 : Gm (Int)) (γ36 : Gm (Int)) (γ37 : Gm (Int)) (Λ2 J : Lam) (b0 : api_Packet) : labU SE (C17 Γ γ31 γ27 γ32 γ33 γ34 γ35 γ36 γ37) Λ2 J 17 0 [1, 1, 1, 1, 1, 1, 0, 0] (stoOf [(1, .ptr 1000000000 0)] [⟨33, (List.map AV.d (api_Packet.enc b0))⟩] [] [] []) =
 cond (b0.Kind == 12) (
 (some (.ret [.d (.int .i64 0)] [] []))) (
 cond (b0.Kind == 13) (
 (some (.ret [.d (.int .i64 0)] [] []))) (
 R17_17 (C17 Γ γ31 γ27 γ32 γ33 γ34 γ35 γ36 γ37) Λ2 J (api_Packet.enc b0))) := by kernel_rfl
theorem T17_3 (Γ : Fun) (γ31 : Gm (api_Packet)) (γ27 : Gm (Bool)) (γ32 : Gm (Int)) (γ33 : Gm (Int)) (γ34 : Gm (Bool)) (γ35 : Gm (Int)) (γ36 : Gm (Int)) (γ37 : Gm (Int)) (Λ2 J : Lam) (b0 : api_Packet) : labU SE (C17 Γ γ31 γ27 γ32 γ33 γ34 γ35 γ36 γ37) Λ2 J 17 0 [1, 1, 0, 0] (stoOf [(1, .ptr 1000000000 0)] [⟨33, (List.map AV.d (api_Packet.enc b0))⟩] [] [] []) =
 γ31 [api_Packet.av b0] [] [] fun r0 =>
 γ27 [api_Packet.av b0, api_Packet.av r0] [] [] fun r1 =>
 cond (!r1) (
 (some (.ret [.d (.int .i64 28)] [] []))) (
 cond (b0.Kind == 1) (
 γ32 [api_Packet.av b0] [] [] fun r2 =>
 (some (.ret [.d (.int .i64 r2)] [] []))) (
 cond (b0.Kind == 3) (
 γ33 [api_Packet.av b0] [] [] fun r3 =>
 (some (.ret [.d (.int .i64 r3)] [] []))) (
 cond (b0.Kind == 2) (
 γ34 [.d (.int .i64 b0.Code)] [] [] fun r4 =>
 cond (!r4) (
  (some (.ret [.d (.int .i64 1)] [] []))) (
 cond b0.Present (
  cond (b0.Code != 0) (
  (some (.ret [.d (.int .i64 28)] [] []))) (
  (some (.ret [.d (.int .i64 0)] [] [])))) (
 (some (.ret [.d (.int .i64 0)] [] []))))) (
 cond (b0.Kind == 14) (
 γ34 [.d (.int .i64 b0.Code)] [] [] fun r5 =>
 cond (!r5) (
  (some (.ret [.d (.int .i64 1)] [] []))) (
 cond b0.Present (
  cond (b0.Code != 0) (
  (some (.ret [.d (.int .i64 28)] [] []))) (
  (some (.ret [.d (.int .i64 0)] [] [])))) (
 (some (.ret [.d (.int .i64 0)] [] []))))) (
 R17_15 (C17 Γ γ31 γ27 γ32 γ33 γ34 γ35 γ36 γ37) Λ2 J (api_Packet.enc b0)))))) := by kernel_rfl
abbrev X17 : CFun := C17 (callG SE good) (callT SE good 31 brokerref06_Used_out) (callT SE good 27 brokerref06_Same_out) (callT SE good 32 brokerref06_connect_out) (callT SE good 33 brokerref06_publish_out) (callT SE good 34 brokerref06_Code_out) (callT SE good 35 brokerref06_ident_out) (callT SE good 36 brokerref06_count_out) (callT SE good 37 brokerref06_elements_out)
theorem Cr17 : C17 (callG SE good) (callT SE good 31 brokerref06_Used_out) (callT SE good 27 brokerref06_Same_out) (callT SE good 32 brokerref06_connect_out) (callT SE good 33 brokerref06_publish_out) (callT SE good 34 brokerref06_Code_out) (callT SE good 35 brokerref06_ident_out) (callT SE good 36 brokerref06_count_out) (callT SE good 37 brokerref06_elements_out) = bindC (callG SE good) := by unfold C17; rw [updC_real (fun _ h => h), updC_real (fun _ h => h), updC_real (fun _ h => h), updC_real (fun _ h => h), updC_real (fun _ h => h), updC_real (fun _ h => h), updC_real (fun _ h => h), updC_real (fun _ h => h)]
noncomputable abbrev Q17_20 (a0 : (List D)) : Res := R17_20 X17 (lam2 SE (callG SE good) (SE.hl 17) (SE.hr 17)) (J0 SE X17) a0
noncomputable abbrev Q17_17 (a0 : (List D)) : Res := R17_17 X17 (lam2 SE (callG SE good) (SE.hl 17) (SE.hr 17)) (J0 SE X17) a0
noncomputable abbrev Q17_15 (a0 : (List D)) : Res := R17_15 X17 (lam2 SE (callG SE good) (SE.hl 17) (SE.hr 17)) (J0 SE X17) a0
noncomputable abbrev Q17_3 (a0 : (List D)) : Res := R17_3 X17 (lam2 SE (callG SE good) (SE.hl 17) (SE.hr 17)) (J0 SE X17) a0
theorem brokerref06_Check_j20_ok (b0 : api_Packet) : Le (Option.map brokerref06_Check_out (brokerref06_Check_j20 b0)) (Q17_20 (api_Packet.enc b0)) := by
 refine Le.trans ?_ (le_of_eq ((lab_realC Cr17).trans (T17_20 _ _ _ _ _ _ _ _ _ _ _  b0)).symm)
 unfold brokerref06_Check_j20
 refine le_call (good := good) eX brokerref06_count_inj (by first | (simp only [EN]; exact brokerref06_count_ok ((IntKind.wrap .i64 ((IntKind.wrap .i64 ((List.length b0.Subs : Int) + (List.length b0.Filters : Int))) + (List.length b0.Codes : Int))))) | exact brokerref06_count_ok ((IntKind.wrap .i64 ((IntKind.wrap .i64 ((List.length b0.Subs : Int) + (List.length b0.Filters : Int))) + (List.length b0.Codes : Int))))) (fun r7 _ => ?_)
 refine lC ?_ ?_
 ·exact le_ret (by first | rfl | simp only [EN, brokerref06_Check_out] <;> rfl)
 ·refine le_call (good := good) eX brokerref06_elements_inj (brokerref06_elements_ok b0) (fun r8 _ => ?_)
  exact le_ret (by first | rfl | simp only [EN, brokerref06_Check_out] <;> rfl)
theorem brokerref06_Check_j17_ok (b0 : api_Packet) : Le (Option.map brokerref06_Check_out (brokerref06_Check_j17 b0)) (Q17_17 (api_Packet.enc b0)) := by
 refine Le.trans ?_ (le_of_eq ((lab_realC Cr17).trans (T17_17 _ _ _ _ _ _ _ _ _ _ _  b0)).symm)
 unfold brokerref06_Check_j17
 refine le_call (good := good) eX brokerref06_ident_inj (brokerref06_ident_ok b0.ID) (fun r6 _ => ?_)
 refine lC ?_ ?_
 ·exact le_ret (by first | rfl | simp only [EN, brokerref06_Check_out] <;> rfl)
 ·refine lC ?_ ?_
  ·exact le_ret (by first | rfl | simp only [EN, brokerref06_Check_out] <;> rfl)
  ·exact brokerref06_Check_j20_ok b0
theorem brokerref06_Check_j15_ok (b0 : api_Packet) : Le (Option.map brokerref06_Check_out (brokerref06_Check_j15 b0)) (Q17_15 (api_Packet.enc b0)) := by
 refine Le.trans ?_ (le_of_eq ((lab_realC Cr17).trans (T17_15 _ _ _ _ _ _ _ _ _ _ _  b0)).symm)
 unfold brokerref06_Check_j15
 refine lC ?_ ?_
 ·exact le_ret (by first | rfl | simp only [EN, brokerref06_Check_out] <;> rfl)
 ·refine lC ?_ ?_
  ·exact le_ret (by first | rfl | simp only [EN, brokerref06_Check_out] <;> rfl)
  ·exact brokerref06_Check_j17_ok b0
theorem brokerref06_Check_j3_ok (b0 : api_Packet) : Le (Option.map brokerref06_Check_out (brokerref06_Check_j3 b0)) (Q17_3 (api_Packet.enc b0)) := by
 refine Le.trans ?_ (le_of_eq ((lab_realC Cr17).trans (T17_3 _ _ _ _ _ _ _ _ _ _ _  b0)).symm)
 unfold brokerref06_Check_j3
 refine le_call (good := good) eX brokerref06_Used_inj (brokerref06_Used_ok b0) (fun r0 _ => ?_)
 refine le_call (good := good) eX brokerref06_Same_inj (brokerref06_Same_ok b0 r0) (fun r1 _ => ?_)
 refine lC ?_ ?_
 ·exact le_ret (by first | rfl | simp only [EN, brokerref06_Check_out] <;> rfl)
 ·refine lC ?_ ?_
  ·refine le_call (good := good) eX brokerref06_connect_inj (brokerref06_connect_ok b0) (fun r2 _ => ?_)
   exact le_ret (by first | rfl | simp only [EN, brokerref06_Check_out] <;> rfl)
  ·refine lC ?_ ?_
   ·refine le_call (good := good) eX brokerref06_publish_inj (brokerref06_publish_ok b0) (fun r3 _ => ?_)
    exact le_ret (by first | rfl | simp only [EN, brokerref06_Check_out] <;> rfl)
   ·refine lC ?_ ?_
    ·refine le_call (good := good) eX brokerref06_Code_inj (brokerref06_Code_ok b0.Code) (fun r4 _ => ?_)
     refine lC ?_ ?_
     ·exact le_ret (by first | rfl | simp only [EN, brokerref06_Check_out] <;> rfl)
     ·refine lC ?_ ?_
      ·refine lC ?_ ?_
       ·exact le_ret (by first | rfl | simp only [EN, brokerref06_Check_out] <;> rfl)
       ·exact le_ret (by first | rfl | simp only [EN, brokerref06_Check_out] <;> rfl)
      ·exact le_ret (by first | rfl | simp only [EN, brokerref06_Check_out] <;> rfl)
    ·refine lC ?_ ?_
     ·refine le_call (good := good) eX brokerref06_Code_inj (brokerref06_Code_ok b0.Code) (fun r5 _ => ?_)
      refine lC ?_ ?_
      ·exact le_ret (by first | rfl | simp only [EN, brokerref06_Check_out] <;> rfl)
      ·refine lC ?_ ?_
       ·refine lC ?_ ?_
        ·exact le_ret (by first | rfl | simp only [EN, brokerref06_Check_out] <;> rfl)
        ·exact le_ret (by first | rfl | simp only [EN, brokerref06_Check_out] <;> rfl)
       ·exact le_ret (by first | rfl | simp only [EN, brokerref06_Check_out] <;> rfl)
     ·exact brokerref06_Check_j15_ok b0
theorem brokerref06_Check_ok (p0 : api_Packet) : Le (Option.map brokerref06_Check_out (brokerref06_Check p0)) (callW SE 17 [api_Packet.av p0] [] []) := by
 refine le_bodyC Cr17 rfl ?_
 refine Le.trans ?_ (le_of_eq (T17 _ _ _ _ _ _ _ _ _ _ _  p0).symm)
 unfold brokerref06_Check
 refine lC ?_ ?_
 ·exact le_ret (by first | rfl | simp only [EN, brokerref06_Check_out] <;> rfl)
 ·refine lC ?_ ?_
  ·exact le_ret (by first | rfl | simp only [EN, brokerref06_Check_out] <;> rfl)
  ·exact brokerref06_Check_j3_ok p0
def C24 (Γ : Fun)  : CFun := bindC Γ
theorem T24 (Γ : Fun)  (Λ2 J : Lam) (p0 : Int) (p1 : Int) : bodyC SE (C24 Γ) Λ2 J 24 [.d (.int .i64 p0), .d (.int .i64 p1)] [] [] =
 (some (.ret [.row 0] [] [⟨api_Packet.ks, 33, 416, [[D.int .i64 p0, D.int .i64 p1, D.bool false, D.str ([] : Str), D.str ([] : Str), D.int .i64 0, D.bool false, D.int .i64 0, D.int .i64 0, D.str ([] : Str), D.int .i64 0, D.sl api_Prop.ks (List.map api_Prop.enc []), D.str ([] : Str), D.str ([] : Str), D.bool false, D.int .i64 0, D.int .i64 0, D.int .i64 0, D.bool false, D.int .i64 0, D.str ([] : Str), D.str ([] : Str), D.int .i64 0, D.bool false, D.int .i64 0, D.int .i64 0, D.str ([] : Str), D.int .i64 0, D.sl api_Prop.ks (List.map api_Prop.enc []), D.bool false, D.int .i64 0, D.sl api_Sub.ks (List.map api_Sub.enc []), D.sl [.str] (List.map encS []), D.sl [.int .i64] (List.map (encI .i64) [])]]⟩])) := by kernel_rfl
abbrev X24 : CFun := C24 (callG SE good)
theorem Cr24 : C24 (callG SE good) = bindC (callG SE good) := by unfold C24; rfl
theorem brokerref15_answer_ok (p0 : Int) (p1 : Int) : Le (Option.map brokerref15_answer_out (brokerref15_answer p0 p1)) (callW SE 24 [.d (.int .i64 p0), .d (.int .i64 p1)] [] []) := by
 refine le_bodyC Cr24 rfl ?_
 refine Le.trans ?_ (le_of_eq (T24 _ _ _  p0 p1).symm)
 unfold brokerref15_answer
 exact le_ret (by first | rfl | simp only [EN, brokerref15_answer_out] <;> rfl)
def C29 (Γ : Fun)  : CFun := bindC Γ
def R29_2 (C : CFun) (Λ2 J : Lam) (a0 : Int) (a1 : Int) (a2 : (List D)) : Res := lab SE C Λ2 J 29 0 [1, 0, 1, 0] (stoOf [(1, .d (.int .i64 a0)), (2, .ptr 1000000000 0), (5, .d (.int .i64 a1))] [⟨55, (List.map AV.d a2)⟩] [] [] [])
theorem T29 (Γ : Fun)  (Λ2 J : Lam) (p0 : api_Pool) (p1 : Int) : bodyC SE (C29 Γ) Λ2 J 29 [api_Pool.av p0, .d (.int .i64 p1)] [] [] =
 R29_2 (C29 Γ) Λ2 J p1 0 (api_Pool.enc p0) := by kernel_rfl
theorem T29_2 (Γ : Fun)  (Λ2 J : Lam) (x1 : Int) (x5 : Int) (b0 : api_Pool) : labU SE (C29 Γ) Λ2 J 29 0 [1, 0, 1, 0] (stoOf [(1, .d (.int .i64 x1)), (2, .ptr 1000000000 0), (5, .d (.int .i64 x5))] [⟨55, (List.map AV.d (api_Pool.enc b0))⟩] [] [] []) =
 cond (decide (x5 < (List.length (List.map (encI .i64) b0.Used) : Int))) (
 cond (decide (0 ≤ x5) && decide (x5 < (List.length (List.map (encI .i64) b0.Used) : Int))) (
  cond ((dInt (cellAt (elemAt (List.map (encI .i64) b0.Used) (Int.toNat x5)) 0)) == x1) (
  (some (.ret [.d (.bool true)] [] []))) (
  R29_2 (C29 Γ) Λ2 J x1 (IntKind.wrap .i64 (x5 + 1)) (api_Pool.enc b0))) none) (
 (some (.ret [.d (.bool false)] [] []))) := by kernel_rfl
abbrev X29 : CFun := C29 (callG SE good)
theorem Cr29 : C29 (callG SE good) = bindC (callG SE good) := by unfold C29; rfl
noncomputable abbrev Q29_2 (a0 : Int) (a1 : Int) (a2 : (List D)) : Res := R29_2 X29 (lam2 SE (callG SE good) (SE.hl 29) (SE.hr 29)) (J0 SE X29) a0 a1 a2
theorem brokerref13_Has_l2_ok : ∀ (fu : Nat) (x1 : Int) (x5 : Int) (b0 : api_Pool), Le (Option.map brokerref13_Has_out (brokerref13_Has_l2 fu x1 x5 b0)) (Q29_2 x1 x5 (api_Pool.enc b0)) := by
 intro fu
 induction fu with
 | zero => intros; exact le_none
 | succ fu ih =>
  intro x1 x5 b0
  refine Le.trans ?_ (le_of_eq ((lab_realC Cr29).trans (T29_2 _ _ _  x1 x5 b0)).symm)
  unfold brokerref13_Has_l2
  refine le_cond (by simp only [EN]) (fun _ => ?_) (fun _ => ?_)
  ·refine le_cond (by simp only [EN]) (fun _ => ?_) (fun _ => le_none)
   refine le_cond (by simp only [EN]) (fun _ => ?_) (fun _ => ?_)
   ·exact le_ret (by first | rfl | simp only [EN, brokerref13_Has_out] <;> rfl)
   ·exact ih x1 (IntKind.wrap .i64 (x5 + 1)) b0
  ·exact le_ret (by first | rfl | simp only [EN, brokerref13_Has_out] <;> rfl)
theorem brokerref13_Has_ok (p0 : api_Pool) (p1 : Int) : Le (Option.map brokerref13_Has_out (brokerref13_Has p0 p1)) (callW SE 29 [api_Pool.av p0, .d (.int .i64 p1)] [] []) := by
 refine le_bodyC Cr29 rfl ?_
 refine Le.trans ?_ (le_of_eq (T29 _ _ _  p0 p1).symm)
 unfold brokerref13_Has
 exact brokerref13_Has_l2_ok fuel p1 0 p0
def C15 (Γ : Fun) (γ29 : Gm (Bool)) : CFun := updC (bindC Γ) 29 brokerref13_Has_out γ29
theorem T15 (Γ : Fun) (γ29 : Gm (Bool)) (Λ2 J : Lam) (p0 : api_Inbox) (p1 : Int) : bodyC SE (C15 Γ γ29) Λ2 J 15 [api_Inbox.av p0, .d (.int .i64 p1)] [] [] =
 γ29 [api_Pool.av (api_Pool.mk p0.IDs 0), .d (.int .i64 p1)] [] [] fun r0 =>
 (some (.ret [.d (.bool r0)] [] [])) := by kernel_rfl
abbrev X15 : CFun := C15 (callG SE good) (callT SE good 29 brokerref13_Has_out)
theorem Cr15 : C15 (callG SE good) (callT SE good 29 brokerref13_Has_out) = bindC (callG SE good) := by unfold C15; rw [updC_real (fun _ h => h)]
theorem brokerref15_Has_ok (p0 : api_Inbox) (p1 : Int) : Le (Option.map brokerref15_Has_out (brokerref15_Has p0 p1)) (callW SE 15 [api_Inbox.av p0, .d (.int .i64 p1)] [] []) := by
 refine le_bodyC Cr15 rfl ?_
 refine Le.trans ?_ (le_of_eq (T15 _ _ _ _  p0 p1).symm)
 unfold brokerref15_Has
 refine le_call (good := good) eX brokerref13_Has_inj (brokerref13_Has_ok (api_Pool.mk p0.IDs 0) p1) (fun r0 _ => ?_)
 exact le_ret (by first | rfl | simp only [EN, brokerref15_Has_out] <;> rfl)
def C25 (Γ : Fun)  : CFun := bindC Γ
def R25_4 (C : CFun) (Λ2 J : Lam) (a0 : (List (List D))) (a1 : Int) (a2 : Int) (a3 : (List (List D))) (a4 : Int) (a5 : Int) (a6 : Int) (a7 : Bool) (a8 : (List (List D))) : Res := lab SE C Λ2 J 25 0 [1, 1, 1, 0, 0, 0, 1, 0, 0] (stoOf [(0, .d (.sl [.int .i64] a0)), (1, .d (.int .i64 a1)), (5, .row 3005), (6, .d (.int .i64 a2)), (12, .d (.sl [.int .i64] a3)), (13, .d (.int .i64 a4)), (15, .d (.int .i64 a5)), (16, .d (.int .i64 a6)), (17, .d (.bool a7))] [] [] [] [(3005, ⟨[.int .i64], 3, 8, a8⟩)])
def R25_6 (C : CFun) (Λ2 J : Lam) (a0 : (List (List D))) (a1 : Int) (a2 : Int) (a3 : (List (List D))) : Res := lab SE C Λ2 J 25 0 [1, 1, 1, 1, 0] (stoOf [(0, .d (.sl [.int .i64] a0)), (1, .d (.int .i64 a1)), (5, .row 3005), (6, .d (.int .i64 a2))] [] [] [] [(3005, ⟨[.int .i64], 3, 8, a3⟩)])
def R25_3 (C : CFun) (Λ2 J : Lam) (a0 : (List (List D))) (a1 : Int) (a2 : Int) (a3 : (List (List D))) : Res := lab SE C Λ2 J 25 0 [1, 1, 1, 0, 0] (stoOf [(0, .d (.sl [.int .i64] a0)), (1, .d (.int .i64 a1)), (5, .row 3005), (6, .d (.int .i64 a2))] [] [] [] [(3005, ⟨[.int .i64], 3, 8, a3⟩)])
theorem T25 (Γ : Fun)  (Λ2 J : Lam) (p0 : (List Int)) (p1 : Int) : bodyC SE (C25 Γ) Λ2 J 25 [.d (.sl [.int .i64] (List.map (encI .i64) p0)), .d (.int .i64 p1)] [] [] =
 R25_3 (C25 Γ) Λ2 J (List.map (encI .i64) p0) p1 0 (List.map (encI .i64) []) := by kernel_rfl
theorem T25_4 (Γ : Fun)  (Λ2 J : Lam) (x0 : (List Int)) (x1 : Int) (x6 : Int) (x12 : (List Int)) (x13 : Int) (x15 : Int) (x16 : Int) (x17 : Bool) (w3005 : (List Int)) : labU SE (C25 Γ) Λ2 J 25 0 [1, 1, 1, 0, 0, 0, 1, 0, 0] (stoOf [(0, .d (.sl [.int .i64] (List.map (encI .i64) x0))), (1, .d (.int .i64 x1)), (5, .row 3005), (6, .d (.int .i64 x6)), (12, .d (.sl [.int .i64] (List.map (encI .i64) x12))), (13, .d (.int .i64 x13)), (15, .d (.int .i64 x15)), (16, .d (.int .i64 x16)), (17, .d (.bool x17))] [] [] [] [(3005, ⟨[.int .i64], 3, 8, (List.map (encI .i64) w3005)⟩)]) =
 cond (decide (0 ≤ x6) && decide (x6 < (List.length (List.map (encI .i64) x0) : Int))) (
 cond (decide ((List.length (List.map (encI .i64) w3005) + List.length [[D.int .i64 (dInt (cellAt (elemAt (List.map (encI .i64) x0) (Int.toNat x6)) 0))]]) * 8 ≤ 140737488355328)) (
  R25_3 (C25 Γ) Λ2 J (List.map (encI .i64) x0) x1 (IntKind.wrap .i64 (x6 + 1)) (((List.map (encI .i64) w3005) ++ [[D.int .i64 (dInt (cellAt (elemAt (List.map (encI .i64) x0) (Int.toNat x6)) 0))]]))) none) none := by kernel_rfl
theorem T25_6 (Γ : Fun)  (Λ2 J : Lam) (x0 : (List Int)) (x1 : Int) (x6 : Int) (w3005 : (List Int)) : labU SE (C25 Γ) Λ2 J 25 0 [1, 1, 1, 1, 0] (stoOf [(0, .d (.sl [.int .i64] (List.map (encI .i64) x0))), (1, .d (.int .i64 x1)), (5, .row 3005), (6, .d (.int .i64 x6))] [] [] [] [(3005, ⟨[.int .i64], 3, 8, (List.map (encI .i64) w3005)⟩)]) =
 cond (decide ((List.length (List.map (encI .i64) w3005) + List.length (List.map (encI .i64) [x1])) * 8 ≤ 140737488355328)) (
 cond (decide (0 ≤ x6) && decide (x6 ≤ ((List.length (List.map (encI .i64) x0)) : Int))) (
  cond (decide ((List.length ((List.map (encI .i64) w3005) ++ (List.map (encI .i64) [x1])) + List.length (cutL (List.map (encI .i64) x0) (some x6) none)) * 8 ≤ 140737488355328)) (
  (some (.ret [.row 0] [] [⟨[.int .i64], 3, 8, (((List.map (encI .i64) w3005) ++ (List.map (encI .i64) [x1])) ++ (cutL (List.map (encI .i64) x0) (some x6) none))⟩]))) none) none) none := by kernel_rfl
theorem T25_3 (Γ : Fun)  (Λ2 J : Lam) (x0 : (List Int)) (x1 : Int) (x6 : Int) (w3005 : (List Int)) : labU SE (C25 Γ) Λ2 J 25 0 [1, 1, 1, 0, 0] (stoOf [(0, .d (.sl [.int .i64] (List.map (encI .i64) x0))), (1, .d (.int .i64 x1)), (5, .row 3005), (6, .d (.int .i64 x6))] [] [] [] [(3005, ⟨[.int .i64], 3, 8, (List.map (encI .i64) w3005)⟩)]) =
 cond (decide (x6 < (List.length (List.map (encI .i64) x0) : Int))) (
 cond (decide (0 ≤ x6) && decide (x6 < (List.length (List.map (encI .i64) x0) : Int))) (
  cond (decide ((dInt (cellAt (elemAt (List.map (encI .i64) x0) (Int.toNat x6)) 0)) < x1)) (
  R25_4 (C25 Γ) Λ2 J (List.map (encI .i64) x0) x1 x6 (List.map (encI .i64) x0) x6 ((dInt (cellAt (elemAt (List.map (encI .i64) x0) (Int.toNat x6)) 0))) x1 ((decide ((dInt (cellAt (elemAt (List.map (encI .i64) x0) (Int.toNat x6)) 0)) < x1))) (List.map (encI .i64) w3005)) (
  R25_6 (C25 Γ) Λ2 J (List.map (encI .i64) x0) x1 x6 (List.map (encI .i64) w3005))) none) (
 R25_6 (C25 Γ) Λ2 J (List.map (encI .i64) x0) x1 x6 (List.map (encI .i64) w3005)) := by kernel_rfl
abbrev X25 : CFun := C25 (callG SE good)
theorem Cr25 : C25 (callG SE good) = bindC (callG SE good) := by unfold C25; rfl
noncomputable abbrev Q25_4 (a0 : (List (List D))) (a1 : Int) (a2 : Int) (a3 : (List (List D))) (a4 : Int) (a5 : Int) (a6 : Int) (a7 : Bool) (a8 : (List (List D))) : Res := R25_4 X25 (lam2 SE (callG SE good) (SE.hl 25) (SE.hr 25)) (J0 SE X25) a0 a1 a2 a3 a4 a5 a6 a7 a8
noncomputable abbrev Q25_6 (a0 : (List (List D))) (a1 : Int) (a2 : Int) (a3 : (List (List D))) : Res := R25_6 X25 (lam2 SE (callG SE good) (SE.hl 25) (SE.hr 25)) (J0 SE X25) a0 a1 a2 a3
noncomputable abbrev Q25_3 (a0 : (List (List D))) (a1 : Int) (a2 : Int) (a3 : (List (List D))) : Res := R25_3 X25 (lam2 SE (callG SE good) (SE.hl 25) (SE.hr 25)) (J0 SE X25) a0 a1 a2 a3
theorem brokerref15_with_j4_ok (k3 : (List Int) → Int → Int → (List Int) → Option ((List Int))) (hk3 : ∀ (x0 : (List Int)) (x1 : Int) (x6 : Int) (w3005 : (List Int)), Le (Option.map brokerref15_with_out (k3 x0 x1 x6 w3005)) (Q25_3 (List.map (encI .i64) x0) x1 x6 (List.map (encI .i64) w3005))) (x0 : (List Int)) (x1 : Int) (x6 : Int) (x12 : (List Int)) (x13 : Int) (x15 : Int) (x16 : Int) (x17 : Bool) (w3005 : (List Int)) : Le (Option.map brokerref15_with_out (brokerref15_with_j4 k3 x0 x1 x6 x12 x13 x15 x16 x17 w3005)) (Q25_4 (List.map (encI .i64) x0) x1 x6 (List.map (encI .i64) x12) x13 x15 x16 x17 (List.map (encI .i64) w3005)) := by
 refine Le.trans ?_ (le_of_eq ((lab_realC Cr25).trans (T25_4 _ _ _  x0 x1 x6 x12 x13 x15 x16 x17 w3005)).symm)
 unfold brokerref15_with_j4
 refine le_cond (by simp only [EN]) (fun _ => ?_) (fun _ => le_none)
 refine le_cond (by simp only [EN]) (fun _ => ?_) (fun _ => le_none)
 first | (simp only [EN]; exact hk3 x0 x1 (IntKind.wrap .i64 (x6 + 1)) (w3005 ++ [(List.getD x0 (Int.toNat x6) default)])) | exact hk3 x0 x1 (IntKind.wrap .i64 (x6 + 1)) (w3005 ++ [(List.getD x0 (Int.toNat x6) default)])
theorem brokerref15_with_j6_ok (x0 : (List Int)) (x1 : Int) (x6 : Int) (w3005 : (List Int)) : Le (Option.map brokerref15_with_out (brokerref15_with_j6 x0 x1 x6 w3005)) (Q25_6 (List.map (encI .i64) x0) x1 x6 (List.map (encI .i64) w3005)) := by
 refine Le.trans ?_ (le_of_eq ((lab_realC Cr25).trans (T25_6 _ _ _  x0 x1 x6 w3005)).symm)
 unfold brokerref15_with_j6
 refine le_cond (by simp only [EN]) (fun _ => ?_) (fun _ => le_none)
 refine le_cond (by simp only [EN]) (fun _ => ?_) (fun _ => le_none)
 refine le_cond (by simp only [EN]) (fun _ => ?_) (fun _ => le_none)
 exact le_ret (by first | rfl | simp only [EN, brokerref15_with_out] <;> rfl)
theorem brokerref15_with_l3_ok : ∀ (fu : Nat) (x0 : (List Int)) (x1 : Int) (x6 : Int) (w3005 : (List Int)), Le (Option.map brokerref15_with_out (brokerref15_with_l3 fu x0 x1 x6 w3005)) (Q25_3 (List.map (encI .i64) x0) x1 x6 (List.map (encI .i64) w3005)) := by
 intro fu
 induction fu with
 | zero => intros; exact le_none
 | succ fu ih =>
  intro x0 x1 x6 w3005
  refine Le.trans ?_ (le_of_eq ((lab_realC Cr25).trans (T25_3 _ _ _  x0 x1 x6 w3005)).symm)
  unfold brokerref15_with_l3
  refine le_cond (by simp only [EN]) (fun _ => ?_) (fun _ => ?_)
  ·refine le_cond (by simp only [EN]) (fun _ => ?_) (fun _ => le_none)
   refine le_cond (by simp only [EN]) (fun _ => ?_) (fun _ => ?_)
   ·first | (simp only [EN]; exact brokerref15_with_j4_ok _ (ih) x0 x1 x6 x0 x6 (List.getD x0 (Int.toNat x6) default) x1 (decide ((List.getD x0 (Int.toNat x6) default) < x1)) w3005) | exact brokerref15_with_j4_ok _ (ih) x0 x1 x6 x0 x6 (List.getD x0 (Int.toNat x6) default) x1 (decide ((List.getD x0 (Int.toNat x6) default) < x1)) w3005
   ·exact brokerref15_with_j6_ok x0 x1 x6 w3005
  ·exact brokerref15_with_j6_ok x0 x1 x6 w3005
theorem brokerref15_with_ok (p0 : (List Int)) (p1 : Int) : Le (Option.map brokerref15_with_out (brokerref15_with p0 p1)) (callW SE 25 [.d (.sl [.int .i64] (List.map (encI .i64) p0)), .d (.int .i64 p1)] [] []) := by
 refine le_bodyC Cr25 rfl ?_
 refine Le.trans ?_ (le_of_eq (T25 _ _ _  p0 p1).symm)
 unfold brokerref15_with
 first | (simp only [EN]; exact brokerref15_with_l3_ok fuel p0 p1 0 ([] : List Int)) | exact brokerref15_with_l3_ok fuel p0 p1 0 ([] : List Int)
def C10 (Γ : Fun) (γ17 : Gm (Int)) (γ24 : Gm ((List api_Packet))) (γ15 : Gm (Bool)) (γ25 : Gm ((List Int))) : CFun := updC (updC (updC (updC (bindC Γ) 17 brokerref06_Check_out γ17) 24 brokerref15_answer_out γ24) 15 brokerref15_Has_out γ15) 25 brokerref15_with_out γ25
theorem T10 (Γ : Fun) (γ17 : Gm (Int)) (γ24 : Gm ((List api_Packet))) (γ15 : Gm (Bool)) (γ25 : Gm ((List Int))) (Λ2 J : Lam) (p0 : api_Inbox) (p1 : api_Packet) : bodyC SE (C10 Γ γ17 γ24 γ15 γ25) Λ2 J 10 [api_Inbox.av p0, api_Packet.av p1] [] [] =
 cond (p1.Kind != 3) (
 (some (.ret [.agg [.d (.sl [.int .i64] (List.map (encI .i64) []))], .d (.bool false), .row 0, .d (.int .i64 10)] [] [⟨api_Packet.ks, 33, 416, []⟩]))) (
 γ17 [api_Packet.av p1] [] [] fun r0 =>
 cond (r0 != 0) (
 (some (.ret [.agg [.d (.sl [.int .i64] (List.map (encI .i64) []))], .d (.bool false), .row 0, .d (.int .i64 r0)] [] [⟨api_Packet.ks, 33, 416, []⟩]))) (
 cond (p1.Message.Level == 0) (
 (some (.ret [api_Inbox.av p0, .d (.bool true), .row 0, .d (.int .i64 0)] [] [⟨api_Packet.ks, 33, 416, []⟩]))) (
 cond (p1.Message.Level == 1) (
 γ24 [.d (.int .i64 4), .d (.int .i64 p1.ID)] [] [] fun r1 =>
 (some (.ret [api_Inbox.av p0, .d (.bool true), .row 0, .d (.int .i64 0)] [] [⟨api_Packet.ks, 33, 416, (List.map api_Packet.enc r1)⟩]))) (
 γ15 [api_Inbox.av p0, .d (.int .i64 p1.ID)] [] [] fun r2 =>
 cond r2 (
 γ24 [.d (.int .i64 5), .d (.int .i64 p1.ID)] [] [] fun r3 =>
 (some (.ret [api_Inbox.av p0, .d (.bool false), .row 0, .d (.int .i64 0)] [] [⟨api_Packet.ks, 33, 416, (List.map api_Packet.enc r3)⟩]))) (
 cond (decide ((List.length (List.map (encI .i64) p0.IDs) : Int) ≥ 32)) (
 (some (.ret [.agg [.d (.sl [.int .i64] (List.map (encI .i64) []))], .d (.bool false), .row 0, .d (.int .i64 6)] [] [⟨api_Packet.ks, 33, 416, []⟩]))) (
 γ25 [.d (.sl [.int .i64] (List.map (encI .i64) p0.IDs)), .d (.int .i64 p1.ID)] [] [] fun r4 =>
 γ24 [.d (.int .i64 5), .d (.int .i64 p1.ID)] [] [] fun r5 =>
 (some (.ret [api_Inbox.av (api_Inbox.mk r4), .d (.bool true), .row 0, .d (.int .i64 0)] [] [⟨api_Packet.ks, 33, 416, (List.map api_Packet.enc r5)⟩])))))))) := by kernel_rfl
abbrev X10 : CFun := C10 (callG SE good) (callT SE good 17 brokerref06_Check_out) (callT SE good 24 brokerref15_answer_out) (callT SE good 15 brokerref15_Has_out) (callT SE good 25 brokerref15_with_out)
theorem Cr10 : C10 (callG SE good) (callT SE good 17 brokerref06_Check_out) (callT SE good 24 brokerref15_answer_out) (callT SE good 15 brokerref15_Has_out) (callT SE good 25 brokerref15_with_out) = bindC (callG SE good) := by unfold C10; rw [updC_real (fun _ h => h), updC_real (fun _ h => h), updC_real (fun _ h => h), updC_real (fun _ h => h)]
theorem brokerref15_Accept_ok (p0 : api_Inbox) (p1 : api_Packet) : Le (Option.map brokerref15_Accept_out (brokerref15_Accept p0 p1)) (callW SE 10 [api_Inbox.av p0, api_Packet.av p1] [] []) := by
 refine le_bodyC Cr10 rfl ?_
 refine Le.trans ?_ (le_of_eq (T10 _ _ _ _ _ _ _  p0 p1).symm)
 unfold brokerref15_Accept
 refine lC ?_ ?_
 ·exact le_ret (by first | rfl | simp only [EN, brokerref15_Accept_out] <;> rfl)
 ·refine le_call (good := good) eX brokerref06_Check_inj (brokerref06_Check_ok p1) (fun r0 _ => ?_)
  refine lC ?_ ?_
  ·exact le_ret (by first | rfl | simp only [EN, brokerref15_Accept_out] <;> rfl)
  ·refine lC ?_ ?_
   ·exact le_ret (by first | rfl | simp only [EN, brokerref15_Accept_out] <;> rfl)
   ·refine lC ?_ ?_
    ·refine le_call (good := good) eX brokerref15_answer_inj (brokerref15_answer_ok 4 p1.ID) (fun r1 _ => ?_)
     exact le_ret (by first | rfl | simp only [EN, brokerref15_Accept_out] <;> rfl)
    ·refine le_call (good := good) eX brokerref15_Has_inj (brokerref15_Has_ok p0 p1.ID) (fun r2 _ => ?_)
     refine lC ?_ ?_
     ·refine le_call (good := good) eX brokerref15_answer_inj (brokerref15_answer_ok 5 p1.ID) (fun r3 _ => ?_)
      exact le_ret (by first | rfl | simp only [EN, brokerref15_Accept_out] <;> rfl)
     ·refine le_cond (by simp only [EN]) (fun _ => ?_) (fun _ => ?_)
      ·exact le_ret (by first | rfl | simp only [EN, brokerref15_Accept_out] <;> rfl)
      ·refine le_call (good := good) eX brokerref15_with_inj (brokerref15_with_ok p0.IDs p1.ID) (fun r4 _ => ?_)
       refine le_call (good := good) eX brokerref15_answer_inj (brokerref15_answer_ok 5 p1.ID) (fun r5 _ => ?_)
       exact le_ret (by first | rfl | simp only [EN, brokerref15_Accept_out] <;> rfl)
def C55 (Γ : Fun)  : CFun := bindC Γ
def R55_3 (C : CFun) (Λ2 J : Lam) (a0 : Int) (a1 : Int) (a2 : (List D)) (a3 : (List D)) (a4 : (List (List D))) : Res := lab SE C Λ2 J 55 0 [1, 1, 0, 1, 0] (stoOf [(1, .d (.int .i64 a0)), (2, .ptr 1000000000 0), (4, .ptr 1000000001 0), (6, .row 3006), (7, .d (.int .i64 a1))] [⟨55, (List.map AV.d a2)⟩, ⟨55, (List.map AV.d a3)⟩] [] [] [(3006, ⟨[.int .i64], 3, 8, a4⟩)])
theorem T55 (Γ : Fun)  (Λ2 J : Lam) (p0 : api_Pool) (p1 : Int) : bodyC SE (C55 Γ) Λ2 J 55 [api_Pool.av p0, .d (.int .i64 p1)] [] [] =
 R55_3 (C55 Γ) Λ2 J p1 0 (api_Pool.enc p0) [D.sl [.int .i64] (List.map (encI .i64) []), D.int .i64 0] (List.map (encI .i64) []) := by kernel_rfl
theorem T55_3 (Γ : Fun)  (Λ2 J : Lam) (x1 : Int) (x7 : Int) (b0 : api_Pool) (b1 : api_Pool) (w3006 : (List Int)) : labU SE (C55 Γ) Λ2 J 55 0 [1, 1, 0, 1, 0] (stoOf [(1, .d (.int .i64 x1)), (2, .ptr 1000000000 0), (4, .ptr 1000000001 0), (6, .row 3006), (7, .d (.int .i64 x7))] [⟨55, (List.map AV.d (api_Pool.enc b0))⟩, ⟨55, (List.map AV.d (api_Pool.enc b1))⟩] [] [] [(3006, ⟨[.int .i64], 3, 8, (List.map (encI .i64) w3006)⟩)]) =
 cond (decide (x7 < (List.length (List.map (encI .i64) b0.Used) : Int))) (
 cond (decide (0 ≤ x7) && decide (x7 < (List.length (List.map (encI .i64) b0.Used) : Int))) (
  cond ((dInt (cellAt (elemAt (List.map (encI .i64) b0.Used) (Int.toNat x7)) 0)) != x1) (
  cond (decide (0 ≤ x7) && decide (x7 < (List.length (List.map (encI .i64) b0.Used) : Int))) (
   cond (decide ((List.length (List.map (encI .i64) w3006) + List.length [[D.int .i64 (dInt (cellAt (elemAt (List.map (encI .i64) b0.Used) (Int.toNat x7)) 0))]]) * 8 ≤ 140737488355328)) (
   R55_3 (C55 Γ) Λ2 J x1 (IntKind.wrap .i64 (x7 + 1)) (api_Pool.enc b0) (api_Pool.enc b1) (((List.map (encI .i64) w3006) ++ [[D.int .i64 (dInt (cellAt (elemAt (List.map (encI .i64) b0.Used) (Int.toNat x7)) 0))]]))) none) none) (
  R55_3 (C55 Γ) Λ2 J x1 (IntKind.wrap .i64 (x7 + 1)) (api_Pool.enc b0) (api_Pool.enc b1) (List.map (encI .i64) w3006))) none) (
 (some (.ret [api_Pool.av (api_Pool.mk w3006 b0.Last), .d (.bool (decide ((List.length (List.map (encI .i64) w3006) : Int) < (List.length (List.map (encI .i64) b0.Used) : Int))))] [] []))) := by kernel_rfl
abbrev X55 : CFun := C55 (callG SE good)
theorem Cr55 : C55 (callG SE good) = bindC (callG SE good) := by unfold C55; rfl
noncomputable abbrev Q55_3 (a0 : Int) (a1 : Int) (a2 : (List D)) (a3 : (List D)) (a4 : (List (List D))) : Res := R55_3 X55 (lam2 SE (callG SE good) (SE.hl 55) (SE.hr 55)) (J0 SE X55) a0 a1 a2 a3 a4
theorem brokerref13_Free_l3_ok : ∀ (fu : Nat) (x1 : Int) (x7 : Int) (b0 : api_Pool) (b1 : api_Pool) (w3006 : (List Int)), Le (Option.map brokerref13_Free_out (brokerref13_Free_l3 fu x1 x7 b0 b1 w3006)) (Q55_3 x1 x7 (api_Pool.enc b0) (api_Pool.enc b1) (List.map (encI .i64) w3006)) := by
 intro fu
 induction fu with
 | zero => intros; exact le_none
 | succ fu ih =>
  intro x1 x7 b0 b1 w3006
  refine Le.trans ?_ (le_of_eq ((lab_realC Cr55).trans (T55_3 _ _ _  x1 x7 b0 b1 w3006)).symm)
  unfold brokerref13_Free_l3
  refine le_cond (by simp only [EN]) (fun _ => ?_) (fun _ => ?_)
  ·refine le_cond (by simp only [EN]) (fun _ => ?_) (fun _ => le_none)
   refine le_cond (by simp only [EN]) (fun _ => ?_) (fun _ => ?_)
   ·refine le_cond (by simp only [EN]) (fun _ => ?_) (fun _ => le_none)
    refine le_cond (by simp only [EN]) (fun _ => ?_) (fun _ => le_none)
    first | (simp only [EN]; exact ih x1 (IntKind.wrap .i64 (x7 + 1)) b0 b1 (w3006 ++ [(List.getD b0.Used (Int.toNat x7) default)])) | exact ih x1 (IntKind.wrap .i64 (x7 + 1)) b0 b1 (w3006 ++ [(List.getD b0.Used (Int.toNat x7) default)])
   ·exact ih x1 (IntKind.wrap .i64 (x7 + 1)) b0 b1 w3006
  ·exact le_ret (by first | rfl | simp only [EN, brokerref13_Free_out] <;> rfl)
theorem brokerref13_Free_ok (p0 : api_Pool) (p1 : Int) : Le (Option.map brokerref13_Free_out (brokerref13_Free p0 p1)) (callW SE 55 [api_Pool.av p0, .d (.int .i64 p1)] [] []) := by
 refine le_bodyC Cr55 rfl ?_
 refine Le.trans ?_ (le_of_eq (T55 _ _ _  p0 p1).symm)
 unfold brokerref13_Free
 first | (simp only [EN]; exact brokerref13_Free_l3_ok fuel p1 0 p0 (api_Pool.mk ([] : List Int) 0) ([] : List Int)) | exact brokerref13_Free_l3_ok fuel p1 0 p0 (api_Pool.mk ([] : List Int) 0) ([] : List Int)
def C28 (Γ : Fun) (γ55 : Gm (api_Pool × Bool)) : CFun := updC (bindC Γ) 55 brokerref13_Free_out γ55
def R28_5 (C : CFun) (Λ2 J : Lam) (a0 : (List D)) (a1 : (List D)) (a2 : (List D)) (a3 : (List D)) : Res := lab SE C Λ2 J 28 0 [1, 1, 1, 0] (stoOf [(2, .ptr 1000000000 0), (3, .ptr 1000000001 0), (4, .ptr 1000000002 0), (5, .ptr 1000000003 0)] [⟨24, (List.map AV.d a0)⟩, ⟨33, (List.map AV.d a1)⟩, ⟨24, (List.map AV.d a2)⟩, ⟨33, (List.map AV.d a3)⟩] [] [] [])
theorem T28 (Γ : Fun) (γ55 : Gm (api_Pool × Bool)) (Λ2 J : Lam) (p0 : api_Inbox) (p1 : api_Packet) : bodyC SE (C28 Γ γ55) Λ2 J 28 [api_Inbox.av p0, api_Packet.av p1] [] [] =
 cond (p1.Kind != 6) (
 (some (.ret [.agg [.d (.sl [.int .i64] (List.map (encI .i64) []))], .agg [.d (.int .i64 0), .d (.int .i64 0), .d (.bool false), .d (.str ([] : Str)), .d (.str ([] : Str)), .d (.int .i64 0), .d (.bool false), .d (.int .i64 0), .d (.int .i64 0), .d (.str ([] : Str)), .d (.int .i64 0), .d (.sl api_Prop.ks (List.map api_Prop.enc [])), .d (.str ([] : Str)), .d (.str ([] : Str)), .d (.bool false), .d (.int .i64 0), .d (.int .i64 0), .d (.int .i64 0), .d (.bool false), .d (.int .i64 0), .d (.str ([] : Str)), .d (.str ([] : Str)), .d (.int .i64 0), .d (.bool false), .d (.int .i64 0), .d (.int .i64 0), .d (.str ([] : Str)), .d (.int .i64 0), .d (.sl api_Prop.ks (List.map api_Prop.enc [])), .d (.bool false), .d (.int .i64 0), .d (.sl api_Sub.ks (List.map api_Sub.enc [])), .d (.sl [.str] (List.map encS [])), .d (.sl [.int .i64] (List.map (encI .i64) []))], .d (.int .i64 10)] [] []))) (
 cond (decide (p1.ID < 1)) (
 (some (.ret [.agg [.d (.sl [.int .i64] (List.map (encI .i64) []))], .agg [.d (.int .i64 0), .d (.int .i64 0), .d (.bool false), .d (.str ([] : Str)), .d (.str ([] : Str)), .d (.int .i64 0), .d (.bool false), .d (.int .i64 0), .d (.int .i64 0), .d (.str ([] : Str)), .d (.int .i64 0), .d (.sl api_Prop.ks (List.map api_Prop.enc [])), .d (.str ([] : Str)), .d (.str ([] : Str)), .d (.bool false), .d (.int .i64 0), .d (.int .i64 0), .d (.int .i64 0), .d (.bool false), .d (.int .i64 0), .d (.str ([] : Str)), .d (.str ([] : Str)), .d (.int .i64 0), .d (.bool false), .d (.int .i64 0), .d (.int .i64 0), .d (.str ([] : Str)), .d (.int .i64 0), .d (.sl api_Prop.ks (List.map api_Prop.enc [])), .d (.bool false), .d (.int .i64 0), .d (.sl api_Sub.ks (List.map api_Sub.enc [])), .d (.sl [.str] (List.map encS [])), .d (.sl [.int .i64] (List.map (encI .i64) []))], .d (.int .i64 15)] [] []))) (
 cond (decide (p1.ID > 65535)) (
 (some (.ret [.agg [.d (.sl [.int .i64] (List.map (encI .i64) []))], .agg [.d (.int .i64 0), .d (.int .i64 0), .d (.bool false), .d (.str ([] : Str)), .d (.str ([] : Str)), .d (.int .i64 0), .d (.bool false), .d (.int .i64 0), .d (.int .i64 0), .d (.str ([] : Str)), .d (.int .i64 0), .d (.sl api_Prop.ks (List.map api_Prop.enc [])), .d (.str ([] : Str)), .d (.str ([] : Str)), .d (.bool false), .d (.int .i64 0), .d (.int .i64 0), .d (.int .i64 0), .d (.bool false), .d (.int .i64 0), .d (.str ([] : Str)), .d (.str ([] : Str)), .d (.int .i64 0), .d (.bool false), .d (.int .i64 0), .d (.int .i64 0), .d (.str ([] : Str)), .d (.int .i64 0), .d (.sl api_Prop.ks (List.map api_Prop.enc [])), .d (.bool false), .d (.int .i64 0), .d (.sl api_Sub.ks (List.map api_Sub.enc [])), .d (.sl [.str] (List.map encS [])), .d (.sl [.int .i64] (List.map (encI .i64) []))], .d (.int .i64 15)] [] []))) (
 R28_5 (C28 Γ γ55) Λ2 J (api_Inbox.enc p0) (api_Packet.enc p1) [D.sl [.int .i64] (List.map (encI .i64) [])] [D.int .i64 0, D.int .i64 0, D.bool false, D.str ([] : Str), D.str ([] : Str), D.int .i64 0, D.bool false, D.int .i64 0, D.int .i64 0, D.str ([] : Str), D.int .i64 0, D.sl api_Prop.ks (List.map api_Prop.enc []), D.str ([] : Str), D.str ([] : Str), D.bool false, D.int .i64 0, D.int .i64 0, D.int .i64 0, D.bool false, D.int .i64 0, D.str ([] : Str), D.str ([] : Str), D.int .i64 0, D.bool false, D.int .i64 0, D.int .i64 0, D.str ([] : Str), D.int .i64 0, D.sl api_Prop.ks (List.map api_Prop.enc []), D.bool false, D.int .i64 0, D.sl api_Sub.ks (List.map api_Sub.enc []), D.sl [.str] (List.map encS []), D.sl [.int .i64] (List.map (encI .i64) [])]))) := by kernel_rfl
theorem T28_5 (Γ : Fun) (γ55 : Gm (api_Pool × Bool)) (Λ2 J : Lam) (b0 : api_Inbox) (b1 : api_Packet) (b2 : api_Inbox) (b3 : api_Packet) : labU SE (C28 Γ γ55) Λ2 J 28 0 [1, 1, 1, 0] (stoOf [(2, .ptr 1000000000 0), (3, .ptr 1000000001 0), (4, .ptr 1000000002 0), (5, .ptr 1000000003 0)] [⟨24, (List.map AV.d (api_Inbox.enc b0))⟩, ⟨33, (List.map AV.d (api_Packet.enc b1))⟩, ⟨24, (List.map AV.d (api_Inbox.enc b2))⟩, ⟨33, (List.map AV.d (api_Packet.enc b3))⟩] [] [] []) =
 γ55 [api_Pool.av (api_Pool.mk b0.IDs 0), .d (.int .i64 b1.ID)] [] [] fun r0 =>
 (some (.ret [api_Inbox.av (api_Inbox.mk r0.1.Used), .agg [.d (.int .i64 7), .d (.int .i64 b1.ID), .d (.bool false), .d (.str ([] : Str)), .d (.str ([] : Str)), .d (.int .i64 0), .d (.bool false), .d (.int .i64 0), .d (.int .i64 0), .d (.str ([] : Str)), .d (.int .i64 0), .d (.sl api_Prop.ks (List.map api_Prop.enc [])), .d (.str ([] : Str)), .d (.str ([] : Str)), .d (.bool false), .d (.int .i64 0), .d (.int .i64 0), .d (.int .i64 0), .d (.bool false), .d (.int .i64 0), .d (.str ([] : Str)), .d (.str ([] : Str)), .d (.int .i64 0), .d (.bool false), .d (.int .i64 0), .d (.int .i64 0), .d (.str ([] : Str)), .d (.int .i64 0), .d (.sl api_Prop.ks (List.map api_Prop.enc [])), .d (.bool false), .d (.int .i64 0), .d (.sl api_Sub.ks (List.map api_Sub.enc [])), .d (.sl [.str] (List.map encS [])), .d (.sl [.int .i64] (List.map (encI .i64) []))], .d (.int .i64 0)] [] [])) := by kernel_rfl
abbrev X28 : CFun := C28 (callG SE good) (callT SE good 55 brokerref13_Free_out)
theorem Cr28 : C28 (callG SE good) (callT SE good 55 brokerref13_Free_out) = bindC (callG SE good) := by unfold C28; rw [updC_real (fun _ h => h)]
noncomputable abbrev Q28_5 (a0 : (List D)) (a1 : (List D)) (a2 : (List D)) (a3 : (List D)) : Res := R28_5 X28 (lam2 SE (callG SE good) (SE.hl 28) (SE.hr 28)) (J0 SE X28) a0 a1 a2 a3
theorem brokerref15_Release_j5_ok (b0 : api_Inbox) (b1 : api_Packet) (b2 : api_Inbox) (b3 : api_Packet) : Le (Option.map brokerref15_Release_out (brokerref15_Release_j5 b0 b1 b2 b3)) (Q28_5 (api_Inbox.enc b0) (api_Packet.enc b1) (api_Inbox.enc b2) (api_Packet.enc b3)) := by
 refine Le.trans ?_ (le_of_eq ((lab_realC Cr28).trans (T28_5 _ _ _ _  b0 b1 b2 b3)).symm)
 unfold brokerref15_Release_j5
 refine le_call (good := good) eX brokerref13_Free_inj (brokerref13_Free_ok (api_Pool.mk b0.IDs 0) b1.ID) (fun r0 _ => ?_)
 exact le_ret (by first | rfl | simp only [EN, brokerref15_Release_out] <;> rfl)
theorem brokerref15_Release_ok (p0 : api_Inbox) (p1 : api_Packet) : Le (Option.map brokerref15_Release_out (brokerref15_Release p0 p1)) (callW SE 28 [api_Inbox.av p0, api_Packet.av p1] [] []) := by
 refine le_bodyC Cr28 rfl ?_
 refine Le.trans ?_ (le_of_eq (T28 _ _ _ _  p0 p1).symm)
 unfold brokerref15_Release
 refine lC ?_ ?_
 ·exact le_ret (by first | rfl | simp only [EN, brokerref15_Release_out] <;> rfl)
 ·refine lC ?_ ?_
  ·exact le_ret (by first | rfl | simp only [EN, brokerref15_Release_out] <;> rfl)
  ·refine lC ?_ ?_
   ·exact le_ret (by first | rfl | simp only [EN, brokerref15_Release_out] <;> rfl)
   ·first | (simp only [EN]; exact brokerref15_Release_j5_ok p0 p1 (api_Inbox.mk ([] : List Int)) ((api_Packet.mk 0 0 false (api_Message.mk ([] : Str) ([] : Str) 0 false 0 0 ([] : Str) 0 ([] : List api_Prop)) ([] : Str) ([] : Str) false 0 0 0 (api_Will.mk false 0 (api_Message.mk ([] : Str) ([] : Str) 0 false 0 0 ([] : Str) 0 ([] : List api_Prop))) false 0 ([] : List api_Sub) ([] : List Str) ([] : List Int)))) | exact brokerref15_Release_j5_ok p0 p1 (api_Inbox.mk ([] : List Int)) ((api_Packet.mk 0 0 false (api_Message.mk ([] : Str) ([] : Str) 0 false 0 0 ([] : Str) 0 ([] : List api_Prop)) ([] : Str) ([] : Str) false 0 0 0 (api_Will.mk false 0 (api_Message.mk ([] : Str) ([] : Str) 0 false 0 0 ([] : Str) 0 ([] : List api_Prop))) false 0 ([] : List api_Sub) ([] : List Str) ([] : List Int)))
def C26 (Γ : Fun)  : CFun := bindC Γ
def R26_4 (C : CFun) (Λ2 J : Lam) (a0 : (List (List D))) (a1 : (List (List D))) (a2 : Int) : Res := lab SE C Λ2 J 26 0 [1, 1, 0, 1, 0] (stoOf [(0, .d (.sl [.int .i64] a0)), (1, .d (.sl [.int .i64] a1)), (5, .d (.int .i64 a2))] [] [] [] [])
theorem T26 (Γ : Fun)  (Λ2 J : Lam) (p0 : (List Int)) (p1 : (List Int)) : bodyC SE (C26 Γ) Λ2 J 26 [.d (.sl [.int .i64] (List.map (encI .i64) p0)), .d (.sl [.int .i64] (List.map (encI .i64) p1))] [] [] =
 cond ((List.length (List.map (encI .i64) p0) : Int) != (List.length (List.map (encI .i64) p1) : Int)) (
 (some (.ret [.d (.bool false)] [] []))) (
 R26_4 (C26 Γ) Λ2 J (List.map (encI .i64) p0) (List.map (encI .i64) p1) 0) := by kernel_rfl
theorem T26_4 (Γ : Fun)  (Λ2 J : Lam) (x0 : (List Int)) (x1 : (List Int)) (x5 : Int) : labU SE (C26 Γ) Λ2 J 26 0 [1, 1, 0, 1, 0] (stoOf [(0, .d (.sl [.int .i64] (List.map (encI .i64) x0))), (1, .d (.sl [.int .i64] (List.map (encI .i64) x1))), (5, .d (.int .i64 x5))] [] [] [] []) =
 cond (decide (x5 < (List.length (List.map (encI .i64) x0) : Int))) (
 cond (decide (0 ≤ x5) && decide (x5 < (List.length (List.map (encI .i64) x0) : Int))) (
  cond (decide (0 ≤ x5) && decide (x5 < (List.length (List.map (encI .i64) x1) : Int))) (
  cond ((dInt (cellAt (elemAt (List.map (encI .i64) x0) (Int.toNat x5)) 0)) != (dInt (cellAt (elemAt (List.map (encI .i64) x1) (Int.toNat x5)) 0))) (
   (some (.ret [.d (.bool false)] [] []))) (
  R26_4 (C26 Γ) Λ2 J (List.map (encI .i64) x0) (List.map (encI .i64) x1) (IntKind.wrap .i64 (x5 + 1)))) none) none) (
 (some (.ret [.d (.bool true)] [] []))) := by kernel_rfl
abbrev X26 : CFun := C26 (callG SE good)
theorem Cr26 : C26 (callG SE good) = bindC (callG SE good) := by unfold C26; rfl
noncomputable abbrev Q26_4 (a0 : (List (List D))) (a1 : (List (List D))) (a2 : Int) : Res := R26_4 X26 (lam2 SE (callG SE good) (SE.hl 26) (SE.hr 26)) (J0 SE X26) a0 a1 a2
theorem brokerref13_Ints_l4_ok : ∀ (fu : Nat) (x0 : (List Int)) (x1 : (List Int)) (x5 : Int), Le (Option.map brokerref13_Ints_out (brokerref13_Ints_l4 fu x0 x1 x5)) (Q26_4 (List.map (encI .i64) x0) (List.map (encI .i64) x1) x5) := by
 intro fu
 induction fu with
 | zero => intros; exact le_none
 | succ fu ih =>
  intro x0 x1 x5
  refine Le.trans ?_ (le_of_eq ((lab_realC Cr26).trans (T26_4 _ _ _  x0 x1 x5)).symm)
  unfold brokerref13_Ints_l4
  refine le_cond (by simp only [EN]) (fun _ => ?_) (fun _ => ?_)
  ·refine le_cond (by simp only [EN]) (fun _ => ?_) (fun _ => le_none)
   refine le_cond (by simp only [EN]) (fun _ => ?_) (fun _ => le_none)
   refine le_cond (by simp only [EN]) (fun _ => ?_) (fun _ => ?_)
   ·exact le_ret (by first | rfl | simp only [EN, brokerref13_Ints_out] <;> rfl)
   ·exact ih x0 x1 (IntKind.wrap .i64 (x5 + 1))
  ·exact le_ret (by first | rfl | simp only [EN, brokerref13_Ints_out] <;> rfl)
theorem brokerref13_Ints_ok (p0 : (List Int)) (p1 : (List Int)) : Le (Option.map brokerref13_Ints_out (brokerref13_Ints p0 p1)) (callW SE 26 [.d (.sl [.int .i64] (List.map (encI .i64) p0)), .d (.sl [.int .i64] (List.map (encI .i64) p1))] [] []) := by
 refine le_bodyC Cr26 rfl ?_
 refine Le.trans ?_ (le_of_eq (T26 _ _ _  p0 p1).symm)
 unfold brokerref13_Ints
 refine le_cond (by simp only [EN]) (fun _ => ?_) (fun _ => ?_)
 ·exact le_ret (by first | rfl | simp only [EN, brokerref13_Ints_out] <;> rfl)
 ·exact brokerref13_Ints_l4_ok fuel p0 p1 0
def C11 (Γ : Fun) (γ26 : Gm (Bool)) : CFun := updC (bindC Γ) 26 brokerref13_Ints_out γ26
theorem T11 (Γ : Fun) (γ26 : Gm (Bool)) (Λ2 J : Lam) (p0 : api_Inbox) (p1 : api_Inbox) : bodyC SE (C11 Γ γ26) Λ2 J 11 [api_Inbox.av p0, api_Inbox.av p1] [] [] =
 γ26 [.d (.sl [.int .i64] (List.map (encI .i64) p0.IDs)), .d (.sl [.int .i64] (List.map (encI .i64) p1.IDs))] [] [] fun r0 =>
 (some (.ret [.d (.bool r0)] [] [])) := by kernel_rfl
abbrev X11 : CFun := C11 (callG SE good) (callT SE good 26 brokerref13_Ints_out)
theorem Cr11 : C11 (callG SE good) (callT SE good 26 brokerref13_Ints_out) = bindC (callG SE good) := by unfold C11; rw [updC_real (fun _ h => h)]
theorem brokerref15_Same_ok (p0 : api_Inbox) (p1 : api_Inbox) : Le (Option.map brokerref15_Same_out (brokerref15_Same p0 p1)) (callW SE 11 [api_Inbox.av p0, api_Inbox.av p1] [] []) := by
 refine le_bodyC Cr11 rfl ?_
 refine Le.trans ?_ (le_of_eq (T11 _ _ _ _  p0 p1).symm)
 unfold brokerref15_Same
 refine le_call (good := good) eX brokerref13_Ints_inj (brokerref13_Ints_ok p0.IDs p1.IDs) (fun r0 _ => ?_)
 exact le_ret (by first | rfl | simp only [EN, brokerref15_Same_out] <;> rfl)
end Te
end PX
