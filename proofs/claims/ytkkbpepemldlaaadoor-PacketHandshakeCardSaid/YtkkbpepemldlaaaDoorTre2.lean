import Derived.Test.YtkkbpepemldlaaaDoorTre1
set_option linter.unusedVariables false
set_option linter.unusedSimpArgs false
set_option linter.unusedVariables false
set_option linter.unusedSimpArgs false
set_option maxRecDepth 100000
noncomputable section
namespace PX
open Go
open Md
namespace Te
def C71 (Γ : Fun) (γ83 : Gm (Bool)) : CFun := updC (bindC Γ) 83 brokerref05_Key_out γ83
def R71_4 (C : CFun) (Λ2 J : Lam) (a0 : (List (List D))) (a1 : Int) : Res := lab SE C Λ2 J 71 0 [1, 1, 0, 1, 0] (stoOf [(0, .d (.sl api_Prop.ks a0)), (3, .d (.int .i64 a1))] [] [] [] [])
theorem T71 (Γ : Fun) (γ83 : Gm (Bool)) (Λ2 J : Lam) (p0 : (List api_Prop)) : bodyC SE (C71 Γ γ83) Λ2 J 71 [.d (.sl api_Prop.ks (List.map api_Prop.enc p0))] [] [] =
  cond (decide ((List.length (List.map api_Prop.enc p0) : Int) > 8)) (
   (some (.ret [.d (.int .i64 5)] [] []))) (
  R71_4 (C71 Γ γ83) Λ2 J (List.map api_Prop.enc p0) 0) := by kernel_rfl
theorem T71_4 (Γ : Fun) (γ83 : Gm (Bool)) (Λ2 J : Lam) (x0 : (List api_Prop)) (x3 : Int) : labU SE (C71 Γ γ83) Λ2 J 71 0 [1, 1, 0, 1, 0] (stoOf [(0, .d (.sl api_Prop.ks (List.map api_Prop.enc x0))), (3, .d (.int .i64 x3))] [] [] [] []) =
  cond (decide (x3 < (List.length (List.map api_Prop.enc x0) : Int))) (
   cond (decide (0 ≤ x3) && decide (x3 < (List.length (List.map api_Prop.enc x0) : Int))) (
    γ83 [.d (.str (dStr (cellAt (elemAt (List.map api_Prop.enc x0) (Int.toNat x3)) 0)))] [] [] fun r0 =>
    cond (!r0) (
     (some (.ret [.d (.int .i64 16)] [] []))) (
    cond (decide (0 ≤ x3) && decide (x3 < (List.length (List.map api_Prop.enc x0) : Int))) (
     cond (decide ((List.length (dStr (cellAt (elemAt (List.map api_Prop.enc x0) (Int.toNat x3)) 1)) : Int) > 160)) (
      (some (.ret [.d (.int .i64 5)] [] []))) (
     cond (decide (x3 > 0)) (
      cond (decide (0 ≤ x3) && decide (x3 < (List.length (List.map api_Prop.enc x0) : Int))) (
       cond (decide (0 ≤ (IntKind.wrap .i64 (x3 - 1))) && decide ((IntKind.wrap .i64 (x3 - 1)) < (List.length (List.map api_Prop.enc x0) : Int))) (
        cond (Op.bytesLess (dStr (cellAt (elemAt (List.map api_Prop.enc x0) (Int.toNat x3)) 0)) (dStr (cellAt (elemAt (List.map api_Prop.enc x0) (Int.toNat (IntKind.wrap .i64 (x3 - 1)))) 0)) || (dStr (cellAt (elemAt (List.map api_Prop.enc x0) (Int.toNat x3)) 0)) == (dStr (cellAt (elemAt (List.map api_Prop.enc x0) (Int.toNat (IntKind.wrap .i64 (x3 - 1)))) 0))) (
         (some (.ret [.d (.int .i64 16)] [] []))) (
        R71_4 (C71 Γ γ83) Λ2 J (List.map api_Prop.enc x0) (IntKind.wrap .i64 (x3 + 1)))) none) none) (
     R71_4 (C71 Γ γ83) Λ2 J (List.map api_Prop.enc x0) (IntKind.wrap .i64 (x3 + 1))))) none)) none) (
  (some (.ret [.d (.int .i64 0)] [] []))) := by kernel_rfl
abbrev X71 : CFun := C71 (callG SE good) (callT SE good 83 brokerref05_Key_out)
theorem Cr71 : C71 (callG SE good) (callT SE good 83 brokerref05_Key_out) = bindC (callG SE good) := by unfold C71; rw [updC_real (fun _ h => h)]
noncomputable abbrev Q71_4 (a0 : (List (List D))) (a1 : Int) : Res := R71_4 X71 (lam2 SE (callG SE good) (SE.hl 71) (SE.hr 71)) (J0 SE X71) a0 a1
theorem brokerref05_Props_l4_ok : ∀ (fu : Nat) (x0 : (List api_Prop)) (x3 : Int), Le (Option.map brokerref05_Props_out (brokerref05_Props_l4 fu x0 x3)) (Q71_4 (List.map api_Prop.enc x0) x3) := by
  intro fu
  induction fu with
  | zero => intros; exact le_none
  | succ fu ih =>
    intro x0 x3
    refine Le.trans ?_ (le_of_eq ((lab_realC Cr71).trans (T71_4 _ _ _ _  x0 x3)).symm)
    unfold brokerref05_Props_l4
    refine le_cond (by simp only [EN]) (fun _ => ?_) (fun _ => ?_)
    · skip
      refine le_cond (by simp only [EN]) (fun _ => ?_) (fun _ => le_none)
      refine le_call (good := good) (fun y => ⟨y, rfl⟩) brokerref05_Key_inj (by first | (simp only [EN]; exact brokerref05_Key_ok ((List.getD x0 (Int.toNat x3) default).Key)) | exact brokerref05_Key_ok ((List.getD x0 (Int.toNat x3) default).Key)) (fun r0 _ => ?_)
      refine le_cond rfl (fun _ => ?_) (fun _ => ?_)
      · skip
        exact le_ret (by first | rfl | (simp only [EN, brokerref05_Props_out]; done) | (simp only [EN, brokerref05_Props_out]; rfl))
      · skip
        refine le_cond (by simp only [EN]) (fun _ => ?_) (fun _ => le_none)
        refine le_cond (by simp only [EN]) (fun _ => ?_) (fun _ => ?_)
        · skip
          exact le_ret (by first | rfl | (simp only [EN, brokerref05_Props_out]; done) | (simp only [EN, brokerref05_Props_out]; rfl))
        · skip
          refine le_cond rfl (fun _ => ?_) (fun _ => ?_)
          · skip
            refine le_cond (by simp only [EN]) (fun _ => ?_) (fun _ => le_none)
            refine le_cond (by simp only [EN]) (fun _ => ?_) (fun _ => le_none)
            refine le_cond (by simp only [EN]) (fun _ => ?_) (fun _ => ?_)
            · skip
              exact le_ret (by first | rfl | (simp only [EN, brokerref05_Props_out]; done) | (simp only [EN, brokerref05_Props_out]; rfl))
            · skip
              exact ih x0 (IntKind.wrap .i64 (x3 + 1))
          · skip
            exact ih x0 (IntKind.wrap .i64 (x3 + 1))
    · skip
      exact le_ret (by first | rfl | (simp only [EN, brokerref05_Props_out]; done) | (simp only [EN, brokerref05_Props_out]; rfl))
theorem brokerref05_Props_ok (p0 : (List api_Prop)) : Le (Option.map brokerref05_Props_out (brokerref05_Props p0)) (callW SE 71 [.d (.sl api_Prop.ks (List.map api_Prop.enc p0))] [] []) := by
  refine le_bodyC Cr71 ?_
  refine Le.trans ?_ (le_of_eq (T71 _ _ _ _  p0).symm)
  unfold brokerref05_Props
  refine le_cond (by simp only [EN]) (fun _ => ?_) (fun _ => ?_)
  · skip
    exact le_ret (by first | rfl | (simp only [EN, brokerref05_Props_out]; done) | (simp only [EN, brokerref05_Props_out]; rfl))
  · skip
    exact brokerref05_Props_l4_ok fuel p0 0
def C58 (Γ : Fun) (γ70 : Gm (Bool)) (γ56 : Gm (Bool)) (γ71 : Gm (Int)) : CFun := updC (updC (updC (bindC Γ) 70 brokerref01_Valid_out γ70) 56 brokerref01_Name_out γ56) 71 brokerref05_Props_out γ71
def R58_11 (C : CFun) (Λ2 J : Lam) (a0 : (List D)) : Res := lab SE C Λ2 J 58 0 [1, 1, 1, 1, 1, 1, 0, 0] (stoOf [(1, .ptr 1000000000 0)] [⟨24, (List.map AV.d a0)⟩] [] [] [])
def R58_9 (C : CFun) (Λ2 J : Lam) (a0 : (List D)) : Res := lab SE C Λ2 J 58 0 [1, 1, 1, 1, 1, 0, 0] (stoOf [(1, .ptr 1000000000 0)] [⟨24, (List.map AV.d a0)⟩] [] [] [])
def R58_7 (C : CFun) (Λ2 J : Lam) (a0 : (List D)) : Res := lab SE C Λ2 J 58 0 [1, 1, 1, 1, 0, 0] (stoOf [(1, .ptr 1000000000 0)] [⟨24, (List.map AV.d a0)⟩] [] [] [])
theorem T58 (Γ : Fun) (γ70 : Gm (Bool)) (γ56 : Gm (Bool)) (γ71 : Gm (Int)) (Λ2 J : Lam) (p0 : api_Message) : bodyC SE (C58 Γ γ70 γ56 γ71) Λ2 J 58 [api_Message.av p0] [] [] =
  γ70 [.d (.str p0.Topic)] [] [] fun r0 =>
  cond (!r0) (
   (some (.ret [.d (.int .i64 12)] [] []))) (
  cond (decide ((List.length p0.Payload : Int) > 256)) (
   (some (.ret [.d (.int .i64 5)] [] []))) (
  cond (decide (p0.Level < 0)) (
   (some (.ret [.d (.int .i64 14)] [] []))) (
  cond (decide (p0.Level > 2)) (
   (some (.ret [.d (.int .i64 14)] [] []))) (
  R58_7 (C58 Γ γ70 γ56 γ71) Λ2 J (api_Message.enc p0))))) := by kernel_rfl
theorem T58_11 (Γ : Fun) (γ70 : Gm (Bool)) (γ56 : Gm (Bool)) (γ71 : Gm (Int)) (Λ2 J : Lam) (b0 : api_Message) : labU SE (C58 Γ γ70 γ56 γ71) Λ2 J 58 0 [1, 1, 1, 1, 1, 1, 0, 0] (stoOf [(1, .ptr 1000000000 0)] [⟨24, (List.map AV.d (api_Message.enc b0))⟩] [] [] []) =
  cond (decide (b0.Seq < 0)) (
   (some (.ret [.d (.int .i64 1)] [] []))) (
  cond (decide (b0.Seq > 1099511627776)) (
   (some (.ret [.d (.int .i64 1)] [] []))) (
  γ71 [.d (.sl api_Prop.ks (List.map api_Prop.enc b0.Props))] [] [] fun r2 =>
  (some (.ret [.d (.int .i64 r2)] [] [])))) := by kernel_rfl
theorem T58_9 (Γ : Fun) (γ70 : Gm (Bool)) (γ56 : Gm (Bool)) (γ71 : Gm (Int)) (Λ2 J : Lam) (b0 : api_Message) : labU SE (C58 Γ γ70 γ56 γ71) Λ2 J 58 0 [1, 1, 1, 1, 1, 0, 0] (stoOf [(1, .ptr 1000000000 0)] [⟨24, (List.map AV.d (api_Message.enc b0))⟩] [] [] []) =
  cond (!(b0.From == ([] : Str))) (
   γ56 [.d (.str b0.From)] [] [] fun r1 =>
   cond (!r1) (
    (some (.ret [.d (.int .i64 11)] [] []))) (
   R58_11 (C58 Γ γ70 γ56 γ71) Λ2 J (api_Message.enc b0))) (
  R58_11 (C58 Γ γ70 γ56 γ71) Λ2 J (api_Message.enc b0)) := by kernel_rfl
theorem T58_7 (Γ : Fun) (γ70 : Gm (Bool)) (γ56 : Gm (Bool)) (γ71 : Gm (Int)) (Λ2 J : Lam) (b0 : api_Message) : labU SE (C58 Γ γ70 γ56 γ71) Λ2 J 58 0 [1, 1, 1, 1, 0, 0] (stoOf [(1, .ptr 1000000000 0)] [⟨24, (List.map AV.d (api_Message.enc b0))⟩] [] [] []) =
  cond (decide (b0.Priority < 0)) (
   (some (.ret [.d (.int .i64 1)] [] []))) (
  cond (decide (b0.Priority > 9)) (
   (some (.ret [.d (.int .i64 1)] [] []))) (
  cond (decide (b0.Expires < 0)) (
   (some (.ret [.d (.int .i64 1)] [] []))) (
  cond (decide (b0.Expires > 1099511627776)) (
   (some (.ret [.d (.int .i64 1)] [] []))) (
  R58_9 (C58 Γ γ70 γ56 γ71) Λ2 J (api_Message.enc b0))))) := by kernel_rfl
abbrev X58 : CFun := C58 (callG SE good) (callT SE good 70 brokerref01_Valid_out) (callT SE good 56 brokerref01_Name_out) (callT SE good 71 brokerref05_Props_out)
theorem Cr58 : C58 (callG SE good) (callT SE good 70 brokerref01_Valid_out) (callT SE good 56 brokerref01_Name_out) (callT SE good 71 brokerref05_Props_out) = bindC (callG SE good) := by unfold C58; rw [updC_real (fun _ h => h), updC_real (fun _ h => h), updC_real (fun _ h => h)]
noncomputable abbrev Q58_11 (a0 : (List D)) : Res := R58_11 X58 (lam2 SE (callG SE good) (SE.hl 58) (SE.hr 58)) (J0 SE X58) a0
noncomputable abbrev Q58_9 (a0 : (List D)) : Res := R58_9 X58 (lam2 SE (callG SE good) (SE.hl 58) (SE.hr 58)) (J0 SE X58) a0
noncomputable abbrev Q58_7 (a0 : (List D)) : Res := R58_7 X58 (lam2 SE (callG SE good) (SE.hl 58) (SE.hr 58)) (J0 SE X58) a0
theorem brokerref05_Check_j11_ok (b0 : api_Message) : Le (Option.map brokerref05_Check_out (brokerref05_Check_j11 b0)) (Q58_11 (api_Message.enc b0)) := by
  refine Le.trans ?_ (le_of_eq ((lab_realC Cr58).trans (T58_11 _ _ _ _ _ _  b0)).symm)
  unfold brokerref05_Check_j11
  refine le_cond rfl (fun _ => ?_) (fun _ => ?_)
  · skip
    exact le_ret (by first | rfl | (simp only [EN, brokerref05_Check_out]; done) | (simp only [EN, brokerref05_Check_out]; rfl))
  · skip
    refine le_cond rfl (fun _ => ?_) (fun _ => ?_)
    · skip
      exact le_ret (by first | rfl | (simp only [EN, brokerref05_Check_out]; done) | (simp only [EN, brokerref05_Check_out]; rfl))
    · skip
      refine le_call (good := good) (fun y => ⟨y, rfl⟩) brokerref05_Props_inj (brokerref05_Props_ok b0.Props) (fun r2 _ => ?_)
      exact le_ret (by first | rfl | (simp only [EN, brokerref05_Check_out]; done) | (simp only [EN, brokerref05_Check_out]; rfl))
theorem brokerref05_Check_j9_ok (b0 : api_Message) : Le (Option.map brokerref05_Check_out (brokerref05_Check_j9 b0)) (Q58_9 (api_Message.enc b0)) := by
  refine Le.trans ?_ (le_of_eq ((lab_realC Cr58).trans (T58_9 _ _ _ _ _ _  b0)).symm)
  unfold brokerref05_Check_j9
  refine le_cond rfl (fun _ => ?_) (fun _ => ?_)
  · skip
    refine le_call (good := good) (fun y => ⟨y, rfl⟩) brokerref01_Name_inj (brokerref01_Name_ok b0.From) (fun r1 _ => ?_)
    refine le_cond rfl (fun _ => ?_) (fun _ => ?_)
    · skip
      exact le_ret (by first | rfl | (simp only [EN, brokerref05_Check_out]; done) | (simp only [EN, brokerref05_Check_out]; rfl))
    · skip
      exact brokerref05_Check_j11_ok b0
  · skip
    exact brokerref05_Check_j11_ok b0
theorem brokerref05_Check_j7_ok (b0 : api_Message) : Le (Option.map brokerref05_Check_out (brokerref05_Check_j7 b0)) (Q58_7 (api_Message.enc b0)) := by
  refine Le.trans ?_ (le_of_eq ((lab_realC Cr58).trans (T58_7 _ _ _ _ _ _  b0)).symm)
  unfold brokerref05_Check_j7
  refine le_cond rfl (fun _ => ?_) (fun _ => ?_)
  · skip
    exact le_ret (by first | rfl | (simp only [EN, brokerref05_Check_out]; done) | (simp only [EN, brokerref05_Check_out]; rfl))
  · skip
    refine le_cond rfl (fun _ => ?_) (fun _ => ?_)
    · skip
      exact le_ret (by first | rfl | (simp only [EN, brokerref05_Check_out]; done) | (simp only [EN, brokerref05_Check_out]; rfl))
    · skip
      refine le_cond rfl (fun _ => ?_) (fun _ => ?_)
      · skip
        exact le_ret (by first | rfl | (simp only [EN, brokerref05_Check_out]; done) | (simp only [EN, brokerref05_Check_out]; rfl))
      · skip
        refine le_cond rfl (fun _ => ?_) (fun _ => ?_)
        · skip
          exact le_ret (by first | rfl | (simp only [EN, brokerref05_Check_out]; done) | (simp only [EN, brokerref05_Check_out]; rfl))
        · skip
          exact brokerref05_Check_j9_ok b0
theorem brokerref05_Check_ok (p0 : api_Message) : Le (Option.map brokerref05_Check_out (brokerref05_Check p0)) (callW SE 58 [api_Message.av p0] [] []) := by
  refine le_bodyC Cr58 ?_
  refine Le.trans ?_ (le_of_eq (T58 _ _ _ _ _ _  p0).symm)
  unfold brokerref05_Check
  refine le_call (good := good) (fun y => ⟨y, rfl⟩) brokerref01_Valid_inj (brokerref01_Valid_ok p0.Topic) (fun r0 _ => ?_)
  refine le_cond rfl (fun _ => ?_) (fun _ => ?_)
  · skip
    exact le_ret (by first | rfl | (simp only [EN, brokerref05_Check_out]; done) | (simp only [EN, brokerref05_Check_out]; rfl))
  · skip
    refine le_cond rfl (fun _ => ?_) (fun _ => ?_)
    · skip
      exact le_ret (by first | rfl | (simp only [EN, brokerref05_Check_out]; done) | (simp only [EN, brokerref05_Check_out]; rfl))
    · skip
      refine le_cond rfl (fun _ => ?_) (fun _ => ?_)
      · skip
        exact le_ret (by first | rfl | (simp only [EN, brokerref05_Check_out]; done) | (simp only [EN, brokerref05_Check_out]; rfl))
      · skip
        refine le_cond rfl (fun _ => ?_) (fun _ => ?_)
        · skip
          exact le_ret (by first | rfl | (simp only [EN, brokerref05_Check_out]; done) | (simp only [EN, brokerref05_Check_out]; rfl))
        · skip
          exact brokerref05_Check_j7_ok p0
def C57 (Γ : Fun) (γ47 : Gm (Bool)) (γ58 : Gm (Int)) : CFun := updC (updC (bindC Γ) 47 brokerref05_Same_out γ47) 58 brokerref05_Check_out γ58
theorem T57 (Γ : Fun) (γ47 : Gm (Bool)) (γ58 : Gm (Int)) (Λ2 J : Lam) (p0 : api_Will) : bodyC SE (C57 Γ γ47 γ58) Λ2 J 57 [api_Will.av p0] [] [] =
  cond (!p0.Set) (
   cond (p0.Delay != 0) (
    (some (.ret [.d (.int .i64 28)] [] []))) (
   γ47 [api_Message.av p0.Message, .agg [.d (.str ([] : Str)), .d (.str ([] : Str)), .d (.int .i64 0), .d (.bool false), .d (.int .i64 0), .d (.int .i64 0), .d (.str ([] : Str)), .d (.int .i64 0), .d (.sl api_Prop.ks (List.map api_Prop.enc []))]] [] [] fun r0 =>
   cond (!r0) (
    (some (.ret [.d (.int .i64 28)] [] []))) (
   (some (.ret [.d (.int .i64 0)] [] []))))) (
  cond (decide (p0.Delay < 0)) (
   (some (.ret [.d (.int .i64 1)] [] []))) (
  cond (decide (p0.Delay > 1099511627776)) (
   (some (.ret [.d (.int .i64 1)] [] []))) (
  γ58 [api_Message.av p0.Message] [] [] fun r1 =>
  (some (.ret [.d (.int .i64 r1)] [] []))))) := by kernel_rfl
abbrev X57 : CFun := C57 (callG SE good) (callT SE good 47 brokerref05_Same_out) (callT SE good 58 brokerref05_Check_out)
theorem Cr57 : C57 (callG SE good) (callT SE good 47 brokerref05_Same_out) (callT SE good 58 brokerref05_Check_out) = bindC (callG SE good) := by unfold C57; rw [updC_real (fun _ h => h), updC_real (fun _ h => h)]
theorem brokerref06_Will_ok (p0 : api_Will) : Le (Option.map brokerref06_Will_out (brokerref06_Will p0)) (callW SE 57 [api_Will.av p0] [] []) := by
  refine le_bodyC Cr57 ?_
  refine Le.trans ?_ (le_of_eq (T57 _ _ _ _ _  p0).symm)
  unfold brokerref06_Will
  refine le_cond rfl (fun _ => ?_) (fun _ => ?_)
  · skip
    refine le_cond rfl (fun _ => ?_) (fun _ => ?_)
    · skip
      exact le_ret (by first | rfl | (simp only [EN, brokerref06_Will_out]; done) | (simp only [EN, brokerref06_Will_out]; rfl))
    · skip
      refine le_call (good := good) (fun y => ⟨y, rfl⟩) brokerref05_Same_inj (by first | (simp only [EN]; exact brokerref05_Same_ok p0.Message ((api_Message.mk ([] : Str) ([] : Str) 0 false 0 0 ([] : Str) 0 ([] : List api_Prop)))) | exact brokerref05_Same_ok p0.Message ((api_Message.mk ([] : Str) ([] : Str) 0 false 0 0 ([] : Str) 0 ([] : List api_Prop)))) (fun r0 _ => ?_)
      refine le_cond rfl (fun _ => ?_) (fun _ => ?_)
      · skip
        exact le_ret (by first | rfl | (simp only [EN, brokerref06_Will_out]; done) | (simp only [EN, brokerref06_Will_out]; rfl))
      · skip
        exact le_ret (by first | rfl | (simp only [EN, brokerref06_Will_out]; done) | (simp only [EN, brokerref06_Will_out]; rfl))
  · skip
    refine le_cond rfl (fun _ => ?_) (fun _ => ?_)
    · skip
      exact le_ret (by first | rfl | (simp only [EN, brokerref06_Will_out]; done) | (simp only [EN, brokerref06_Will_out]; rfl))
    · skip
      refine le_cond rfl (fun _ => ?_) (fun _ => ?_)
      · skip
        exact le_ret (by first | rfl | (simp only [EN, brokerref06_Will_out]; done) | (simp only [EN, brokerref06_Will_out]; rfl))
      · skip
        refine le_call (good := good) (fun y => ⟨y, rfl⟩) brokerref05_Check_inj (brokerref05_Check_ok p0.Message) (fun r1 _ => ?_)
        exact le_ret (by first | rfl | (simp only [EN, brokerref06_Will_out]; done) | (simp only [EN, brokerref06_Will_out]; rfl))
def C34 (Γ : Fun) (γ56 : Gm (Bool)) (γ57 : Gm (Int)) : CFun := updC (updC (bindC Γ) 56 brokerref01_Name_out γ56) 57 brokerref06_Will_out γ57
def R34_3 (C : CFun) (Λ2 J : Lam) (a0 : (List D)) : Res := lab SE C Λ2 J 34 0 [1, 1, 0, 0] (stoOf [(1, .ptr 1000000000 0)] [⟨31, (List.map AV.d a0)⟩] [] [] [])
theorem T34 (Γ : Fun) (γ56 : Gm (Bool)) (γ57 : Gm (Int)) (Λ2 J : Lam) (p0 : api_Packet) : bodyC SE (C34 Γ γ56 γ57) Λ2 J 34 [api_Packet.av p0] [] [] =
  γ56 [.d (.str p0.Client)] [] [] fun r0 =>
  cond (!r0) (
   (some (.ret [.d (.int .i64 11)] [] []))) (
  cond (!(p0.User == ([] : Str))) (
   γ56 [.d (.str p0.User)] [] [] fun r1 =>
   cond (!r1) (
    (some (.ret [.d (.int .i64 11)] [] []))) (
   R34_3 (C34 Γ γ56 γ57) Λ2 J (api_Packet.enc p0))) (
  R34_3 (C34 Γ γ56 γ57) Λ2 J (api_Packet.enc p0))) := by kernel_rfl
theorem T34_3 (Γ : Fun) (γ56 : Gm (Bool)) (γ57 : Gm (Int)) (Λ2 J : Lam) (b0 : api_Packet) : labU SE (C34 Γ γ56 γ57) Λ2 J 34 0 [1, 1, 0, 0] (stoOf [(1, .ptr 1000000000 0)] [⟨31, (List.map AV.d (api_Packet.enc b0))⟩] [] [] []) =
  cond (decide (b0.Keep < 0)) (
   (some (.ret [.d (.int .i64 1)] [] []))) (
  cond (decide (b0.Keep > 1099511627776)) (
   (some (.ret [.d (.int .i64 1)] [] []))) (
  cond (decide (b0.Expiry < 0)) (
   (some (.ret [.d (.int .i64 1)] [] []))) (
  cond (decide (b0.Expiry > 1099511627776)) (
   (some (.ret [.d (.int .i64 1)] [] []))) (
  cond (decide (b0.Window < 1)) (
   (some (.ret [.d (.int .i64 1)] [] []))) (
  cond (decide (b0.Window > 32)) (
   (some (.ret [.d (.int .i64 1)] [] []))) (
  γ57 [api_Will.av b0.Will] [] [] fun r2 =>
  (some (.ret [.d (.int .i64 r2)] [] [])))))))) := by kernel_rfl
abbrev X34 : CFun := C34 (callG SE good) (callT SE good 56 brokerref01_Name_out) (callT SE good 57 brokerref06_Will_out)
theorem Cr34 : C34 (callG SE good) (callT SE good 56 brokerref01_Name_out) (callT SE good 57 brokerref06_Will_out) = bindC (callG SE good) := by unfold C34; rw [updC_real (fun _ h => h), updC_real (fun _ h => h)]
noncomputable abbrev Q34_3 (a0 : (List D)) : Res := R34_3 X34 (lam2 SE (callG SE good) (SE.hl 34) (SE.hr 34)) (J0 SE X34) a0
theorem brokerref06_connect_j3_ok (b0 : api_Packet) : Le (Option.map brokerref06_connect_out (brokerref06_connect_j3 b0)) (Q34_3 (api_Packet.enc b0)) := by
  refine Le.trans ?_ (le_of_eq ((lab_realC Cr34).trans (T34_3 _ _ _ _ _  b0)).symm)
  unfold brokerref06_connect_j3
  refine le_cond rfl (fun _ => ?_) (fun _ => ?_)
  · skip
    exact le_ret (by first | rfl | (simp only [EN, brokerref06_connect_out]; done) | (simp only [EN, brokerref06_connect_out]; rfl))
  · skip
    refine le_cond rfl (fun _ => ?_) (fun _ => ?_)
    · skip
      exact le_ret (by first | rfl | (simp only [EN, brokerref06_connect_out]; done) | (simp only [EN, brokerref06_connect_out]; rfl))
    · skip
      refine le_cond rfl (fun _ => ?_) (fun _ => ?_)
      · skip
        exact le_ret (by first | rfl | (simp only [EN, brokerref06_connect_out]; done) | (simp only [EN, brokerref06_connect_out]; rfl))
      · skip
        refine le_cond rfl (fun _ => ?_) (fun _ => ?_)
        · skip
          exact le_ret (by first | rfl | (simp only [EN, brokerref06_connect_out]; done) | (simp only [EN, brokerref06_connect_out]; rfl))
        · skip
          refine le_cond rfl (fun _ => ?_) (fun _ => ?_)
          · skip
            exact le_ret (by first | rfl | (simp only [EN, brokerref06_connect_out]; done) | (simp only [EN, brokerref06_connect_out]; rfl))
          · skip
            refine le_cond rfl (fun _ => ?_) (fun _ => ?_)
            · skip
              exact le_ret (by first | rfl | (simp only [EN, brokerref06_connect_out]; done) | (simp only [EN, brokerref06_connect_out]; rfl))
            · skip
              refine le_call (good := good) (fun y => ⟨y, rfl⟩) brokerref06_Will_inj (brokerref06_Will_ok b0.Will) (fun r2 _ => ?_)
              exact le_ret (by first | rfl | (simp only [EN, brokerref06_connect_out]; done) | (simp only [EN, brokerref06_connect_out]; rfl))
theorem brokerref06_connect_ok (p0 : api_Packet) : Le (Option.map brokerref06_connect_out (brokerref06_connect p0)) (callW SE 34 [api_Packet.av p0] [] []) := by
  refine le_bodyC Cr34 ?_
  refine Le.trans ?_ (le_of_eq (T34 _ _ _ _ _  p0).symm)
  unfold brokerref06_connect
  refine le_call (good := good) (fun y => ⟨y, rfl⟩) brokerref01_Name_inj (brokerref01_Name_ok p0.Client) (fun r0 _ => ?_)
  refine le_cond rfl (fun _ => ?_) (fun _ => ?_)
  · skip
    exact le_ret (by first | rfl | (simp only [EN, brokerref06_connect_out]; done) | (simp only [EN, brokerref06_connect_out]; rfl))
  · skip
    refine le_cond rfl (fun _ => ?_) (fun _ => ?_)
    · skip
      refine le_call (good := good) (fun y => ⟨y, rfl⟩) brokerref01_Name_inj (brokerref01_Name_ok p0.User) (fun r1 _ => ?_)
      refine le_cond rfl (fun _ => ?_) (fun _ => ?_)
      · skip
        exact le_ret (by first | rfl | (simp only [EN, brokerref06_connect_out]; done) | (simp only [EN, brokerref06_connect_out]; rfl))
      · skip
        exact brokerref06_connect_j3_ok p0
    · skip
      exact brokerref06_connect_j3_ok p0
def C37 (Γ : Fun)  : CFun := bindC Γ
theorem T37 (Γ : Fun)  (Λ2 J : Lam) (p0 : Int) : bodyC SE (C37 Γ) Λ2 J 37 [.d (.int .i64 p0)] [] [] =
  cond (decide (p0 < 1)) (
   (some (.ret [.d (.int .i64 15)] [] []))) (
  cond (decide (p0 > 65535)) (
   (some (.ret [.d (.int .i64 15)] [] []))) (
  (some (.ret [.d (.int .i64 0)] [] [])))) := by kernel_rfl
abbrev X37 : CFun := C37 (callG SE good)
theorem Cr37 : C37 (callG SE good) = bindC (callG SE good) := by unfold C37; rfl
theorem brokerref06_ident_ok (p0 : Int) : Le (Option.map brokerref06_ident_out (brokerref06_ident p0)) (callW SE 37 [.d (.int .i64 p0)] [] []) := by
  refine le_bodyC Cr37 ?_
  refine Le.trans ?_ (le_of_eq (T37 _ _ _  p0).symm)
  unfold brokerref06_ident
  refine le_cond rfl (fun _ => ?_) (fun _ => ?_)
  · skip
    exact le_ret (by first | rfl | (simp only [EN, brokerref06_ident_out]; done) | (simp only [EN, brokerref06_ident_out]; rfl))
  · skip
    refine le_cond rfl (fun _ => ?_) (fun _ => ?_)
    · skip
      exact le_ret (by first | rfl | (simp only [EN, brokerref06_ident_out]; done) | (simp only [EN, brokerref06_ident_out]; rfl))
    · skip
      exact le_ret (by first | rfl | (simp only [EN, brokerref06_ident_out]; done) | (simp only [EN, brokerref06_ident_out]; rfl))
def C35 (Γ : Fun) (γ58 : Gm (Int)) (γ37 : Gm (Int)) : CFun := updC (updC (bindC Γ) 58 brokerref05_Check_out γ58) 37 brokerref06_ident_out γ37
theorem T35 (Γ : Fun) (γ58 : Gm (Int)) (γ37 : Gm (Int)) (Λ2 J : Lam) (p0 : api_Packet) : bodyC SE (C35 Γ γ58 γ37) Λ2 J 35 [api_Packet.av p0] [] [] =
  γ58 [api_Message.av p0.Message] [] [] fun r0 =>
  cond (r0 != 0) (
   (some (.ret [.d (.int .i64 r0)] [] []))) (
  cond (p0.Message.Level == 0) (
   cond (p0.ID != 0) (
    (some (.ret [.d (.int .i64 15)] [] []))) (
   cond p0.Dup (
    (some (.ret [.d (.int .i64 28)] [] []))) (
   (some (.ret [.d (.int .i64 0)] [] []))))) (
  γ37 [.d (.int .i64 p0.ID)] [] [] fun r1 =>
  (some (.ret [.d (.int .i64 r1)] [] [])))) := by kernel_rfl
abbrev X35 : CFun := C35 (callG SE good) (callT SE good 58 brokerref05_Check_out) (callT SE good 37 brokerref06_ident_out)
theorem Cr35 : C35 (callG SE good) (callT SE good 58 brokerref05_Check_out) (callT SE good 37 brokerref06_ident_out) = bindC (callG SE good) := by unfold C35; rw [updC_real (fun _ h => h), updC_real (fun _ h => h)]
theorem brokerref06_publish_ok (p0 : api_Packet) : Le (Option.map brokerref06_publish_out (brokerref06_publish p0)) (callW SE 35 [api_Packet.av p0] [] []) := by
  refine le_bodyC Cr35 ?_
  refine Le.trans ?_ (le_of_eq (T35 _ _ _ _ _  p0).symm)
  unfold brokerref06_publish
  refine le_call (good := good) (fun y => ⟨y, rfl⟩) brokerref05_Check_inj (brokerref05_Check_ok p0.Message) (fun r0 _ => ?_)
  refine le_cond rfl (fun _ => ?_) (fun _ => ?_)
  · skip
    exact le_ret (by first | rfl | (simp only [EN, brokerref06_publish_out]; done) | (simp only [EN, brokerref06_publish_out]; rfl))
  · skip
    refine le_cond rfl (fun _ => ?_) (fun _ => ?_)
    · skip
      refine le_cond rfl (fun _ => ?_) (fun _ => ?_)
      · skip
        exact le_ret (by first | rfl | (simp only [EN, brokerref06_publish_out]; done) | (simp only [EN, brokerref06_publish_out]; rfl))
      · skip
        refine le_cond rfl (fun _ => ?_) (fun _ => ?_)
        · skip
          exact le_ret (by first | rfl | (simp only [EN, brokerref06_publish_out]; done) | (simp only [EN, brokerref06_publish_out]; rfl))
        · skip
          exact le_ret (by first | rfl | (simp only [EN, brokerref06_publish_out]; done) | (simp only [EN, brokerref06_publish_out]; rfl))
    · skip
      refine le_call (good := good) (fun y => ⟨y, rfl⟩) brokerref06_ident_inj (brokerref06_ident_ok p0.ID) (fun r1 _ => ?_)
      exact le_ret (by first | rfl | (simp only [EN, brokerref06_publish_out]; done) | (simp only [EN, brokerref06_publish_out]; rfl))
def C36 (Γ : Fun)  : CFun := bindC Γ
theorem T36 (Γ : Fun)  (Λ2 J : Lam) (p0 : Int) : bodyC SE (C36 Γ) Λ2 J 36 [.d (.int .i64 p0)] [] [] =
  cond (decide (p0 ≥ 0)) (
   (some (.ret [.d (.bool (decide (p0 ≤ 29)))] [] []))) (
  (some (.ret [.d (.bool false)] [] []))) := by kernel_rfl
abbrev X36 : CFun := C36 (callG SE good)
theorem Cr36 : C36 (callG SE good) = bindC (callG SE good) := by unfold C36; rfl
theorem brokerref06_Code_ok (p0 : Int) : Le (Option.map brokerref06_Code_out (brokerref06_Code p0)) (callW SE 36 [.d (.int .i64 p0)] [] []) := by
  refine le_bodyC Cr36 ?_
  refine Le.trans ?_ (le_of_eq (T36 _ _ _  p0).symm)
  unfold brokerref06_Code
  refine le_cond rfl (fun _ => ?_) (fun _ => ?_)
  · skip
    exact le_ret (by first | rfl | (simp only [EN, brokerref06_Code_out]; done) | (simp only [EN, brokerref06_Code_out]; rfl))
  · skip
    exact le_ret (by first | rfl | (simp only [EN, brokerref06_Code_out]; done) | (simp only [EN, brokerref06_Code_out]; rfl))
def C38 (Γ : Fun)  : CFun := bindC Γ
theorem T38 (Γ : Fun)  (Λ2 J : Lam) (p0 : Int) : bodyC SE (C38 Γ) Λ2 J 38 [.d (.int .i64 p0)] [] [] =
  cond (p0 == 0) (
   (some (.ret [.d (.int .i64 1)] [] []))) (
  cond (decide (p0 > 32)) (
   (some (.ret [.d (.int .i64 5)] [] []))) (
  (some (.ret [.d (.int .i64 0)] [] [])))) := by kernel_rfl
abbrev X38 : CFun := C38 (callG SE good)
theorem Cr38 : C38 (callG SE good) = bindC (callG SE good) := by unfold C38; rfl
theorem brokerref06_count_ok (p0 : Int) : Le (Option.map brokerref06_count_out (brokerref06_count p0)) (callW SE 38 [.d (.int .i64 p0)] [] []) := by
  refine le_bodyC Cr38 ?_
  refine Le.trans ?_ (le_of_eq (T38 _ _ _  p0).symm)
  unfold brokerref06_count
  refine le_cond rfl (fun _ => ?_) (fun _ => ?_)
  · skip
    exact le_ret (by first | rfl | (simp only [EN, brokerref06_count_out]; done) | (simp only [EN, brokerref06_count_out]; rfl))
  · skip
    refine le_cond rfl (fun _ => ?_) (fun _ => ?_)
    · skip
      exact le_ret (by first | rfl | (simp only [EN, brokerref06_count_out]; done) | (simp only [EN, brokerref06_count_out]; rfl))
    · skip
      exact le_ret (by first | rfl | (simp only [EN, brokerref06_count_out]; done) | (simp only [EN, brokerref06_count_out]; rfl))
def C74 (Γ : Fun)  : CFun := bindC Γ
theorem T74 (Γ : Fun)  (Λ2 J : Lam) (p0 : Str) (p1 : Str) : bodyC SE (C74 Γ) Λ2 J 74 [.d (.str p0), .d (.str p1)] [] [] =
  cond (decide ((List.length p0 : Int) ≥ (List.length p1 : Int))) (
   cond (decide (0 ≤ (List.length p1 : Int)) && decide ((List.length p1 : Int) ≤ ((List.length p0) : Int))) (
    (some (.ret [.d (.bool ((cutL p0 none (some (List.length p1 : Int))) == p1))] [] []))) none) (
  (some (.ret [.d (.bool false)] [] []))) := by kernel_rfl
abbrev X74 : CFun := C74 (callG SE good)
theorem Cr74 : C74 (callG SE good) = bindC (callG SE good) := by unfold C74; rfl
theorem brokerref01_Begins_ok (p0 : Str) (p1 : Str) : Le (Option.map brokerref01_Begins_out (brokerref01_Begins p0 p1)) (callW SE 74 [.d (.str p0), .d (.str p1)] [] []) := by
  refine le_bodyC Cr74 ?_
  refine Le.trans ?_ (le_of_eq (T74 _ _ _  p0 p1).symm)
  unfold brokerref01_Begins
  refine le_cond rfl (fun _ => ?_) (fun _ => ?_)
  · skip
    refine le_cond rfl (fun _ => ?_) (fun _ => le_none)
    exact le_ret (by first | rfl | (simp only [EN, brokerref01_Begins_out]; done) | (simp only [EN, brokerref01_Begins_out]; rfl))
  · skip
    exact le_ret (by first | rfl | (simp only [EN, brokerref01_Begins_out]; done) | (simp only [EN, brokerref01_Begins_out]; rfl))
def C73 (Γ : Fun) (γ81 : Gm (Bool)) (γ84 : Gm ((List Str))) (γ82 : Gm (Bool)) : CFun := updC (updC (updC (bindC Γ) 81 brokerref01_sized_out γ81) 84 brokerref01_Levels_out γ84) 82 brokerref01_Has_out γ82
def R73_9 (C : CFun) (Λ2 J : Lam) (a0 : Int) (a1 : (List (List D))) : Res := lab SE C Λ2 J 73 0 [1, 1, 1, 0, 1, 0, 0, 1, 0, 0, 1, 0] (stoOf [(3, .row 3003), (4, .d (.int .i64 a0))] [] [] [] [(3003, ⟨[.str], 9, 16, a1⟩)])
def R73_5 (C : CFun) (Λ2 J : Lam) (a0 : Int) (a1 : (List (List D))) : Res := lab SE C Λ2 J 73 0 [1, 1, 1, 0, 1, 0] (stoOf [(3, .row 3003), (4, .d (.int .i64 a0))] [] [] [] [(3003, ⟨[.str], 9, 16, a1⟩)])
theorem T73 (Γ : Fun) (γ81 : Gm (Bool)) (γ84 : Gm ((List Str))) (γ82 : Gm (Bool)) (Λ2 J : Lam) (p0 : Str) : bodyC SE (C73 Γ γ81 γ84 γ82) Λ2 J 73 [.d (.str p0)] [] [] =
  γ81 [.d (.str p0)] [] [] fun r0 =>
  cond (!r0) (
   (some (.ret [.d (.bool false)] [] []))) (
  γ84 [.d (.str p0)] [] [] fun r1 =>
  R73_5 (C73 Γ γ81 γ84 γ82) Λ2 J 0 (List.map encS r1)) := by kernel_rfl
theorem T73_9 (Γ : Fun) (γ81 : Gm (Bool)) (γ84 : Gm ((List Str))) (γ82 : Gm (Bool)) (Λ2 J : Lam) (x4 : Int) (w3003 : (List Str)) : labU SE (C73 Γ γ81 γ84 γ82) Λ2 J 73 0 [1, 1, 1, 0, 1, 0, 0, 1, 0, 0, 1, 0] (stoOf [(3, .row 3003), (4, .d (.int .i64 x4))] [] [] [] [(3003, ⟨[.str], 9, 16, (List.map encS w3003)⟩)]) =
  cond (decide (0 ≤ x4) && decide (x4 < (List.length (List.map encS w3003) : Int))) (
   γ82 [.d (.str (dStr (cellAt (elemAt (List.map encS w3003) (Int.toNat x4)) 0))), .d (.int .u8 35)] [] [] fun r3 =>
   cond r3 (
    cond (decide (0 ≤ x4) && decide (x4 < (List.length (List.map encS w3003) : Int))) (
     cond (!((dStr (cellAt (elemAt (List.map encS w3003) (Int.toNat x4)) 0)) == ([35] : Str))) (
      (some (.ret [.d (.bool false)] [] []))) (
     cond (x4 != (IntKind.wrap .i64 ((List.length (List.map encS w3003) : Int) - 1))) (
      (some (.ret [.d (.bool false)] [] []))) (
     R73_5 (C73 Γ γ81 γ84 γ82) Λ2 J (IntKind.wrap .i64 (x4 + 1)) (List.map encS w3003)))) none) (
   R73_5 (C73 Γ γ81 γ84 γ82) Λ2 J (IntKind.wrap .i64 (x4 + 1)) (List.map encS w3003))) none := by kernel_rfl
theorem T73_5 (Γ : Fun) (γ81 : Gm (Bool)) (γ84 : Gm ((List Str))) (γ82 : Gm (Bool)) (Λ2 J : Lam) (x4 : Int) (w3003 : (List Str)) : labU SE (C73 Γ γ81 γ84 γ82) Λ2 J 73 0 [1, 1, 1, 0, 1, 0] (stoOf [(3, .row 3003), (4, .d (.int .i64 x4))] [] [] [] [(3003, ⟨[.str], 9, 16, (List.map encS w3003)⟩)]) =
  cond (decide (x4 < (List.length (List.map encS w3003) : Int))) (
   cond (decide (0 ≤ x4) && decide (x4 < (List.length (List.map encS w3003) : Int))) (
    γ82 [.d (.str (dStr (cellAt (elemAt (List.map encS w3003) (Int.toNat x4)) 0))), .d (.int .u8 43)] [] [] fun r2 =>
    cond r2 (
     cond (decide (0 ≤ x4) && decide (x4 < (List.length (List.map encS w3003) : Int))) (
      cond (!((dStr (cellAt (elemAt (List.map encS w3003) (Int.toNat x4)) 0)) == ([43] : Str))) (
       (some (.ret [.d (.bool false)] [] []))) (
      R73_9 (C73 Γ γ81 γ84 γ82) Λ2 J x4 (List.map encS w3003))) none) (
    R73_9 (C73 Γ γ81 γ84 γ82) Λ2 J x4 (List.map encS w3003))) none) (
  (some (.ret [.d (.bool true)] [] []))) := by kernel_rfl
abbrev X73 : CFun := C73 (callG SE good) (callT SE good 81 brokerref01_sized_out) (callT SE good 84 brokerref01_Levels_out) (callT SE good 82 brokerref01_Has_out)
theorem Cr73 : C73 (callG SE good) (callT SE good 81 brokerref01_sized_out) (callT SE good 84 brokerref01_Levels_out) (callT SE good 82 brokerref01_Has_out) = bindC (callG SE good) := by unfold C73; rw [updC_real (fun _ h => h), updC_real (fun _ h => h), updC_real (fun _ h => h)]
noncomputable abbrev Q73_9 (a0 : Int) (a1 : (List (List D))) : Res := R73_9 X73 (lam2 SE (callG SE good) (SE.hl 73) (SE.hr 73)) (J0 SE X73) a0 a1
noncomputable abbrev Q73_5 (a0 : Int) (a1 : (List (List D))) : Res := R73_5 X73 (lam2 SE (callG SE good) (SE.hl 73) (SE.hr 73)) (J0 SE X73) a0 a1
theorem brokerref01_Filter_j9_ok (k5 : Int → (List Str) → Option (Bool)) (hk5 : ∀ (x4 : Int) (w3003 : (List Str)), Le (Option.map brokerref01_Filter_out (k5 x4 w3003)) (Q73_5 x4 (List.map encS w3003))) (x4 : Int) (w3003 : (List Str)) : Le (Option.map brokerref01_Filter_out (brokerref01_Filter_j9 k5 x4 w3003)) (Q73_9 x4 (List.map encS w3003)) := by
  refine Le.trans ?_ (le_of_eq ((lab_realC Cr73).trans (T73_9 _ _ _ _ _ _  x4 w3003)).symm)
  unfold brokerref01_Filter_j9
  refine le_cond (by simp only [EN]) (fun _ => ?_) (fun _ => le_none)
  refine le_call (good := good) (fun y => ⟨y, rfl⟩) brokerref01_Has_inj (by first | (simp only [EN]; exact brokerref01_Has_ok (List.getD w3003 (Int.toNat x4) default) 35) | exact brokerref01_Has_ok (List.getD w3003 (Int.toNat x4) default) 35) (fun r3 _ => ?_)
  refine le_cond rfl (fun _ => ?_) (fun _ => ?_)
  · skip
    refine le_cond (by simp only [EN]) (fun _ => ?_) (fun _ => le_none)
    refine le_cond (by simp only [EN]) (fun _ => ?_) (fun _ => ?_)
    · skip
      exact le_ret (by first | rfl | (simp only [EN, brokerref01_Filter_out]; done) | (simp only [EN, brokerref01_Filter_out]; rfl))
    · skip
      refine le_cond (by simp only [EN]) (fun _ => ?_) (fun _ => ?_)
      · skip
        exact le_ret (by first | rfl | (simp only [EN, brokerref01_Filter_out]; done) | (simp only [EN, brokerref01_Filter_out]; rfl))
      · skip
        exact hk5 (IntKind.wrap .i64 (x4 + 1)) w3003
  · skip
    exact hk5 (IntKind.wrap .i64 (x4 + 1)) w3003
theorem brokerref01_Filter_l5_ok : ∀ (fu : Nat) (x4 : Int) (w3003 : (List Str)), Le (Option.map brokerref01_Filter_out (brokerref01_Filter_l5 fu x4 w3003)) (Q73_5 x4 (List.map encS w3003)) := by
  intro fu
  induction fu with
  | zero => intros; exact le_none
  | succ fu ih =>
    intro x4 w3003
    refine Le.trans ?_ (le_of_eq ((lab_realC Cr73).trans (T73_5 _ _ _ _ _ _  x4 w3003)).symm)
    unfold brokerref01_Filter_l5
    refine le_cond (by simp only [EN]) (fun _ => ?_) (fun _ => ?_)
    · skip
      refine le_cond (by simp only [EN]) (fun _ => ?_) (fun _ => le_none)
      refine le_call (good := good) (fun y => ⟨y, rfl⟩) brokerref01_Has_inj (by first | (simp only [EN]; exact brokerref01_Has_ok (List.getD w3003 (Int.toNat x4) default) 43) | exact brokerref01_Has_ok (List.getD w3003 (Int.toNat x4) default) 43) (fun r2 _ => ?_)
      refine le_cond rfl (fun _ => ?_) (fun _ => ?_)
      · skip
        refine le_cond (by simp only [EN]) (fun _ => ?_) (fun _ => le_none)
        refine le_cond (by simp only [EN]) (fun _ => ?_) (fun _ => ?_)
        · skip
          exact le_ret (by first | rfl | (simp only [EN, brokerref01_Filter_out]; done) | (simp only [EN, brokerref01_Filter_out]; rfl))
        · skip
          exact brokerref01_Filter_j9_ok _ (ih) x4 w3003
      · skip
        exact brokerref01_Filter_j9_ok _ (ih) x4 w3003
    · skip
      exact le_ret (by first | rfl | (simp only [EN, brokerref01_Filter_out]; done) | (simp only [EN, brokerref01_Filter_out]; rfl))
theorem brokerref01_Filter_ok (p0 : Str) : Le (Option.map brokerref01_Filter_out (brokerref01_Filter p0)) (callW SE 73 [.d (.str p0)] [] []) := by
  refine le_bodyC Cr73 ?_
  refine Le.trans ?_ (le_of_eq (T73 _ _ _ _ _ _  p0).symm)
  unfold brokerref01_Filter
  refine le_call (good := good) (fun y => ⟨y, rfl⟩) brokerref01_sized_inj (brokerref01_sized_ok p0) (fun r0 _ => ?_)
  refine le_cond rfl (fun _ => ?_) (fun _ => ?_)
  · skip
    exact le_ret (by first | rfl | (simp only [EN, brokerref01_Filter_out]; done) | (simp only [EN, brokerref01_Filter_out]; rfl))
  · skip
    refine le_call (good := good) (fun y => ⟨y, rfl⟩) brokerref01_Levels_inj (brokerref01_Levels_ok p0) (fun r1 _ => ?_)
    exact brokerref01_Filter_l5_ok fuel 0 r1
def C72 (Γ : Fun) (γ74 : Gm (Bool)) (γ56 : Gm (Bool)) (γ73 : Gm (Bool)) : CFun := updC (updC (updC (bindC Γ) 74 brokerref01_Begins_out γ74) 56 brokerref01_Name_out γ56) 73 brokerref01_Filter_out γ73
def R72_9 (C : CFun) (Λ2 J : Lam) (a0 : Str) (a1 : Int) : Res := lab SE C Λ2 J 72 0 [1, 1, 1, 1, 1, 1, 0] (stoOf [(5, .d (.str a0)), (6, .d (.int .i64 a1))] [] [] [] [])
def R72_7 (C : CFun) (Λ2 J : Lam) (a0 : Str) (a1 : Int) : Res := lab SE C Λ2 J 72 0 [1, 1, 1, 1, 1, 0, 0] (stoOf [(5, .d (.str a0)), (6, .d (.int .i64 a1))] [] [] [] [])
def R72_5 (C : CFun) (Λ2 J : Lam) (a0 : Str) (a1 : Int) : Res := lab SE C Λ2 J 72 0 [1, 1, 1, 1, 0, 0] (stoOf [(5, .d (.str a0)), (6, .d (.int .i64 a1))] [] [] [] [])
theorem T72 (Γ : Fun) (γ74 : Gm (Bool)) (γ56 : Gm (Bool)) (γ73 : Gm (Bool)) (Λ2 J : Lam) (p0 : Str) : bodyC SE (C72 Γ γ74 γ56 γ73) Λ2 J 72 [.d (.str p0)] [] [] =
  γ74 [.d (.str p0), .d (.str ([36, 115, 104, 97, 114, 101, 47] : Str))] [] [] fun r0 =>
  cond (!r0) (
   (some (.ret [.d (.str ([] : Str)), .d (.str ([] : Str)), .d (.bool false)] [] []))) (
  cond (decide (0 ≤ 7) && decide (7 ≤ ((List.length p0) : Int))) (
   R72_5 (C72 Γ γ74 γ56 γ73) Λ2 J (cutL p0 (some 7) none) 0) none) := by kernel_rfl
theorem T72_9 (Γ : Fun) (γ74 : Gm (Bool)) (γ56 : Gm (Bool)) (γ73 : Gm (Bool)) (Λ2 J : Lam) (x5 : Str) (x6 : Int) : labU SE (C72 Γ γ74 γ56 γ73) Λ2 J 72 0 [1, 1, 1, 1, 1, 1, 0] (stoOf [(5, .d (.str x5)), (6, .d (.int .i64 x6))] [] [] [] []) =
  cond (decide (0 ≤ x6) && decide (x6 ≤ ((List.length x5) : Int))) (
   cond (decide (0 ≤ (IntKind.wrap .i64 (x6 + 1))) && decide ((IntKind.wrap .i64 (x6 + 1)) ≤ ((List.length x5) : Int))) (
    (some (.ret [.d (.str (cutL x5 none (some x6))), .d (.str (cutL x5 (some (IntKind.wrap .i64 (x6 + 1))) none)), .d (.bool true)] [] []))) none) none := by kernel_rfl
theorem T72_7 (Γ : Fun) (γ74 : Gm (Bool)) (γ56 : Gm (Bool)) (γ73 : Gm (Bool)) (Λ2 J : Lam) (x5 : Str) (x6 : Int) : labU SE (C72 Γ γ74 γ56 γ73) Λ2 J 72 0 [1, 1, 1, 1, 1, 0, 0] (stoOf [(5, .d (.str x5)), (6, .d (.int .i64 x6))] [] [] [] []) =
  cond (x6 == (List.length x5 : Int)) (
   (some (.ret [.d (.str ([] : Str)), .d (.str ([] : Str)), .d (.bool false)] [] []))) (
  cond (decide (0 ≤ x6) && decide (x6 ≤ ((List.length x5) : Int))) (
   γ56 [.d (.str (cutL x5 none (some x6)))] [] [] fun r1 =>
   cond (!r1) (
    (some (.ret [.d (.str ([] : Str)), .d (.str ([] : Str)), .d (.bool false)] [] []))) (
   cond (decide (0 ≤ (IntKind.wrap .i64 (x6 + 1))) && decide ((IntKind.wrap .i64 (x6 + 1)) ≤ ((List.length x5) : Int))) (
    γ73 [.d (.str (cutL x5 (some (IntKind.wrap .i64 (x6 + 1))) none))] [] [] fun r2 =>
    cond (!r2) (
     (some (.ret [.d (.str ([] : Str)), .d (.str ([] : Str)), .d (.bool false)] [] []))) (
    cond (decide (0 ≤ (IntKind.wrap .i64 (x6 + 1))) && decide ((IntKind.wrap .i64 (x6 + 1)) ≤ ((List.length x5) : Int))) (
     γ74 [.d (.str (cutL x5 (some (IntKind.wrap .i64 (x6 + 1))) none)), .d (.str ([36, 115, 104, 97, 114, 101, 47] : Str))] [] [] fun r3 =>
     cond r3 (
      (some (.ret [.d (.str ([] : Str)), .d (.str ([] : Str)), .d (.bool false)] [] []))) (
     R72_9 (C72 Γ γ74 γ56 γ73) Λ2 J x5 x6)) none)) none)) none) := by kernel_rfl
theorem T72_5 (Γ : Fun) (γ74 : Gm (Bool)) (γ56 : Gm (Bool)) (γ73 : Gm (Bool)) (Λ2 J : Lam) (x5 : Str) (x6 : Int) : labU SE (C72 Γ γ74 γ56 γ73) Λ2 J 72 0 [1, 1, 1, 1, 0, 0] (stoOf [(5, .d (.str x5)), (6, .d (.int .i64 x6))] [] [] [] []) =
  cond (decide (x6 < (List.length x5 : Int))) (
   cond (decide (0 ≤ x6) && decide (x6 < (List.length x5 : Int))) (
    cond ((UInt8.toNat (List.getD x5 (Int.toNat x6) 0) : Int) != 47) (
     R72_5 (C72 Γ γ74 γ56 γ73) Λ2 J x5 (IntKind.wrap .i64 (x6 + 1))) (
    R72_7 (C72 Γ γ74 γ56 γ73) Λ2 J x5 x6)) none) (
  R72_7 (C72 Γ γ74 γ56 γ73) Λ2 J x5 x6) := by kernel_rfl
abbrev X72 : CFun := C72 (callG SE good) (callT SE good 74 brokerref01_Begins_out) (callT SE good 56 brokerref01_Name_out) (callT SE good 73 brokerref01_Filter_out)
theorem Cr72 : C72 (callG SE good) (callT SE good 74 brokerref01_Begins_out) (callT SE good 56 brokerref01_Name_out) (callT SE good 73 brokerref01_Filter_out) = bindC (callG SE good) := by unfold C72; rw [updC_real (fun _ h => h), updC_real (fun _ h => h), updC_real (fun _ h => h)]
noncomputable abbrev Q72_9 (a0 : Str) (a1 : Int) : Res := R72_9 X72 (lam2 SE (callG SE good) (SE.hl 72) (SE.hr 72)) (J0 SE X72) a0 a1
noncomputable abbrev Q72_7 (a0 : Str) (a1 : Int) : Res := R72_7 X72 (lam2 SE (callG SE good) (SE.hl 72) (SE.hr 72)) (J0 SE X72) a0 a1
noncomputable abbrev Q72_5 (a0 : Str) (a1 : Int) : Res := R72_5 X72 (lam2 SE (callG SE good) (SE.hl 72) (SE.hr 72)) (J0 SE X72) a0 a1
theorem brokerref01_Shared_j9_ok (x5 : Str) (x6 : Int) : Le (Option.map brokerref01_Shared_out (brokerref01_Shared_j9 x5 x6)) (Q72_9 x5 x6) := by
  refine Le.trans ?_ (le_of_eq ((lab_realC Cr72).trans (T72_9 _ _ _ _ _ _  x5 x6)).symm)
  unfold brokerref01_Shared_j9
  refine le_cond rfl (fun _ => ?_) (fun _ => le_none)
  refine le_cond rfl (fun _ => ?_) (fun _ => le_none)
  exact le_ret (by first | rfl | (simp only [EN, brokerref01_Shared_out]; done) | (simp only [EN, brokerref01_Shared_out]; rfl))
theorem brokerref01_Shared_j7_ok (x5 : Str) (x6 : Int) : Le (Option.map brokerref01_Shared_out (brokerref01_Shared_j7 x5 x6)) (Q72_7 x5 x6) := by
  refine Le.trans ?_ (le_of_eq ((lab_realC Cr72).trans (T72_7 _ _ _ _ _ _  x5 x6)).symm)
  unfold brokerref01_Shared_j7
  refine le_cond rfl (fun _ => ?_) (fun _ => ?_)
  · skip
    exact le_ret (by first | rfl | (simp only [EN, brokerref01_Shared_out]; done) | (simp only [EN, brokerref01_Shared_out]; rfl))
  · skip
    refine le_cond rfl (fun _ => ?_) (fun _ => le_none)
    refine le_call (good := good) (fun y => ⟨y, rfl⟩) brokerref01_Name_inj (brokerref01_Name_ok (cutL x5 none (some x6))) (fun r1 _ => ?_)
    refine le_cond rfl (fun _ => ?_) (fun _ => ?_)
    · skip
      exact le_ret (by first | rfl | (simp only [EN, brokerref01_Shared_out]; done) | (simp only [EN, brokerref01_Shared_out]; rfl))
    · skip
      refine le_cond rfl (fun _ => ?_) (fun _ => le_none)
      refine le_call (good := good) (fun y => ⟨y, rfl⟩) brokerref01_Filter_inj (brokerref01_Filter_ok (cutL x5 (some (IntKind.wrap .i64 (x6 + 1))) none)) (fun r2 _ => ?_)
      refine le_cond rfl (fun _ => ?_) (fun _ => ?_)
      · skip
        exact le_ret (by first | rfl | (simp only [EN, brokerref01_Shared_out]; done) | (simp only [EN, brokerref01_Shared_out]; rfl))
      · skip
        refine le_cond rfl (fun _ => ?_) (fun _ => le_none)
        refine le_call (good := good) (fun y => ⟨y, rfl⟩) brokerref01_Begins_inj (brokerref01_Begins_ok (cutL x5 (some (IntKind.wrap .i64 (x6 + 1))) none) ([36, 115, 104, 97, 114, 101, 47] : Str)) (fun r3 _ => ?_)
        refine le_cond rfl (fun _ => ?_) (fun _ => ?_)
        · skip
          exact le_ret (by first | rfl | (simp only [EN, brokerref01_Shared_out]; done) | (simp only [EN, brokerref01_Shared_out]; rfl))
        · skip
          exact brokerref01_Shared_j9_ok x5 x6
theorem brokerref01_Shared_l5_ok : ∀ (fu : Nat) (x5 : Str) (x6 : Int), Le (Option.map brokerref01_Shared_out (brokerref01_Shared_l5 fu x5 x6)) (Q72_5 x5 x6) := by
  intro fu
  induction fu with
  | zero => intros; exact le_none
  | succ fu ih =>
    intro x5 x6
    refine Le.trans ?_ (le_of_eq ((lab_realC Cr72).trans (T72_5 _ _ _ _ _ _  x5 x6)).symm)
    unfold brokerref01_Shared_l5
    refine le_cond rfl (fun _ => ?_) (fun _ => ?_)
    · skip
      refine le_cond rfl (fun _ => ?_) (fun _ => le_none)
      refine le_cond rfl (fun _ => ?_) (fun _ => ?_)
      · skip
        exact ih x5 (IntKind.wrap .i64 (x6 + 1))
      · skip
        exact brokerref01_Shared_j7_ok x5 x6
    · skip
      exact brokerref01_Shared_j7_ok x5 x6
theorem brokerref01_Shared_ok (p0 : Str) : Le (Option.map brokerref01_Shared_out (brokerref01_Shared p0)) (callW SE 72 [.d (.str p0)] [] []) := by
  refine le_bodyC Cr72 ?_
  refine Le.trans ?_ (le_of_eq (T72 _ _ _ _ _ _  p0).symm)
  unfold brokerref01_Shared
  refine le_call (good := good) (fun y => ⟨y, rfl⟩) brokerref01_Begins_inj (brokerref01_Begins_ok p0 ([36, 115, 104, 97, 114, 101, 47] : Str)) (fun r0 _ => ?_)
  refine le_cond rfl (fun _ => ?_) (fun _ => ?_)
  · skip
    exact le_ret (by first | rfl | (simp only [EN, brokerref01_Shared_out]; done) | (simp only [EN, brokerref01_Shared_out]; rfl))
  · skip
    refine le_cond rfl (fun _ => ?_) (fun _ => le_none)
    exact brokerref01_Shared_l5_ok fuel (cutL p0 (some 7) none) 0
def C60 (Γ : Fun) (γ72 : Gm (Str × Str × Bool)) (γ73 : Gm (Bool)) (γ74 : Gm (Bool)) : CFun := updC (updC (updC (bindC Γ) 72 brokerref01_Shared_out γ72) 73 brokerref01_Filter_out γ73) 74 brokerref01_Begins_out γ74
theorem T60 (Γ : Fun) (γ72 : Gm (Str × Str × Bool)) (γ73 : Gm (Bool)) (γ74 : Gm (Bool)) (Λ2 J : Lam) (p0 : Str) : bodyC SE (C60 Γ γ72 γ73 γ74) Λ2 J 60 [.d (.str p0)] [] [] =
  γ72 [.d (.str p0)] [] [] fun r0 =>
  cond r0.2.2 (
   (some (.ret [.d (.bool true)] [] []))) (
  γ73 [.d (.str p0)] [] [] fun r1 =>
  cond r1 (
   γ74 [.d (.str p0), .d (.str ([36, 115, 104, 97, 114, 101, 47] : Str))] [] [] fun r2 =>
   (some (.ret [.d (.bool (!r2))] [] []))) (
  (some (.ret [.d (.bool false)] [] [])))) := by kernel_rfl
abbrev X60 : CFun := C60 (callG SE good) (callT SE good 72 brokerref01_Shared_out) (callT SE good 73 brokerref01_Filter_out) (callT SE good 74 brokerref01_Begins_out)
theorem Cr60 : C60 (callG SE good) (callT SE good 72 brokerref01_Shared_out) (callT SE good 73 brokerref01_Filter_out) (callT SE good 74 brokerref01_Begins_out) = bindC (callG SE good) := by unfold C60; rw [updC_real (fun _ h => h), updC_real (fun _ h => h), updC_real (fun _ h => h)]
theorem brokerref01_Wanted_ok (p0 : Str) : Le (Option.map brokerref01_Wanted_out (brokerref01_Wanted p0)) (callW SE 60 [.d (.str p0)] [] []) := by
  refine le_bodyC Cr60 ?_
  refine Le.trans ?_ (le_of_eq (T60 _ _ _ _ _ _  p0).symm)
  unfold brokerref01_Wanted
  refine le_call (good := good) (fun y => ⟨y, rfl⟩) brokerref01_Shared_inj (brokerref01_Shared_ok p0) (fun r0 _ => ?_)
  refine le_cond rfl (fun _ => ?_) (fun _ => ?_)
  · skip
    exact le_ret (by first | rfl | (simp only [EN, brokerref01_Wanted_out]; done) | (simp only [EN, brokerref01_Wanted_out]; rfl))
  · skip
    refine le_call (good := good) (fun y => ⟨y, rfl⟩) brokerref01_Filter_inj (brokerref01_Filter_ok p0) (fun r1 _ => ?_)
    refine le_cond rfl (fun _ => ?_) (fun _ => ?_)
    · skip
      refine le_call (good := good) (fun y => ⟨y, rfl⟩) brokerref01_Begins_inj (brokerref01_Begins_ok p0 ([36, 115, 104, 97, 114, 101, 47] : Str)) (fun r2 _ => ?_)
      exact le_ret (by first | rfl | (simp only [EN, brokerref01_Wanted_out]; done) | (simp only [EN, brokerref01_Wanted_out]; rfl))
    · skip
      exact le_ret (by first | rfl | (simp only [EN, brokerref01_Wanted_out]; done) | (simp only [EN, brokerref01_Wanted_out]; rfl))
def C59 (Γ : Fun) (γ60 : Gm (Bool)) (γ72 : Gm (Str × Str × Bool)) : CFun := updC (updC (bindC Γ) 60 brokerref01_Wanted_out γ60) 72 brokerref01_Shared_out γ72
def R59_5 (C : CFun) (Λ2 J : Lam) (a0 : (List D)) : Res := lab SE C Λ2 J 59 0 [1, 1, 1, 0] (stoOf [(1, .ptr 1000000000 0)] [⟨45, (List.map AV.d a0)⟩] [] [] [])
theorem T59 (Γ : Fun) (γ60 : Gm (Bool)) (γ72 : Gm (Str × Str × Bool)) (Λ2 J : Lam) (p0 : api_Sub) : bodyC SE (C59 Γ γ60 γ72) Λ2 J 59 [api_Sub.av p0] [] [] =
  γ60 [.d (.str p0.Filter)] [] [] fun r0 =>
  cond (!r0) (
   (some (.ret [.d (.int .i64 13)] [] []))) (
  cond (decide (p0.Level < 0)) (
   (some (.ret [.d (.int .i64 14)] [] []))) (
  cond (decide (p0.Level > 2)) (
   (some (.ret [.d (.int .i64 14)] [] []))) (
  R59_5 (C59 Γ γ60 γ72) Λ2 J (api_Sub.enc p0)))) := by kernel_rfl
theorem T59_5 (Γ : Fun) (γ60 : Gm (Bool)) (γ72 : Gm (Str × Str × Bool)) (Λ2 J : Lam) (b0 : api_Sub) : labU SE (C59 Γ γ60 γ72) Λ2 J 59 0 [1, 1, 1, 0] (stoOf [(1, .ptr 1000000000 0)] [⟨45, (List.map AV.d (api_Sub.enc b0))⟩] [] [] []) =
  γ72 [.d (.str b0.Filter)] [] [] fun r1 =>
  cond b0.NoLocal (
   cond r1.2.2 (
    (some (.ret [.d (.int .i64 28)] [] []))) (
   (some (.ret [.d (.int .i64 0)] [] [])))) (
  (some (.ret [.d (.int .i64 0)] [] []))) := by kernel_rfl
abbrev X59 : CFun := C59 (callG SE good) (callT SE good 60 brokerref01_Wanted_out) (callT SE good 72 brokerref01_Shared_out)
theorem Cr59 : C59 (callG SE good) (callT SE good 60 brokerref01_Wanted_out) (callT SE good 72 brokerref01_Shared_out) = bindC (callG SE good) := by unfold C59; rw [updC_real (fun _ h => h), updC_real (fun _ h => h)]
noncomputable abbrev Q59_5 (a0 : (List D)) : Res := R59_5 X59 (lam2 SE (callG SE good) (SE.hl 59) (SE.hr 59)) (J0 SE X59) a0
theorem brokerref06_Sub_j5_ok (b0 : api_Sub) : Le (Option.map brokerref06_Sub_out (brokerref06_Sub_j5 b0)) (Q59_5 (api_Sub.enc b0)) := by
  refine Le.trans ?_ (le_of_eq ((lab_realC Cr59).trans (T59_5 _ _ _ _ _  b0)).symm)
  unfold brokerref06_Sub_j5
  refine le_call (good := good) (fun y => ⟨y, rfl⟩) brokerref01_Shared_inj (brokerref01_Shared_ok b0.Filter) (fun r1 _ => ?_)
  refine le_cond rfl (fun _ => ?_) (fun _ => ?_)
  · skip
    refine le_cond rfl (fun _ => ?_) (fun _ => ?_)
    · skip
      exact le_ret (by first | rfl | (simp only [EN, brokerref06_Sub_out]; done) | (simp only [EN, brokerref06_Sub_out]; rfl))
    · skip
      exact le_ret (by first | rfl | (simp only [EN, brokerref06_Sub_out]; done) | (simp only [EN, brokerref06_Sub_out]; rfl))
  · skip
    exact le_ret (by first | rfl | (simp only [EN, brokerref06_Sub_out]; done) | (simp only [EN, brokerref06_Sub_out]; rfl))
theorem brokerref06_Sub_ok (p0 : api_Sub) : Le (Option.map brokerref06_Sub_out (brokerref06_Sub p0)) (callW SE 59 [api_Sub.av p0] [] []) := by
  refine le_bodyC Cr59 ?_
  refine Le.trans ?_ (le_of_eq (T59 _ _ _ _ _  p0).symm)
  unfold brokerref06_Sub
  refine le_call (good := good) (fun y => ⟨y, rfl⟩) brokerref01_Wanted_inj (brokerref01_Wanted_ok p0.Filter) (fun r0 _ => ?_)
  refine le_cond rfl (fun _ => ?_) (fun _ => ?_)
  · skip
    exact le_ret (by first | rfl | (simp only [EN, brokerref06_Sub_out]; done) | (simp only [EN, brokerref06_Sub_out]; rfl))
  · skip
    refine le_cond rfl (fun _ => ?_) (fun _ => ?_)
    · skip
      exact le_ret (by first | rfl | (simp only [EN, brokerref06_Sub_out]; done) | (simp only [EN, brokerref06_Sub_out]; rfl))
    · skip
      refine le_cond rfl (fun _ => ?_) (fun _ => ?_)
      · skip
        exact le_ret (by first | rfl | (simp only [EN, brokerref06_Sub_out]; done) | (simp only [EN, brokerref06_Sub_out]; rfl))
      · skip
        exact brokerref06_Sub_j5_ok p0
def C39 (Γ : Fun) (γ59 : Gm (Int)) (γ60 : Gm (Bool)) (γ36 : Gm (Bool)) : CFun := updC (updC (updC (bindC Γ) 59 brokerref06_Sub_out γ59) 60 brokerref01_Wanted_out γ60) 36 brokerref06_Code_out γ36
def R39_13 (C : CFun) (Λ2 J : Lam) (a0 : Int) (a1 : (List D)) : Res := lab SE C Λ2 J 39 0 [1, 1, 1, 0, 1, 0] (stoOf [(1, .ptr 1000000000 0), (6, .d (.int .i64 a0))] [⟨31, (List.map AV.d a1)⟩] [] [] [])
def R39_8 (C : CFun) (Λ2 J : Lam) (a0 : Int) (a1 : (List D)) : Res := lab SE C Λ2 J 39 0 [1, 1, 0, 1, 0] (stoOf [(1, .ptr 1000000000 0), (5, .d (.int .i64 a0))] [⟨31, (List.map AV.d a1)⟩] [] [] [])
def R39_2 (C : CFun) (Λ2 J : Lam) (a0 : Int) (a1 : (List D)) : Res := lab SE C Λ2 J 39 0 [1, 0, 1, 0] (stoOf [(1, .ptr 1000000000 0), (3, .d (.int .i64 a0))] [⟨31, (List.map AV.d a1)⟩] [] [] [])
theorem T39 (Γ : Fun) (γ59 : Gm (Int)) (γ60 : Gm (Bool)) (γ36 : Gm (Bool)) (Λ2 J : Lam) (p0 : api_Packet) : bodyC SE (C39 Γ γ59 γ60 γ36) Λ2 J 39 [api_Packet.av p0] [] [] =
  R39_2 (C39 Γ γ59 γ60 γ36) Λ2 J 0 (api_Packet.enc p0) := by kernel_rfl
theorem T39_13 (Γ : Fun) (γ59 : Gm (Int)) (γ60 : Gm (Bool)) (γ36 : Gm (Bool)) (Λ2 J : Lam) (x6 : Int) (b0 : api_Packet) : labU SE (C39 Γ γ59 γ60 γ36) Λ2 J 39 0 [1, 1, 1, 0, 1, 0] (stoOf [(1, .ptr 1000000000 0), (6, .d (.int .i64 x6))] [⟨31, (List.map AV.d (api_Packet.enc b0))⟩] [] [] []) =
  cond (decide (x6 < (List.length (List.map (encI .i64) b0.Codes) : Int))) (
   cond (decide (0 ≤ x6) && decide (x6 < (List.length (List.map (encI .i64) b0.Codes) : Int))) (
    γ36 [.d (.int .i64 (dInt (cellAt (elemAt (List.map (encI .i64) b0.Codes) (Int.toNat x6)) 0)))] [] [] fun r2 =>
    cond (!r2) (
     (some (.ret [.d (.int .i64 1)] [] []))) (
    R39_13 (C39 Γ γ59 γ60 γ36) Λ2 J (IntKind.wrap .i64 (x6 + 1)) (api_Packet.enc b0))) none) (
  (some (.ret [.d (.int .i64 0)] [] []))) := by kernel_rfl
theorem T39_8 (Γ : Fun) (γ59 : Gm (Int)) (γ60 : Gm (Bool)) (γ36 : Gm (Bool)) (Λ2 J : Lam) (x5 : Int) (b0 : api_Packet) : labU SE (C39 Γ γ59 γ60 γ36) Λ2 J 39 0 [1, 1, 0, 1, 0] (stoOf [(1, .ptr 1000000000 0), (5, .d (.int .i64 x5))] [⟨31, (List.map AV.d (api_Packet.enc b0))⟩] [] [] []) =
  cond (decide (x5 < (List.length (List.map encS b0.Filters) : Int))) (
   cond (decide (0 ≤ x5) && decide (x5 < (List.length (List.map encS b0.Filters) : Int))) (
    γ60 [.d (.str (dStr (cellAt (elemAt (List.map encS b0.Filters) (Int.toNat x5)) 0)))] [] [] fun r1 =>
    cond (!r1) (
     (some (.ret [.d (.int .i64 13)] [] []))) (
    R39_8 (C39 Γ γ59 γ60 γ36) Λ2 J (IntKind.wrap .i64 (x5 + 1)) (api_Packet.enc b0))) none) (
  R39_13 (C39 Γ γ59 γ60 γ36) Λ2 J 0 (api_Packet.enc b0)) := by kernel_rfl
theorem T39_2 (Γ : Fun) (γ59 : Gm (Int)) (γ60 : Gm (Bool)) (γ36 : Gm (Bool)) (Λ2 J : Lam) (x3 : Int) (b0 : api_Packet) : labU SE (C39 Γ γ59 γ60 γ36) Λ2 J 39 0 [1, 0, 1, 0] (stoOf [(1, .ptr 1000000000 0), (3, .d (.int .i64 x3))] [⟨31, (List.map AV.d (api_Packet.enc b0))⟩] [] [] []) =
  cond (decide (x3 < (List.length (List.map api_Sub.enc b0.Subs) : Int))) (
   cond (decide (0 ≤ x3) && decide (x3 < (List.length (List.map api_Sub.enc b0.Subs) : Int))) (
    γ59 [.agg [.d (.str (dStr (cellAt (elemAt (List.map api_Sub.enc b0.Subs) (Int.toNat x3)) 0))), .d (.int .i64 (dInt (cellAt (elemAt (List.map api_Sub.enc b0.Subs) (Int.toNat x3)) 1))), .d (.bool (dBool (cellAt (elemAt (List.map api_Sub.enc b0.Subs) (Int.toNat x3)) 2)))]] [] [] fun r0 =>
    cond (r0 != 0) (
     (some (.ret [.d (.int .i64 r0)] [] []))) (
    R39_2 (C39 Γ γ59 γ60 γ36) Λ2 J (IntKind.wrap .i64 (x3 + 1)) (api_Packet.enc b0))) none) (
  R39_8 (C39 Γ γ59 γ60 γ36) Λ2 J 0 (api_Packet.enc b0)) := by kernel_rfl
abbrev X39 : CFun := C39 (callG SE good) (callT SE good 59 brokerref06_Sub_out) (callT SE good 60 brokerref01_Wanted_out) (callT SE good 36 brokerref06_Code_out)
theorem Cr39 : C39 (callG SE good) (callT SE good 59 brokerref06_Sub_out) (callT SE good 60 brokerref01_Wanted_out) (callT SE good 36 brokerref06_Code_out) = bindC (callG SE good) := by unfold C39; rw [updC_real (fun _ h => h), updC_real (fun _ h => h), updC_real (fun _ h => h)]
noncomputable abbrev Q39_13 (a0 : Int) (a1 : (List D)) : Res := R39_13 X39 (lam2 SE (callG SE good) (SE.hl 39) (SE.hr 39)) (J0 SE X39) a0 a1
noncomputable abbrev Q39_8 (a0 : Int) (a1 : (List D)) : Res := R39_8 X39 (lam2 SE (callG SE good) (SE.hl 39) (SE.hr 39)) (J0 SE X39) a0 a1
noncomputable abbrev Q39_2 (a0 : Int) (a1 : (List D)) : Res := R39_2 X39 (lam2 SE (callG SE good) (SE.hl 39) (SE.hr 39)) (J0 SE X39) a0 a1
theorem brokerref06_elements_l13_ok : ∀ (fu : Nat) (x6 : Int) (b0 : api_Packet), Le (Option.map brokerref06_elements_out (brokerref06_elements_l13 fu x6 b0)) (Q39_13 x6 (api_Packet.enc b0)) := by
  intro fu
  induction fu with
  | zero => intros; exact le_none
  | succ fu ih =>
    intro x6 b0
    refine Le.trans ?_ (le_of_eq ((lab_realC Cr39).trans (T39_13 _ _ _ _ _ _  x6 b0)).symm)
    unfold brokerref06_elements_l13
    refine le_cond (by simp only [EN]) (fun _ => ?_) (fun _ => ?_)
    · skip
      refine le_cond (by simp only [EN]) (fun _ => ?_) (fun _ => le_none)
      refine le_call (good := good) (fun y => ⟨y, rfl⟩) brokerref06_Code_inj (by first | (simp only [EN]; exact brokerref06_Code_ok (List.getD b0.Codes (Int.toNat x6) default)) | exact brokerref06_Code_ok (List.getD b0.Codes (Int.toNat x6) default)) (fun r2 _ => ?_)
      refine le_cond rfl (fun _ => ?_) (fun _ => ?_)
      · skip
        exact le_ret (by first | rfl | (simp only [EN, brokerref06_elements_out]; done) | (simp only [EN, brokerref06_elements_out]; rfl))
      · skip
        exact ih (IntKind.wrap .i64 (x6 + 1)) b0
    · skip
      exact le_ret (by first | rfl | (simp only [EN, brokerref06_elements_out]; done) | (simp only [EN, brokerref06_elements_out]; rfl))
theorem brokerref06_elements_l8_ok : ∀ (fu : Nat) (x5 : Int) (b0 : api_Packet), Le (Option.map brokerref06_elements_out (brokerref06_elements_l8 fu x5 b0)) (Q39_8 x5 (api_Packet.enc b0)) := by
  intro fu
  induction fu with
  | zero => intros; exact le_none
  | succ fu ih =>
    intro x5 b0
    refine Le.trans ?_ (le_of_eq ((lab_realC Cr39).trans (T39_8 _ _ _ _ _ _  x5 b0)).symm)
    unfold brokerref06_elements_l8
    refine le_cond (by simp only [EN]) (fun _ => ?_) (fun _ => ?_)
    · skip
      refine le_cond (by simp only [EN]) (fun _ => ?_) (fun _ => le_none)
      refine le_call (good := good) (fun y => ⟨y, rfl⟩) brokerref01_Wanted_inj (by first | (simp only [EN]; exact brokerref01_Wanted_ok (List.getD b0.Filters (Int.toNat x5) default)) | exact brokerref01_Wanted_ok (List.getD b0.Filters (Int.toNat x5) default)) (fun r1 _ => ?_)
      refine le_cond rfl (fun _ => ?_) (fun _ => ?_)
      · skip
        exact le_ret (by first | rfl | (simp only [EN, brokerref06_elements_out]; done) | (simp only [EN, brokerref06_elements_out]; rfl))
      · skip
        exact ih (IntKind.wrap .i64 (x5 + 1)) b0
    · skip
      exact brokerref06_elements_l13_ok fuel 0 b0
theorem brokerref06_elements_l2_ok : ∀ (fu : Nat) (x3 : Int) (b0 : api_Packet), Le (Option.map brokerref06_elements_out (brokerref06_elements_l2 fu x3 b0)) (Q39_2 x3 (api_Packet.enc b0)) := by
  intro fu
  induction fu with
  | zero => intros; exact le_none
  | succ fu ih =>
    intro x3 b0
    refine Le.trans ?_ (le_of_eq ((lab_realC Cr39).trans (T39_2 _ _ _ _ _ _  x3 b0)).symm)
    unfold brokerref06_elements_l2
    refine le_cond (by simp only [EN]) (fun _ => ?_) (fun _ => ?_)
    · skip
      refine le_cond (by simp only [EN]) (fun _ => ?_) (fun _ => le_none)
      refine le_call (good := good) (fun y => ⟨y, rfl⟩) brokerref06_Sub_inj (by first | (simp only [EN]; exact brokerref06_Sub_ok (List.getD b0.Subs (Int.toNat x3) default)) | exact brokerref06_Sub_ok (List.getD b0.Subs (Int.toNat x3) default)) (fun r0 _ => ?_)
      refine le_cond rfl (fun _ => ?_) (fun _ => ?_)
      · skip
        exact le_ret (by first | rfl | (simp only [EN, brokerref06_elements_out]; done) | (simp only [EN, brokerref06_elements_out]; rfl))
      · skip
        exact ih (IntKind.wrap .i64 (x3 + 1)) b0
    · skip
      exact brokerref06_elements_l8_ok fuel 0 b0
theorem brokerref06_elements_ok (p0 : api_Packet) : Le (Option.map brokerref06_elements_out (brokerref06_elements p0)) (callW SE 39 [api_Packet.av p0] [] []) := by
  refine le_bodyC Cr39 ?_
  refine Le.trans ?_ (le_of_eq (T39 _ _ _ _ _ _  p0).symm)
  unfold brokerref06_elements
  exact brokerref06_elements_l2_ok fuel 0 p0
def C12 (Γ : Fun) (γ33 : Gm (api_Packet)) (γ18 : Gm (Bool)) (γ34 : Gm (Int)) (γ35 : Gm (Int)) (γ36 : Gm (Bool)) (γ37 : Gm (Int)) (γ38 : Gm (Int)) (γ39 : Gm (Int)) : CFun := updC (updC (updC (updC (updC (updC (updC (updC (bindC Γ) 33 brokerref06_Used_out γ33) 18 brokerref06_Same_out γ18) 34 brokerref06_connect_out γ34) 35 brokerref06_publish_out γ35) 36 brokerref06_Code_out γ36) 37 brokerref06_ident_out γ37) 38 brokerref06_count_out γ38) 39 brokerref06_elements_out γ39
def R12_20 (C : CFun) (Λ2 J : Lam) (a0 : (List D)) : Res := lab SE C Λ2 J 12 0 [1, 1, 1, 1, 1, 1, 1, 1, 1, 0] (stoOf [(1, .ptr 1000000000 0)] [⟨31, (List.map AV.d a0)⟩] [] [] [])
def R12_17 (C : CFun) (Λ2 J : Lam) (a0 : (List D)) : Res := lab SE C Λ2 J 12 0 [1, 1, 1, 1, 1, 1, 1, 0] (stoOf [(1, .ptr 1000000000 0)] [⟨31, (List.map AV.d a0)⟩] [] [] [])
def R12_15 (C : CFun) (Λ2 J : Lam) (a0 : (List D)) : Res := lab SE C Λ2 J 12 0 [1, 1, 1, 1, 1, 1, 0, 0] (stoOf [(1, .ptr 1000000000 0)] [⟨31, (List.map AV.d a0)⟩] [] [] [])
def R12_3 (C : CFun) (Λ2 J : Lam) (a0 : (List D)) : Res := lab SE C Λ2 J 12 0 [1, 1, 0, 0] (stoOf [(1, .ptr 1000000000 0)] [⟨31, (List.map AV.d a0)⟩] [] [] [])
theorem T12 (Γ : Fun) (γ33 : Gm (api_Packet)) (γ18 : Gm (Bool)) (γ34 : Gm (Int)) (γ35 : Gm (Int)) (γ36 : Gm (Bool)) (γ37 : Gm (Int)) (γ38 : Gm (Int)) (γ39 : Gm (Int)) (Λ2 J : Lam) (p0 : api_Packet) : bodyC SE (C12 Γ γ33 γ18 γ34 γ35 γ36 γ37 γ38 γ39) Λ2 J 12 [api_Packet.av p0] [] [] =
  cond (decide (p0.Kind < 1)) (
   (some (.ret [.d (.int .i64 10)] [] []))) (
  cond (decide (p0.Kind > 14)) (
   (some (.ret [.d (.int .i64 10)] [] []))) (
  R12_3 (C12 Γ γ33 γ18 γ34 γ35 γ36 γ37 γ38 γ39) Λ2 J (api_Packet.enc p0))) := by kernel_rfl
theorem T12_20 (Γ : Fun) (γ33 : Gm (api_Packet)) (γ18 : Gm (Bool)) (γ34 : Gm (Int)) (γ35 : Gm (Int)) (γ36 : Gm (Bool)) (γ37 : Gm (Int)) (γ38 : Gm (Int)) (γ39 : Gm (Int)) (Λ2 J : Lam) (b0 : api_Packet) : labU SE (C12 Γ γ33 γ18 γ34 γ35 γ36 γ37 γ38 γ39) Λ2 J 12 0 [1, 1, 1, 1, 1, 1, 1, 1, 1, 0] (stoOf [(1, .ptr 1000000000 0)] [⟨31, (List.map AV.d (api_Packet.enc b0))⟩] [] [] []) =
  γ38 [.d (.int .i64 (IntKind.wrap .i64 ((IntKind.wrap .i64 ((List.length (List.map api_Sub.enc b0.Subs) : Int) + (List.length (List.map encS b0.Filters) : Int))) + (List.length (List.map (encI .i64) b0.Codes) : Int))))] [] [] fun r7 =>
  cond (r7 != 0) (
   (some (.ret [.d (.int .i64 r7)] [] []))) (
  γ39 [api_Packet.av b0] [] [] fun r8 =>
  (some (.ret [.d (.int .i64 r8)] [] []))) := by kernel_rfl
theorem T12_17 (Γ : Fun) (γ33 : Gm (api_Packet)) (γ18 : Gm (Bool)) (γ34 : Gm (Int)) (γ35 : Gm (Int)) (γ36 : Gm (Bool)) (γ37 : Gm (Int)) (γ38 : Gm (Int)) (γ39 : Gm (Int)) (Λ2 J : Lam) (b0 : api_Packet) : labU SE (C12 Γ γ33 γ18 γ34 γ35 γ36 γ37 γ38 γ39) Λ2 J 12 0 [1, 1, 1, 1, 1, 1, 1, 0] (stoOf [(1, .ptr 1000000000 0)] [⟨31, (List.map AV.d (api_Packet.enc b0))⟩] [] [] []) =
  γ37 [.d (.int .i64 b0.ID)] [] [] fun r6 =>
  cond (r6 != 0) (
   (some (.ret [.d (.int .i64 r6)] [] []))) (
  cond (decide (b0.Kind ≤ 7)) (
   (some (.ret [.d (.int .i64 r6)] [] []))) (
  R12_20 (C12 Γ γ33 γ18 γ34 γ35 γ36 γ37 γ38 γ39) Λ2 J (api_Packet.enc b0))) := by kernel_rfl
theorem T12_15 (Γ : Fun) (γ33 : Gm (api_Packet)) (γ18 : Gm (Bool)) (γ34 : Gm (Int)) (γ35 : Gm (Int)) (γ36 : Gm (Bool)) (γ37 : Gm (Int)) (γ38 : Gm (Int)) (γ39 : Gm (Int)) (Λ2 J : Lam) (b0 : api_Packet) : labU SE (C12 Γ γ33 γ18 γ34 γ35 γ36 γ37 γ38 γ39) Λ2 J 12 0 [1, 1, 1, 1, 1, 1, 0, 0] (stoOf [(1, .ptr 1000000000 0)] [⟨31, (List.map AV.d (api_Packet.enc b0))⟩] [] [] []) =
  cond (b0.Kind == 12) (
   (some (.ret [.d (.int .i64 0)] [] []))) (
  cond (b0.Kind == 13) (
   (some (.ret [.d (.int .i64 0)] [] []))) (
  R12_17 (C12 Γ γ33 γ18 γ34 γ35 γ36 γ37 γ38 γ39) Λ2 J (api_Packet.enc b0))) := by kernel_rfl
theorem T12_3 (Γ : Fun) (γ33 : Gm (api_Packet)) (γ18 : Gm (Bool)) (γ34 : Gm (Int)) (γ35 : Gm (Int)) (γ36 : Gm (Bool)) (γ37 : Gm (Int)) (γ38 : Gm (Int)) (γ39 : Gm (Int)) (Λ2 J : Lam) (b0 : api_Packet) : labU SE (C12 Γ γ33 γ18 γ34 γ35 γ36 γ37 γ38 γ39) Λ2 J 12 0 [1, 1, 0, 0] (stoOf [(1, .ptr 1000000000 0)] [⟨31, (List.map AV.d (api_Packet.enc b0))⟩] [] [] []) =
  γ33 [api_Packet.av b0] [] [] fun r0 =>
  γ18 [api_Packet.av b0, api_Packet.av r0] [] [] fun r1 =>
  cond (!r1) (
   (some (.ret [.d (.int .i64 28)] [] []))) (
  cond (b0.Kind == 1) (
   γ34 [api_Packet.av b0] [] [] fun r2 =>
   (some (.ret [.d (.int .i64 r2)] [] []))) (
  cond (b0.Kind == 3) (
   γ35 [api_Packet.av b0] [] [] fun r3 =>
   (some (.ret [.d (.int .i64 r3)] [] []))) (
  cond (b0.Kind == 2) (
   γ36 [.d (.int .i64 b0.Code)] [] [] fun r4 =>
   cond (!r4) (
    (some (.ret [.d (.int .i64 1)] [] []))) (
   cond b0.Present (
    cond (b0.Code != 0) (
     (some (.ret [.d (.int .i64 28)] [] []))) (
    (some (.ret [.d (.int .i64 0)] [] [])))) (
   (some (.ret [.d (.int .i64 0)] [] []))))) (
  cond (b0.Kind == 14) (
   γ36 [.d (.int .i64 b0.Code)] [] [] fun r5 =>
   cond (!r5) (
    (some (.ret [.d (.int .i64 1)] [] []))) (
   cond b0.Present (
    cond (b0.Code != 0) (
     (some (.ret [.d (.int .i64 28)] [] []))) (
    (some (.ret [.d (.int .i64 0)] [] [])))) (
   (some (.ret [.d (.int .i64 0)] [] []))))) (
  R12_15 (C12 Γ γ33 γ18 γ34 γ35 γ36 γ37 γ38 γ39) Λ2 J (api_Packet.enc b0)))))) := by kernel_rfl
abbrev X12 : CFun := C12 (callG SE good) (callT SE good 33 brokerref06_Used_out) (callT SE good 18 brokerref06_Same_out) (callT SE good 34 brokerref06_connect_out) (callT SE good 35 brokerref06_publish_out) (callT SE good 36 brokerref06_Code_out) (callT SE good 37 brokerref06_ident_out) (callT SE good 38 brokerref06_count_out) (callT SE good 39 brokerref06_elements_out)
theorem Cr12 : C12 (callG SE good) (callT SE good 33 brokerref06_Used_out) (callT SE good 18 brokerref06_Same_out) (callT SE good 34 brokerref06_connect_out) (callT SE good 35 brokerref06_publish_out) (callT SE good 36 brokerref06_Code_out) (callT SE good 37 brokerref06_ident_out) (callT SE good 38 brokerref06_count_out) (callT SE good 39 brokerref06_elements_out) = bindC (callG SE good) := by unfold C12; rw [updC_real (fun _ h => h), updC_real (fun _ h => h), updC_real (fun _ h => h), updC_real (fun _ h => h), updC_real (fun _ h => h), updC_real (fun _ h => h), updC_real (fun _ h => h), updC_real (fun _ h => h)]
noncomputable abbrev Q12_20 (a0 : (List D)) : Res := R12_20 X12 (lam2 SE (callG SE good) (SE.hl 12) (SE.hr 12)) (J0 SE X12) a0
noncomputable abbrev Q12_17 (a0 : (List D)) : Res := R12_17 X12 (lam2 SE (callG SE good) (SE.hl 12) (SE.hr 12)) (J0 SE X12) a0
noncomputable abbrev Q12_15 (a0 : (List D)) : Res := R12_15 X12 (lam2 SE (callG SE good) (SE.hl 12) (SE.hr 12)) (J0 SE X12) a0
noncomputable abbrev Q12_3 (a0 : (List D)) : Res := R12_3 X12 (lam2 SE (callG SE good) (SE.hl 12) (SE.hr 12)) (J0 SE X12) a0
theorem brokerref06_Check_j20_ok (b0 : api_Packet) : Le (Option.map brokerref06_Check_out (brokerref06_Check_j20 b0)) (Q12_20 (api_Packet.enc b0)) := by
  refine Le.trans ?_ (le_of_eq ((lab_realC Cr12).trans (T12_20 _ _ _ _ _ _ _ _ _ _ _  b0)).symm)
  unfold brokerref06_Check_j20
  refine le_call (good := good) (fun y => ⟨y, rfl⟩) brokerref06_count_inj (by first | (simp only [EN]; exact brokerref06_count_ok ((IntKind.wrap .i64 ((IntKind.wrap .i64 ((List.length b0.Subs : Int) + (List.length b0.Filters : Int))) + (List.length b0.Codes : Int))))) | exact brokerref06_count_ok ((IntKind.wrap .i64 ((IntKind.wrap .i64 ((List.length b0.Subs : Int) + (List.length b0.Filters : Int))) + (List.length b0.Codes : Int))))) (fun r7 _ => ?_)
  refine le_cond rfl (fun _ => ?_) (fun _ => ?_)
  · skip
    exact le_ret (by first | rfl | (simp only [EN, brokerref06_Check_out]; done) | (simp only [EN, brokerref06_Check_out]; rfl))
  · skip
    refine le_call (good := good) (fun y => ⟨y, rfl⟩) brokerref06_elements_inj (brokerref06_elements_ok b0) (fun r8 _ => ?_)
    exact le_ret (by first | rfl | (simp only [EN, brokerref06_Check_out]; done) | (simp only [EN, brokerref06_Check_out]; rfl))
theorem brokerref06_Check_j17_ok (b0 : api_Packet) : Le (Option.map brokerref06_Check_out (brokerref06_Check_j17 b0)) (Q12_17 (api_Packet.enc b0)) := by
  refine Le.trans ?_ (le_of_eq ((lab_realC Cr12).trans (T12_17 _ _ _ _ _ _ _ _ _ _ _  b0)).symm)
  unfold brokerref06_Check_j17
  refine le_call (good := good) (fun y => ⟨y, rfl⟩) brokerref06_ident_inj (brokerref06_ident_ok b0.ID) (fun r6 _ => ?_)
  refine le_cond rfl (fun _ => ?_) (fun _ => ?_)
  · skip
    exact le_ret (by first | rfl | (simp only [EN, brokerref06_Check_out]; done) | (simp only [EN, brokerref06_Check_out]; rfl))
  · skip
    refine le_cond rfl (fun _ => ?_) (fun _ => ?_)
    · skip
      exact le_ret (by first | rfl | (simp only [EN, brokerref06_Check_out]; done) | (simp only [EN, brokerref06_Check_out]; rfl))
    · skip
      exact brokerref06_Check_j20_ok b0
theorem brokerref06_Check_j15_ok (b0 : api_Packet) : Le (Option.map brokerref06_Check_out (brokerref06_Check_j15 b0)) (Q12_15 (api_Packet.enc b0)) := by
  refine Le.trans ?_ (le_of_eq ((lab_realC Cr12).trans (T12_15 _ _ _ _ _ _ _ _ _ _ _  b0)).symm)
  unfold brokerref06_Check_j15
  refine le_cond rfl (fun _ => ?_) (fun _ => ?_)
  · skip
    exact le_ret (by first | rfl | (simp only [EN, brokerref06_Check_out]; done) | (simp only [EN, brokerref06_Check_out]; rfl))
  · skip
    refine le_cond rfl (fun _ => ?_) (fun _ => ?_)
    · skip
      exact le_ret (by first | rfl | (simp only [EN, brokerref06_Check_out]; done) | (simp only [EN, brokerref06_Check_out]; rfl))
    · skip
      exact brokerref06_Check_j17_ok b0
theorem brokerref06_Check_j3_ok (b0 : api_Packet) : Le (Option.map brokerref06_Check_out (brokerref06_Check_j3 b0)) (Q12_3 (api_Packet.enc b0)) := by
  refine Le.trans ?_ (le_of_eq ((lab_realC Cr12).trans (T12_3 _ _ _ _ _ _ _ _ _ _ _  b0)).symm)
  unfold brokerref06_Check_j3
  refine le_call (good := good) (fun y => ⟨y, rfl⟩) brokerref06_Used_inj (brokerref06_Used_ok b0) (fun r0 _ => ?_)
  refine le_call (good := good) (fun y => ⟨y, rfl⟩) brokerref06_Same_inj (brokerref06_Same_ok b0 r0) (fun r1 _ => ?_)
  refine le_cond rfl (fun _ => ?_) (fun _ => ?_)
  · skip
    exact le_ret (by first | rfl | (simp only [EN, brokerref06_Check_out]; done) | (simp only [EN, brokerref06_Check_out]; rfl))
  · skip
    refine le_cond rfl (fun _ => ?_) (fun _ => ?_)
    · skip
      refine le_call (good := good) (fun y => ⟨y, rfl⟩) brokerref06_connect_inj (brokerref06_connect_ok b0) (fun r2 _ => ?_)
      exact le_ret (by first | rfl | (simp only [EN, brokerref06_Check_out]; done) | (simp only [EN, brokerref06_Check_out]; rfl))
    · skip
      refine le_cond rfl (fun _ => ?_) (fun _ => ?_)
      · skip
        refine le_call (good := good) (fun y => ⟨y, rfl⟩) brokerref06_publish_inj (brokerref06_publish_ok b0) (fun r3 _ => ?_)
        exact le_ret (by first | rfl | (simp only [EN, brokerref06_Check_out]; done) | (simp only [EN, brokerref06_Check_out]; rfl))
      · skip
        refine le_cond rfl (fun _ => ?_) (fun _ => ?_)
        · skip
          refine le_call (good := good) (fun y => ⟨y, rfl⟩) brokerref06_Code_inj (brokerref06_Code_ok b0.Code) (fun r4 _ => ?_)
          refine le_cond rfl (fun _ => ?_) (fun _ => ?_)
          · skip
            exact le_ret (by first | rfl | (simp only [EN, brokerref06_Check_out]; done) | (simp only [EN, brokerref06_Check_out]; rfl))
          · skip
            refine le_cond rfl (fun _ => ?_) (fun _ => ?_)
            · skip
              refine le_cond rfl (fun _ => ?_) (fun _ => ?_)
              · skip
                exact le_ret (by first | rfl | (simp only [EN, brokerref06_Check_out]; done) | (simp only [EN, brokerref06_Check_out]; rfl))
              · skip
                exact le_ret (by first | rfl | (simp only [EN, brokerref06_Check_out]; done) | (simp only [EN, brokerref06_Check_out]; rfl))
            · skip
              exact le_ret (by first | rfl | (simp only [EN, brokerref06_Check_out]; done) | (simp only [EN, brokerref06_Check_out]; rfl))
        · skip
          refine le_cond rfl (fun _ => ?_) (fun _ => ?_)
          · skip
            refine le_call (good := good) (fun y => ⟨y, rfl⟩) brokerref06_Code_inj (brokerref06_Code_ok b0.Code) (fun r5 _ => ?_)
            refine le_cond rfl (fun _ => ?_) (fun _ => ?_)
            · skip
              exact le_ret (by first | rfl | (simp only [EN, brokerref06_Check_out]; done) | (simp only [EN, brokerref06_Check_out]; rfl))
            · skip
              refine le_cond rfl (fun _ => ?_) (fun _ => ?_)
              · skip
                refine le_cond rfl (fun _ => ?_) (fun _ => ?_)
                · skip
                  exact le_ret (by first | rfl | (simp only [EN, brokerref06_Check_out]; done) | (simp only [EN, brokerref06_Check_out]; rfl))
                · skip
                  exact le_ret (by first | rfl | (simp only [EN, brokerref06_Check_out]; done) | (simp only [EN, brokerref06_Check_out]; rfl))
              · skip
                exact le_ret (by first | rfl | (simp only [EN, brokerref06_Check_out]; done) | (simp only [EN, brokerref06_Check_out]; rfl))
          · skip
            exact brokerref06_Check_j15_ok b0
theorem brokerref06_Check_ok (p0 : api_Packet) : Le (Option.map brokerref06_Check_out (brokerref06_Check p0)) (callW SE 12 [api_Packet.av p0] [] []) := by
  refine le_bodyC Cr12 ?_
  refine Le.trans ?_ (le_of_eq (T12 _ _ _ _ _ _ _ _ _ _ _  p0).symm)
  unfold brokerref06_Check
  refine le_cond rfl (fun _ => ?_) (fun _ => ?_)
  · skip
    exact le_ret (by first | rfl | (simp only [EN, brokerref06_Check_out]; done) | (simp only [EN, brokerref06_Check_out]; rfl))
  · skip
    refine le_cond rfl (fun _ => ?_) (fun _ => ?_)
    · skip
      exact le_ret (by first | rfl | (simp only [EN, brokerref06_Check_out]; done) | (simp only [EN, brokerref06_Check_out]; rfl))
    · skip
      exact brokerref06_Check_j3_ok p0
def C3 (Γ : Fun) (γ9 : Gm (Bool)) (γ10 : Gm (Bool)) (γ11 : Gm (Int)) (γ12 : Gm (Int)) : CFun := updC (updC (updC (updC (bindC Γ) 9 brokerlaw06_small_out γ9) 10 brokerlaw06_awake_out γ10) 11 packet_Check_out γ11) 12 brokerref06_Check_out γ12
theorem T3 (Γ : Fun) (γ9 : Gm (Bool)) (γ10 : Gm (Bool)) (γ11 : Gm (Int)) (γ12 : Gm (Int)) (Λ2 J : Lam) (p0 : api_Packet) : bodyC SE (C3 Γ γ9 γ10 γ11 γ12) Λ2 J 3 [api_Packet.av p0] [] [] =
  γ9 [api_Packet.av p0] [] [] fun r0 =>
  cond (!r0) (
   γ10 [] [] [] fun r1 =>
   (some (.ret [.d (.bool r1)] [] []))) (
  γ11 [api_Packet.av p0] [] [] fun r2 =>
  γ12 [api_Packet.av p0] [] [] fun r3 =>
  cond (r2 == r3) (
   γ10 [] [] [] fun r4 =>
   (some (.ret [.d (.bool r4)] [] []))) (
  (some (.ret [.d (.bool false)] [] [])))) := by kernel_rfl
abbrev X3 : CFun := C3 (callG SE good) (callT SE good 9 brokerlaw06_small_out) (callT SE good 10 brokerlaw06_awake_out) (callT SE good 11 packet_Check_out) (callT SE good 12 brokerref06_Check_out)
theorem Cr3 : C3 (callG SE good) (callT SE good 9 brokerlaw06_small_out) (callT SE good 10 brokerlaw06_awake_out) (callT SE good 11 packet_Check_out) (callT SE good 12 brokerref06_Check_out) = bindC (callG SE good) := by unfold C3; rw [updC_real (fun _ h => h), updC_real (fun _ h => h), updC_real (fun _ h => h), updC_real (fun _ h => h)]
theorem brokerlaw06_PacketChecks_ok (p0 : api_Packet) : Le (Option.map brokerlaw06_PacketChecks_out (brokerlaw06_PacketChecks p0)) (callW SE 3 [api_Packet.av p0] [] []) := by
  refine le_bodyC Cr3 ?_
  refine Le.trans ?_ (le_of_eq (T3 _ _ _ _ _ _ _  p0).symm)
  unfold brokerlaw06_PacketChecks
  refine le_call (good := good) (fun y => ⟨y, rfl⟩) brokerlaw06_small_inj (brokerlaw06_small_ok p0) (fun r0 _ => ?_)
  refine le_cond rfl (fun _ => ?_) (fun _ => ?_)
  · skip
    refine le_call (good := good) (fun y => ⟨y, rfl⟩) brokerlaw06_awake_inj (brokerlaw06_awake_ok) (fun r1 _ => ?_)
    exact le_ret (by first | rfl | (simp only [EN, brokerlaw06_PacketChecks_out]; done) | (simp only [EN, brokerlaw06_PacketChecks_out]; rfl))
  · skip
    refine le_call (good := good) (fun y => ⟨y, rfl⟩) packet_Check_inj (packet_Check_ok p0) (fun r2 _ => ?_)
    refine le_call (good := good) (fun y => ⟨y, rfl⟩) brokerref06_Check_inj (brokerref06_Check_ok p0) (fun r3 _ => ?_)
    refine le_cond rfl (fun _ => ?_) (fun _ => ?_)
    · skip
      refine le_call (good := good) (fun y => ⟨y, rfl⟩) brokerlaw06_awake_inj (brokerlaw06_awake_ok) (fun r4 _ => ?_)
      exact le_ret (by first | rfl | (simp only [EN, brokerlaw06_PacketChecks_out]; done) | (simp only [EN, brokerlaw06_PacketChecks_out]; rfl))
    · skip
      exact le_ret (by first | rfl | (simp only [EN, brokerlaw06_PacketChecks_out]; done) | (simp only [EN, brokerlaw06_PacketChecks_out]; rfl))
def C41 (Γ : Fun)  : CFun := bindC Γ
theorem T41 (Γ : Fun)  (Λ2 J : Lam) (p0 : Int) : bodyC SE (C41 Γ) Λ2 J 41 [.d (.int .i64 p0)] [] [] =
  cond (decide (p0 ≥ 3)) (
   cond (decide (p0 ≤ 7)) (
    (some (.ret [.d (.bool true)] [] []))) (
   (some (.ret [.d (.bool (p0 == 14))] [] [])))) (
  (some (.ret [.d (.bool (p0 == 14))] [] []))) := by kernel_rfl
abbrev X41 : CFun := C41 (callG SE good)
theorem Cr41 : C41 (callG SE good) = bindC (callG SE good) := by unfold C41; rfl
theorem brokerref06_both_ok (p0 : Int) : Le (Option.map brokerref06_both_out (brokerref06_both p0)) (callW SE 41 [.d (.int .i64 p0)] [] []) := by
  refine le_bodyC Cr41 ?_
  refine Le.trans ?_ (le_of_eq (T41 _ _ _  p0).symm)
  unfold brokerref06_both
  refine le_cond rfl (fun _ => ?_) (fun _ => ?_)
  · skip
    refine le_cond rfl (fun _ => ?_) (fun _ => ?_)
    · skip
      exact le_ret (by first | rfl | (simp only [EN, brokerref06_both_out]; done) | (simp only [EN, brokerref06_both_out]; rfl))
    · skip
      exact le_ret (by first | rfl | (simp only [EN, brokerref06_both_out]; done) | (simp only [EN, brokerref06_both_out]; rfl))
  · skip
    exact le_ret (by first | rfl | (simp only [EN, brokerref06_both_out]; done) | (simp only [EN, brokerref06_both_out]; rfl))
def C14 (Γ : Fun) (γ41 : Gm (Bool)) : CFun := updC (bindC Γ) 41 brokerref06_both_out γ41
theorem T14 (Γ : Fun) (γ41 : Gm (Bool)) (Λ2 J : Lam) (p0 : Int) : bodyC SE (C14 Γ γ41) Λ2 J 14 [.d (.int .i64 p0)] [] [] =
  γ41 [.d (.int .i64 p0)] [] [] fun r0 =>
  cond r0 (
   (some (.ret [.d (.bool true)] [] []))) (
  cond (p0 == 1) (
   (some (.ret [.d (.bool true)] [] []))) (
  cond (p0 == 8) (
   (some (.ret [.d (.bool true)] [] []))) (
  cond (p0 == 10) (
   (some (.ret [.d (.bool true)] [] []))) (
  (some (.ret [.d (.bool (p0 == 12))] [] [])))))) := by kernel_rfl
abbrev X14 : CFun := C14 (callG SE good) (callT SE good 41 brokerref06_both_out)
theorem Cr14 : C14 (callG SE good) (callT SE good 41 brokerref06_both_out) = bindC (callG SE good) := by unfold C14; rw [updC_real (fun _ h => h)]
theorem brokerref06_Client_ok (p0 : Int) : Le (Option.map brokerref06_Client_out (brokerref06_Client p0)) (callW SE 14 [.d (.int .i64 p0)] [] []) := by
  refine le_bodyC Cr14 ?_
  refine Le.trans ?_ (le_of_eq (T14 _ _ _ _  p0).symm)
  unfold brokerref06_Client
  refine le_call (good := good) (fun y => ⟨y, rfl⟩) brokerref06_both_inj (brokerref06_both_ok p0) (fun r0 _ => ?_)
  refine le_cond rfl (fun _ => ?_) (fun _ => ?_)
  · skip
    exact le_ret (by first | rfl | (simp only [EN, brokerref06_Client_out]; done) | (simp only [EN, brokerref06_Client_out]; rfl))
  · skip
    refine le_cond rfl (fun _ => ?_) (fun _ => ?_)
    · skip
      exact le_ret (by first | rfl | (simp only [EN, brokerref06_Client_out]; done) | (simp only [EN, brokerref06_Client_out]; rfl))
    · skip
      refine le_cond rfl (fun _ => ?_) (fun _ => ?_)
      · skip
        exact le_ret (by first | rfl | (simp only [EN, brokerref06_Client_out]; done) | (simp only [EN, brokerref06_Client_out]; rfl))
      · skip
        refine le_cond rfl (fun _ => ?_) (fun _ => ?_)
        · skip
          exact le_ret (by first | rfl | (simp only [EN, brokerref06_Client_out]; done) | (simp only [EN, brokerref06_Client_out]; rfl))
        · skip
          exact le_ret (by first | rfl | (simp only [EN, brokerref06_Client_out]; done) | (simp only [EN, brokerref06_Client_out]; rfl))
def C16 (Γ : Fun) (γ41 : Gm (Bool)) : CFun := updC (bindC Γ) 41 brokerref06_both_out γ41
theorem T16 (Γ : Fun) (γ41 : Gm (Bool)) (Λ2 J : Lam) (p0 : Int) : bodyC SE (C16 Γ γ41) Λ2 J 16 [.d (.int .i64 p0)] [] [] =
  γ41 [.d (.int .i64 p0)] [] [] fun r0 =>
  cond r0 (
   (some (.ret [.d (.bool true)] [] []))) (
  cond (p0 == 2) (
   (some (.ret [.d (.bool true)] [] []))) (
  cond (p0 == 9) (
   (some (.ret [.d (.bool true)] [] []))) (
  cond (p0 == 11) (
   (some (.ret [.d (.bool true)] [] []))) (
  (some (.ret [.d (.bool (p0 == 13))] [] [])))))) := by kernel_rfl
abbrev X16 : CFun := C16 (callG SE good) (callT SE good 41 brokerref06_both_out)
theorem Cr16 : C16 (callG SE good) (callT SE good 41 brokerref06_both_out) = bindC (callG SE good) := by unfold C16; rw [updC_real (fun _ h => h)]
theorem brokerref06_Broker_ok (p0 : Int) : Le (Option.map brokerref06_Broker_out (brokerref06_Broker p0)) (callW SE 16 [.d (.int .i64 p0)] [] []) := by
  refine le_bodyC Cr16 ?_
  refine Le.trans ?_ (le_of_eq (T16 _ _ _ _  p0).symm)
  unfold brokerref06_Broker
  refine le_call (good := good) (fun y => ⟨y, rfl⟩) brokerref06_both_inj (brokerref06_both_ok p0) (fun r0 _ => ?_)
  refine le_cond rfl (fun _ => ?_) (fun _ => ?_)
  · skip
    exact le_ret (by first | rfl | (simp only [EN, brokerref06_Broker_out]; done) | (simp only [EN, brokerref06_Broker_out]; rfl))
  · skip
    refine le_cond rfl (fun _ => ?_) (fun _ => ?_)
    · skip
      exact le_ret (by first | rfl | (simp only [EN, brokerref06_Broker_out]; done) | (simp only [EN, brokerref06_Broker_out]; rfl))
    · skip
      refine le_cond rfl (fun _ => ?_) (fun _ => ?_)
      · skip
        exact le_ret (by first | rfl | (simp only [EN, brokerref06_Broker_out]; done) | (simp only [EN, brokerref06_Broker_out]; rfl))
      · skip
        refine le_cond rfl (fun _ => ?_) (fun _ => ?_)
        · skip
          exact le_ret (by first | rfl | (simp only [EN, brokerref06_Broker_out]; done) | (simp only [EN, brokerref06_Broker_out]; rfl))
        · skip
          exact le_ret (by first | rfl | (simp only [EN, brokerref06_Broker_out]; done) | (simp only [EN, brokerref06_Broker_out]; rfl))
def C4 (Γ : Fun) (γ13 : Gm (Bool)) (γ14 : Gm (Bool)) (γ15 : Gm (Bool)) (γ16 : Gm (Bool)) (γ10 : Gm (Bool)) : CFun := updC (updC (updC (updC (updC (bindC Γ) 13 packet_Client_out γ13) 14 brokerref06_Client_out γ14) 15 packet_Broker_out γ15) 16 brokerref06_Broker_out γ16) 10 brokerlaw06_awake_out γ10
theorem T4 (Γ : Fun) (γ13 : Gm (Bool)) (γ14 : Gm (Bool)) (γ15 : Gm (Bool)) (γ16 : Gm (Bool)) (γ10 : Gm (Bool)) (Λ2 J : Lam) (p0 : Int) : bodyC SE (C4 Γ γ13 γ14 γ15 γ16 γ10) Λ2 J 4 [.d (.int .i64 p0)] [] [] =
  γ13 [.d (.int .i64 p0)] [] [] fun r0 =>
  γ14 [.d (.int .i64 p0)] [] [] fun r1 =>
  cond (r0 == r1) (
   γ15 [.d (.int .i64 p0)] [] [] fun r2 =>
   γ16 [.d (.int .i64 p0)] [] [] fun r3 =>
   cond (r2 == r3) (
    γ10 [] [] [] fun r4 =>
    (some (.ret [.d (.bool r4)] [] []))) (
   (some (.ret [.d (.bool false)] [] [])))) (
  (some (.ret [.d (.bool false)] [] []))) := by kernel_rfl
abbrev X4 : CFun := C4 (callG SE good) (callT SE good 13 packet_Client_out) (callT SE good 14 brokerref06_Client_out) (callT SE good 15 packet_Broker_out) (callT SE good 16 brokerref06_Broker_out) (callT SE good 10 brokerlaw06_awake_out)
theorem Cr4 : C4 (callG SE good) (callT SE good 13 packet_Client_out) (callT SE good 14 brokerref06_Client_out) (callT SE good 15 packet_Broker_out) (callT SE good 16 brokerref06_Broker_out) (callT SE good 10 brokerlaw06_awake_out) = bindC (callG SE good) := by unfold C4; rw [updC_real (fun _ h => h), updC_real (fun _ h => h), updC_real (fun _ h => h), updC_real (fun _ h => h), updC_real (fun _ h => h)]
theorem brokerlaw06_PacketKinds_ok (p0 : Int) : Le (Option.map brokerlaw06_PacketKinds_out (brokerlaw06_PacketKinds p0)) (callW SE 4 [.d (.int .i64 p0)] [] []) := by
  refine le_bodyC Cr4 ?_
  refine Le.trans ?_ (le_of_eq (T4 _ _ _ _ _ _ _ _  p0).symm)
  unfold brokerlaw06_PacketKinds
  refine le_call (good := good) (fun y => ⟨y, rfl⟩) packet_Client_inj (packet_Client_ok p0) (fun r0 _ => ?_)
  refine le_call (good := good) (fun y => ⟨y, rfl⟩) brokerref06_Client_inj (brokerref06_Client_ok p0) (fun r1 _ => ?_)
  refine le_cond rfl (fun _ => ?_) (fun _ => ?_)
  · skip
    refine le_call (good := good) (fun y => ⟨y, rfl⟩) packet_Broker_inj (packet_Broker_ok p0) (fun r2 _ => ?_)
    refine le_call (good := good) (fun y => ⟨y, rfl⟩) brokerref06_Broker_inj (brokerref06_Broker_ok p0) (fun r3 _ => ?_)
    refine le_cond rfl (fun _ => ?_) (fun _ => ?_)
    · skip
      refine le_call (good := good) (fun y => ⟨y, rfl⟩) brokerlaw06_awake_inj (brokerlaw06_awake_ok) (fun r4 _ => ?_)
      exact le_ret (by first | rfl | (simp only [EN, brokerlaw06_PacketKinds_out]; done) | (simp only [EN, brokerlaw06_PacketKinds_out]; rfl))
    · skip
      exact le_ret (by first | rfl | (simp only [EN, brokerlaw06_PacketKinds_out]; done) | (simp only [EN, brokerlaw06_PacketKinds_out]; rfl))
  · skip
    exact le_ret (by first | rfl | (simp only [EN, brokerlaw06_PacketKinds_out]; done) | (simp only [EN, brokerlaw06_PacketKinds_out]; rfl))
def C5 (Γ : Fun) (γ9 : Gm (Bool)) (γ10 : Gm (Bool)) (γ17 : Gm (Bool)) (γ18 : Gm (Bool)) : CFun := updC (updC (updC (updC (bindC Γ) 9 brokerlaw06_small_out γ9) 10 brokerlaw06_awake_out γ10) 17 packet_Same_out γ17) 18 brokerref06_Same_out γ18
def R5_3 (C : CFun) (Λ2 J : Lam) (a0 : (List D)) (a1 : (List D)) : Res := lab SE C Λ2 J 5 0 [1, 1, 0] (stoOf [(2, .ptr 1000000000 0), (3, .ptr 1000000001 0)] [⟨31, (List.map AV.d a0)⟩, ⟨31, (List.map AV.d a1)⟩] [] [] [])
theorem T5 (Γ : Fun) (γ9 : Gm (Bool)) (γ10 : Gm (Bool)) (γ17 : Gm (Bool)) (γ18 : Gm (Bool)) (Λ2 J : Lam) (p0 : api_Packet) (p1 : api_Packet) : bodyC SE (C5 Γ γ9 γ10 γ17 γ18) Λ2 J 5 [api_Packet.av p0, api_Packet.av p1] [] [] =
  γ9 [api_Packet.av p0] [] [] fun r0 =>
  cond (!r0) (
   γ10 [] [] [] fun r1 =>
   (some (.ret [.d (.bool r1)] [] []))) (
  γ9 [api_Packet.av p1] [] [] fun r2 =>
  cond (!r2) (
   γ10 [] [] [] fun r3 =>
   (some (.ret [.d (.bool r3)] [] []))) (
  R5_3 (C5 Γ γ9 γ10 γ17 γ18) Λ2 J (api_Packet.enc p0) (api_Packet.enc p1))) := by kernel_rfl
theorem T5_3 (Γ : Fun) (γ9 : Gm (Bool)) (γ10 : Gm (Bool)) (γ17 : Gm (Bool)) (γ18 : Gm (Bool)) (Λ2 J : Lam) (b0 : api_Packet) (b1 : api_Packet) : labU SE (C5 Γ γ9 γ10 γ17 γ18) Λ2 J 5 0 [1, 1, 0] (stoOf [(2, .ptr 1000000000 0), (3, .ptr 1000000001 0)] [⟨31, (List.map AV.d (api_Packet.enc b0))⟩, ⟨31, (List.map AV.d (api_Packet.enc b1))⟩] [] [] []) =
  γ17 [api_Packet.av b0, api_Packet.av b1] [] [] fun r4 =>
  γ18 [api_Packet.av b0, api_Packet.av b1] [] [] fun r5 =>
  cond (r4 == r5) (
   γ17 [api_Packet.av b0, api_Packet.av b0] [] [] fun r6 =>
   cond r6 (
    γ17 [api_Packet.av b1, api_Packet.av b0] [] [] fun r7 =>
    γ17 [api_Packet.av b0, api_Packet.av b1] [] [] fun r8 =>
    cond (r7 == r8) (
     γ10 [] [] [] fun r9 =>
     (some (.ret [.d (.bool r9)] [] []))) (
    (some (.ret [.d (.bool false)] [] [])))) (
   (some (.ret [.d (.bool false)] [] [])))) (
  (some (.ret [.d (.bool false)] [] []))) := by kernel_rfl
abbrev X5 : CFun := C5 (callG SE good) (callT SE good 9 brokerlaw06_small_out) (callT SE good 10 brokerlaw06_awake_out) (callT SE good 17 packet_Same_out) (callT SE good 18 brokerref06_Same_out)
theorem Cr5 : C5 (callG SE good) (callT SE good 9 brokerlaw06_small_out) (callT SE good 10 brokerlaw06_awake_out) (callT SE good 17 packet_Same_out) (callT SE good 18 brokerref06_Same_out) = bindC (callG SE good) := by unfold C5; rw [updC_real (fun _ h => h), updC_real (fun _ h => h), updC_real (fun _ h => h), updC_real (fun _ h => h)]
noncomputable abbrev Q5_3 (a0 : (List D)) (a1 : (List D)) : Res := R5_3 X5 (lam2 SE (callG SE good) (SE.hl 5) (SE.hr 5)) (J0 SE X5) a0 a1
theorem brokerlaw06_PacketSame_j3_ok (b0 : api_Packet) (b1 : api_Packet) : Le (Option.map brokerlaw06_PacketSame_out (brokerlaw06_PacketSame_j3 b0 b1)) (Q5_3 (api_Packet.enc b0) (api_Packet.enc b1)) := by
  refine Le.trans ?_ (le_of_eq ((lab_realC Cr5).trans (T5_3 _ _ _ _ _ _ _  b0 b1)).symm)
  unfold brokerlaw06_PacketSame_j3
  refine le_call (good := good) (fun y => ⟨y, rfl⟩) packet_Same_inj (packet_Same_ok b0 b1) (fun r4 _ => ?_)
  refine le_call (good := good) (fun y => ⟨y, rfl⟩) brokerref06_Same_inj (brokerref06_Same_ok b0 b1) (fun r5 _ => ?_)
  refine le_cond rfl (fun _ => ?_) (fun _ => ?_)
  · skip
    refine le_call (good := good) (fun y => ⟨y, rfl⟩) packet_Same_inj (packet_Same_ok b0 b0) (fun r6 _ => ?_)
    refine le_cond rfl (fun _ => ?_) (fun _ => ?_)
    · skip
      refine le_call (good := good) (fun y => ⟨y, rfl⟩) packet_Same_inj (packet_Same_ok b1 b0) (fun r7 _ => ?_)
      refine le_call (good := good) (fun y => ⟨y, rfl⟩) packet_Same_inj (packet_Same_ok b0 b1) (fun r8 _ => ?_)
      refine le_cond rfl (fun _ => ?_) (fun _ => ?_)
      · skip
        refine le_call (good := good) (fun y => ⟨y, rfl⟩) brokerlaw06_awake_inj (brokerlaw06_awake_ok) (fun r9 _ => ?_)
        exact le_ret (by first | rfl | (simp only [EN, brokerlaw06_PacketSame_out]; done) | (simp only [EN, brokerlaw06_PacketSame_out]; rfl))
      · skip
        exact le_ret (by first | rfl | (simp only [EN, brokerlaw06_PacketSame_out]; done) | (simp only [EN, brokerlaw06_PacketSame_out]; rfl))
    · skip
      exact le_ret (by first | rfl | (simp only [EN, brokerlaw06_PacketSame_out]; done) | (simp only [EN, brokerlaw06_PacketSame_out]; rfl))
  · skip
    exact le_ret (by first | rfl | (simp only [EN, brokerlaw06_PacketSame_out]; done) | (simp only [EN, brokerlaw06_PacketSame_out]; rfl))
theorem brokerlaw06_PacketSame_ok (p0 : api_Packet) (p1 : api_Packet) : Le (Option.map brokerlaw06_PacketSame_out (brokerlaw06_PacketSame p0 p1)) (callW SE 5 [api_Packet.av p0, api_Packet.av p1] [] []) := by
  refine le_bodyC Cr5 ?_
  refine Le.trans ?_ (le_of_eq (T5 _ _ _ _ _ _ _  p0 p1).symm)
  unfold brokerlaw06_PacketSame
  refine le_call (good := good) (fun y => ⟨y, rfl⟩) brokerlaw06_small_inj (brokerlaw06_small_ok p0) (fun r0 _ => ?_)
  refine le_cond rfl (fun _ => ?_) (fun _ => ?_)
  · skip
    refine le_call (good := good) (fun y => ⟨y, rfl⟩) brokerlaw06_awake_inj (brokerlaw06_awake_ok) (fun r1 _ => ?_)
    exact le_ret (by first | rfl | (simp only [EN, brokerlaw06_PacketSame_out]; done) | (simp only [EN, brokerlaw06_PacketSame_out]; rfl))
  · skip
    refine le_call (good := good) (fun y => ⟨y, rfl⟩) brokerlaw06_small_inj (brokerlaw06_small_ok p1) (fun r2 _ => ?_)
    refine le_cond rfl (fun _ => ?_) (fun _ => ?_)
    · skip
      refine le_call (good := good) (fun y => ⟨y, rfl⟩) brokerlaw06_awake_inj (brokerlaw06_awake_ok) (fun r3 _ => ?_)
      exact le_ret (by first | rfl | (simp only [EN, brokerlaw06_PacketSame_out]; done) | (simp only [EN, brokerlaw06_PacketSame_out]; rfl))
    · skip
      exact brokerlaw06_PacketSame_j3_ok p0 p1
def C20 (Γ : Fun)  : CFun := bindC Γ
def R20_12 (C : CFun) (Λ2 J : Lam) (a0 : Int) (a1 : (List D)) (a2 : (List D)) : Res := lab SE C Λ2 J 20 0 [1, 1, 1, 1, 1, 1, 1, 0, 0] (stoOf [(1, .ptr 1000000000 0), (2, .ptr 1000000001 0), (4, .d (.int .i64 a0))] [⟨31, (List.map AV.d a1)⟩, ⟨31, (List.map AV.d a2)⟩] [] [] [])
def R20_10 (C : CFun) (Λ2 J : Lam) (a0 : Int) (a1 : (List D)) (a2 : (List D)) : Res := lab SE C Λ2 J 20 0 [1, 1, 1, 1, 1, 1, 0, 0] (stoOf [(1, .ptr 1000000000 0), (2, .ptr 1000000001 0), (4, .d (.int .i64 a0))] [⟨31, (List.map AV.d a1)⟩, ⟨31, (List.map AV.d a2)⟩] [] [] [])
def R20_8 (C : CFun) (Λ2 J : Lam) (a0 : Int) (a1 : (List D)) (a2 : (List D)) : Res := lab SE C Λ2 J 20 0 [1, 1, 1, 1, 1, 0, 0] (stoOf [(1, .ptr 1000000000 0), (2, .ptr 1000000001 0), (4, .d (.int .i64 a0))] [⟨31, (List.map AV.d a1)⟩, ⟨31, (List.map AV.d a2)⟩] [] [] [])
def R20_6 (C : CFun) (Λ2 J : Lam) (a0 : Int) (a1 : (List D)) (a2 : (List D)) : Res := lab SE C Λ2 J 20 0 [1, 1, 1, 1, 0, 0] (stoOf [(1, .ptr 1000000000 0), (2, .ptr 1000000001 0), (4, .d (.int .i64 a0))] [⟨31, (List.map AV.d a1)⟩, ⟨31, (List.map AV.d a2)⟩] [] [] [])
def R20_4 (C : CFun) (Λ2 J : Lam) (a0 : Int) (a1 : (List D)) (a2 : (List D)) : Res := lab SE C Λ2 J 20 0 [1, 1, 1, 0, 0] (stoOf [(1, .ptr 1000000000 0), (2, .ptr 1000000001 0), (4, .d (.int .i64 a0))] [⟨31, (List.map AV.d a1)⟩, ⟨31, (List.map AV.d a2)⟩] [] [] [])
theorem T20 (Γ : Fun)  (Λ2 J : Lam) (p0 : api_Packet) : bodyC SE (C20 Γ) Λ2 J 20 [api_Packet.av p0] [] [] =
  cond (p0.Kind == 3) (
   cond (p0.Message.Level == 1) (
    R20_4 (C20 Γ) Λ2 J 4 (api_Packet.enc p0) [D.int .i64 0, D.int .i64 0, D.bool false, D.str ([] : Str), D.str ([] : Str), D.int .i64 0, D.bool false, D.int .i64 0, D.int .i64 0, D.str ([] : Str), D.int .i64 0, D.sl api_Prop.ks (List.map api_Prop.enc []), D.str ([] : Str), D.str ([] : Str), D.bool false, D.int .i64 0, D.int .i64 0, D.int .i64 0, D.bool false, D.int .i64 0, D.str ([] : Str), D.str ([] : Str), D.int .i64 0, D.bool false, D.int .i64 0, D.int .i64 0, D.str ([] : Str), D.int .i64 0, D.sl api_Prop.ks (List.map api_Prop.enc []), D.bool false, D.int .i64 0, D.sl api_Sub.ks (List.map api_Sub.enc []), D.sl [.str] (List.map encS []), D.sl [.int .i64] (List.map (encI .i64) [])]) (
   R20_4 (C20 Γ) Λ2 J 0 (api_Packet.enc p0) [D.int .i64 0, D.int .i64 0, D.bool false, D.str ([] : Str), D.str ([] : Str), D.int .i64 0, D.bool false, D.int .i64 0, D.int .i64 0, D.str ([] : Str), D.int .i64 0, D.sl api_Prop.ks (List.map api_Prop.enc []), D.str ([] : Str), D.str ([] : Str), D.bool false, D.int .i64 0, D.int .i64 0, D.int .i64 0, D.bool false, D.int .i64 0, D.str ([] : Str), D.str ([] : Str), D.int .i64 0, D.bool false, D.int .i64 0, D.int .i64 0, D.str ([] : Str), D.int .i64 0, D.sl api_Prop.ks (List.map api_Prop.enc []), D.bool false, D.int .i64 0, D.sl api_Sub.ks (List.map api_Sub.enc []), D.sl [.str] (List.map encS []), D.sl [.int .i64] (List.map (encI .i64) [])])) (
  R20_4 (C20 Γ) Λ2 J 0 (api_Packet.enc p0) [D.int .i64 0, D.int .i64 0, D.bool false, D.str ([] : Str), D.str ([] : Str), D.int .i64 0, D.bool false, D.int .i64 0, D.int .i64 0, D.str ([] : Str), D.int .i64 0, D.sl api_Prop.ks (List.map api_Prop.enc []), D.str ([] : Str), D.str ([] : Str), D.bool false, D.int .i64 0, D.int .i64 0, D.int .i64 0, D.bool false, D.int .i64 0, D.str ([] : Str), D.str ([] : Str), D.int .i64 0, D.bool false, D.int .i64 0, D.int .i64 0, D.str ([] : Str), D.int .i64 0, D.sl api_Prop.ks (List.map api_Prop.enc []), D.bool false, D.int .i64 0, D.sl api_Sub.ks (List.map api_Sub.enc []), D.sl [.str] (List.map encS []), D.sl [.int .i64] (List.map (encI .i64) [])]) := by kernel_rfl
theorem T20_12 (Γ : Fun)  (Λ2 J : Lam) (x4 : Int) (b0 : api_Packet) (b1 : api_Packet) : labU SE (C20 Γ) Λ2 J 20 0 [1, 1, 1, 1, 1, 1, 1, 0, 0] (stoOf [(1, .ptr 1000000000 0), (2, .ptr 1000000001 0), (4, .d (.int .i64 x4))] [⟨31, (List.map AV.d (api_Packet.enc b0))⟩, ⟨31, (List.map AV.d (api_Packet.enc b1))⟩] [] [] []) =
  cond (x4 == 0) (
   (some (.ret [.agg [.d (.int .i64 0), .d (.int .i64 0), .d (.bool false), .d (.str ([] : Str)), .d (.str ([] : Str)), .d (.int .i64 0), .d (.bool false), .d (.int .i64 0), .d (.int .i64 0), .d (.str ([] : Str)), .d (.int .i64 0), .d (.sl api_Prop.ks (List.map api_Prop.enc [])), .d (.str ([] : Str)), .d (.str ([] : Str)), .d (.bool false), .d (.int .i64 0), .d (.int .i64 0), .d (.int .i64 0), .d (.bool false), .d (.int .i64 0), .d (.str ([] : Str)), .d (.str ([] : Str)), .d (.int .i64 0), .d (.bool false), .d (.int .i64 0), .d (.int .i64 0), .d (.str ([] : Str)), .d (.int .i64 0), .d (.sl api_Prop.ks (List.map api_Prop.enc [])), .d (.bool false), .d (.int .i64 0), .d (.sl api_Sub.ks (List.map api_Sub.enc [])), .d (.sl [.str] (List.map encS [])), .d (.sl [.int .i64] (List.map (encI .i64) []))], .d (.bool false)] [] []))) (
  (some (.ret [.agg [.d (.int .i64 x4), .d (.int .i64 b0.ID), .d (.bool false), .d (.str ([] : Str)), .d (.str ([] : Str)), .d (.int .i64 0), .d (.bool false), .d (.int .i64 0), .d (.int .i64 0), .d (.str ([] : Str)), .d (.int .i64 0), .d (.sl api_Prop.ks (List.map api_Prop.enc [])), .d (.str ([] : Str)), .d (.str ([] : Str)), .d (.bool false), .d (.int .i64 0), .d (.int .i64 0), .d (.int .i64 0), .d (.bool false), .d (.int .i64 0), .d (.str ([] : Str)), .d (.str ([] : Str)), .d (.int .i64 0), .d (.bool false), .d (.int .i64 0), .d (.int .i64 0), .d (.str ([] : Str)), .d (.int .i64 0), .d (.sl api_Prop.ks (List.map api_Prop.enc [])), .d (.bool false), .d (.int .i64 0), .d (.sl api_Sub.ks (List.map api_Sub.enc [])), .d (.sl [.str] (List.map encS [])), .d (.sl [.int .i64] (List.map (encI .i64) []))], .d (.bool true)] [] []))) := by kernel_rfl
theorem T20_10 (Γ : Fun)  (Λ2 J : Lam) (x4 : Int) (b0 : api_Packet) (b1 : api_Packet) : labU SE (C20 Γ) Λ2 J 20 0 [1, 1, 1, 1, 1, 1, 0, 0] (stoOf [(1, .ptr 1000000000 0), (2, .ptr 1000000001 0), (4, .d (.int .i64 x4))] [⟨31, (List.map AV.d (api_Packet.enc b0))⟩, ⟨31, (List.map AV.d (api_Packet.enc b1))⟩] [] [] []) =
  cond (b0.Kind == 12) (
   R20_12 (C20 Γ) Λ2 J 13 (api_Packet.enc b0) (api_Packet.enc b1)) (
  R20_12 (C20 Γ) Λ2 J x4 (api_Packet.enc b0) (api_Packet.enc b1)) := by kernel_rfl
theorem T20_8 (Γ : Fun)  (Λ2 J : Lam) (x4 : Int) (b0 : api_Packet) (b1 : api_Packet) : labU SE (C20 Γ) Λ2 J 20 0 [1, 1, 1, 1, 1, 0, 0] (stoOf [(1, .ptr 1000000000 0), (2, .ptr 1000000001 0), (4, .d (.int .i64 x4))] [⟨31, (List.map AV.d (api_Packet.enc b0))⟩, ⟨31, (List.map AV.d (api_Packet.enc b1))⟩] [] [] []) =
  cond (b0.Kind == 6) (
   R20_10 (C20 Γ) Λ2 J 7 (api_Packet.enc b0) (api_Packet.enc b1)) (
  R20_10 (C20 Γ) Λ2 J x4 (api_Packet.enc b0) (api_Packet.enc b1)) := by kernel_rfl
theorem T20_6 (Γ : Fun)  (Λ2 J : Lam) (x4 : Int) (b0 : api_Packet) (b1 : api_Packet) : labU SE (C20 Γ) Λ2 J 20 0 [1, 1, 1, 1, 0, 0] (stoOf [(1, .ptr 1000000000 0), (2, .ptr 1000000001 0), (4, .d (.int .i64 x4))] [⟨31, (List.map AV.d (api_Packet.enc b0))⟩, ⟨31, (List.map AV.d (api_Packet.enc b1))⟩] [] [] []) =
  cond (b0.Kind == 5) (
   R20_8 (C20 Γ) Λ2 J 6 (api_Packet.enc b0) (api_Packet.enc b1)) (
  R20_8 (C20 Γ) Λ2 J x4 (api_Packet.enc b0) (api_Packet.enc b1)) := by kernel_rfl
theorem T20_4 (Γ : Fun)  (Λ2 J : Lam) (x4 : Int) (b0 : api_Packet) (b1 : api_Packet) : labU SE (C20 Γ) Λ2 J 20 0 [1, 1, 1, 0, 0] (stoOf [(1, .ptr 1000000000 0), (2, .ptr 1000000001 0), (4, .d (.int .i64 x4))] [⟨31, (List.map AV.d (api_Packet.enc b0))⟩, ⟨31, (List.map AV.d (api_Packet.enc b1))⟩] [] [] []) =
  cond (b0.Kind == 3) (
   cond (b0.Message.Level == 2) (
    R20_6 (C20 Γ) Λ2 J 5 (api_Packet.enc b0) (api_Packet.enc b1)) (
   R20_6 (C20 Γ) Λ2 J x4 (api_Packet.enc b0) (api_Packet.enc b1))) (
  R20_6 (C20 Γ) Λ2 J x4 (api_Packet.enc b0) (api_Packet.enc b1)) := by kernel_rfl
abbrev X20 : CFun := C20 (callG SE good)
theorem Cr20 : C20 (callG SE good) = bindC (callG SE good) := by unfold C20; rfl
noncomputable abbrev Q20_12 (a0 : Int) (a1 : (List D)) (a2 : (List D)) : Res := R20_12 X20 (lam2 SE (callG SE good) (SE.hl 20) (SE.hr 20)) (J0 SE X20) a0 a1 a2
noncomputable abbrev Q20_10 (a0 : Int) (a1 : (List D)) (a2 : (List D)) : Res := R20_10 X20 (lam2 SE (callG SE good) (SE.hl 20) (SE.hr 20)) (J0 SE X20) a0 a1 a2
noncomputable abbrev Q20_8 (a0 : Int) (a1 : (List D)) (a2 : (List D)) : Res := R20_8 X20 (lam2 SE (callG SE good) (SE.hl 20) (SE.hr 20)) (J0 SE X20) a0 a1 a2
noncomputable abbrev Q20_6 (a0 : Int) (a1 : (List D)) (a2 : (List D)) : Res := R20_6 X20 (lam2 SE (callG SE good) (SE.hl 20) (SE.hr 20)) (J0 SE X20) a0 a1 a2
noncomputable abbrev Q20_4 (a0 : Int) (a1 : (List D)) (a2 : (List D)) : Res := R20_4 X20 (lam2 SE (callG SE good) (SE.hl 20) (SE.hr 20)) (J0 SE X20) a0 a1 a2
theorem brokerref06_Answer_j12_ok (x4 : Int) (b0 : api_Packet) (b1 : api_Packet) : Le (Option.map brokerref06_Answer_out (brokerref06_Answer_j12 x4 b0 b1)) (Q20_12 x4 (api_Packet.enc b0) (api_Packet.enc b1)) := by
  refine Le.trans ?_ (le_of_eq ((lab_realC Cr20).trans (T20_12 _ _ _  x4 b0 b1)).symm)
  unfold brokerref06_Answer_j12
  refine le_cond rfl (fun _ => ?_) (fun _ => ?_)
  · skip
    exact le_ret (by first | rfl | (simp only [EN, brokerref06_Answer_out]; done) | (simp only [EN, brokerref06_Answer_out]; rfl))
  · skip
    exact le_ret (by first | rfl | (simp only [EN, brokerref06_Answer_out]; done) | (simp only [EN, brokerref06_Answer_out]; rfl))
theorem brokerref06_Answer_j10_ok (x4 : Int) (b0 : api_Packet) (b1 : api_Packet) : Le (Option.map brokerref06_Answer_out (brokerref06_Answer_j10 x4 b0 b1)) (Q20_10 x4 (api_Packet.enc b0) (api_Packet.enc b1)) := by
  refine Le.trans ?_ (le_of_eq ((lab_realC Cr20).trans (T20_10 _ _ _  x4 b0 b1)).symm)
  unfold brokerref06_Answer_j10
  refine le_cond rfl (fun _ => ?_) (fun _ => ?_)
  · skip
    exact brokerref06_Answer_j12_ok 13 b0 b1
  · skip
    exact brokerref06_Answer_j12_ok x4 b0 b1
theorem brokerref06_Answer_j8_ok (x4 : Int) (b0 : api_Packet) (b1 : api_Packet) : Le (Option.map brokerref06_Answer_out (brokerref06_Answer_j8 x4 b0 b1)) (Q20_8 x4 (api_Packet.enc b0) (api_Packet.enc b1)) := by
  refine Le.trans ?_ (le_of_eq ((lab_realC Cr20).trans (T20_8 _ _ _  x4 b0 b1)).symm)
  unfold brokerref06_Answer_j8
  refine le_cond rfl (fun _ => ?_) (fun _ => ?_)
  · skip
    exact brokerref06_Answer_j10_ok 7 b0 b1
  · skip
    exact brokerref06_Answer_j10_ok x4 b0 b1
theorem brokerref06_Answer_j6_ok (x4 : Int) (b0 : api_Packet) (b1 : api_Packet) : Le (Option.map brokerref06_Answer_out (brokerref06_Answer_j6 x4 b0 b1)) (Q20_6 x4 (api_Packet.enc b0) (api_Packet.enc b1)) := by
  refine Le.trans ?_ (le_of_eq ((lab_realC Cr20).trans (T20_6 _ _ _  x4 b0 b1)).symm)
  unfold brokerref06_Answer_j6
  refine le_cond rfl (fun _ => ?_) (fun _ => ?_)
  · skip
    exact brokerref06_Answer_j8_ok 6 b0 b1
  · skip
    exact brokerref06_Answer_j8_ok x4 b0 b1
theorem brokerref06_Answer_j4_ok (x4 : Int) (b0 : api_Packet) (b1 : api_Packet) : Le (Option.map brokerref06_Answer_out (brokerref06_Answer_j4 x4 b0 b1)) (Q20_4 x4 (api_Packet.enc b0) (api_Packet.enc b1)) := by
  refine Le.trans ?_ (le_of_eq ((lab_realC Cr20).trans (T20_4 _ _ _  x4 b0 b1)).symm)
  unfold brokerref06_Answer_j4
  refine le_cond rfl (fun _ => ?_) (fun _ => ?_)
  · skip
    refine le_cond rfl (fun _ => ?_) (fun _ => ?_)
    · skip
      exact brokerref06_Answer_j6_ok 5 b0 b1
    · skip
      exact brokerref06_Answer_j6_ok x4 b0 b1
  · skip
    exact brokerref06_Answer_j6_ok x4 b0 b1
theorem brokerref06_Answer_ok (p0 : api_Packet) : Le (Option.map brokerref06_Answer_out (brokerref06_Answer p0)) (callW SE 20 [api_Packet.av p0] [] []) := by
  refine le_bodyC Cr20 ?_
  refine Le.trans ?_ (le_of_eq (T20 _ _ _  p0).symm)
  unfold brokerref06_Answer
  refine le_cond rfl (fun _ => ?_) (fun _ => ?_)
  · skip
    refine le_cond rfl (fun _ => ?_) (fun _ => ?_)
    · skip
      first | (simp only [EN]; exact brokerref06_Answer_j4_ok 4 p0 ((api_Packet.mk 0 0 false (api_Message.mk ([] : Str) ([] : Str) 0 false 0 0 ([] : Str) 0 ([] : List api_Prop)) ([] : Str) ([] : Str) false 0 0 0 (api_Will.mk false 0 (api_Message.mk ([] : Str) ([] : Str) 0 false 0 0 ([] : Str) 0 ([] : List api_Prop))) false 0 ([] : List api_Sub) ([] : List Str) ([] : List Int)))) | exact brokerref06_Answer_j4_ok 4 p0 ((api_Packet.mk 0 0 false (api_Message.mk ([] : Str) ([] : Str) 0 false 0 0 ([] : Str) 0 ([] : List api_Prop)) ([] : Str) ([] : Str) false 0 0 0 (api_Will.mk false 0 (api_Message.mk ([] : Str) ([] : Str) 0 false 0 0 ([] : Str) 0 ([] : List api_Prop))) false 0 ([] : List api_Sub) ([] : List Str) ([] : List Int)))
    · skip
      first | (simp only [EN]; exact brokerref06_Answer_j4_ok 0 p0 ((api_Packet.mk 0 0 false (api_Message.mk ([] : Str) ([] : Str) 0 false 0 0 ([] : Str) 0 ([] : List api_Prop)) ([] : Str) ([] : Str) false 0 0 0 (api_Will.mk false 0 (api_Message.mk ([] : Str) ([] : Str) 0 false 0 0 ([] : Str) 0 ([] : List api_Prop))) false 0 ([] : List api_Sub) ([] : List Str) ([] : List Int)))) | exact brokerref06_Answer_j4_ok 0 p0 ((api_Packet.mk 0 0 false (api_Message.mk ([] : Str) ([] : Str) 0 false 0 0 ([] : Str) 0 ([] : List api_Prop)) ([] : Str) ([] : Str) false 0 0 0 (api_Will.mk false 0 (api_Message.mk ([] : Str) ([] : Str) 0 false 0 0 ([] : Str) 0 ([] : List api_Prop))) false 0 ([] : List api_Sub) ([] : List Str) ([] : List Int)))
  · skip
    first | (simp only [EN]; exact brokerref06_Answer_j4_ok 0 p0 ((api_Packet.mk 0 0 false (api_Message.mk ([] : Str) ([] : Str) 0 false 0 0 ([] : Str) 0 ([] : List api_Prop)) ([] : Str) ([] : Str) false 0 0 0 (api_Will.mk false 0 (api_Message.mk ([] : Str) ([] : Str) 0 false 0 0 ([] : Str) 0 ([] : List api_Prop))) false 0 ([] : List api_Sub) ([] : List Str) ([] : List Int)))) | exact brokerref06_Answer_j4_ok 0 p0 ((api_Packet.mk 0 0 false (api_Message.mk ([] : Str) ([] : Str) 0 false 0 0 ([] : Str) 0 ([] : List api_Prop)) ([] : Str) ([] : Str) false 0 0 0 (api_Will.mk false 0 (api_Message.mk ([] : Str) ([] : Str) 0 false 0 0 ([] : Str) 0 ([] : List api_Prop))) false 0 ([] : List api_Sub) ([] : List Str) ([] : List Int)))
def C6 (Γ : Fun) (γ9 : Gm (Bool)) (γ10 : Gm (Bool)) (γ19 : Gm (api_Packet × Bool)) (γ20 : Gm (api_Packet × Bool)) (γ18 : Gm (Bool)) (γ11 : Gm (Int)) (γ13 : Gm (Bool)) (γ15 : Gm (Bool)) : CFun := updC (updC (updC (updC (updC (updC (updC (updC (bindC Γ) 9 brokerlaw06_small_out γ9) 10 brokerlaw06_awake_out γ10) 19 packet_Answer_out γ19) 20 brokerref06_Answer_out γ20) 18 brokerref06_Same_out γ18) 11 packet_Check_out γ11) 13 packet_Client_out γ13) 15 packet_Broker_out γ15
def R6_9 (C : CFun) (Λ2 J : Lam) (a0 : (List D)) (a1 : (List D)) : Res := lab SE C Λ2 J 6 0 [1, 1, 1, 1, 1, 1, 0] (stoOf [(1, .ptr 1000000000 0), (3, .ptr 1000000001 0)] [⟨31, (List.map AV.d a0)⟩, ⟨31, (List.map AV.d a1)⟩] [] [] [])
def R6_7 (C : CFun) (Λ2 J : Lam) (a0 : Bool) (a1 : (List D)) (a2 : (List D)) : Res := lab SE C Λ2 J 6 0 [1, 1, 1, 1, 1, 0, 0] (stoOf [(1, .ptr 1000000000 0), (3, .ptr 1000000001 0), (4, .d (.bool a0))] [⟨31, (List.map AV.d a1)⟩, ⟨31, (List.map AV.d a2)⟩] [] [] [])
theorem T6 (Γ : Fun) (γ9 : Gm (Bool)) (γ10 : Gm (Bool)) (γ19 : Gm (api_Packet × Bool)) (γ20 : Gm (api_Packet × Bool)) (γ18 : Gm (Bool)) (γ11 : Gm (Int)) (γ13 : Gm (Bool)) (γ15 : Gm (Bool)) (Λ2 J : Lam) (p0 : api_Packet) : bodyC SE (C6 Γ γ9 γ10 γ19 γ20 γ18 γ11 γ13 γ15) Λ2 J 6 [api_Packet.av p0] [] [] =
  γ9 [api_Packet.av p0] [] [] fun r0 =>
  cond (!r0) (
   γ10 [] [] [] fun r1 =>
   (some (.ret [.d (.bool r1)] [] []))) (
  γ19 [api_Packet.av p0] [] [] fun r2 =>
  γ20 [api_Packet.av p0] [] [] fun r3 =>
  cond (r2.2 != r3.2) (
   (some (.ret [.d (.bool false)] [] []))) (
  γ18 [api_Packet.av r2.1, api_Packet.av r3.1] [] [] fun r4 =>
  cond (!r4) (
   (some (.ret [.d (.bool false)] [] []))) (
  R6_7 (C6 Γ γ9 γ10 γ19 γ20 γ18 γ11 γ13 γ15) Λ2 J r2.2 (api_Packet.enc p0) (api_Packet.enc r2.1)))) := by kernel_rfl
theorem T6_9 (Γ : Fun) (γ9 : Gm (Bool)) (γ10 : Gm (Bool)) (γ19 : Gm (api_Packet × Bool)) (γ20 : Gm (api_Packet × Bool)) (γ18 : Gm (Bool)) (γ11 : Gm (Int)) (γ13 : Gm (Bool)) (γ15 : Gm (Bool)) (Λ2 J : Lam) (b0 : api_Packet) (b1 : api_Packet) : labU SE (C6 Γ γ9 γ10 γ19 γ20 γ18 γ11 γ13 γ15) Λ2 J 6 0 [1, 1, 1, 1, 1, 1, 0] (stoOf [(1, .ptr 1000000000 0), (3, .ptr 1000000001 0)] [⟨31, (List.map AV.d (api_Packet.enc b0))⟩, ⟨31, (List.map AV.d (api_Packet.enc b1))⟩] [] [] []) =
  γ11 [api_Packet.av b1] [] [] fun r8 =>
  cond (r8 == 0) (
   γ13 [.d (.int .i64 b0.Kind)] [] [] fun r9 =>
   cond (!r9) (
    γ15 [.d (.int .i64 b0.Kind)] [] [] fun r10 =>
    cond (!r10) (
     γ10 [] [] [] fun r11 =>
     (some (.ret [.d (.bool r11)] [] []))) (
    γ13 [.d (.int .i64 b1.Kind)] [] [] fun r12 =>
    cond r12 (
     γ10 [] [] [] fun r13 =>
     (some (.ret [.d (.bool r13)] [] []))) (
    (some (.ret [.d (.bool false)] [] []))))) (
   γ15 [.d (.int .i64 b1.Kind)] [] [] fun r14 =>
   cond r14 (
    γ15 [.d (.int .i64 b0.Kind)] [] [] fun r15 =>
    cond (!r15) (
     γ10 [] [] [] fun r16 =>
     (some (.ret [.d (.bool r16)] [] []))) (
    γ13 [.d (.int .i64 b1.Kind)] [] [] fun r17 =>
    cond r17 (
     γ10 [] [] [] fun r18 =>
     (some (.ret [.d (.bool r18)] [] []))) (
    (some (.ret [.d (.bool false)] [] []))))) (
   (some (.ret [.d (.bool false)] [] []))))) (
  (some (.ret [.d (.bool false)] [] []))) := by kernel_rfl
theorem T6_7 (Γ : Fun) (γ9 : Gm (Bool)) (γ10 : Gm (Bool)) (γ19 : Gm (api_Packet × Bool)) (γ20 : Gm (api_Packet × Bool)) (γ18 : Gm (Bool)) (γ11 : Gm (Int)) (γ13 : Gm (Bool)) (γ15 : Gm (Bool)) (Λ2 J : Lam) (x4 : Bool) (b0 : api_Packet) (b1 : api_Packet) : labU SE (C6 Γ γ9 γ10 γ19 γ20 γ18 γ11 γ13 γ15) Λ2 J 6 0 [1, 1, 1, 1, 1, 0, 0] (stoOf [(1, .ptr 1000000000 0), (3, .ptr 1000000001 0), (4, .d (.bool x4))] [⟨31, (List.map AV.d (api_Packet.enc b0))⟩, ⟨31, (List.map AV.d (api_Packet.enc b1))⟩] [] [] []) =
  cond (!x4) (
   γ10 [] [] [] fun r5 =>
   (some (.ret [.d (.bool r5)] [] []))) (
  γ11 [api_Packet.av b0] [] [] fun r6 =>
  cond (r6 != 0) (
   γ10 [] [] [] fun r7 =>
   (some (.ret [.d (.bool r7)] [] []))) (
  R6_9 (C6 Γ γ9 γ10 γ19 γ20 γ18 γ11 γ13 γ15) Λ2 J (api_Packet.enc b0) (api_Packet.enc b1))) := by kernel_rfl
abbrev X6 : CFun := C6 (callG SE good) (callT SE good 9 brokerlaw06_small_out) (callT SE good 10 brokerlaw06_awake_out) (callT SE good 19 packet_Answer_out) (callT SE good 20 brokerref06_Answer_out) (callT SE good 18 brokerref06_Same_out) (callT SE good 11 packet_Check_out) (callT SE good 13 packet_Client_out) (callT SE good 15 packet_Broker_out)
theorem Cr6 : C6 (callG SE good) (callT SE good 9 brokerlaw06_small_out) (callT SE good 10 brokerlaw06_awake_out) (callT SE good 19 packet_Answer_out) (callT SE good 20 brokerref06_Answer_out) (callT SE good 18 brokerref06_Same_out) (callT SE good 11 packet_Check_out) (callT SE good 13 packet_Client_out) (callT SE good 15 packet_Broker_out) = bindC (callG SE good) := by unfold C6; rw [updC_real (fun _ h => h), updC_real (fun _ h => h), updC_real (fun _ h => h), updC_real (fun _ h => h), updC_real (fun _ h => h), updC_real (fun _ h => h), updC_real (fun _ h => h), updC_real (fun _ h => h)]
noncomputable abbrev Q6_9 (a0 : (List D)) (a1 : (List D)) : Res := R6_9 X6 (lam2 SE (callG SE good) (SE.hl 6) (SE.hr 6)) (J0 SE X6) a0 a1
noncomputable abbrev Q6_7 (a0 : Bool) (a1 : (List D)) (a2 : (List D)) : Res := R6_7 X6 (lam2 SE (callG SE good) (SE.hl 6) (SE.hr 6)) (J0 SE X6) a0 a1 a2
theorem brokerlaw06_PacketAnswers_j9_ok (b0 : api_Packet) (b1 : api_Packet) : Le (Option.map brokerlaw06_PacketAnswers_out (brokerlaw06_PacketAnswers_j9 b0 b1)) (Q6_9 (api_Packet.enc b0) (api_Packet.enc b1)) := by
  refine Le.trans ?_ (le_of_eq ((lab_realC Cr6).trans (T6_9 _ _ _ _ _ _ _ _ _ _ _  b0 b1)).symm)
  unfold brokerlaw06_PacketAnswers_j9
  refine le_call (good := good) (fun y => ⟨y, rfl⟩) packet_Check_inj (packet_Check_ok b1) (fun r8 _ => ?_)
  refine le_cond rfl (fun _ => ?_) (fun _ => ?_)
  · skip
    refine le_call (good := good) (fun y => ⟨y, rfl⟩) packet_Client_inj (packet_Client_ok b0.Kind) (fun r9 _ => ?_)
    refine le_cond rfl (fun _ => ?_) (fun _ => ?_)
    · skip
      refine le_call (good := good) (fun y => ⟨y, rfl⟩) packet_Broker_inj (packet_Broker_ok b0.Kind) (fun r10 _ => ?_)
      refine le_cond rfl (fun _ => ?_) (fun _ => ?_)
      · skip
        refine le_call (good := good) (fun y => ⟨y, rfl⟩) brokerlaw06_awake_inj (brokerlaw06_awake_ok) (fun r11 _ => ?_)
        exact le_ret (by first | rfl | (simp only [EN, brokerlaw06_PacketAnswers_out]; done) | (simp only [EN, brokerlaw06_PacketAnswers_out]; rfl))
      · skip
        refine le_call (good := good) (fun y => ⟨y, rfl⟩) packet_Client_inj (packet_Client_ok b1.Kind) (fun r12 _ => ?_)
        refine le_cond rfl (fun _ => ?_) (fun _ => ?_)
        · skip
          refine le_call (good := good) (fun y => ⟨y, rfl⟩) brokerlaw06_awake_inj (brokerlaw06_awake_ok) (fun r13 _ => ?_)
          exact le_ret (by first | rfl | (simp only [EN, brokerlaw06_PacketAnswers_out]; done) | (simp only [EN, brokerlaw06_PacketAnswers_out]; rfl))
        · skip
          exact le_ret (by first | rfl | (simp only [EN, brokerlaw06_PacketAnswers_out]; done) | (simp only [EN, brokerlaw06_PacketAnswers_out]; rfl))
    · skip
      refine le_call (good := good) (fun y => ⟨y, rfl⟩) packet_Broker_inj (packet_Broker_ok b1.Kind) (fun r14 _ => ?_)
      refine le_cond rfl (fun _ => ?_) (fun _ => ?_)
      · skip
        refine le_call (good := good) (fun y => ⟨y, rfl⟩) packet_Broker_inj (packet_Broker_ok b0.Kind) (fun r15 _ => ?_)
        refine le_cond rfl (fun _ => ?_) (fun _ => ?_)
        · skip
          refine le_call (good := good) (fun y => ⟨y, rfl⟩) brokerlaw06_awake_inj (brokerlaw06_awake_ok) (fun r16 _ => ?_)
          exact le_ret (by first | rfl | (simp only [EN, brokerlaw06_PacketAnswers_out]; done) | (simp only [EN, brokerlaw06_PacketAnswers_out]; rfl))
        · skip
          refine le_call (good := good) (fun y => ⟨y, rfl⟩) packet_Client_inj (packet_Client_ok b1.Kind) (fun r17 _ => ?_)
          refine le_cond rfl (fun _ => ?_) (fun _ => ?_)
          · skip
            refine le_call (good := good) (fun y => ⟨y, rfl⟩) brokerlaw06_awake_inj (brokerlaw06_awake_ok) (fun r18 _ => ?_)
            exact le_ret (by first | rfl | (simp only [EN, brokerlaw06_PacketAnswers_out]; done) | (simp only [EN, brokerlaw06_PacketAnswers_out]; rfl))
          · skip
            exact le_ret (by first | rfl | (simp only [EN, brokerlaw06_PacketAnswers_out]; done) | (simp only [EN, brokerlaw06_PacketAnswers_out]; rfl))
      · skip
        exact le_ret (by first | rfl | (simp only [EN, brokerlaw06_PacketAnswers_out]; done) | (simp only [EN, brokerlaw06_PacketAnswers_out]; rfl))
  · skip
    exact le_ret (by first | rfl | (simp only [EN, brokerlaw06_PacketAnswers_out]; done) | (simp only [EN, brokerlaw06_PacketAnswers_out]; rfl))
theorem brokerlaw06_PacketAnswers_j7_ok (x4 : Bool) (b0 : api_Packet) (b1 : api_Packet) : Le (Option.map brokerlaw06_PacketAnswers_out (brokerlaw06_PacketAnswers_j7 x4 b0 b1)) (Q6_7 x4 (api_Packet.enc b0) (api_Packet.enc b1)) := by
  refine Le.trans ?_ (le_of_eq ((lab_realC Cr6).trans (T6_7 _ _ _ _ _ _ _ _ _ _ _  x4 b0 b1)).symm)
  unfold brokerlaw06_PacketAnswers_j7
  refine le_cond rfl (fun _ => ?_) (fun _ => ?_)
  · skip
    refine le_call (good := good) (fun y => ⟨y, rfl⟩) brokerlaw06_awake_inj (brokerlaw06_awake_ok) (fun r5 _ => ?_)
    exact le_ret (by first | rfl | (simp only [EN, brokerlaw06_PacketAnswers_out]; done) | (simp only [EN, brokerlaw06_PacketAnswers_out]; rfl))
  · skip
    refine le_call (good := good) (fun y => ⟨y, rfl⟩) packet_Check_inj (packet_Check_ok b0) (fun r6 _ => ?_)
    refine le_cond rfl (fun _ => ?_) (fun _ => ?_)
    · skip
      refine le_call (good := good) (fun y => ⟨y, rfl⟩) brokerlaw06_awake_inj (brokerlaw06_awake_ok) (fun r7 _ => ?_)
      exact le_ret (by first | rfl | (simp only [EN, brokerlaw06_PacketAnswers_out]; done) | (simp only [EN, brokerlaw06_PacketAnswers_out]; rfl))
    · skip
      exact brokerlaw06_PacketAnswers_j9_ok b0 b1
theorem brokerlaw06_PacketAnswers_ok (p0 : api_Packet) : Le (Option.map brokerlaw06_PacketAnswers_out (brokerlaw06_PacketAnswers p0)) (callW SE 6 [api_Packet.av p0] [] []) := by
  refine le_bodyC Cr6 ?_
  refine Le.trans ?_ (le_of_eq (T6 _ _ _ _ _ _ _ _ _ _ _  p0).symm)
  unfold brokerlaw06_PacketAnswers
  refine le_call (good := good) (fun y => ⟨y, rfl⟩) brokerlaw06_small_inj (brokerlaw06_small_ok p0) (fun r0 _ => ?_)
  refine le_cond rfl (fun _ => ?_) (fun _ => ?_)
  · skip
    refine le_call (good := good) (fun y => ⟨y, rfl⟩) brokerlaw06_awake_inj (brokerlaw06_awake_ok) (fun r1 _ => ?_)
    exact le_ret (by first | rfl | (simp only [EN, brokerlaw06_PacketAnswers_out]; done) | (simp only [EN, brokerlaw06_PacketAnswers_out]; rfl))
  · skip
    refine le_call (good := good) (fun y => ⟨y, rfl⟩) packet_Answer_inj (packet_Answer_ok p0) (fun r2 _ => ?_)
    refine le_call (good := good) (fun y => ⟨y, rfl⟩) brokerref06_Answer_inj (brokerref06_Answer_ok p0) (fun r3 _ => ?_)
    refine le_cond rfl (fun _ => ?_) (fun _ => ?_)
    · skip
      exact le_ret (by first | rfl | (simp only [EN, brokerlaw06_PacketAnswers_out]; done) | (simp only [EN, brokerlaw06_PacketAnswers_out]; rfl))
    · skip
      refine le_call (good := good) (fun y => ⟨y, rfl⟩) brokerref06_Same_inj (brokerref06_Same_ok r2.1 r3.1) (fun r4 _ => ?_)
      refine le_cond rfl (fun _ => ?_) (fun _ => ?_)
      · skip
        exact le_ret (by first | rfl | (simp only [EN, brokerlaw06_PacketAnswers_out]; done) | (simp only [EN, brokerlaw06_PacketAnswers_out]; rfl))
      · skip
        exact brokerlaw06_PacketAnswers_j7_ok r2.2 p0 r2.1
def C7 (Γ : Fun) (γ9 : Gm (Bool)) (γ10 : Gm (Bool)) (γ11 : Gm (Int)) : CFun := updC (updC (updC (bindC Γ) 9 brokerlaw06_small_out γ9) 10 brokerlaw06_awake_out γ10) 11 packet_Check_out γ11
def R7_13 (C : CFun) (Λ2 J : Lam) (a0 : (List D)) (a1 : (List D)) : Res := lab SE C Λ2 J 7 0 [1, 1, 1, 1, 1, 1, 0] (stoOf [(1, .ptr 1000000000 0), (3, .ptr 1000000001 0)] [⟨31, (List.map AV.d a0)⟩, ⟨31, (List.map AV.d a1)⟩] [] [] [])
def R7_8 (C : CFun) (Λ2 J : Lam) (a0 : (List D)) (a1 : (List D)) : Res := lab SE C Λ2 J 7 0 [1, 1, 1, 1, 0] (stoOf [(1, .ptr 1000000000 0), (3, .ptr 1000000001 0)] [⟨31, (List.map AV.d a0)⟩, ⟨31, (List.map AV.d a1)⟩] [] [] [])
def R7_3 (C : CFun) (Λ2 J : Lam) (a0 : (List D)) : Res := lab SE C Λ2 J 7 0 [1, 1, 0] (stoOf [(1, .ptr 1000000000 0)] [⟨31, (List.map AV.d a0)⟩] [] [] [])
theorem T7 (Γ : Fun) (γ9 : Gm (Bool)) (γ10 : Gm (Bool)) (γ11 : Gm (Int)) (Λ2 J : Lam) (p0 : api_Packet) : bodyC SE (C7 Γ γ9 γ10 γ11) Λ2 J 7 [api_Packet.av p0] [] [] =
  γ9 [api_Packet.av p0] [] [] fun r0 =>
  cond (!r0) (
   γ10 [] [] [] fun r1 =>
   (some (.ret [.d (.bool r1)] [] []))) (
  γ11 [api_Packet.av p0] [] [] fun r2 =>
  cond (r2 != 0) (
   γ10 [] [] [] fun r3 =>
   (some (.ret [.d (.bool r3)] [] []))) (
  R7_3 (C7 Γ γ9 γ10 γ11) Λ2 J (api_Packet.enc p0))) := by kernel_rfl
theorem T7_13 (Γ : Fun) (γ9 : Gm (Bool)) (γ10 : Gm (Bool)) (γ11 : Gm (Int)) (Λ2 J : Lam) (b0 : api_Packet) (b1 : api_Packet) : labU SE (C7 Γ γ9 γ10 γ11) Λ2 J 7 0 [1, 1, 1, 1, 1, 1, 0] (stoOf [(1, .ptr 1000000000 0), (3, .ptr 1000000001 0)] [⟨31, (List.map AV.d (api_Packet.enc b0))⟩, ⟨31, (List.map AV.d (api_Packet.enc b1))⟩] [] [] []) =
  cond (b0.Kind != 2) (
   γ11 [api_Packet.av (api_Packet.mk b0.Kind b0.ID b0.Dup b0.Message b0.Client b0.User b0.Clean b0.Keep b0.Expiry b0.Window b0.Will true b0.Code b0.Subs b0.Filters b0.Codes)] [] [] fun r6 =>
   cond (r6 != 28) (
    (some (.ret [.d (.bool false)] [] []))) (
   γ10 [] [] [] fun r7 =>
   (some (.ret [.d (.bool r7)] [] [])))) (
  γ10 [] [] [] fun r8 =>
  (some (.ret [.d (.bool r8)] [] []))) := by kernel_rfl
theorem T7_8 (Γ : Fun) (γ9 : Gm (Bool)) (γ10 : Gm (Bool)) (γ11 : Gm (Int)) (Λ2 J : Lam) (b0 : api_Packet) (b1 : api_Packet) : labU SE (C7 Γ γ9 γ10 γ11) Λ2 J 7 0 [1, 1, 1, 1, 0] (stoOf [(1, .ptr 1000000000 0), (3, .ptr 1000000001 0)] [⟨31, (List.map AV.d (api_Packet.enc b0))⟩, ⟨31, (List.map AV.d (api_Packet.enc b1))⟩] [] [] []) =
  cond (b0.Kind != 9) (
   cond (b0.Kind != 11) (
    γ11 [api_Packet.av (api_Packet.mk b0.Kind b0.ID b0.Dup b0.Message b0.Client b0.User b0.Clean b0.Keep b0.Expiry b0.Window b0.Will b0.Present b0.Code b0.Subs b0.Filters [0])] [] [] fun r5 =>
    cond (r5 != 28) (
     (some (.ret [.d (.bool false)] [] []))) (
    R7_13 (C7 Γ γ9 γ10 γ11) Λ2 J (api_Packet.enc b0) (api_Packet.enc (api_Packet.mk b0.Kind b0.ID b0.Dup b0.Message b0.Client b0.User b0.Clean b0.Keep b0.Expiry b0.Window b0.Will b0.Present b0.Code b0.Subs b0.Filters [0])))) (
   R7_13 (C7 Γ γ9 γ10 γ11) Λ2 J (api_Packet.enc b0) (api_Packet.enc b0))) (
  R7_13 (C7 Γ γ9 γ10 γ11) Λ2 J (api_Packet.enc b0) (api_Packet.enc b0)) := by kernel_rfl
theorem T7_3 (Γ : Fun) (γ9 : Gm (Bool)) (γ10 : Gm (Bool)) (γ11 : Gm (Int)) (Λ2 J : Lam) (b0 : api_Packet) : labU SE (C7 Γ γ9 γ10 γ11) Λ2 J 7 0 [1, 1, 0] (stoOf [(1, .ptr 1000000000 0)] [⟨31, (List.map AV.d (api_Packet.enc b0))⟩] [] [] []) =
  cond (b0.Kind != 1) (
   γ11 [api_Packet.av (api_Packet.mk b0.Kind b0.ID b0.Dup b0.Message b0.Client b0.User b0.Clean b0.Keep b0.Expiry 1 b0.Will b0.Present b0.Code b0.Subs b0.Filters b0.Codes)] [] [] fun r4 =>
   cond (r4 != 28) (
    (some (.ret [.d (.bool false)] [] []))) (
   R7_8 (C7 Γ γ9 γ10 γ11) Λ2 J (api_Packet.enc b0) (api_Packet.enc (api_Packet.mk b0.Kind b0.ID b0.Dup b0.Message b0.Client b0.User b0.Clean b0.Keep b0.Expiry 1 b0.Will b0.Present b0.Code b0.Subs b0.Filters b0.Codes)))) (
  R7_8 (C7 Γ γ9 γ10 γ11) Λ2 J (api_Packet.enc b0) (api_Packet.enc b0)) := by kernel_rfl
abbrev X7 : CFun := C7 (callG SE good) (callT SE good 9 brokerlaw06_small_out) (callT SE good 10 brokerlaw06_awake_out) (callT SE good 11 packet_Check_out)
theorem Cr7 : C7 (callG SE good) (callT SE good 9 brokerlaw06_small_out) (callT SE good 10 brokerlaw06_awake_out) (callT SE good 11 packet_Check_out) = bindC (callG SE good) := by unfold C7; rw [updC_real (fun _ h => h), updC_real (fun _ h => h), updC_real (fun _ h => h)]
noncomputable abbrev Q7_13 (a0 : (List D)) (a1 : (List D)) : Res := R7_13 X7 (lam2 SE (callG SE good) (SE.hl 7) (SE.hr 7)) (J0 SE X7) a0 a1
noncomputable abbrev Q7_8 (a0 : (List D)) (a1 : (List D)) : Res := R7_8 X7 (lam2 SE (callG SE good) (SE.hl 7) (SE.hr 7)) (J0 SE X7) a0 a1
noncomputable abbrev Q7_3 (a0 : (List D)) : Res := R7_3 X7 (lam2 SE (callG SE good) (SE.hl 7) (SE.hr 7)) (J0 SE X7) a0
theorem brokerlaw06_PacketFields_j13_ok (b0 : api_Packet) (b1 : api_Packet) : Le (Option.map brokerlaw06_PacketFields_out (brokerlaw06_PacketFields_j13 b0 b1)) (Q7_13 (api_Packet.enc b0) (api_Packet.enc b1)) := by
  refine Le.trans ?_ (le_of_eq ((lab_realC Cr7).trans (T7_13 _ _ _ _ _ _  b0 b1)).symm)
  unfold brokerlaw06_PacketFields_j13
  refine le_cond rfl (fun _ => ?_) (fun _ => ?_)
  · skip
    refine le_call (good := good) (fun y => ⟨y, rfl⟩) packet_Check_inj (packet_Check_ok (api_Packet.mk b0.Kind b0.ID b0.Dup b0.Message b0.Client b0.User b0.Clean b0.Keep b0.Expiry b0.Window b0.Will true b0.Code b0.Subs b0.Filters b0.Codes)) (fun r6 _ => ?_)
    refine le_cond rfl (fun _ => ?_) (fun _ => ?_)
    · skip
      exact le_ret (by first | rfl | (simp only [EN, brokerlaw06_PacketFields_out]; done) | (simp only [EN, brokerlaw06_PacketFields_out]; rfl))
    · skip
      refine le_call (good := good) (fun y => ⟨y, rfl⟩) brokerlaw06_awake_inj (brokerlaw06_awake_ok) (fun r7 _ => ?_)
      exact le_ret (by first | rfl | (simp only [EN, brokerlaw06_PacketFields_out]; done) | (simp only [EN, brokerlaw06_PacketFields_out]; rfl))
  · skip
    refine le_call (good := good) (fun y => ⟨y, rfl⟩) brokerlaw06_awake_inj (brokerlaw06_awake_ok) (fun r8 _ => ?_)
    exact le_ret (by first | rfl | (simp only [EN, brokerlaw06_PacketFields_out]; done) | (simp only [EN, brokerlaw06_PacketFields_out]; rfl))
theorem brokerlaw06_PacketFields_j8_ok (b0 : api_Packet) (b1 : api_Packet) : Le (Option.map brokerlaw06_PacketFields_out (brokerlaw06_PacketFields_j8 b0 b1)) (Q7_8 (api_Packet.enc b0) (api_Packet.enc b1)) := by
  refine Le.trans ?_ (le_of_eq ((lab_realC Cr7).trans (T7_8 _ _ _ _ _ _  b0 b1)).symm)
  unfold brokerlaw06_PacketFields_j8
  refine le_cond rfl (fun _ => ?_) (fun _ => ?_)
  · skip
    refine le_cond rfl (fun _ => ?_) (fun _ => ?_)
    · skip
      refine le_call (good := good) (fun y => ⟨y, rfl⟩) packet_Check_inj (packet_Check_ok (api_Packet.mk b0.Kind b0.ID b0.Dup b0.Message b0.Client b0.User b0.Clean b0.Keep b0.Expiry b0.Window b0.Will b0.Present b0.Code b0.Subs b0.Filters [0])) (fun r5 _ => ?_)
      refine le_cond rfl (fun _ => ?_) (fun _ => ?_)
      · skip
        exact le_ret (by first | rfl | (simp only [EN, brokerlaw06_PacketFields_out]; done) | (simp only [EN, brokerlaw06_PacketFields_out]; rfl))
      · skip
        exact brokerlaw06_PacketFields_j13_ok b0 (api_Packet.mk b0.Kind b0.ID b0.Dup b0.Message b0.Client b0.User b0.Clean b0.Keep b0.Expiry b0.Window b0.Will b0.Present b0.Code b0.Subs b0.Filters [0])
    · skip
      exact brokerlaw06_PacketFields_j13_ok b0 b0
  · skip
    exact brokerlaw06_PacketFields_j13_ok b0 b0
theorem brokerlaw06_PacketFields_j3_ok (b0 : api_Packet) : Le (Option.map brokerlaw06_PacketFields_out (brokerlaw06_PacketFields_j3 b0)) (Q7_3 (api_Packet.enc b0)) := by
  refine Le.trans ?_ (le_of_eq ((lab_realC Cr7).trans (T7_3 _ _ _ _ _ _  b0)).symm)
  unfold brokerlaw06_PacketFields_j3
  refine le_cond rfl (fun _ => ?_) (fun _ => ?_)
  · skip
    refine le_call (good := good) (fun y => ⟨y, rfl⟩) packet_Check_inj (packet_Check_ok (api_Packet.mk b0.Kind b0.ID b0.Dup b0.Message b0.Client b0.User b0.Clean b0.Keep b0.Expiry 1 b0.Will b0.Present b0.Code b0.Subs b0.Filters b0.Codes)) (fun r4 _ => ?_)
    refine le_cond rfl (fun _ => ?_) (fun _ => ?_)
    · skip
      exact le_ret (by first | rfl | (simp only [EN, brokerlaw06_PacketFields_out]; done) | (simp only [EN, brokerlaw06_PacketFields_out]; rfl))
    · skip
      exact brokerlaw06_PacketFields_j8_ok b0 (api_Packet.mk b0.Kind b0.ID b0.Dup b0.Message b0.Client b0.User b0.Clean b0.Keep b0.Expiry 1 b0.Will b0.Present b0.Code b0.Subs b0.Filters b0.Codes)
  · skip
    exact brokerlaw06_PacketFields_j8_ok b0 b0
theorem brokerlaw06_PacketFields_ok (p0 : api_Packet) : Le (Option.map brokerlaw06_PacketFields_out (brokerlaw06_PacketFields p0)) (callW SE 7 [api_Packet.av p0] [] []) := by
  refine le_bodyC Cr7 ?_
  refine Le.trans ?_ (le_of_eq (T7 _ _ _ _ _ _  p0).symm)
  unfold brokerlaw06_PacketFields
  refine le_call (good := good) (fun y => ⟨y, rfl⟩) brokerlaw06_small_inj (brokerlaw06_small_ok p0) (fun r0 _ => ?_)
  refine le_cond rfl (fun _ => ?_) (fun _ => ?_)
  · skip
    refine le_call (good := good) (fun y => ⟨y, rfl⟩) brokerlaw06_awake_inj (brokerlaw06_awake_ok) (fun r1 _ => ?_)
    exact le_ret (by first | rfl | (simp only [EN, brokerlaw06_PacketFields_out]; done) | (simp only [EN, brokerlaw06_PacketFields_out]; rfl))
  · skip
    refine le_call (good := good) (fun y => ⟨y, rfl⟩) packet_Check_inj (packet_Check_ok p0) (fun r2 _ => ?_)
    refine le_cond rfl (fun _ => ?_) (fun _ => ?_)
    · skip
      refine le_call (good := good) (fun y => ⟨y, rfl⟩) brokerlaw06_awake_inj (brokerlaw06_awake_ok) (fun r3 _ => ?_)
      exact le_ret (by first | rfl | (simp only [EN, brokerlaw06_PacketFields_out]; done) | (simp only [EN, brokerlaw06_PacketFields_out]; rfl))
    · skip
      exact brokerlaw06_PacketFields_j3_ok p0
def C8 (Γ : Fun) (γ21 : Gm (api_Packet)) (γ11 : Gm (Int)) (γ10 : Gm (Bool)) (γ19 : Gm (api_Packet × Bool)) : CFun := updC (updC (updC (updC (bindC Γ) 21 brokerlaw06_publish_out γ21) 11 packet_Check_out γ11) 10 brokerlaw06_awake_out γ10) 19 packet_Answer_out γ19
def R8_14 (C : CFun) (Λ2 J : Lam) (a0 : Int) (a1 : Int) : Res := lab SE C Λ2 J 8 0 [1, 1, 1, 1, 1, 0] (stoOf [(0, .d (.int .i64 a0)), (6, .d (.int .i64 a1))] [] [] [] [])
def R8_6 (C : CFun) (Λ2 J : Lam) (a0 : Int) (a1 : Int) (a2 : Int) (a3 : Int) (a4 : (List D)) : Res := lab SE C Λ2 J 8 0 [1, 1, 1, 1, 0, 1, 0] (stoOf [(0, .d (.int .i64 a0)), (1, .d (.int .i64 a1)), (5, .ptr 1000000000 0), (6, .d (.int .i64 a2)), (7, .d (.int .i64 a3))] [⟨31, (List.map AV.d a4)⟩] [] [] [])
theorem T8 (Γ : Fun) (γ21 : Gm (api_Packet)) (γ11 : Gm (Int)) (γ10 : Gm (Bool)) (γ19 : Gm (api_Packet × Bool)) (Λ2 J : Lam) (p0 : Int) (p1 : Int) : bodyC SE (C8 Γ γ21 γ11 γ10 γ19) Λ2 J 8 [.d (.int .i64 p0), .d (.int .i64 p1)] [] [] =
  γ21 [.d (.int .i64 p0), .d (.int .i64 p1)] [] [] fun r0 =>
  γ11 [api_Packet.av r0] [] [] fun r1 =>
  cond (r1 != 0) (
   γ10 [] [] [] fun r2 =>
   (some (.ret [.d (.bool r2)] [] []))) (
  R8_6 (C8 Γ γ21 γ11 γ10 γ19) Λ2 J p0 p1 0 0 (api_Packet.enc r0)) := by kernel_rfl
theorem T8_14 (Γ : Fun) (γ21 : Gm (api_Packet)) (γ11 : Gm (Int)) (γ10 : Gm (Bool)) (γ19 : Gm (api_Packet × Bool)) (Λ2 J : Lam) (x0 : Int) (x6 : Int) : labU SE (C8 Γ γ21 γ11 γ10 γ19) Λ2 J 8 0 [1, 1, 1, 1, 1, 0] (stoOf [(0, .d (.int .i64 x0)), (6, .d (.int .i64 x6))] [] [] [] []) =
  cond (x0 == 2) (
   cond (x6 == 3) (
    γ10 [] [] [] fun r5 =>
    (some (.ret [.d (.bool r5)] [] []))) (
   (some (.ret [.d (.bool false)] [] [])))) (
  cond (x6 == x0) (
   γ10 [] [] [] fun r6 =>
   (some (.ret [.d (.bool r6)] [] []))) (
  (some (.ret [.d (.bool false)] [] [])))) := by kernel_rfl
theorem T8_6 (Γ : Fun) (γ21 : Gm (api_Packet)) (γ11 : Gm (Int)) (γ10 : Gm (Bool)) (γ19 : Gm (api_Packet × Bool)) (Λ2 J : Lam) (x0 : Int) (x1 : Int) (x6 : Int) (x7 : Int) (b0 : api_Packet) : labU SE (C8 Γ γ21 γ11 γ10 γ19) Λ2 J 8 0 [1, 1, 1, 1, 0, 1, 0] (stoOf [(0, .d (.int .i64 x0)), (1, .d (.int .i64 x1)), (5, .ptr 1000000000 0), (6, .d (.int .i64 x6)), (7, .d (.int .i64 x7))] [⟨31, (List.map AV.d (api_Packet.enc b0))⟩] [] [] []) =
  cond (decide (x7 < 5)) (
   γ19 [api_Packet.av b0] [] [] fun r3 =>
   cond (!r3.2) (
    R8_14 (C8 Γ γ21 γ11 γ10 γ19) Λ2 J x0 x6) (
   cond (r3.1.ID != x1) (
    (some (.ret [.d (.bool false)] [] []))) (
   γ11 [api_Packet.av r3.1] [] [] fun r4 =>
   cond (r4 != 0) (
    (some (.ret [.d (.bool false)] [] []))) (
   R8_6 (C8 Γ γ21 γ11 γ10 γ19) Λ2 J x0 x1 (IntKind.wrap .i64 (x6 + 1)) (IntKind.wrap .i64 (x7 + 1)) (api_Packet.enc r3.1))))) (
  R8_14 (C8 Γ γ21 γ11 γ10 γ19) Λ2 J x0 x6) := by kernel_rfl
abbrev X8 : CFun := C8 (callG SE good) (callT SE good 21 brokerlaw06_publish_out) (callT SE good 11 packet_Check_out) (callT SE good 10 brokerlaw06_awake_out) (callT SE good 19 packet_Answer_out)
theorem Cr8 : C8 (callG SE good) (callT SE good 21 brokerlaw06_publish_out) (callT SE good 11 packet_Check_out) (callT SE good 10 brokerlaw06_awake_out) (callT SE good 19 packet_Answer_out) = bindC (callG SE good) := by unfold C8; rw [updC_real (fun _ h => h), updC_real (fun _ h => h), updC_real (fun _ h => h), updC_real (fun _ h => h)]
noncomputable abbrev Q8_14 (a0 : Int) (a1 : Int) : Res := R8_14 X8 (lam2 SE (callG SE good) (SE.hl 8) (SE.hr 8)) (J0 SE X8) a0 a1
noncomputable abbrev Q8_6 (a0 : Int) (a1 : Int) (a2 : Int) (a3 : Int) (a4 : (List D)) : Res := R8_6 X8 (lam2 SE (callG SE good) (SE.hl 8) (SE.hr 8)) (J0 SE X8) a0 a1 a2 a3 a4
theorem brokerlaw06_PacketHandshake_j14_ok (x0 : Int) (x6 : Int) : Le (Option.map brokerlaw06_PacketHandshake_out (brokerlaw06_PacketHandshake_j14 x0 x6)) (Q8_14 x0 x6) := by
  refine Le.trans ?_ (le_of_eq ((lab_realC Cr8).trans (T8_14 _ _ _ _ _ _ _  x0 x6)).symm)
  unfold brokerlaw06_PacketHandshake_j14
  refine le_cond rfl (fun _ => ?_) (fun _ => ?_)
  · skip
    refine le_cond rfl (fun _ => ?_) (fun _ => ?_)
    · skip
      refine le_call (good := good) (fun y => ⟨y, rfl⟩) brokerlaw06_awake_inj (brokerlaw06_awake_ok) (fun r5 _ => ?_)
      exact le_ret (by first | rfl | (simp only [EN, brokerlaw06_PacketHandshake_out]; done) | (simp only [EN, brokerlaw06_PacketHandshake_out]; rfl))
    · skip
      exact le_ret (by first | rfl | (simp only [EN, brokerlaw06_PacketHandshake_out]; done) | (simp only [EN, brokerlaw06_PacketHandshake_out]; rfl))
  · skip
    refine le_cond rfl (fun _ => ?_) (fun _ => ?_)
    · skip
      refine le_call (good := good) (fun y => ⟨y, rfl⟩) brokerlaw06_awake_inj (brokerlaw06_awake_ok) (fun r6 _ => ?_)
      exact le_ret (by first | rfl | (simp only [EN, brokerlaw06_PacketHandshake_out]; done) | (simp only [EN, brokerlaw06_PacketHandshake_out]; rfl))
    · skip
      exact le_ret (by first | rfl | (simp only [EN, brokerlaw06_PacketHandshake_out]; done) | (simp only [EN, brokerlaw06_PacketHandshake_out]; rfl))
theorem brokerlaw06_PacketHandshake_l6_ok : ∀ (fu : Nat) (x0 : Int) (x1 : Int) (x6 : Int) (x7 : Int) (b0 : api_Packet), Le (Option.map brokerlaw06_PacketHandshake_out (brokerlaw06_PacketHandshake_l6 fu x0 x1 x6 x7 b0)) (Q8_6 x0 x1 x6 x7 (api_Packet.enc b0)) := by
  intro fu
  induction fu with
  | zero => intros; exact le_none
  | succ fu ih =>
    intro x0 x1 x6 x7 b0
    refine Le.trans ?_ (le_of_eq ((lab_realC Cr8).trans (T8_6 _ _ _ _ _ _ _  x0 x1 x6 x7 b0)).symm)
    unfold brokerlaw06_PacketHandshake_l6
    refine le_cond rfl (fun _ => ?_) (fun _ => ?_)
    · skip
      refine le_call (good := good) (fun y => ⟨y, rfl⟩) packet_Answer_inj (packet_Answer_ok b0) (fun r3 _ => ?_)
      refine le_cond rfl (fun _ => ?_) (fun _ => ?_)
      · skip
        exact brokerlaw06_PacketHandshake_j14_ok x0 x6
      · skip
        refine le_cond rfl (fun _ => ?_) (fun _ => ?_)
        · skip
          exact le_ret (by first | rfl | (simp only [EN, brokerlaw06_PacketHandshake_out]; done) | (simp only [EN, brokerlaw06_PacketHandshake_out]; rfl))
        · skip
          refine le_call (good := good) (fun y => ⟨y, rfl⟩) packet_Check_inj (packet_Check_ok r3.1) (fun r4 _ => ?_)
          refine le_cond rfl (fun _ => ?_) (fun _ => ?_)
          · skip
            exact le_ret (by first | rfl | (simp only [EN, brokerlaw06_PacketHandshake_out]; done) | (simp only [EN, brokerlaw06_PacketHandshake_out]; rfl))
          · skip
            exact ih x0 x1 (IntKind.wrap .i64 (x6 + 1)) (IntKind.wrap .i64 (x7 + 1)) r3.1
    · skip
      exact brokerlaw06_PacketHandshake_j14_ok x0 x6
theorem brokerlaw06_PacketHandshake_ok (p0 : Int) (p1 : Int) : Le (Option.map brokerlaw06_PacketHandshake_out (brokerlaw06_PacketHandshake p0 p1)) (callW SE 8 [.d (.int .i64 p0), .d (.int .i64 p1)] [] []) := by
  refine le_bodyC Cr8 ?_
  refine Le.trans ?_ (le_of_eq (T8 _ _ _ _ _ _ _  p0 p1).symm)
  unfold brokerlaw06_PacketHandshake
  refine le_call (good := good) (fun y => ⟨y, rfl⟩) brokerlaw06_publish_inj (brokerlaw06_publish_ok p0 p1) (fun r0 _ => ?_)
  refine le_call (good := good) (fun y => ⟨y, rfl⟩) packet_Check_inj (packet_Check_ok r0) (fun r1 _ => ?_)
  refine le_cond rfl (fun _ => ?_) (fun _ => ?_)
  · skip
    refine le_call (good := good) (fun y => ⟨y, rfl⟩) brokerlaw06_awake_inj (brokerlaw06_awake_ok) (fun r2 _ => ?_)
    exact le_ret (by first | rfl | (simp only [EN, brokerlaw06_PacketHandshake_out]; done) | (simp only [EN, brokerlaw06_PacketHandshake_out]; rfl))
  · skip
    exact brokerlaw06_PacketHandshake_l6_ok fuel p0 p1 0 0 r0
end Te
end PX
