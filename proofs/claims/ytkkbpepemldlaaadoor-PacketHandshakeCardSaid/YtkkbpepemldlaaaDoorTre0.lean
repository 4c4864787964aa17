import Derived.Test.YtkkbpepemldlaaaDoorTab
set_option linter.unusedVariables false
set_option linter.unusedSimpArgs false
set_option linter.unusedVariables false
set_option linter.unusedSimpArgs false
set_option maxRecDepth 100000
noncomputable section
namespace PX
open Go
open Md
namespace Te
def C23 (Γ : Fun)  : CFun := bindC Γ
theorem T23 (Γ : Fun)  (Λ2 J : Lam) (p0 : Str) : bodyC SE (C23 Γ) Λ2 J 23 [.d (.str p0)] [] [] =
  (some (.ret [.d (.bool (decide ((List.length p0 : Int) ≤ 400)))] [] [])) := by kernel_rfl
abbrev X23 : CFun := C23 (callG SE good)
theorem Cr23 : C23 (callG SE good) = bindC (callG SE good) := by unfold C23; rfl
theorem brokerlaw06_text_ok (p0 : Str) : Le (Option.map brokerlaw06_text_out (brokerlaw06_text p0)) (callW SE 23 [.d (.str p0)] [] []) := by
  refine le_bodyC Cr23 ?_
  refine Le.trans ?_ (le_of_eq (T23 _ _ _  p0).symm)
  unfold brokerlaw06_text
  exact le_ret (by first | rfl | (simp only [EN, brokerlaw06_text_out]; done) | (simp only [EN, brokerlaw06_text_out]; rfl))
def C22 (Γ : Fun) (γ23 : Gm (Bool)) : CFun := updC (bindC Γ) 23 brokerlaw06_text_out γ23
def R22_4 (C : CFun) (Λ2 J : Lam) (a0 : Int) (a1 : (List D)) : Res := lab SE C Λ2 J 22 0 [1, 1, 0, 1, 0] (stoOf [(1, .ptr 1000000000 0), (3, .d (.int .i64 a0))] [⟨24, (List.map AV.d a1)⟩] [] [] [])
def R22_3 (C : CFun) (Λ2 J : Lam) (a0 : (List D)) : Res := lab SE C Λ2 J 22 0 [1, 1, 0, 0] (stoOf [(1, .ptr 1000000000 0)] [⟨24, (List.map AV.d a0)⟩] [] [] [])
theorem T22 (Γ : Fun) (γ23 : Gm (Bool)) (Λ2 J : Lam) (p0 : api_Message) : bodyC SE (C22 Γ γ23) Λ2 J 22 [api_Message.av p0] [] [] =
  γ23 [.d (.str p0.Topic)] [] [] fun r0 =>
  cond (!r0) (
   (some (.ret [.d (.bool false)] [] []))) (
  γ23 [.d (.str p0.Payload)] [] [] fun r1 =>
  cond (!r1) (
   (some (.ret [.d (.bool false)] [] []))) (
  γ23 [.d (.str p0.From)] [] [] fun r2 =>
  cond (!r2) (
   (some (.ret [.d (.bool false)] [] []))) (
  cond (decide ((List.length (List.map api_Prop.enc p0.Props) : Int) > 40)) (
   (some (.ret [.d (.bool false)] [] []))) (
  R22_3 (C22 Γ γ23) Λ2 J (api_Message.enc p0))))) := by kernel_rfl
theorem T22_4 (Γ : Fun) (γ23 : Gm (Bool)) (Λ2 J : Lam) (x3 : Int) (b0 : api_Message) : labU SE (C22 Γ γ23) Λ2 J 22 0 [1, 1, 0, 1, 0] (stoOf [(1, .ptr 1000000000 0), (3, .d (.int .i64 x3))] [⟨24, (List.map AV.d (api_Message.enc b0))⟩] [] [] []) =
  cond (decide (x3 < (List.length (List.map api_Prop.enc b0.Props) : Int))) (
   cond (decide (0 ≤ x3) && decide (x3 < (List.length (List.map api_Prop.enc b0.Props) : Int))) (
    γ23 [.d (.str (dStr (cellAt (elemAt (List.map api_Prop.enc b0.Props) (Int.toNat x3)) 0)))] [] [] fun r3 =>
    cond (!r3) (
     (some (.ret [.d (.bool false)] [] []))) (
    cond (decide (0 ≤ x3) && decide (x3 < (List.length (List.map api_Prop.enc b0.Props) : Int))) (
     γ23 [.d (.str (dStr (cellAt (elemAt (List.map api_Prop.enc b0.Props) (Int.toNat x3)) 1)))] [] [] fun r4 =>
     cond (!r4) (
      (some (.ret [.d (.bool false)] [] []))) (
     R22_4 (C22 Γ γ23) Λ2 J (IntKind.wrap .i64 (x3 + 1)) (api_Message.enc b0))) none)) none) (
  (some (.ret [.d (.bool true)] [] []))) := by kernel_rfl
theorem T22_3 (Γ : Fun) (γ23 : Gm (Bool)) (Λ2 J : Lam) (b0 : api_Message) : labU SE (C22 Γ γ23) Λ2 J 22 0 [1, 1, 0, 0] (stoOf [(1, .ptr 1000000000 0)] [⟨24, (List.map AV.d (api_Message.enc b0))⟩] [] [] []) =
  R22_4 (C22 Γ γ23) Λ2 J 0 (api_Message.enc b0) := by kernel_rfl
abbrev X22 : CFun := C22 (callG SE good) (callT SE good 23 brokerlaw06_text_out)
theorem Cr22 : C22 (callG SE good) (callT SE good 23 brokerlaw06_text_out) = bindC (callG SE good) := by unfold C22; rw [updC_real (fun _ h => h)]
noncomputable abbrev Q22_4 (a0 : Int) (a1 : (List D)) : Res := R22_4 X22 (lam2 SE (callG SE good) (SE.hl 22) (SE.hr 22)) (J0 SE X22) a0 a1
noncomputable abbrev Q22_3 (a0 : (List D)) : Res := R22_3 X22 (lam2 SE (callG SE good) (SE.hl 22) (SE.hr 22)) (J0 SE X22) a0
theorem brokerlaw06_message_l4_ok : ∀ (fu : Nat) (x3 : Int) (b0 : api_Message), Le (Option.map brokerlaw06_message_out (brokerlaw06_message_l4 fu x3 b0)) (Q22_4 x3 (api_Message.enc b0)) := by
  intro fu
  induction fu with
  | zero => intros; exact le_none
  | succ fu ih =>
    intro x3 b0
    refine Le.trans ?_ (le_of_eq ((lab_realC Cr22).trans (T22_4 _ _ _ _  x3 b0)).symm)
    unfold brokerlaw06_message_l4
    refine le_cond (by simp only [EN]) (fun _ => ?_) (fun _ => ?_)
    · skip
      refine le_cond (by simp only [EN]) (fun _ => ?_) (fun _ => le_none)
      refine le_call (good := good) (fun y => ⟨y, rfl⟩) brokerlaw06_text_inj (by first | (simp only [EN]; exact brokerlaw06_text_ok ((List.getD b0.Props (Int.toNat x3) default).Key)) | exact brokerlaw06_text_ok ((List.getD b0.Props (Int.toNat x3) default).Key)) (fun r3 _ => ?_)
      refine le_cond rfl (fun _ => ?_) (fun _ => ?_)
      · skip
        exact le_ret (by first | rfl | (simp only [EN, brokerlaw06_message_out]; done) | (simp only [EN, brokerlaw06_message_out]; rfl))
      · skip
        refine le_cond (by simp only [EN]) (fun _ => ?_) (fun _ => le_none)
        refine le_call (good := good) (fun y => ⟨y, rfl⟩) brokerlaw06_text_inj (by first | (simp only [EN]; exact brokerlaw06_text_ok ((List.getD b0.Props (Int.toNat x3) default).Value)) | exact brokerlaw06_text_ok ((List.getD b0.Props (Int.toNat x3) default).Value)) (fun r4 _ => ?_)
        refine le_cond rfl (fun _ => ?_) (fun _ => ?_)
        · skip
          exact le_ret (by first | rfl | (simp only [EN, brokerlaw06_message_out]; done) | (simp only [EN, brokerlaw06_message_out]; rfl))
        · skip
          exact ih (IntKind.wrap .i64 (x3 + 1)) b0
    · skip
      exact le_ret (by first | rfl | (simp only [EN, brokerlaw06_message_out]; done) | (simp only [EN, brokerlaw06_message_out]; rfl))
theorem brokerlaw06_message_j3_ok (b0 : api_Message) : Le (Option.map brokerlaw06_message_out (brokerlaw06_message_j3 b0)) (Q22_3 (api_Message.enc b0)) := by
  refine Le.trans ?_ (le_of_eq ((lab_realC Cr22).trans (T22_3 _ _ _ _  b0)).symm)
  unfold brokerlaw06_message_j3
  exact brokerlaw06_message_l4_ok fuel 0 b0
theorem brokerlaw06_message_ok (p0 : api_Message) : Le (Option.map brokerlaw06_message_out (brokerlaw06_message p0)) (callW SE 22 [api_Message.av p0] [] []) := by
  refine le_bodyC Cr22 ?_
  refine Le.trans ?_ (le_of_eq (T22 _ _ _ _  p0).symm)
  unfold brokerlaw06_message
  refine le_call (good := good) (fun y => ⟨y, rfl⟩) brokerlaw06_text_inj (brokerlaw06_text_ok p0.Topic) (fun r0 _ => ?_)
  refine le_cond rfl (fun _ => ?_) (fun _ => ?_)
  · skip
    exact le_ret (by first | rfl | (simp only [EN, brokerlaw06_message_out]; done) | (simp only [EN, brokerlaw06_message_out]; rfl))
  · skip
    refine le_call (good := good) (fun y => ⟨y, rfl⟩) brokerlaw06_text_inj (brokerlaw06_text_ok p0.Payload) (fun r1 _ => ?_)
    refine le_cond rfl (fun _ => ?_) (fun _ => ?_)
    · skip
      exact le_ret (by first | rfl | (simp only [EN, brokerlaw06_message_out]; done) | (simp only [EN, brokerlaw06_message_out]; rfl))
    · skip
      refine le_call (good := good) (fun y => ⟨y, rfl⟩) brokerlaw06_text_inj (brokerlaw06_text_ok p0.From) (fun r2 _ => ?_)
      refine le_cond rfl (fun _ => ?_) (fun _ => ?_)
      · skip
        exact le_ret (by first | rfl | (simp only [EN, brokerlaw06_message_out]; done) | (simp only [EN, brokerlaw06_message_out]; rfl))
      · skip
        refine le_cond (by simp only [EN]) (fun _ => ?_) (fun _ => ?_)
        · skip
          exact le_ret (by first | rfl | (simp only [EN, brokerlaw06_message_out]; done) | (simp only [EN, brokerlaw06_message_out]; rfl))
        · skip
          exact brokerlaw06_message_j3_ok p0
def C9 (Γ : Fun) (γ22 : Gm (Bool)) (γ23 : Gm (Bool)) : CFun := updC (updC (bindC Γ) 22 brokerlaw06_message_out γ22) 23 brokerlaw06_text_out γ23
def R9_9 (C : CFun) (Λ2 J : Lam) (a0 : Int) (a1 : (List D)) : Res := lab SE C Λ2 J 9 0 [1, 1, 1, 0, 1, 0] (stoOf [(1, .ptr 1000000000 0), (4, .d (.int .i64 a0))] [⟨31, (List.map AV.d a1)⟩] [] [] [])
def R9_4 (C : CFun) (Λ2 J : Lam) (a0 : Int) (a1 : (List D)) : Res := lab SE C Λ2 J 9 0 [1, 1, 0, 1, 0] (stoOf [(1, .ptr 1000000000 0), (3, .d (.int .i64 a0))] [⟨31, (List.map AV.d a1)⟩] [] [] [])
def R9_3 (C : CFun) (Λ2 J : Lam) (a0 : (List D)) : Res := lab SE C Λ2 J 9 0 [1, 1, 0, 0] (stoOf [(1, .ptr 1000000000 0)] [⟨31, (List.map AV.d a0)⟩] [] [] [])
theorem T9 (Γ : Fun) (γ22 : Gm (Bool)) (γ23 : Gm (Bool)) (Λ2 J : Lam) (p0 : api_Packet) : bodyC SE (C9 Γ γ22 γ23) Λ2 J 9 [api_Packet.av p0] [] [] =
  γ22 [api_Message.av p0.Message] [] [] fun r0 =>
  cond (!r0) (
   (some (.ret [.d (.bool false)] [] []))) (
  γ22 [api_Message.av p0.Will.Message] [] [] fun r1 =>
  cond (!r1) (
   (some (.ret [.d (.bool false)] [] []))) (
  γ23 [.d (.str p0.Client)] [] [] fun r2 =>
  cond (!r2) (
   (some (.ret [.d (.bool false)] [] []))) (
  γ23 [.d (.str p0.User)] [] [] fun r3 =>
  cond (!r3) (
   (some (.ret [.d (.bool false)] [] []))) (
  cond (decide ((List.length (List.map api_Sub.enc p0.Subs) : Int) > 40)) (
   (some (.ret [.d (.bool false)] [] []))) (
  cond (decide ((List.length (List.map encS p0.Filters) : Int) > 40)) (
   (some (.ret [.d (.bool false)] [] []))) (
  cond (decide ((List.length (List.map (encI .i64) p0.Codes) : Int) > 40)) (
   (some (.ret [.d (.bool false)] [] []))) (
  R9_3 (C9 Γ γ22 γ23) Λ2 J (api_Packet.enc p0)))))))) := by kernel_rfl
theorem T9_9 (Γ : Fun) (γ22 : Gm (Bool)) (γ23 : Gm (Bool)) (Λ2 J : Lam) (x4 : Int) (b0 : api_Packet) : labU SE (C9 Γ γ22 γ23) Λ2 J 9 0 [1, 1, 1, 0, 1, 0] (stoOf [(1, .ptr 1000000000 0), (4, .d (.int .i64 x4))] [⟨31, (List.map AV.d (api_Packet.enc b0))⟩] [] [] []) =
  cond (decide (x4 < (List.length (List.map encS b0.Filters) : Int))) (
   cond (decide (0 ≤ x4) && decide (x4 < (List.length (List.map encS b0.Filters) : Int))) (
    γ23 [.d (.str (dStr (cellAt (elemAt (List.map encS b0.Filters) (Int.toNat x4)) 0)))] [] [] fun r5 =>
    cond (!r5) (
     (some (.ret [.d (.bool false)] [] []))) (
    R9_9 (C9 Γ γ22 γ23) Λ2 J (IntKind.wrap .i64 (x4 + 1)) (api_Packet.enc b0))) none) (
  (some (.ret [.d (.bool true)] [] []))) := by kernel_rfl
theorem T9_4 (Γ : Fun) (γ22 : Gm (Bool)) (γ23 : Gm (Bool)) (Λ2 J : Lam) (x3 : Int) (b0 : api_Packet) : labU SE (C9 Γ γ22 γ23) Λ2 J 9 0 [1, 1, 0, 1, 0] (stoOf [(1, .ptr 1000000000 0), (3, .d (.int .i64 x3))] [⟨31, (List.map AV.d (api_Packet.enc b0))⟩] [] [] []) =
  cond (decide (x3 < (List.length (List.map api_Sub.enc b0.Subs) : Int))) (
   cond (decide (0 ≤ x3) && decide (x3 < (List.length (List.map api_Sub.enc b0.Subs) : Int))) (
    γ23 [.d (.str (dStr (cellAt (elemAt (List.map api_Sub.enc b0.Subs) (Int.toNat x3)) 0)))] [] [] fun r4 =>
    cond (!r4) (
     (some (.ret [.d (.bool false)] [] []))) (
    R9_4 (C9 Γ γ22 γ23) Λ2 J (IntKind.wrap .i64 (x3 + 1)) (api_Packet.enc b0))) none) (
  R9_9 (C9 Γ γ22 γ23) Λ2 J 0 (api_Packet.enc b0)) := by kernel_rfl
theorem T9_3 (Γ : Fun) (γ22 : Gm (Bool)) (γ23 : Gm (Bool)) (Λ2 J : Lam) (b0 : api_Packet) : labU SE (C9 Γ γ22 γ23) Λ2 J 9 0 [1, 1, 0, 0] (stoOf [(1, .ptr 1000000000 0)] [⟨31, (List.map AV.d (api_Packet.enc b0))⟩] [] [] []) =
  R9_4 (C9 Γ γ22 γ23) Λ2 J 0 (api_Packet.enc b0) := by kernel_rfl
abbrev X9 : CFun := C9 (callG SE good) (callT SE good 22 brokerlaw06_message_out) (callT SE good 23 brokerlaw06_text_out)
theorem Cr9 : C9 (callG SE good) (callT SE good 22 brokerlaw06_message_out) (callT SE good 23 brokerlaw06_text_out) = bindC (callG SE good) := by unfold C9; rw [updC_real (fun _ h => h), updC_real (fun _ h => h)]
noncomputable abbrev Q9_9 (a0 : Int) (a1 : (List D)) : Res := R9_9 X9 (lam2 SE (callG SE good) (SE.hl 9) (SE.hr 9)) (J0 SE X9) a0 a1
noncomputable abbrev Q9_4 (a0 : Int) (a1 : (List D)) : Res := R9_4 X9 (lam2 SE (callG SE good) (SE.hl 9) (SE.hr 9)) (J0 SE X9) a0 a1
noncomputable abbrev Q9_3 (a0 : (List D)) : Res := R9_3 X9 (lam2 SE (callG SE good) (SE.hl 9) (SE.hr 9)) (J0 SE X9) a0
theorem brokerlaw06_small_l9_ok : ∀ (fu : Nat) (x4 : Int) (b0 : api_Packet), Le (Option.map brokerlaw06_small_out (brokerlaw06_small_l9 fu x4 b0)) (Q9_9 x4 (api_Packet.enc b0)) := by
  intro fu
  induction fu with
  | zero => intros; exact le_none
  | succ fu ih =>
    intro x4 b0
    refine Le.trans ?_ (le_of_eq ((lab_realC Cr9).trans (T9_9 _ _ _ _ _  x4 b0)).symm)
    unfold brokerlaw06_small_l9
    refine le_cond (by simp only [EN]) (fun _ => ?_) (fun _ => ?_)
    · skip
      refine le_cond (by simp only [EN]) (fun _ => ?_) (fun _ => le_none)
      refine le_call (good := good) (fun y => ⟨y, rfl⟩) brokerlaw06_text_inj (by first | (simp only [EN]; exact brokerlaw06_text_ok (List.getD b0.Filters (Int.toNat x4) default)) | exact brokerlaw06_text_ok (List.getD b0.Filters (Int.toNat x4) default)) (fun r5 _ => ?_)
      refine le_cond rfl (fun _ => ?_) (fun _ => ?_)
      · skip
        exact le_ret (by first | rfl | (simp only [EN, brokerlaw06_small_out]; done) | (simp only [EN, brokerlaw06_small_out]; rfl))
      · skip
        exact ih (IntKind.wrap .i64 (x4 + 1)) b0
    · skip
      exact le_ret (by first | rfl | (simp only [EN, brokerlaw06_small_out]; done) | (simp only [EN, brokerlaw06_small_out]; rfl))
theorem brokerlaw06_small_l4_ok : ∀ (fu : Nat) (x3 : Int) (b0 : api_Packet), Le (Option.map brokerlaw06_small_out (brokerlaw06_small_l4 fu x3 b0)) (Q9_4 x3 (api_Packet.enc b0)) := by
  intro fu
  induction fu with
  | zero => intros; exact le_none
  | succ fu ih =>
    intro x3 b0
    refine Le.trans ?_ (le_of_eq ((lab_realC Cr9).trans (T9_4 _ _ _ _ _  x3 b0)).symm)
    unfold brokerlaw06_small_l4
    refine le_cond (by simp only [EN]) (fun _ => ?_) (fun _ => ?_)
    · skip
      refine le_cond (by simp only [EN]) (fun _ => ?_) (fun _ => le_none)
      refine le_call (good := good) (fun y => ⟨y, rfl⟩) brokerlaw06_text_inj (by first | (simp only [EN]; exact brokerlaw06_text_ok ((List.getD b0.Subs (Int.toNat x3) default).Filter)) | exact brokerlaw06_text_ok ((List.getD b0.Subs (Int.toNat x3) default).Filter)) (fun r4 _ => ?_)
      refine le_cond rfl (fun _ => ?_) (fun _ => ?_)
      · skip
        exact le_ret (by first | rfl | (simp only [EN, brokerlaw06_small_out]; done) | (simp only [EN, brokerlaw06_small_out]; rfl))
      · skip
        exact ih (IntKind.wrap .i64 (x3 + 1)) b0
    · skip
      exact brokerlaw06_small_l9_ok fuel 0 b0
theorem brokerlaw06_small_j3_ok (b0 : api_Packet) : Le (Option.map brokerlaw06_small_out (brokerlaw06_small_j3 b0)) (Q9_3 (api_Packet.enc b0)) := by
  refine Le.trans ?_ (le_of_eq ((lab_realC Cr9).trans (T9_3 _ _ _ _ _  b0)).symm)
  unfold brokerlaw06_small_j3
  exact brokerlaw06_small_l4_ok fuel 0 b0
theorem brokerlaw06_small_ok (p0 : api_Packet) : Le (Option.map brokerlaw06_small_out (brokerlaw06_small p0)) (callW SE 9 [api_Packet.av p0] [] []) := by
  refine le_bodyC Cr9 ?_
  refine Le.trans ?_ (le_of_eq (T9 _ _ _ _ _  p0).symm)
  unfold brokerlaw06_small
  refine le_call (good := good) (fun y => ⟨y, rfl⟩) brokerlaw06_message_inj (brokerlaw06_message_ok p0.Message) (fun r0 _ => ?_)
  refine le_cond rfl (fun _ => ?_) (fun _ => ?_)
  · skip
    exact le_ret (by first | rfl | (simp only [EN, brokerlaw06_small_out]; done) | (simp only [EN, brokerlaw06_small_out]; rfl))
  · skip
    refine le_call (good := good) (fun y => ⟨y, rfl⟩) brokerlaw06_message_inj (brokerlaw06_message_ok p0.Will.Message) (fun r1 _ => ?_)
    refine le_cond rfl (fun _ => ?_) (fun _ => ?_)
    · skip
      exact le_ret (by first | rfl | (simp only [EN, brokerlaw06_small_out]; done) | (simp only [EN, brokerlaw06_small_out]; rfl))
    · skip
      refine le_call (good := good) (fun y => ⟨y, rfl⟩) brokerlaw06_text_inj (brokerlaw06_text_ok p0.Client) (fun r2 _ => ?_)
      refine le_cond rfl (fun _ => ?_) (fun _ => ?_)
      · skip
        exact le_ret (by first | rfl | (simp only [EN, brokerlaw06_small_out]; done) | (simp only [EN, brokerlaw06_small_out]; rfl))
      · skip
        refine le_call (good := good) (fun y => ⟨y, rfl⟩) brokerlaw06_text_inj (brokerlaw06_text_ok p0.User) (fun r3 _ => ?_)
        refine le_cond rfl (fun _ => ?_) (fun _ => ?_)
        · skip
          exact le_ret (by first | rfl | (simp only [EN, brokerlaw06_small_out]; done) | (simp only [EN, brokerlaw06_small_out]; rfl))
        · skip
          refine le_cond (by simp only [EN]) (fun _ => ?_) (fun _ => ?_)
          · skip
            exact le_ret (by first | rfl | (simp only [EN, brokerlaw06_small_out]; done) | (simp only [EN, brokerlaw06_small_out]; rfl))
          · skip
            refine le_cond (by simp only [EN]) (fun _ => ?_) (fun _ => ?_)
            · skip
              exact le_ret (by first | rfl | (simp only [EN, brokerlaw06_small_out]; done) | (simp only [EN, brokerlaw06_small_out]; rfl))
            · skip
              refine le_cond (by simp only [EN]) (fun _ => ?_) (fun _ => ?_)
              · skip
                exact le_ret (by first | rfl | (simp only [EN, brokerlaw06_small_out]; done) | (simp only [EN, brokerlaw06_small_out]; rfl))
              · skip
                exact brokerlaw06_small_j3_ok p0
def C21 (Γ : Fun)  : CFun := bindC Γ
theorem T21 (Γ : Fun)  (Λ2 J : Lam) (p0 : Int) (p1 : Int) : bodyC SE (C21 Γ) Λ2 J 21 [.d (.int .i64 p0), .d (.int .i64 p1)] [] [] =
  (some (.ret [.agg [.d (.int .i64 3), .d (.int .i64 p1), .d (.bool false), .d (.str ([97] : Str)), .d (.str ([] : Str)), .d (.int .i64 p0), .d (.bool false), .d (.int .i64 0), .d (.int .i64 0), .d (.str ([] : Str)), .d (.int .i64 0), .d (.sl api_Prop.ks (List.map api_Prop.enc [])), .d (.str ([] : Str)), .d (.str ([] : Str)), .d (.bool false), .d (.int .i64 0), .d (.int .i64 0), .d (.int .i64 0), .d (.bool false), .d (.int .i64 0), .d (.str ([] : Str)), .d (.str ([] : Str)), .d (.int .i64 0), .d (.bool false), .d (.int .i64 0), .d (.int .i64 0), .d (.str ([] : Str)), .d (.int .i64 0), .d (.sl api_Prop.ks (List.map api_Prop.enc [])), .d (.bool false), .d (.int .i64 0), .d (.sl api_Sub.ks (List.map api_Sub.enc [])), .d (.sl [.str] (List.map encS [])), .d (.sl [.int .i64] (List.map (encI .i64) []))]] [] [])) := by kernel_rfl
abbrev X21 : CFun := C21 (callG SE good)
theorem Cr21 : C21 (callG SE good) = bindC (callG SE good) := by unfold C21; rfl
theorem brokerlaw06_publish_ok (p0 : Int) (p1 : Int) : Le (Option.map brokerlaw06_publish_out (brokerlaw06_publish p0 p1)) (callW SE 21 [.d (.int .i64 p0), .d (.int .i64 p1)] [] []) := by
  refine le_bodyC Cr21 ?_
  refine Le.trans ?_ (le_of_eq (T21 _ _ _  p0 p1).symm)
  unfold brokerlaw06_publish
  exact le_ret (by first | rfl | (simp only [EN, brokerlaw06_publish_out]; done) | (simp only [EN, brokerlaw06_publish_out]; rfl))
def C19 (Γ : Fun)  : CFun := bindC Γ
theorem T19 (Γ : Fun)  (Λ2 J : Lam) (p0 : api_Packet) : bodyC SE (C19 Γ) Λ2 J 19 [api_Packet.av p0] [] [] =
  cond (p0.Kind == 3) (
   cond (p0.Message.Level == 1) (
    (some (.ret [.agg [.d (.int .i64 4), .d (.int .i64 p0.ID), .d (.bool false), .d (.str ([] : Str)), .d (.str ([] : Str)), .d (.int .i64 0), .d (.bool false), .d (.int .i64 0), .d (.int .i64 0), .d (.str ([] : Str)), .d (.int .i64 0), .d (.sl api_Prop.ks (List.map api_Prop.enc [])), .d (.str ([] : Str)), .d (.str ([] : Str)), .d (.bool false), .d (.int .i64 0), .d (.int .i64 0), .d (.int .i64 0), .d (.bool false), .d (.int .i64 0), .d (.str ([] : Str)), .d (.str ([] : Str)), .d (.int .i64 0), .d (.bool false), .d (.int .i64 0), .d (.int .i64 0), .d (.str ([] : Str)), .d (.int .i64 0), .d (.sl api_Prop.ks (List.map api_Prop.enc [])), .d (.bool false), .d (.int .i64 0), .d (.sl api_Sub.ks (List.map api_Sub.enc [])), .d (.sl [.str] (List.map encS [])), .d (.sl [.int .i64] (List.map (encI .i64) []))], .d (.bool true)] [] []))) (
   cond (p0.Kind == 3) (
    cond (p0.Message.Level == 2) (
     (some (.ret [.agg [.d (.int .i64 5), .d (.int .i64 p0.ID), .d (.bool false), .d (.str ([] : Str)), .d (.str ([] : Str)), .d (.int .i64 0), .d (.bool false), .d (.int .i64 0), .d (.int .i64 0), .d (.str ([] : Str)), .d (.int .i64 0), .d (.sl api_Prop.ks (List.map api_Prop.enc [])), .d (.str ([] : Str)), .d (.str ([] : Str)), .d (.bool false), .d (.int .i64 0), .d (.int .i64 0), .d (.int .i64 0), .d (.bool false), .d (.int .i64 0), .d (.str ([] : Str)), .d (.str ([] : Str)), .d (.int .i64 0), .d (.bool false), .d (.int .i64 0), .d (.int .i64 0), .d (.str ([] : Str)), .d (.int .i64 0), .d (.sl api_Prop.ks (List.map api_Prop.enc [])), .d (.bool false), .d (.int .i64 0), .d (.sl api_Sub.ks (List.map api_Sub.enc [])), .d (.sl [.str] (List.map encS [])), .d (.sl [.int .i64] (List.map (encI .i64) []))], .d (.bool true)] [] []))) (
    cond (p0.Kind == 5) (
     (some (.ret [.agg [.d (.int .i64 6), .d (.int .i64 p0.ID), .d (.bool false), .d (.str ([] : Str)), .d (.str ([] : Str)), .d (.int .i64 0), .d (.bool false), .d (.int .i64 0), .d (.int .i64 0), .d (.str ([] : Str)), .d (.int .i64 0), .d (.sl api_Prop.ks (List.map api_Prop.enc [])), .d (.str ([] : Str)), .d (.str ([] : Str)), .d (.bool false), .d (.int .i64 0), .d (.int .i64 0), .d (.int .i64 0), .d (.bool false), .d (.int .i64 0), .d (.str ([] : Str)), .d (.str ([] : Str)), .d (.int .i64 0), .d (.bool false), .d (.int .i64 0), .d (.int .i64 0), .d (.str ([] : Str)), .d (.int .i64 0), .d (.sl api_Prop.ks (List.map api_Prop.enc [])), .d (.bool false), .d (.int .i64 0), .d (.sl api_Sub.ks (List.map api_Sub.enc [])), .d (.sl [.str] (List.map encS [])), .d (.sl [.int .i64] (List.map (encI .i64) []))], .d (.bool true)] [] []))) (
    cond (p0.Kind == 6) (
     (some (.ret [.agg [.d (.int .i64 7), .d (.int .i64 p0.ID), .d (.bool false), .d (.str ([] : Str)), .d (.str ([] : Str)), .d (.int .i64 0), .d (.bool false), .d (.int .i64 0), .d (.int .i64 0), .d (.str ([] : Str)), .d (.int .i64 0), .d (.sl api_Prop.ks (List.map api_Prop.enc [])), .d (.str ([] : Str)), .d (.str ([] : Str)), .d (.bool false), .d (.int .i64 0), .d (.int .i64 0), .d (.int .i64 0), .d (.bool false), .d (.int .i64 0), .d (.str ([] : Str)), .d (.str ([] : Str)), .d (.int .i64 0), .d (.bool false), .d (.int .i64 0), .d (.int .i64 0), .d (.str ([] : Str)), .d (.int .i64 0), .d (.sl api_Prop.ks (List.map api_Prop.enc [])), .d (.bool false), .d (.int .i64 0), .d (.sl api_Sub.ks (List.map api_Sub.enc [])), .d (.sl [.str] (List.map encS [])), .d (.sl [.int .i64] (List.map (encI .i64) []))], .d (.bool true)] [] []))) (
    cond (p0.Kind == 12) (
     (some (.ret [.agg [.d (.int .i64 13), .d (.int .i64 p0.ID), .d (.bool false), .d (.str ([] : Str)), .d (.str ([] : Str)), .d (.int .i64 0), .d (.bool false), .d (.int .i64 0), .d (.int .i64 0), .d (.str ([] : Str)), .d (.int .i64 0), .d (.sl api_Prop.ks (List.map api_Prop.enc [])), .d (.str ([] : Str)), .d (.str ([] : Str)), .d (.bool false), .d (.int .i64 0), .d (.int .i64 0), .d (.int .i64 0), .d (.bool false), .d (.int .i64 0), .d (.str ([] : Str)), .d (.str ([] : Str)), .d (.int .i64 0), .d (.bool false), .d (.int .i64 0), .d (.int .i64 0), .d (.str ([] : Str)), .d (.int .i64 0), .d (.sl api_Prop.ks (List.map api_Prop.enc [])), .d (.bool false), .d (.int .i64 0), .d (.sl api_Sub.ks (List.map api_Sub.enc [])), .d (.sl [.str] (List.map encS [])), .d (.sl [.int .i64] (List.map (encI .i64) []))], .d (.bool true)] [] []))) (
    (some (.ret [.agg [.d (.int .i64 0), .d (.int .i64 0), .d (.bool false), .d (.str ([] : Str)), .d (.str ([] : Str)), .d (.int .i64 0), .d (.bool false), .d (.int .i64 0), .d (.int .i64 0), .d (.str ([] : Str)), .d (.int .i64 0), .d (.sl api_Prop.ks (List.map api_Prop.enc [])), .d (.str ([] : Str)), .d (.str ([] : Str)), .d (.bool false), .d (.int .i64 0), .d (.int .i64 0), .d (.int .i64 0), .d (.bool false), .d (.int .i64 0), .d (.str ([] : Str)), .d (.str ([] : Str)), .d (.int .i64 0), .d (.bool false), .d (.int .i64 0), .d (.int .i64 0), .d (.str ([] : Str)), .d (.int .i64 0), .d (.sl api_Prop.ks (List.map api_Prop.enc [])), .d (.bool false), .d (.int .i64 0), .d (.sl api_Sub.ks (List.map api_Sub.enc [])), .d (.sl [.str] (List.map encS [])), .d (.sl [.int .i64] (List.map (encI .i64) []))], .d (.bool false)] [] []))))))) (
   cond (p0.Kind == 5) (
    (some (.ret [.agg [.d (.int .i64 6), .d (.int .i64 p0.ID), .d (.bool false), .d (.str ([] : Str)), .d (.str ([] : Str)), .d (.int .i64 0), .d (.bool false), .d (.int .i64 0), .d (.int .i64 0), .d (.str ([] : Str)), .d (.int .i64 0), .d (.sl api_Prop.ks (List.map api_Prop.enc [])), .d (.str ([] : Str)), .d (.str ([] : Str)), .d (.bool false), .d (.int .i64 0), .d (.int .i64 0), .d (.int .i64 0), .d (.bool false), .d (.int .i64 0), .d (.str ([] : Str)), .d (.str ([] : Str)), .d (.int .i64 0), .d (.bool false), .d (.int .i64 0), .d (.int .i64 0), .d (.str ([] : Str)), .d (.int .i64 0), .d (.sl api_Prop.ks (List.map api_Prop.enc [])), .d (.bool false), .d (.int .i64 0), .d (.sl api_Sub.ks (List.map api_Sub.enc [])), .d (.sl [.str] (List.map encS [])), .d (.sl [.int .i64] (List.map (encI .i64) []))], .d (.bool true)] [] []))) (
   cond (p0.Kind == 6) (
    (some (.ret [.agg [.d (.int .i64 7), .d (.int .i64 p0.ID), .d (.bool false), .d (.str ([] : Str)), .d (.str ([] : Str)), .d (.int .i64 0), .d (.bool false), .d (.int .i64 0), .d (.int .i64 0), .d (.str ([] : Str)), .d (.int .i64 0), .d (.sl api_Prop.ks (List.map api_Prop.enc [])), .d (.str ([] : Str)), .d (.str ([] : Str)), .d (.bool false), .d (.int .i64 0), .d (.int .i64 0), .d (.int .i64 0), .d (.bool false), .d (.int .i64 0), .d (.str ([] : Str)), .d (.str ([] : Str)), .d (.int .i64 0), .d (.bool false), .d (.int .i64 0), .d (.int .i64 0), .d (.str ([] : Str)), .d (.int .i64 0), .d (.sl api_Prop.ks (List.map api_Prop.enc [])), .d (.bool false), .d (.int .i64 0), .d (.sl api_Sub.ks (List.map api_Sub.enc [])), .d (.sl [.str] (List.map encS [])), .d (.sl [.int .i64] (List.map (encI .i64) []))], .d (.bool true)] [] []))) (
   cond (p0.Kind == 12) (
    (some (.ret [.agg [.d (.int .i64 13), .d (.int .i64 p0.ID), .d (.bool false), .d (.str ([] : Str)), .d (.str ([] : Str)), .d (.int .i64 0), .d (.bool false), .d (.int .i64 0), .d (.int .i64 0), .d (.str ([] : Str)), .d (.int .i64 0), .d (.sl api_Prop.ks (List.map api_Prop.enc [])), .d (.str ([] : Str)), .d (.str ([] : Str)), .d (.bool false), .d (.int .i64 0), .d (.int .i64 0), .d (.int .i64 0), .d (.bool false), .d (.int .i64 0), .d (.str ([] : Str)), .d (.str ([] : Str)), .d (.int .i64 0), .d (.bool false), .d (.int .i64 0), .d (.int .i64 0), .d (.str ([] : Str)), .d (.int .i64 0), .d (.sl api_Prop.ks (List.map api_Prop.enc [])), .d (.bool false), .d (.int .i64 0), .d (.sl api_Sub.ks (List.map api_Sub.enc [])), .d (.sl [.str] (List.map encS [])), .d (.sl [.int .i64] (List.map (encI .i64) []))], .d (.bool true)] [] []))) (
   (some (.ret [.agg [.d (.int .i64 0), .d (.int .i64 0), .d (.bool false), .d (.str ([] : Str)), .d (.str ([] : Str)), .d (.int .i64 0), .d (.bool false), .d (.int .i64 0), .d (.int .i64 0), .d (.str ([] : Str)), .d (.int .i64 0), .d (.sl api_Prop.ks (List.map api_Prop.enc [])), .d (.str ([] : Str)), .d (.str ([] : Str)), .d (.bool false), .d (.int .i64 0), .d (.int .i64 0), .d (.int .i64 0), .d (.bool false), .d (.int .i64 0), .d (.str ([] : Str)), .d (.str ([] : Str)), .d (.int .i64 0), .d (.bool false), .d (.int .i64 0), .d (.int .i64 0), .d (.str ([] : Str)), .d (.int .i64 0), .d (.sl api_Prop.ks (List.map api_Prop.enc [])), .d (.bool false), .d (.int .i64 0), .d (.sl api_Sub.ks (List.map api_Sub.enc [])), .d (.sl [.str] (List.map encS [])), .d (.sl [.int .i64] (List.map (encI .i64) []))], .d (.bool false)] [] [])))))))) (
  cond (p0.Kind == 3) (
   cond (p0.Message.Level == 2) (
    (some (.ret [.agg [.d (.int .i64 5), .d (.int .i64 p0.ID), .d (.bool false), .d (.str ([] : Str)), .d (.str ([] : Str)), .d (.int .i64 0), .d (.bool false), .d (.int .i64 0), .d (.int .i64 0), .d (.str ([] : Str)), .d (.int .i64 0), .d (.sl api_Prop.ks (List.map api_Prop.enc [])), .d (.str ([] : Str)), .d (.str ([] : Str)), .d (.bool false), .d (.int .i64 0), .d (.int .i64 0), .d (.int .i64 0), .d (.bool false), .d (.int .i64 0), .d (.str ([] : Str)), .d (.str ([] : Str)), .d (.int .i64 0), .d (.bool false), .d (.int .i64 0), .d (.int .i64 0), .d (.str ([] : Str)), .d (.int .i64 0), .d (.sl api_Prop.ks (List.map api_Prop.enc [])), .d (.bool false), .d (.int .i64 0), .d (.sl api_Sub.ks (List.map api_Sub.enc [])), .d (.sl [.str] (List.map encS [])), .d (.sl [.int .i64] (List.map (encI .i64) []))], .d (.bool true)] [] []))) (
   cond (p0.Kind == 5) (
    (some (.ret [.agg [.d (.int .i64 6), .d (.int .i64 p0.ID), .d (.bool false), .d (.str ([] : Str)), .d (.str ([] : Str)), .d (.int .i64 0), .d (.bool false), .d (.int .i64 0), .d (.int .i64 0), .d (.str ([] : Str)), .d (.int .i64 0), .d (.sl api_Prop.ks (List.map api_Prop.enc [])), .d (.str ([] : Str)), .d (.str ([] : Str)), .d (.bool false), .d (.int .i64 0), .d (.int .i64 0), .d (.int .i64 0), .d (.bool false), .d (.int .i64 0), .d (.str ([] : Str)), .d (.str ([] : Str)), .d (.int .i64 0), .d (.bool false), .d (.int .i64 0), .d (.int .i64 0), .d (.str ([] : Str)), .d (.int .i64 0), .d (.sl api_Prop.ks (List.map api_Prop.enc [])), .d (.bool false), .d (.int .i64 0), .d (.sl api_Sub.ks (List.map api_Sub.enc [])), .d (.sl [.str] (List.map encS [])), .d (.sl [.int .i64] (List.map (encI .i64) []))], .d (.bool true)] [] []))) (
   cond (p0.Kind == 6) (
    (some (.ret [.agg [.d (.int .i64 7), .d (.int .i64 p0.ID), .d (.bool false), .d (.str ([] : Str)), .d (.str ([] : Str)), .d (.int .i64 0), .d (.bool false), .d (.int .i64 0), .d (.int .i64 0), .d (.str ([] : Str)), .d (.int .i64 0), .d (.sl api_Prop.ks (List.map api_Prop.enc [])), .d (.str ([] : Str)), .d (.str ([] : Str)), .d (.bool false), .d (.int .i64 0), .d (.int .i64 0), .d (.int .i64 0), .d (.bool false), .d (.int .i64 0), .d (.str ([] : Str)), .d (.str ([] : Str)), .d (.int .i64 0), .d (.bool false), .d (.int .i64 0), .d (.int .i64 0), .d (.str ([] : Str)), .d (.int .i64 0), .d (.sl api_Prop.ks (List.map api_Prop.enc [])), .d (.bool false), .d (.int .i64 0), .d (.sl api_Sub.ks (List.map api_Sub.enc [])), .d (.sl [.str] (List.map encS [])), .d (.sl [.int .i64] (List.map (encI .i64) []))], .d (.bool true)] [] []))) (
   cond (p0.Kind == 12) (
    (some (.ret [.agg [.d (.int .i64 13), .d (.int .i64 p0.ID), .d (.bool false), .d (.str ([] : Str)), .d (.str ([] : Str)), .d (.int .i64 0), .d (.bool false), .d (.int .i64 0), .d (.int .i64 0), .d (.str ([] : Str)), .d (.int .i64 0), .d (.sl api_Prop.ks (List.map api_Prop.enc [])), .d (.str ([] : Str)), .d (.str ([] : Str)), .d (.bool false), .d (.int .i64 0), .d (.int .i64 0), .d (.int .i64 0), .d (.bool false), .d (.int .i64 0), .d (.str ([] : Str)), .d (.str ([] : Str)), .d (.int .i64 0), .d (.bool false), .d (.int .i64 0), .d (.int .i64 0), .d (.str ([] : Str)), .d (.int .i64 0), .d (.sl api_Prop.ks (List.map api_Prop.enc [])), .d (.bool false), .d (.int .i64 0), .d (.sl api_Sub.ks (List.map api_Sub.enc [])), .d (.sl [.str] (List.map encS [])), .d (.sl [.int .i64] (List.map (encI .i64) []))], .d (.bool true)] [] []))) (
   (some (.ret [.agg [.d (.int .i64 0), .d (.int .i64 0), .d (.bool false), .d (.str ([] : Str)), .d (.str ([] : Str)), .d (.int .i64 0), .d (.bool false), .d (.int .i64 0), .d (.int .i64 0), .d (.str ([] : Str)), .d (.int .i64 0), .d (.sl api_Prop.ks (List.map api_Prop.enc [])), .d (.str ([] : Str)), .d (.str ([] : Str)), .d (.bool false), .d (.int .i64 0), .d (.int .i64 0), .d (.int .i64 0), .d (.bool false), .d (.int .i64 0), .d (.str ([] : Str)), .d (.str ([] : Str)), .d (.int .i64 0), .d (.bool false), .d (.int .i64 0), .d (.int .i64 0), .d (.str ([] : Str)), .d (.int .i64 0), .d (.sl api_Prop.ks (List.map api_Prop.enc [])), .d (.bool false), .d (.int .i64 0), .d (.sl api_Sub.ks (List.map api_Sub.enc [])), .d (.sl [.str] (List.map encS [])), .d (.sl [.int .i64] (List.map (encI .i64) []))], .d (.bool false)] [] []))))))) (
  cond (p0.Kind == 5) (
   (some (.ret [.agg [.d (.int .i64 6), .d (.int .i64 p0.ID), .d (.bool false), .d (.str ([] : Str)), .d (.str ([] : Str)), .d (.int .i64 0), .d (.bool false), .d (.int .i64 0), .d (.int .i64 0), .d (.str ([] : Str)), .d (.int .i64 0), .d (.sl api_Prop.ks (List.map api_Prop.enc [])), .d (.str ([] : Str)), .d (.str ([] : Str)), .d (.bool false), .d (.int .i64 0), .d (.int .i64 0), .d (.int .i64 0), .d (.bool false), .d (.int .i64 0), .d (.str ([] : Str)), .d (.str ([] : Str)), .d (.int .i64 0), .d (.bool false), .d (.int .i64 0), .d (.int .i64 0), .d (.str ([] : Str)), .d (.int .i64 0), .d (.sl api_Prop.ks (List.map api_Prop.enc [])), .d (.bool false), .d (.int .i64 0), .d (.sl api_Sub.ks (List.map api_Sub.enc [])), .d (.sl [.str] (List.map encS [])), .d (.sl [.int .i64] (List.map (encI .i64) []))], .d (.bool true)] [] []))) (
  cond (p0.Kind == 6) (
   (some (.ret [.agg [.d (.int .i64 7), .d (.int .i64 p0.ID), .d (.bool false), .d (.str ([] : Str)), .d (.str ([] : Str)), .d (.int .i64 0), .d (.bool false), .d (.int .i64 0), .d (.int .i64 0), .d (.str ([] : Str)), .d (.int .i64 0), .d (.sl api_Prop.ks (List.map api_Prop.enc [])), .d (.str ([] : Str)), .d (.str ([] : Str)), .d (.bool false), .d (.int .i64 0), .d (.int .i64 0), .d (.int .i64 0), .d (.bool false), .d (.int .i64 0), .d (.str ([] : Str)), .d (.str ([] : Str)), .d (.int .i64 0), .d (.bool false), .d (.int .i64 0), .d (.int .i64 0), .d (.str ([] : Str)), .d (.int .i64 0), .d (.sl api_Prop.ks (List.map api_Prop.enc [])), .d (.bool false), .d (.int .i64 0), .d (.sl api_Sub.ks (List.map api_Sub.enc [])), .d (.sl [.str] (List.map encS [])), .d (.sl [.int .i64] (List.map (encI .i64) []))], .d (.bool true)] [] []))) (
  cond (p0.Kind == 12) (
   (some (.ret [.agg [.d (.int .i64 13), .d (.int .i64 p0.ID), .d (.bool false), .d (.str ([] : Str)), .d (.str ([] : Str)), .d (.int .i64 0), .d (.bool false), .d (.int .i64 0), .d (.int .i64 0), .d (.str ([] : Str)), .d (.int .i64 0), .d (.sl api_Prop.ks (List.map api_Prop.enc [])), .d (.str ([] : Str)), .d (.str ([] : Str)), .d (.bool false), .d (.int .i64 0), .d (.int .i64 0), .d (.int .i64 0), .d (.bool false), .d (.int .i64 0), .d (.str ([] : Str)), .d (.str ([] : Str)), .d (.int .i64 0), .d (.bool false), .d (.int .i64 0), .d (.int .i64 0), .d (.str ([] : Str)), .d (.int .i64 0), .d (.sl api_Prop.ks (List.map api_Prop.enc [])), .d (.bool false), .d (.int .i64 0), .d (.sl api_Sub.ks (List.map api_Sub.enc [])), .d (.sl [.str] (List.map encS [])), .d (.sl [.int .i64] (List.map (encI .i64) []))], .d (.bool true)] [] []))) (
  (some (.ret [.agg [.d (.int .i64 0), .d (.int .i64 0), .d (.bool false), .d (.str ([] : Str)), .d (.str ([] : Str)), .d (.int .i64 0), .d (.bool false), .d (.int .i64 0), .d (.int .i64 0), .d (.str ([] : Str)), .d (.int .i64 0), .d (.sl api_Prop.ks (List.map api_Prop.enc [])), .d (.str ([] : Str)), .d (.str ([] : Str)), .d (.bool false), .d (.int .i64 0), .d (.int .i64 0), .d (.int .i64 0), .d (.bool false), .d (.int .i64 0), .d (.str ([] : Str)), .d (.str ([] : Str)), .d (.int .i64 0), .d (.bool false), .d (.int .i64 0), .d (.int .i64 0), .d (.str ([] : Str)), .d (.int .i64 0), .d (.sl api_Prop.ks (List.map api_Prop.enc [])), .d (.bool false), .d (.int .i64 0), .d (.sl api_Sub.ks (List.map api_Sub.enc [])), .d (.sl [.str] (List.map encS [])), .d (.sl [.int .i64] (List.map (encI .i64) []))], .d (.bool false)] [] []))))))) := by kernel_rfl
abbrev X19 : CFun := C19 (callG SE good)
theorem Cr19 : C19 (callG SE good) = bindC (callG SE good) := by unfold C19; rfl
theorem packet_Answer_ok (p0 : api_Packet) : Le (Option.map packet_Answer_out (packet_Answer p0)) (callW SE 19 [api_Packet.av p0] [] []) := by
  refine le_bodyC Cr19 ?_
  refine Le.trans ?_ (le_of_eq (T19 _ _ _  p0).symm)
  unfold packet_Answer
  refine le_cond rfl (fun _ => ?_) (fun _ => ?_)
  · skip
    refine le_cond rfl (fun _ => ?_) (fun _ => ?_)
    · skip
      exact le_ret (by first | rfl | (simp only [EN, packet_Answer_out]; done) | (simp only [EN, packet_Answer_out]; rfl))
    · skip
      refine le_cond rfl (fun _ => ?_) (fun _ => ?_)
      · skip
        refine le_cond rfl (fun _ => ?_) (fun _ => ?_)
        · skip
          exact le_ret (by first | rfl | (simp only [EN, packet_Answer_out]; done) | (simp only [EN, packet_Answer_out]; rfl))
        · skip
          refine le_cond rfl (fun _ => ?_) (fun _ => ?_)
          · skip
            exact le_ret (by first | rfl | (simp only [EN, packet_Answer_out]; done) | (simp only [EN, packet_Answer_out]; rfl))
          · skip
            refine le_cond rfl (fun _ => ?_) (fun _ => ?_)
            · skip
              exact le_ret (by first | rfl | (simp only [EN, packet_Answer_out]; done) | (simp only [EN, packet_Answer_out]; rfl))
            · skip
              refine le_cond rfl (fun _ => ?_) (fun _ => ?_)
              · skip
                exact le_ret (by first | rfl | (simp only [EN, packet_Answer_out]; done) | (simp only [EN, packet_Answer_out]; rfl))
              · skip
                exact le_ret (by first | rfl | (simp only [EN, packet_Answer_out]; done) | (simp only [EN, packet_Answer_out]; rfl))
      · skip
        refine le_cond rfl (fun _ => ?_) (fun _ => ?_)
        · skip
          exact le_ret (by first | rfl | (simp only [EN, packet_Answer_out]; done) | (simp only [EN, packet_Answer_out]; rfl))
        · skip
          refine le_cond rfl (fun _ => ?_) (fun _ => ?_)
          · skip
            exact le_ret (by first | rfl | (simp only [EN, packet_Answer_out]; done) | (simp only [EN, packet_Answer_out]; rfl))
          · skip
            refine le_cond rfl (fun _ => ?_) (fun _ => ?_)
            · skip
              exact le_ret (by first | rfl | (simp only [EN, packet_Answer_out]; done) | (simp only [EN, packet_Answer_out]; rfl))
            · skip
              exact le_ret (by first | rfl | (simp only [EN, packet_Answer_out]; done) | (simp only [EN, packet_Answer_out]; rfl))
  · skip
    refine le_cond rfl (fun _ => ?_) (fun _ => ?_)
    · skip
      refine le_cond rfl (fun _ => ?_) (fun _ => ?_)
      · skip
        exact le_ret (by first | rfl | (simp only [EN, packet_Answer_out]; done) | (simp only [EN, packet_Answer_out]; rfl))
      · skip
        refine le_cond rfl (fun _ => ?_) (fun _ => ?_)
        · skip
          exact le_ret (by first | rfl | (simp only [EN, packet_Answer_out]; done) | (simp only [EN, packet_Answer_out]; rfl))
        · skip
          refine le_cond rfl (fun _ => ?_) (fun _ => ?_)
          · skip
            exact le_ret (by first | rfl | (simp only [EN, packet_Answer_out]; done) | (simp only [EN, packet_Answer_out]; rfl))
          · skip
            refine le_cond rfl (fun _ => ?_) (fun _ => ?_)
            · skip
              exact le_ret (by first | rfl | (simp only [EN, packet_Answer_out]; done) | (simp only [EN, packet_Answer_out]; rfl))
            · skip
              exact le_ret (by first | rfl | (simp only [EN, packet_Answer_out]; done) | (simp only [EN, packet_Answer_out]; rfl))
    · skip
      refine le_cond rfl (fun _ => ?_) (fun _ => ?_)
      · skip
        exact le_ret (by first | rfl | (simp only [EN, packet_Answer_out]; done) | (simp only [EN, packet_Answer_out]; rfl))
      · skip
        refine le_cond rfl (fun _ => ?_) (fun _ => ?_)
        · skip
          exact le_ret (by first | rfl | (simp only [EN, packet_Answer_out]; done) | (simp only [EN, packet_Answer_out]; rfl))
        · skip
          refine le_cond rfl (fun _ => ?_) (fun _ => ?_)
          · skip
            exact le_ret (by first | rfl | (simp only [EN, packet_Answer_out]; done) | (simp only [EN, packet_Answer_out]; rfl))
          · skip
            exact le_ret (by first | rfl | (simp only [EN, packet_Answer_out]; done) | (simp only [EN, packet_Answer_out]; rfl))
def C24 (Γ : Fun)  : CFun := bindC Γ
theorem T24 (Γ : Fun)  (Λ2 J : Lam) (p0 : Int) (p1 : Int) (p2 : Int) : bodyC SE (C24 Γ) Λ2 J 24 [.d (.int .i64 p0), .d (.int .i64 p1), .d (.int .i64 p2)] [] [] =
  cond (decide (p0 ≥ p1)) (
   (some (.ret [.d (.bool (decide (p0 ≤ p2)))] [] []))) (
  (some (.ret [.d (.bool false)] [] []))) := by kernel_rfl
abbrev X24 : CFun := C24 (callG SE good)
theorem Cr24 : C24 (callG SE good) = bindC (callG SE good) := by unfold C24; rfl
theorem packet_is_ok (p0 : Int) (p1 : Int) (p2 : Int) : Le (Option.map packet_is_out (packet_is p0 p1 p2)) (callW SE 24 [.d (.int .i64 p0), .d (.int .i64 p1), .d (.int .i64 p2)] [] []) := by
  refine le_bodyC Cr24 ?_
  refine Le.trans ?_ (le_of_eq (T24 _ _ _  p0 p1 p2).symm)
  unfold packet_is
  refine le_cond rfl (fun _ => ?_) (fun _ => ?_)
  · skip
    exact le_ret (by first | rfl | (simp only [EN, packet_is_out]; done) | (simp only [EN, packet_is_out]; rfl))
  · skip
    exact le_ret (by first | rfl | (simp only [EN, packet_is_out]; done) | (simp only [EN, packet_is_out]; rfl))
def C25 (Γ : Fun)  : CFun := bindC Γ
theorem T25 (Γ : Fun)  (Λ2 J : Lam) (p0 : api_Packet) : bodyC SE (C25 Γ) Λ2 J 25 [api_Packet.av p0] [] [] =
  cond (p0.Kind == 1) (
   (some (.ret [.agg [.d (.int .i64 p0.Kind), .d (.int .i64 0), .d (.bool false), .d (.str ([] : Str)), .d (.str ([] : Str)), .d (.int .i64 0), .d (.bool false), .d (.int .i64 0), .d (.int .i64 0), .d (.str ([] : Str)), .d (.int .i64 0), .d (.sl api_Prop.ks (List.map api_Prop.enc [])), .d (.str p0.Client), .d (.str p0.User), .d (.bool p0.Clean), .d (.int .i64 p0.Keep), .d (.int .i64 p0.Expiry), .d (.int .i64 p0.Window), .d (.bool p0.Will.Set), .d (.int .i64 p0.Will.Delay), .d (.str p0.Will.Message.Topic), .d (.str p0.Will.Message.Payload), .d (.int .i64 p0.Will.Message.Level), .d (.bool p0.Will.Message.Retain), .d (.int .i64 p0.Will.Message.Priority), .d (.int .i64 p0.Will.Message.Expires), .d (.str p0.Will.Message.From), .d (.int .i64 p0.Will.Message.Seq), .d (.sl api_Prop.ks (List.map api_Prop.enc p0.Will.Message.Props)), .d (.bool false), .d (.int .i64 0), .d (.sl api_Sub.ks (List.map api_Sub.enc [])), .d (.sl [.str] (List.map encS [])), .d (.sl [.int .i64] (List.map (encI .i64) []))]] [] []))) (
  cond (p0.Kind == 2) (
   (some (.ret [.agg [.d (.int .i64 p0.Kind), .d (.int .i64 0), .d (.bool false), .d (.str ([] : Str)), .d (.str ([] : Str)), .d (.int .i64 0), .d (.bool false), .d (.int .i64 0), .d (.int .i64 0), .d (.str ([] : Str)), .d (.int .i64 0), .d (.sl api_Prop.ks (List.map api_Prop.enc [])), .d (.str ([] : Str)), .d (.str ([] : Str)), .d (.bool false), .d (.int .i64 0), .d (.int .i64 0), .d (.int .i64 0), .d (.bool false), .d (.int .i64 0), .d (.str ([] : Str)), .d (.str ([] : Str)), .d (.int .i64 0), .d (.bool false), .d (.int .i64 0), .d (.int .i64 0), .d (.str ([] : Str)), .d (.int .i64 0), .d (.sl api_Prop.ks (List.map api_Prop.enc [])), .d (.bool p0.Present), .d (.int .i64 p0.Code), .d (.sl api_Sub.ks (List.map api_Sub.enc [])), .d (.sl [.str] (List.map encS [])), .d (.sl [.int .i64] (List.map (encI .i64) []))]] [] []))) (
  cond (p0.Kind == 3) (
   (some (.ret [.agg [.d (.int .i64 p0.Kind), .d (.int .i64 p0.ID), .d (.bool p0.Dup), .d (.str p0.Message.Topic), .d (.str p0.Message.Payload), .d (.int .i64 p0.Message.Level), .d (.bool p0.Message.Retain), .d (.int .i64 p0.Message.Priority), .d (.int .i64 p0.Message.Expires), .d (.str p0.Message.From), .d (.int .i64 p0.Message.Seq), .d (.sl api_Prop.ks (List.map api_Prop.enc p0.Message.Props)), .d (.str ([] : Str)), .d (.str ([] : Str)), .d (.bool false), .d (.int .i64 0), .d (.int .i64 0), .d (.int .i64 0), .d (.bool false), .d (.int .i64 0), .d (.str ([] : Str)), .d (.str ([] : Str)), .d (.int .i64 0), .d (.bool false), .d (.int .i64 0), .d (.int .i64 0), .d (.str ([] : Str)), .d (.int .i64 0), .d (.sl api_Prop.ks (List.map api_Prop.enc [])), .d (.bool false), .d (.int .i64 0), .d (.sl api_Sub.ks (List.map api_Sub.enc [])), .d (.sl [.str] (List.map encS [])), .d (.sl [.int .i64] (List.map (encI .i64) []))]] [] []))) (
  cond (p0.Kind == 4) (
   (some (.ret [.agg [.d (.int .i64 p0.Kind), .d (.int .i64 p0.ID), .d (.bool false), .d (.str ([] : Str)), .d (.str ([] : Str)), .d (.int .i64 0), .d (.bool false), .d (.int .i64 0), .d (.int .i64 0), .d (.str ([] : Str)), .d (.int .i64 0), .d (.sl api_Prop.ks (List.map api_Prop.enc [])), .d (.str ([] : Str)), .d (.str ([] : Str)), .d (.bool false), .d (.int .i64 0), .d (.int .i64 0), .d (.int .i64 0), .d (.bool false), .d (.int .i64 0), .d (.str ([] : Str)), .d (.str ([] : Str)), .d (.int .i64 0), .d (.bool false), .d (.int .i64 0), .d (.int .i64 0), .d (.str ([] : Str)), .d (.int .i64 0), .d (.sl api_Prop.ks (List.map api_Prop.enc [])), .d (.bool false), .d (.int .i64 0), .d (.sl api_Sub.ks (List.map api_Sub.enc [])), .d (.sl [.str] (List.map encS [])), .d (.sl [.int .i64] (List.map (encI .i64) []))]] [] []))) (
  cond (p0.Kind == 5) (
   (some (.ret [.agg [.d (.int .i64 p0.Kind), .d (.int .i64 p0.ID), .d (.bool false), .d (.str ([] : Str)), .d (.str ([] : Str)), .d (.int .i64 0), .d (.bool false), .d (.int .i64 0), .d (.int .i64 0), .d (.str ([] : Str)), .d (.int .i64 0), .d (.sl api_Prop.ks (List.map api_Prop.enc [])), .d (.str ([] : Str)), .d (.str ([] : Str)), .d (.bool false), .d (.int .i64 0), .d (.int .i64 0), .d (.int .i64 0), .d (.bool false), .d (.int .i64 0), .d (.str ([] : Str)), .d (.str ([] : Str)), .d (.int .i64 0), .d (.bool false), .d (.int .i64 0), .d (.int .i64 0), .d (.str ([] : Str)), .d (.int .i64 0), .d (.sl api_Prop.ks (List.map api_Prop.enc [])), .d (.bool false), .d (.int .i64 0), .d (.sl api_Sub.ks (List.map api_Sub.enc [])), .d (.sl [.str] (List.map encS [])), .d (.sl [.int .i64] (List.map (encI .i64) []))]] [] []))) (
  cond (p0.Kind == 6) (
   (some (.ret [.agg [.d (.int .i64 p0.Kind), .d (.int .i64 p0.ID), .d (.bool false), .d (.str ([] : Str)), .d (.str ([] : Str)), .d (.int .i64 0), .d (.bool false), .d (.int .i64 0), .d (.int .i64 0), .d (.str ([] : Str)), .d (.int .i64 0), .d (.sl api_Prop.ks (List.map api_Prop.enc [])), .d (.str ([] : Str)), .d (.str ([] : Str)), .d (.bool false), .d (.int .i64 0), .d (.int .i64 0), .d (.int .i64 0), .d (.bool false), .d (.int .i64 0), .d (.str ([] : Str)), .d (.str ([] : Str)), .d (.int .i64 0), .d (.bool false), .d (.int .i64 0), .d (.int .i64 0), .d (.str ([] : Str)), .d (.int .i64 0), .d (.sl api_Prop.ks (List.map api_Prop.enc [])), .d (.bool false), .d (.int .i64 0), .d (.sl api_Sub.ks (List.map api_Sub.enc [])), .d (.sl [.str] (List.map encS [])), .d (.sl [.int .i64] (List.map (encI .i64) []))]] [] []))) (
  cond (p0.Kind == 7) (
   (some (.ret [.agg [.d (.int .i64 p0.Kind), .d (.int .i64 p0.ID), .d (.bool false), .d (.str ([] : Str)), .d (.str ([] : Str)), .d (.int .i64 0), .d (.bool false), .d (.int .i64 0), .d (.int .i64 0), .d (.str ([] : Str)), .d (.int .i64 0), .d (.sl api_Prop.ks (List.map api_Prop.enc [])), .d (.str ([] : Str)), .d (.str ([] : Str)), .d (.bool false), .d (.int .i64 0), .d (.int .i64 0), .d (.int .i64 0), .d (.bool false), .d (.int .i64 0), .d (.str ([] : Str)), .d (.str ([] : Str)), .d (.int .i64 0), .d (.bool false), .d (.int .i64 0), .d (.int .i64 0), .d (.str ([] : Str)), .d (.int .i64 0), .d (.sl api_Prop.ks (List.map api_Prop.enc [])), .d (.bool false), .d (.int .i64 0), .d (.sl api_Sub.ks (List.map api_Sub.enc [])), .d (.sl [.str] (List.map encS [])), .d (.sl [.int .i64] (List.map (encI .i64) []))]] [] []))) (
  cond (p0.Kind == 8) (
   (some (.ret [.agg [.d (.int .i64 p0.Kind), .d (.int .i64 p0.ID), .d (.bool false), .d (.str ([] : Str)), .d (.str ([] : Str)), .d (.int .i64 0), .d (.bool false), .d (.int .i64 0), .d (.int .i64 0), .d (.str ([] : Str)), .d (.int .i64 0), .d (.sl api_Prop.ks (List.map api_Prop.enc [])), .d (.str ([] : Str)), .d (.str ([] : Str)), .d (.bool false), .d (.int .i64 0), .d (.int .i64 0), .d (.int .i64 0), .d (.bool false), .d (.int .i64 0), .d (.str ([] : Str)), .d (.str ([] : Str)), .d (.int .i64 0), .d (.bool false), .d (.int .i64 0), .d (.int .i64 0), .d (.str ([] : Str)), .d (.int .i64 0), .d (.sl api_Prop.ks (List.map api_Prop.enc [])), .d (.bool false), .d (.int .i64 0), .d (.sl api_Sub.ks (List.map api_Sub.enc p0.Subs)), .d (.sl [.str] (List.map encS [])), .d (.sl [.int .i64] (List.map (encI .i64) []))]] [] []))) (
  cond (p0.Kind == 9) (
   (some (.ret [.agg [.d (.int .i64 p0.Kind), .d (.int .i64 p0.ID), .d (.bool false), .d (.str ([] : Str)), .d (.str ([] : Str)), .d (.int .i64 0), .d (.bool false), .d (.int .i64 0), .d (.int .i64 0), .d (.str ([] : Str)), .d (.int .i64 0), .d (.sl api_Prop.ks (List.map api_Prop.enc [])), .d (.str ([] : Str)), .d (.str ([] : Str)), .d (.bool false), .d (.int .i64 0), .d (.int .i64 0), .d (.int .i64 0), .d (.bool false), .d (.int .i64 0), .d (.str ([] : Str)), .d (.str ([] : Str)), .d (.int .i64 0), .d (.bool false), .d (.int .i64 0), .d (.int .i64 0), .d (.str ([] : Str)), .d (.int .i64 0), .d (.sl api_Prop.ks (List.map api_Prop.enc [])), .d (.bool false), .d (.int .i64 0), .d (.sl api_Sub.ks (List.map api_Sub.enc [])), .d (.sl [.str] (List.map encS [])), .d (.sl [.int .i64] (List.map (encI .i64) p0.Codes))]] [] []))) (
  cond (p0.Kind == 11) (
   (some (.ret [.agg [.d (.int .i64 p0.Kind), .d (.int .i64 p0.ID), .d (.bool false), .d (.str ([] : Str)), .d (.str ([] : Str)), .d (.int .i64 0), .d (.bool false), .d (.int .i64 0), .d (.int .i64 0), .d (.str ([] : Str)), .d (.int .i64 0), .d (.sl api_Prop.ks (List.map api_Prop.enc [])), .d (.str ([] : Str)), .d (.str ([] : Str)), .d (.bool false), .d (.int .i64 0), .d (.int .i64 0), .d (.int .i64 0), .d (.bool false), .d (.int .i64 0), .d (.str ([] : Str)), .d (.str ([] : Str)), .d (.int .i64 0), .d (.bool false), .d (.int .i64 0), .d (.int .i64 0), .d (.str ([] : Str)), .d (.int .i64 0), .d (.sl api_Prop.ks (List.map api_Prop.enc [])), .d (.bool false), .d (.int .i64 0), .d (.sl api_Sub.ks (List.map api_Sub.enc [])), .d (.sl [.str] (List.map encS [])), .d (.sl [.int .i64] (List.map (encI .i64) p0.Codes))]] [] []))) (
  cond (p0.Kind == 10) (
   (some (.ret [.agg [.d (.int .i64 p0.Kind), .d (.int .i64 p0.ID), .d (.bool false), .d (.str ([] : Str)), .d (.str ([] : Str)), .d (.int .i64 0), .d (.bool false), .d (.int .i64 0), .d (.int .i64 0), .d (.str ([] : Str)), .d (.int .i64 0), .d (.sl api_Prop.ks (List.map api_Prop.enc [])), .d (.str ([] : Str)), .d (.str ([] : Str)), .d (.bool false), .d (.int .i64 0), .d (.int .i64 0), .d (.int .i64 0), .d (.bool false), .d (.int .i64 0), .d (.str ([] : Str)), .d (.str ([] : Str)), .d (.int .i64 0), .d (.bool false), .d (.int .i64 0), .d (.int .i64 0), .d (.str ([] : Str)), .d (.int .i64 0), .d (.sl api_Prop.ks (List.map api_Prop.enc [])), .d (.bool false), .d (.int .i64 0), .d (.sl api_Sub.ks (List.map api_Sub.enc [])), .d (.sl [.str] (List.map encS p0.Filters)), .d (.sl [.int .i64] (List.map (encI .i64) []))]] [] []))) (
  cond (p0.Kind == 14) (
   (some (.ret [.agg [.d (.int .i64 p0.Kind), .d (.int .i64 0), .d (.bool false), .d (.str ([] : Str)), .d (.str ([] : Str)), .d (.int .i64 0), .d (.bool false), .d (.int .i64 0), .d (.int .i64 0), .d (.str ([] : Str)), .d (.int .i64 0), .d (.sl api_Prop.ks (List.map api_Prop.enc [])), .d (.str ([] : Str)), .d (.str ([] : Str)), .d (.bool false), .d (.int .i64 0), .d (.int .i64 0), .d (.int .i64 0), .d (.bool false), .d (.int .i64 0), .d (.str ([] : Str)), .d (.str ([] : Str)), .d (.int .i64 0), .d (.bool false), .d (.int .i64 0), .d (.int .i64 0), .d (.str ([] : Str)), .d (.int .i64 0), .d (.sl api_Prop.ks (List.map api_Prop.enc [])), .d (.bool false), .d (.int .i64 p0.Code), .d (.sl api_Sub.ks (List.map api_Sub.enc [])), .d (.sl [.str] (List.map encS [])), .d (.sl [.int .i64] (List.map (encI .i64) []))]] [] []))) (
  (some (.ret [.agg [.d (.int .i64 p0.Kind), .d (.int .i64 0), .d (.bool false), .d (.str ([] : Str)), .d (.str ([] : Str)), .d (.int .i64 0), .d (.bool false), .d (.int .i64 0), .d (.int .i64 0), .d (.str ([] : Str)), .d (.int .i64 0), .d (.sl api_Prop.ks (List.map api_Prop.enc [])), .d (.str ([] : Str)), .d (.str ([] : Str)), .d (.bool false), .d (.int .i64 0), .d (.int .i64 0), .d (.int .i64 0), .d (.bool false), .d (.int .i64 0), .d (.str ([] : Str)), .d (.str ([] : Str)), .d (.int .i64 0), .d (.bool false), .d (.int .i64 0), .d (.int .i64 0), .d (.str ([] : Str)), .d (.int .i64 0), .d (.sl api_Prop.ks (List.map api_Prop.enc [])), .d (.bool false), .d (.int .i64 0), .d (.sl api_Sub.ks (List.map api_Sub.enc [])), .d (.sl [.str] (List.map encS [])), .d (.sl [.int .i64] (List.map (encI .i64) []))]] [] [])))))))))))))) := by kernel_rfl
abbrev X25 : CFun := C25 (callG SE good)
theorem Cr25 : C25 (callG SE good) = bindC (callG SE good) := by unfold C25; rfl
theorem packet_used_ok (p0 : api_Packet) : Le (Option.map packet_used_out (packet_used p0)) (callW SE 25 [api_Packet.av p0] [] []) := by
  refine le_bodyC Cr25 ?_
  refine Le.trans ?_ (le_of_eq (T25 _ _ _  p0).symm)
  unfold packet_used
  refine le_cond rfl (fun _ => ?_) (fun _ => ?_)
  · skip
    exact le_ret (by first | rfl | (simp only [EN, packet_used_out]; done) | (simp only [EN, packet_used_out]; rfl))
  · skip
    refine le_cond rfl (fun _ => ?_) (fun _ => ?_)
    · skip
      exact le_ret (by first | rfl | (simp only [EN, packet_used_out]; done) | (simp only [EN, packet_used_out]; rfl))
    · skip
      refine le_cond rfl (fun _ => ?_) (fun _ => ?_)
      · skip
        exact le_ret (by first | rfl | (simp only [EN, packet_used_out]; done) | (simp only [EN, packet_used_out]; rfl))
      · skip
        refine le_cond rfl (fun _ => ?_) (fun _ => ?_)
        · skip
          exact le_ret (by first | rfl | (simp only [EN, packet_used_out]; done) | (simp only [EN, packet_used_out]; rfl))
        · skip
          refine le_cond rfl (fun _ => ?_) (fun _ => ?_)
          · skip
            exact le_ret (by first | rfl | (simp only [EN, packet_used_out]; done) | (simp only [EN, packet_used_out]; rfl))
          · skip
            refine le_cond rfl (fun _ => ?_) (fun _ => ?_)
            · skip
              exact le_ret (by first | rfl | (simp only [EN, packet_used_out]; done) | (simp only [EN, packet_used_out]; rfl))
            · skip
              refine le_cond rfl (fun _ => ?_) (fun _ => ?_)
              · skip
                exact le_ret (by first | rfl | (simp only [EN, packet_used_out]; done) | (simp only [EN, packet_used_out]; rfl))
              · skip
                refine le_cond rfl (fun _ => ?_) (fun _ => ?_)
                · skip
                  exact le_ret (by first | rfl | (simp only [EN, packet_used_out]; done) | (simp only [EN, packet_used_out]; rfl))
                · skip
                  refine le_cond rfl (fun _ => ?_) (fun _ => ?_)
                  · skip
                    exact le_ret (by first | rfl | (simp only [EN, packet_used_out]; done) | (simp only [EN, packet_used_out]; rfl))
                  · skip
                    refine le_cond rfl (fun _ => ?_) (fun _ => ?_)
                    · skip
                      exact le_ret (by first | rfl | (simp only [EN, packet_used_out]; done) | (simp only [EN, packet_used_out]; rfl))
                    · skip
                      refine le_cond rfl (fun _ => ?_) (fun _ => ?_)
                      · skip
                        exact le_ret (by first | rfl | (simp only [EN, packet_used_out]; done) | (simp only [EN, packet_used_out]; rfl))
                      · skip
                        refine le_cond rfl (fun _ => ?_) (fun _ => ?_)
                        · skip
                          exact le_ret (by first | rfl | (simp only [EN, packet_used_out]; done) | (simp only [EN, packet_used_out]; rfl))
                        · skip
                          exact le_ret (by first | rfl | (simp only [EN, packet_used_out]; done) | (simp only [EN, packet_used_out]; rfl))
def C42 (Γ : Fun)  : CFun := bindC Γ
theorem T42 (Γ : Fun)  (Λ2 J : Lam) (p0 : api_Packet) : bodyC SE (C42 Γ) Λ2 J 42 [api_Packet.av p0] [] [] =
  (some (.ret [packet_plain.av (packet_plain.mk p0.Kind p0.ID p0.Keep p0.Expiry p0.Window p0.Code p0.Will.Delay p0.Dup p0.Clean p0.Present p0.Will.Set p0.Client p0.User)] [] [])) := by kernel_rfl
abbrev X42 : CFun := C42 (callG SE good)
theorem Cr42 : C42 (callG SE good) = bindC (callG SE good) := by unfold C42; rfl
theorem packet_plainOf_ok (p0 : api_Packet) : Le (Option.map packet_plainOf_out (packet_plainOf p0)) (callW SE 42 [api_Packet.av p0] [] []) := by
  refine le_bodyC Cr42 ?_
  refine Le.trans ?_ (le_of_eq (T42 _ _ _  p0).symm)
  unfold packet_plainOf
  exact le_ret (by first | rfl | (simp only [EN, packet_plainOf_out]; done) | (simp only [EN, packet_plainOf_out]; rfl))
def C43 (Γ : Fun)  : CFun := bindC Γ
def R43_4 (C : CFun) (Λ2 J : Lam) (a0 : (List (List D))) (a1 : Int) (a2 : Int) (a3 : (List D)) : Res := lab SE C Λ2 J 43 0 [1, 1, 0, 1, 0] (stoOf [(3, .ptr 1000000000 0), (71, .d (.sl api_Prop.ks a0)), (72, .d (.int .i64 a1)), (73, .d (.int .i64 a2))] [⟨24, (List.map AV.d a3)⟩] [] [] [])
def R43_3 (C : CFun) (Λ2 J : Lam) (a0 : (List D)) (a1 : (List D)) : Res := lab SE C Λ2 J 43 0 [1, 1, 0, 0] (stoOf [(2, .ptr 1000000000 0), (3, .ptr 1000000001 0)] [⟨24, (List.map AV.d a0)⟩, ⟨24, (List.map AV.d a1)⟩] [] [] [])
theorem T43 (Γ : Fun)  (Λ2 J : Lam) (p0 : api_Message) (p1 : api_Message) : bodyC SE (C43 Γ) Λ2 J 43 [api_Message.av p0, api_Message.av p1] [] [] =
  cond (!(p0.Topic == p1.Topic)) (
   (some (.ret [.d (.bool false)] [] []))) (
  cond (!(p0.Payload == p1.Payload)) (
   (some (.ret [.d (.bool false)] [] []))) (
  cond (p0.Level != p1.Level) (
   (some (.ret [.d (.bool false)] [] []))) (
  cond (p0.Retain != p1.Retain) (
   (some (.ret [.d (.bool false)] [] []))) (
  cond (p0.Priority != p1.Priority) (
   (some (.ret [.d (.bool false)] [] []))) (
  cond (p0.Expires != p1.Expires) (
   (some (.ret [.d (.bool false)] [] []))) (
  cond (!(p0.From == p1.From)) (
   (some (.ret [.d (.bool false)] [] []))) (
  cond (p0.Seq != p1.Seq) (
   (some (.ret [.d (.bool false)] [] []))) (
  cond ((List.length (List.map api_Prop.enc p0.Props) : Int) != (List.length (List.map api_Prop.enc p1.Props) : Int)) (
   (some (.ret [.d (.bool false)] [] []))) (
  R43_3 (C43 Γ) Λ2 J (api_Message.enc p0) (api_Message.enc p1)))))))))) := by kernel_rfl
theorem T43_4 (Γ : Fun)  (Λ2 J : Lam) (x71 : (List api_Prop)) (x72 : Int) (x73 : Int) (b0 : api_Message) : labU SE (C43 Γ) Λ2 J 43 0 [1, 1, 0, 1, 0] (stoOf [(3, .ptr 1000000000 0), (71, .d (.sl api_Prop.ks (List.map api_Prop.enc x71))), (72, .d (.int .i64 x72)), (73, .d (.int .i64 x73))] [⟨24, (List.map AV.d (api_Message.enc b0))⟩] [] [] []) =
  cond (decide (x73 < x72)) (
   cond (decide (0 ≤ x73) && decide (x73 < (List.length (List.map api_Prop.enc x71) : Int))) (
    cond (decide (0 ≤ x73) && decide (x73 < (List.length (List.map api_Prop.enc b0.Props) : Int))) (
     cond (!(((dStr (cellAt (elemAt (List.map api_Prop.enc x71) (Int.toNat x73)) 0)) == (dStr (cellAt (elemAt (List.map api_Prop.enc b0.Props) (Int.toNat x73)) 0))) && (((dStr (cellAt (elemAt (List.map api_Prop.enc x71) (Int.toNat x73)) 1)) == (dStr (cellAt (elemAt (List.map api_Prop.enc b0.Props) (Int.toNat x73)) 1))) && true))) (
      (some (.ret [.d (.bool false)] [] []))) (
     R43_4 (C43 Γ) Λ2 J (List.map api_Prop.enc x71) x72 (IntKind.wrap .i64 (x73 + 1)) (api_Message.enc b0))) none) none) (
  (some (.ret [.d (.bool true)] [] []))) := by kernel_rfl
theorem T43_3 (Γ : Fun)  (Λ2 J : Lam) (b0 : api_Message) (b1 : api_Message) : labU SE (C43 Γ) Λ2 J 43 0 [1, 1, 0, 0] (stoOf [(2, .ptr 1000000000 0), (3, .ptr 1000000001 0)] [⟨24, (List.map AV.d (api_Message.enc b0))⟩, ⟨24, (List.map AV.d (api_Message.enc b1))⟩] [] [] []) =
  R43_4 (C43 Γ) Λ2 J (List.map api_Prop.enc b0.Props) (List.length (List.map api_Prop.enc b0.Props) : Int) 0 (api_Message.enc b1) := by kernel_rfl
abbrev X43 : CFun := C43 (callG SE good)
theorem Cr43 : C43 (callG SE good) = bindC (callG SE good) := by unfold C43; rfl
noncomputable abbrev Q43_4 (a0 : (List (List D))) (a1 : Int) (a2 : Int) (a3 : (List D)) : Res := R43_4 X43 (lam2 SE (callG SE good) (SE.hl 43) (SE.hr 43)) (J0 SE X43) a0 a1 a2 a3
noncomputable abbrev Q43_3 (a0 : (List D)) (a1 : (List D)) : Res := R43_3 X43 (lam2 SE (callG SE good) (SE.hl 43) (SE.hr 43)) (J0 SE X43) a0 a1
theorem message_Same_l4_ok : ∀ (fu : Nat) (x71 : (List api_Prop)) (x72 : Int) (x73 : Int) (b0 : api_Message), Le (Option.map message_Same_out (message_Same_l4 fu x71 x72 x73 b0)) (Q43_4 (List.map api_Prop.enc x71) x72 x73 (api_Message.enc b0)) := by
  intro fu
  induction fu with
  | zero => intros; exact le_none
  | succ fu ih =>
    intro x71 x72 x73 b0
    refine Le.trans ?_ (le_of_eq ((lab_realC Cr43).trans (T43_4 _ _ _  x71 x72 x73 b0)).symm)
    unfold message_Same_l4
    refine le_cond rfl (fun _ => ?_) (fun _ => ?_)
    · skip
      refine le_cond (by simp only [EN]) (fun _ => ?_) (fun _ => le_none)
      refine le_cond (by simp only [EN]) (fun _ => ?_) (fun _ => le_none)
      refine le_cond (by simp only [EN]) (fun _ => ?_) (fun _ => ?_)
      · skip
        exact le_ret (by first | rfl | (simp only [EN, message_Same_out]; done) | (simp only [EN, message_Same_out]; rfl))
      · skip
        exact ih x71 x72 (IntKind.wrap .i64 (x73 + 1)) b0
    · skip
      exact le_ret (by first | rfl | (simp only [EN, message_Same_out]; done) | (simp only [EN, message_Same_out]; rfl))
theorem message_Same_j3_ok (b0 : api_Message) (b1 : api_Message) : Le (Option.map message_Same_out (message_Same_j3 b0 b1)) (Q43_3 (api_Message.enc b0) (api_Message.enc b1)) := by
  refine Le.trans ?_ (le_of_eq ((lab_realC Cr43).trans (T43_3 _ _ _  b0 b1)).symm)
  unfold message_Same_j3
  first | (simp only [EN]; exact message_Same_l4_ok fuel b0.Props (List.length b0.Props : Int) 0 b1) | exact message_Same_l4_ok fuel b0.Props (List.length b0.Props : Int) 0 b1
theorem message_Same_ok (p0 : api_Message) (p1 : api_Message) : Le (Option.map message_Same_out (message_Same p0 p1)) (callW SE 43 [api_Message.av p0, api_Message.av p1] [] []) := by
  refine le_bodyC Cr43 ?_
  refine Le.trans ?_ (le_of_eq (T43 _ _ _  p0 p1).symm)
  unfold message_Same
  refine le_cond rfl (fun _ => ?_) (fun _ => ?_)
  · skip
    exact le_ret (by first | rfl | (simp only [EN, message_Same_out]; done) | (simp only [EN, message_Same_out]; rfl))
  · skip
    refine le_cond rfl (fun _ => ?_) (fun _ => ?_)
    · skip
      exact le_ret (by first | rfl | (simp only [EN, message_Same_out]; done) | (simp only [EN, message_Same_out]; rfl))
    · skip
      refine le_cond rfl (fun _ => ?_) (fun _ => ?_)
      · skip
        exact le_ret (by first | rfl | (simp only [EN, message_Same_out]; done) | (simp only [EN, message_Same_out]; rfl))
      · skip
        refine le_cond rfl (fun _ => ?_) (fun _ => ?_)
        · skip
          exact le_ret (by first | rfl | (simp only [EN, message_Same_out]; done) | (simp only [EN, message_Same_out]; rfl))
        · skip
          refine le_cond rfl (fun _ => ?_) (fun _ => ?_)
          · skip
            exact le_ret (by first | rfl | (simp only [EN, message_Same_out]; done) | (simp only [EN, message_Same_out]; rfl))
          · skip
            refine le_cond rfl (fun _ => ?_) (fun _ => ?_)
            · skip
              exact le_ret (by first | rfl | (simp only [EN, message_Same_out]; done) | (simp only [EN, message_Same_out]; rfl))
            · skip
              refine le_cond rfl (fun _ => ?_) (fun _ => ?_)
              · skip
                exact le_ret (by first | rfl | (simp only [EN, message_Same_out]; done) | (simp only [EN, message_Same_out]; rfl))
              · skip
                refine le_cond rfl (fun _ => ?_) (fun _ => ?_)
                · skip
                  exact le_ret (by first | rfl | (simp only [EN, message_Same_out]; done) | (simp only [EN, message_Same_out]; rfl))
                · skip
                  refine le_cond (by simp only [EN]) (fun _ => ?_) (fun _ => ?_)
                  · skip
                    exact le_ret (by first | rfl | (simp only [EN, message_Same_out]; done) | (simp only [EN, message_Same_out]; rfl))
                  · skip
                    exact message_Same_j3_ok p0 p1
def C44 (Γ : Fun)  : CFun := bindC Γ
def R44_4 (C : CFun) (Λ2 J : Lam) (a0 : (List (List D))) (a1 : (List (List D))) (a2 : Int) (a3 : Int) : Res := lab SE C Λ2 J 44 0 [1, 1, 0, 1, 0] (stoOf [(1, .d (.sl api_Sub.ks a0)), (12, .d (.sl api_Sub.ks a1)), (13, .d (.int .i64 a2)), (14, .d (.int .i64 a3))] [] [] [] [])
theorem T44 (Γ : Fun)  (Λ2 J : Lam) (p0 : (List api_Sub)) (p1 : (List api_Sub)) : bodyC SE (C44 Γ) Λ2 J 44 [.d (.sl api_Sub.ks (List.map api_Sub.enc p0)), .d (.sl api_Sub.ks (List.map api_Sub.enc p1))] [] [] =
  cond ((List.length (List.map api_Sub.enc p0) : Int) != (List.length (List.map api_Sub.enc p1) : Int)) (
   (some (.ret [.d (.bool false)] [] []))) (
  R44_4 (C44 Γ) Λ2 J (List.map api_Sub.enc p1) (List.map api_Sub.enc p0) (List.length (List.map api_Sub.enc p0) : Int) 0) := by kernel_rfl
theorem T44_4 (Γ : Fun)  (Λ2 J : Lam) (x1 : (List api_Sub)) (x12 : (List api_Sub)) (x13 : Int) (x14 : Int) : labU SE (C44 Γ) Λ2 J 44 0 [1, 1, 0, 1, 0] (stoOf [(1, .d (.sl api_Sub.ks (List.map api_Sub.enc x1))), (12, .d (.sl api_Sub.ks (List.map api_Sub.enc x12))), (13, .d (.int .i64 x13)), (14, .d (.int .i64 x14))] [] [] [] []) =
  cond (decide (x14 < x13)) (
   cond (decide (0 ≤ x14) && decide (x14 < (List.length (List.map api_Sub.enc x12) : Int))) (
    cond (decide (0 ≤ x14) && decide (x14 < (List.length (List.map api_Sub.enc x1) : Int))) (
     cond (!(((dStr (cellAt (elemAt (List.map api_Sub.enc x12) (Int.toNat x14)) 0)) == (dStr (cellAt (elemAt (List.map api_Sub.enc x1) (Int.toNat x14)) 0))) && (((dInt (cellAt (elemAt (List.map api_Sub.enc x12) (Int.toNat x14)) 1)) == (dInt (cellAt (elemAt (List.map api_Sub.enc x1) (Int.toNat x14)) 1))) && (((dBool (cellAt (elemAt (List.map api_Sub.enc x12) (Int.toNat x14)) 2)) == (dBool (cellAt (elemAt (List.map api_Sub.enc x1) (Int.toNat x14)) 2))) && true)))) (
      (some (.ret [.d (.bool false)] [] []))) (
     R44_4 (C44 Γ) Λ2 J (List.map api_Sub.enc x1) (List.map api_Sub.enc x12) x13 (IntKind.wrap .i64 (x14 + 1)))) none) none) (
  (some (.ret [.d (.bool true)] [] []))) := by kernel_rfl
abbrev X44 : CFun := C44 (callG SE good)
theorem Cr44 : C44 (callG SE good) = bindC (callG SE good) := by unfold C44; rfl
noncomputable abbrev Q44_4 (a0 : (List (List D))) (a1 : (List (List D))) (a2 : Int) (a3 : Int) : Res := R44_4 X44 (lam2 SE (callG SE good) (SE.hl 44) (SE.hr 44)) (J0 SE X44) a0 a1 a2 a3
theorem packet_subs_l4_ok : ∀ (fu : Nat) (x1 : (List api_Sub)) (x12 : (List api_Sub)) (x13 : Int) (x14 : Int), Le (Option.map packet_subs_out (packet_subs_l4 fu x1 x12 x13 x14)) (Q44_4 (List.map api_Sub.enc x1) (List.map api_Sub.enc x12) x13 x14) := by
  intro fu
  induction fu with
  | zero => intros; exact le_none
  | succ fu ih =>
    intro x1 x12 x13 x14
    refine Le.trans ?_ (le_of_eq ((lab_realC Cr44).trans (T44_4 _ _ _  x1 x12 x13 x14)).symm)
    unfold packet_subs_l4
    refine le_cond rfl (fun _ => ?_) (fun _ => ?_)
    · skip
      refine le_cond (by simp only [EN]) (fun _ => ?_) (fun _ => le_none)
      refine le_cond (by simp only [EN]) (fun _ => ?_) (fun _ => le_none)
      refine le_cond (by simp only [EN]) (fun _ => ?_) (fun _ => ?_)
      · skip
        exact le_ret (by first | rfl | (simp only [EN, packet_subs_out]; done) | (simp only [EN, packet_subs_out]; rfl))
      · skip
        exact ih x1 x12 x13 (IntKind.wrap .i64 (x14 + 1))
    · skip
      exact le_ret (by first | rfl | (simp only [EN, packet_subs_out]; done) | (simp only [EN, packet_subs_out]; rfl))
theorem packet_subs_ok (p0 : (List api_Sub)) (p1 : (List api_Sub)) : Le (Option.map packet_subs_out (packet_subs p0 p1)) (callW SE 44 [.d (.sl api_Sub.ks (List.map api_Sub.enc p0)), .d (.sl api_Sub.ks (List.map api_Sub.enc p1))] [] []) := by
  refine le_bodyC Cr44 ?_
  refine Le.trans ?_ (le_of_eq (T44 _ _ _  p0 p1).symm)
  unfold packet_subs
  refine le_cond (by simp only [EN]) (fun _ => ?_) (fun _ => ?_)
  · skip
    exact le_ret (by first | rfl | (simp only [EN, packet_subs_out]; done) | (simp only [EN, packet_subs_out]; rfl))
  · skip
    first | (simp only [EN]; exact packet_subs_l4_ok fuel p1 p0 (List.length p0 : Int) 0) | exact packet_subs_l4_ok fuel p1 p0 (List.length p0 : Int) 0
def C45 (Γ : Fun)  : CFun := bindC Γ
def R45_4 (C : CFun) (Λ2 J : Lam) (a0 : (List (List D))) (a1 : (List (List D))) (a2 : Int) (a3 : Int) : Res := lab SE C Λ2 J 45 0 [1, 1, 0, 1, 0] (stoOf [(1, .d (.sl [.str] a0)), (12, .d (.sl [.str] a1)), (13, .d (.int .i64 a2)), (14, .d (.int .i64 a3))] [] [] [] [])
theorem T45 (Γ : Fun)  (Λ2 J : Lam) (p0 : (List Str)) (p1 : (List Str)) : bodyC SE (C45 Γ) Λ2 J 45 [.d (.sl [.str] (List.map encS p0)), .d (.sl [.str] (List.map encS p1))] [] [] =
  cond ((List.length (List.map encS p0) : Int) != (List.length (List.map encS p1) : Int)) (
   (some (.ret [.d (.bool false)] [] []))) (
  R45_4 (C45 Γ) Λ2 J (List.map encS p1) (List.map encS p0) (List.length (List.map encS p0) : Int) 0) := by kernel_rfl
theorem T45_4 (Γ : Fun)  (Λ2 J : Lam) (x1 : (List Str)) (x12 : (List Str)) (x13 : Int) (x14 : Int) : labU SE (C45 Γ) Λ2 J 45 0 [1, 1, 0, 1, 0] (stoOf [(1, .d (.sl [.str] (List.map encS x1))), (12, .d (.sl [.str] (List.map encS x12))), (13, .d (.int .i64 x13)), (14, .d (.int .i64 x14))] [] [] [] []) =
  cond (decide (x14 < x13)) (
   cond (decide (0 ≤ x14) && decide (x14 < (List.length (List.map encS x12) : Int))) (
    cond (decide (0 ≤ x14) && decide (x14 < (List.length (List.map encS x1) : Int))) (
     cond (!((dStr (cellAt (elemAt (List.map encS x12) (Int.toNat x14)) 0)) == (dStr (cellAt (elemAt (List.map encS x1) (Int.toNat x14)) 0)))) (
      (some (.ret [.d (.bool false)] [] []))) (
     R45_4 (C45 Γ) Λ2 J (List.map encS x1) (List.map encS x12) x13 (IntKind.wrap .i64 (x14 + 1)))) none) none) (
  (some (.ret [.d (.bool true)] [] []))) := by kernel_rfl
abbrev X45 : CFun := C45 (callG SE good)
theorem Cr45 : C45 (callG SE good) = bindC (callG SE good) := by unfold C45; rfl
noncomputable abbrev Q45_4 (a0 : (List (List D))) (a1 : (List (List D))) (a2 : Int) (a3 : Int) : Res := R45_4 X45 (lam2 SE (callG SE good) (SE.hl 45) (SE.hr 45)) (J0 SE X45) a0 a1 a2 a3
theorem packet_texts_l4_ok : ∀ (fu : Nat) (x1 : (List Str)) (x12 : (List Str)) (x13 : Int) (x14 : Int), Le (Option.map packet_texts_out (packet_texts_l4 fu x1 x12 x13 x14)) (Q45_4 (List.map encS x1) (List.map encS x12) x13 x14) := by
  intro fu
  induction fu with
  | zero => intros; exact le_none
  | succ fu ih =>
    intro x1 x12 x13 x14
    refine Le.trans ?_ (le_of_eq ((lab_realC Cr45).trans (T45_4 _ _ _  x1 x12 x13 x14)).symm)
    unfold packet_texts_l4
    refine le_cond rfl (fun _ => ?_) (fun _ => ?_)
    · skip
      refine le_cond (by simp only [EN]) (fun _ => ?_) (fun _ => le_none)
      refine le_cond (by simp only [EN]) (fun _ => ?_) (fun _ => le_none)
      refine le_cond (by simp only [EN]) (fun _ => ?_) (fun _ => ?_)
      · skip
        exact le_ret (by first | rfl | (simp only [EN, packet_texts_out]; done) | (simp only [EN, packet_texts_out]; rfl))
      · skip
        exact ih x1 x12 x13 (IntKind.wrap .i64 (x14 + 1))
    · skip
      exact le_ret (by first | rfl | (simp only [EN, packet_texts_out]; done) | (simp only [EN, packet_texts_out]; rfl))
theorem packet_texts_ok (p0 : (List Str)) (p1 : (List Str)) : Le (Option.map packet_texts_out (packet_texts p0 p1)) (callW SE 45 [.d (.sl [.str] (List.map encS p0)), .d (.sl [.str] (List.map encS p1))] [] []) := by
  refine le_bodyC Cr45 ?_
  refine Le.trans ?_ (le_of_eq (T45 _ _ _  p0 p1).symm)
  unfold packet_texts
  refine le_cond (by simp only [EN]) (fun _ => ?_) (fun _ => ?_)
  · skip
    exact le_ret (by first | rfl | (simp only [EN, packet_texts_out]; done) | (simp only [EN, packet_texts_out]; rfl))
  · skip
    first | (simp only [EN]; exact packet_texts_l4_ok fuel p1 p0 (List.length p0 : Int) 0) | exact packet_texts_l4_ok fuel p1 p0 (List.length p0 : Int) 0
def C46 (Γ : Fun)  : CFun := bindC Γ
def R46_4 (C : CFun) (Λ2 J : Lam) (a0 : (List (List D))) (a1 : (List (List D))) (a2 : Int) (a3 : Int) : Res := lab SE C Λ2 J 46 0 [1, 1, 0, 1, 0] (stoOf [(1, .d (.sl [.int .i64] a0)), (12, .d (.sl [.int .i64] a1)), (13, .d (.int .i64 a2)), (14, .d (.int .i64 a3))] [] [] [] [])
theorem T46 (Γ : Fun)  (Λ2 J : Lam) (p0 : (List Int)) (p1 : (List Int)) : bodyC SE (C46 Γ) Λ2 J 46 [.d (.sl [.int .i64] (List.map (encI .i64) p0)), .d (.sl [.int .i64] (List.map (encI .i64) p1))] [] [] =
  cond ((List.length (List.map (encI .i64) p0) : Int) != (List.length (List.map (encI .i64) p1) : Int)) (
   (some (.ret [.d (.bool false)] [] []))) (
  R46_4 (C46 Γ) Λ2 J (List.map (encI .i64) p1) (List.map (encI .i64) p0) (List.length (List.map (encI .i64) p0) : Int) 0) := by kernel_rfl
theorem T46_4 (Γ : Fun)  (Λ2 J : Lam) (x1 : (List Int)) (x12 : (List Int)) (x13 : Int) (x14 : Int) : labU SE (C46 Γ) Λ2 J 46 0 [1, 1, 0, 1, 0] (stoOf [(1, .d (.sl [.int .i64] (List.map (encI .i64) x1))), (12, .d (.sl [.int .i64] (List.map (encI .i64) x12))), (13, .d (.int .i64 x13)), (14, .d (.int .i64 x14))] [] [] [] []) =
  cond (decide (x14 < x13)) (
   cond (decide (0 ≤ x14) && decide (x14 < (List.length (List.map (encI .i64) x12) : Int))) (
    cond (decide (0 ≤ x14) && decide (x14 < (List.length (List.map (encI .i64) x1) : Int))) (
     cond ((dInt (cellAt (elemAt (List.map (encI .i64) x12) (Int.toNat x14)) 0)) != (dInt (cellAt (elemAt (List.map (encI .i64) x1) (Int.toNat x14)) 0))) (
      (some (.ret [.d (.bool false)] [] []))) (
     R46_4 (C46 Γ) Λ2 J (List.map (encI .i64) x1) (List.map (encI .i64) x12) x13 (IntKind.wrap .i64 (x14 + 1)))) none) none) (
  (some (.ret [.d (.bool true)] [] []))) := by kernel_rfl
abbrev X46 : CFun := C46 (callG SE good)
theorem Cr46 : C46 (callG SE good) = bindC (callG SE good) := by unfold C46; rfl
noncomputable abbrev Q46_4 (a0 : (List (List D))) (a1 : (List (List D))) (a2 : Int) (a3 : Int) : Res := R46_4 X46 (lam2 SE (callG SE good) (SE.hl 46) (SE.hr 46)) (J0 SE X46) a0 a1 a2 a3
theorem packet_numbers_l4_ok : ∀ (fu : Nat) (x1 : (List Int)) (x12 : (List Int)) (x13 : Int) (x14 : Int), Le (Option.map packet_numbers_out (packet_numbers_l4 fu x1 x12 x13 x14)) (Q46_4 (List.map (encI .i64) x1) (List.map (encI .i64) x12) x13 x14) := by
  intro fu
  induction fu with
  | zero => intros; exact le_none
  | succ fu ih =>
    intro x1 x12 x13 x14
    refine Le.trans ?_ (le_of_eq ((lab_realC Cr46).trans (T46_4 _ _ _  x1 x12 x13 x14)).symm)
    unfold packet_numbers_l4
    refine le_cond rfl (fun _ => ?_) (fun _ => ?_)
    · skip
      refine le_cond (by simp only [EN]) (fun _ => ?_) (fun _ => le_none)
      refine le_cond (by simp only [EN]) (fun _ => ?_) (fun _ => le_none)
      refine le_cond (by simp only [EN]) (fun _ => ?_) (fun _ => ?_)
      · skip
        exact le_ret (by first | rfl | (simp only [EN, packet_numbers_out]; done) | (simp only [EN, packet_numbers_out]; rfl))
      · skip
        exact ih x1 x12 x13 (IntKind.wrap .i64 (x14 + 1))
    · skip
      exact le_ret (by first | rfl | (simp only [EN, packet_numbers_out]; done) | (simp only [EN, packet_numbers_out]; rfl))
theorem packet_numbers_ok (p0 : (List Int)) (p1 : (List Int)) : Le (Option.map packet_numbers_out (packet_numbers p0 p1)) (callW SE 46 [.d (.sl [.int .i64] (List.map (encI .i64) p0)), .d (.sl [.int .i64] (List.map (encI .i64) p1))] [] []) := by
  refine le_bodyC Cr46 ?_
  refine Le.trans ?_ (le_of_eq (T46 _ _ _  p0 p1).symm)
  unfold packet_numbers
  refine le_cond (by simp only [EN]) (fun _ => ?_) (fun _ => ?_)
  · skip
    exact le_ret (by first | rfl | (simp only [EN, packet_numbers_out]; done) | (simp only [EN, packet_numbers_out]; rfl))
  · skip
    first | (simp only [EN]; exact packet_numbers_l4_ok fuel p1 p0 (List.length p0 : Int) 0) | exact packet_numbers_l4_ok fuel p1 p0 (List.length p0 : Int) 0
def C17 (Γ : Fun) (γ42 : Gm (packet_plain)) (γ43 : Gm (Bool)) (γ44 : Gm (Bool)) (γ45 : Gm (Bool)) (γ46 : Gm (Bool)) : CFun := updC (updC (updC (updC (updC (bindC Γ) 42 packet_plainOf_out γ42) 43 message_Same_out γ43) 44 packet_subs_out γ44) 45 packet_texts_out γ45) 46 packet_numbers_out γ46
theorem T17 (Γ : Fun) (γ42 : Gm (packet_plain)) (γ43 : Gm (Bool)) (γ44 : Gm (Bool)) (γ45 : Gm (Bool)) (γ46 : Gm (Bool)) (Λ2 J : Lam) (p0 : api_Packet) (p1 : api_Packet) : bodyC SE (C17 Γ γ42 γ43 γ44 γ45 γ46) Λ2 J 17 [api_Packet.av p0, api_Packet.av p1] [] [] =
  γ42 [api_Packet.av p0] [] [] fun r0 =>
  γ42 [api_Packet.av p1] [] [] fun r1 =>
  cond ((r0.kind == r1.kind) && ((r0.id == r1.id) && ((r0.keep == r1.keep) && ((r0.expiry == r1.expiry) && ((r0.window == r1.window) && ((r0.code == r1.code) && ((r0.delay == r1.delay) && ((r0.dup == r1.dup) && ((r0.clean == r1.clean) && ((r0.present == r1.present) && ((r0.set_ == r1.set_) && ((r0.client == r1.client) && ((r0.user == r1.user) && true))))))))))))) (
   γ43 [api_Message.av p0.Message, api_Message.av p1.Message] [] [] fun r2 =>
   cond r2 (
    γ43 [api_Message.av p0.Will.Message, api_Message.av p1.Will.Message] [] [] fun r3 =>
    cond r3 (
     γ44 [.d (.sl api_Sub.ks (List.map api_Sub.enc p0.Subs)), .d (.sl api_Sub.ks (List.map api_Sub.enc p1.Subs))] [] [] fun r4 =>
     cond r4 (
      γ45 [.d (.sl [.str] (List.map encS p0.Filters)), .d (.sl [.str] (List.map encS p1.Filters))] [] [] fun r5 =>
      cond r5 (
       γ46 [.d (.sl [.int .i64] (List.map (encI .i64) p0.Codes)), .d (.sl [.int .i64] (List.map (encI .i64) p1.Codes))] [] [] fun r6 =>
       (some (.ret [.d (.bool r6)] [] []))) (
      (some (.ret [.d (.bool false)] [] [])))) (
     (some (.ret [.d (.bool false)] [] [])))) (
    (some (.ret [.d (.bool false)] [] [])))) (
   (some (.ret [.d (.bool false)] [] [])))) (
  (some (.ret [.d (.bool false)] [] []))) := by kernel_rfl
abbrev X17 : CFun := C17 (callG SE good) (callT SE good 42 packet_plainOf_out) (callT SE good 43 message_Same_out) (callT SE good 44 packet_subs_out) (callT SE good 45 packet_texts_out) (callT SE good 46 packet_numbers_out)
theorem Cr17 : C17 (callG SE good) (callT SE good 42 packet_plainOf_out) (callT SE good 43 message_Same_out) (callT SE good 44 packet_subs_out) (callT SE good 45 packet_texts_out) (callT SE good 46 packet_numbers_out) = bindC (callG SE good) := by unfold C17; rw [updC_real (fun _ h => h), updC_real (fun _ h => h), updC_real (fun _ h => h), updC_real (fun _ h => h), updC_real (fun _ h => h)]
theorem packet_Same_ok (p0 : api_Packet) (p1 : api_Packet) : Le (Option.map packet_Same_out (packet_Same p0 p1)) (callW SE 17 [api_Packet.av p0, api_Packet.av p1] [] []) := by
  refine le_bodyC Cr17 ?_
  refine Le.trans ?_ (le_of_eq (T17 _ _ _ _ _ _ _ _  p0 p1).symm)
  unfold packet_Same
  refine le_call (good := good) (fun y => ⟨y, rfl⟩) packet_plainOf_inj (packet_plainOf_ok p0) (fun r0 _ => ?_)
  refine le_call (good := good) (fun y => ⟨y, rfl⟩) packet_plainOf_inj (packet_plainOf_ok p1) (fun r1 _ => ?_)
  refine le_cond rfl (fun _ => ?_) (fun _ => ?_)
  · skip
    refine le_call (good := good) (fun y => ⟨y, rfl⟩) message_Same_inj (message_Same_ok p0.Message p1.Message) (fun r2 _ => ?_)
    refine le_cond rfl (fun _ => ?_) (fun _ => ?_)
    · skip
      refine le_call (good := good) (fun y => ⟨y, rfl⟩) message_Same_inj (message_Same_ok p0.Will.Message p1.Will.Message) (fun r3 _ => ?_)
      refine le_cond rfl (fun _ => ?_) (fun _ => ?_)
      · skip
        refine le_call (good := good) (fun y => ⟨y, rfl⟩) packet_subs_inj (packet_subs_ok p0.Subs p1.Subs) (fun r4 _ => ?_)
        refine le_cond rfl (fun _ => ?_) (fun _ => ?_)
        · skip
          refine le_call (good := good) (fun y => ⟨y, rfl⟩) packet_texts_inj (packet_texts_ok p0.Filters p1.Filters) (fun r5 _ => ?_)
          refine le_cond rfl (fun _ => ?_) (fun _ => ?_)
          · skip
            refine le_call (good := good) (fun y => ⟨y, rfl⟩) packet_numbers_inj (packet_numbers_ok p0.Codes p1.Codes) (fun r6 _ => ?_)
            exact le_ret (by first | rfl | (simp only [EN, packet_Same_out]; done) | (simp only [EN, packet_Same_out]; rfl))
          · skip
            exact le_ret (by first | rfl | (simp only [EN, packet_Same_out]; done) | (simp only [EN, packet_Same_out]; rfl))
        · skip
          exact le_ret (by first | rfl | (simp only [EN, packet_Same_out]; done) | (simp only [EN, packet_Same_out]; rfl))
      · skip
        exact le_ret (by first | rfl | (simp only [EN, packet_Same_out]; done) | (simp only [EN, packet_Same_out]; rfl))
    · skip
      exact le_ret (by first | rfl | (simp only [EN, packet_Same_out]; done) | (simp only [EN, packet_Same_out]; rfl))
  · skip
    exact le_ret (by first | rfl | (simp only [EN, packet_Same_out]; done) | (simp only [EN, packet_Same_out]; rfl))
def C52 (Γ : Fun)  : CFun := bindC Γ
def R52_7 (C : CFun) (Λ2 J : Lam) (a0 : Int) (a1 : Int) (a2 : Bool) (a3 : Str) (a4 : Nat) : Res := lab SE C Λ2 J 52 0 [1, 1, 0, 1, 0, 0, 1, 1, 0, 1, 1, 0] (stoOf [(3, .d (.int .i64 a0)), (4, .d (.int .i32 a1)), (5, .d (.bool a2)), (15, .it 4000)] [] [] [(4000, (a3, a4))] [])
def R52_4 (C : CFun) (Λ2 J : Lam) (a0 : Str) (a1 : Nat) : Res := lab SE C Λ2 J 52 0 [1, 1, 0, 1, 0] (stoOf [(15, .it 4000)] [] [] [(4000, (a0, a1))] [])
def R52_3 (C : CFun) (Λ2 J : Lam) (a0 : Str) : Res := lab SE C Λ2 J 52 0 [1, 1, 0, 0] (stoOf [(0, .d (.str a0))] [] [] [] [])
theorem T52 (Γ : Fun)  (Λ2 J : Lam) (p0 : Str) : bodyC SE (C52 Γ) Λ2 J 52 [.d (.str p0)] [] [] =
  cond (decide ((List.length p0 : Int) < 1)) (
   (some (.ret [.d (.bool false)] [] []))) (
  cond (decide ((List.length p0 : Int) > 16)) (
   (some (.ret [.d (.bool false)] [] []))) (
  R52_3 (C52 Γ) Λ2 J p0)) := by kernel_rfl
theorem T52_7 (Γ : Fun)  (Λ2 J : Lam) (x3 : Int) (x4 : Int) (x5 : Bool) (s4000 : Str) (i4000 : Nat) : labU SE (C52 Γ) Λ2 J 52 0 [1, 1, 0, 1, 0, 0, 1, 1, 0, 1, 1, 0] (stoOf [(3, .d (.int .i64 x3)), (4, .d (.int .i32 x4)), (5, .d (.bool x5)), (15, .it 4000)] [] [] [(4000, (s4000, i4000))] []) =
  cond (!x5) (
   cond (x3 == 0) (
    (some (.ret [.d (.bool false)] [] []))) (
   cond (x4 != 45) (
    cond (decide (x4 < 48)) (
     (some (.ret [.d (.bool false)] [] []))) (
    cond (decide (x4 > 57)) (
     (some (.ret [.d (.bool false)] [] []))) (
    R52_4 (C52 Γ) Λ2 J s4000 i4000))) (
   R52_4 (C52 Γ) Λ2 J s4000 i4000))) (
  R52_4 (C52 Γ) Λ2 J s4000 i4000) := by kernel_rfl
theorem T52_4 (Γ : Fun)  (Λ2 J : Lam) (s4000 : Str) (i4000 : Nat) : labU SE (C52 Γ) Λ2 J 52 0 [1, 1, 0, 1, 0] (stoOf [(15, .it 4000)] [] [] [(4000, (s4000, i4000))] []) =
  cond (decide (i4000 < List.length s4000)) (
   cond (decide (((dec s4000 i4000).1 : Int) ≥ 97)) (
    R52_7 (C52 Γ) Λ2 J (i4000 : Int) ((dec s4000 i4000).1 : Int) (decide (((dec s4000 i4000).1 : Int) ≤ 122)) s4000 (i4000 + (dec s4000 i4000).2)) (
   R52_7 (C52 Γ) Λ2 J (i4000 : Int) ((dec s4000 i4000).1 : Int) false s4000 (i4000 + (dec s4000 i4000).2))) (
  (some (.ret [.d (.bool true)] [] []))) := by kernel_rfl
theorem T52_3 (Γ : Fun)  (Λ2 J : Lam) (x0 : Str) : labU SE (C52 Γ) Λ2 J 52 0 [1, 1, 0, 0] (stoOf [(0, .d (.str x0))] [] [] [] []) =
  R52_4 (C52 Γ) Λ2 J x0 0 := by kernel_rfl
abbrev X52 : CFun := C52 (callG SE good)
theorem Cr52 : C52 (callG SE good) = bindC (callG SE good) := by unfold C52; rfl
noncomputable abbrev Q52_7 (a0 : Int) (a1 : Int) (a2 : Bool) (a3 : Str) (a4 : Nat) : Res := R52_7 X52 (lam2 SE (callG SE good) (SE.hl 52) (SE.hr 52)) (J0 SE X52) a0 a1 a2 a3 a4
noncomputable abbrev Q52_4 (a0 : Str) (a1 : Nat) : Res := R52_4 X52 (lam2 SE (callG SE good) (SE.hl 52) (SE.hr 52)) (J0 SE X52) a0 a1
noncomputable abbrev Q52_3 (a0 : Str) : Res := R52_3 X52 (lam2 SE (callG SE good) (SE.hl 52) (SE.hr 52)) (J0 SE X52) a0
theorem topic_Name_j7_ok (k4 : Str → Nat → Option (Bool)) (hk4 : ∀ (s4000 : Str) (i4000 : Nat), Le (Option.map topic_Name_out (k4 s4000 i4000)) (Q52_4 s4000 i4000)) (x3 : Int) (x4 : Int) (x5 : Bool) (s4000 : Str) (i4000 : Nat) : Le (Option.map topic_Name_out (topic_Name_j7 k4 x3 x4 x5 s4000 i4000)) (Q52_7 x3 x4 x5 s4000 i4000) := by
  refine Le.trans ?_ (le_of_eq ((lab_realC Cr52).trans (T52_7 _ _ _  x3 x4 x5 s4000 i4000)).symm)
  unfold topic_Name_j7
  refine le_cond rfl (fun _ => ?_) (fun _ => ?_)
  · skip
    refine le_cond rfl (fun _ => ?_) (fun _ => ?_)
    · skip
      exact le_ret (by first | rfl | (simp only [EN, topic_Name_out]; done) | (simp only [EN, topic_Name_out]; rfl))
    · skip
      refine le_cond rfl (fun _ => ?_) (fun _ => ?_)
      · skip
        refine le_cond rfl (fun _ => ?_) (fun _ => ?_)
        · skip
          exact le_ret (by first | rfl | (simp only [EN, topic_Name_out]; done) | (simp only [EN, topic_Name_out]; rfl))
        · skip
          refine le_cond rfl (fun _ => ?_) (fun _ => ?_)
          · skip
            exact le_ret (by first | rfl | (simp only [EN, topic_Name_out]; done) | (simp only [EN, topic_Name_out]; rfl))
          · skip
            exact hk4 s4000 i4000
      · skip
        exact hk4 s4000 i4000
  · skip
    exact hk4 s4000 i4000
theorem topic_Name_l4_ok : ∀ (fu : Nat) (s4000 : Str) (i4000 : Nat), Le (Option.map topic_Name_out (topic_Name_l4 fu s4000 i4000)) (Q52_4 s4000 i4000) := by
  intro fu
  induction fu with
  | zero => intros; exact le_none
  | succ fu ih =>
    intro s4000 i4000
    refine Le.trans ?_ (le_of_eq ((lab_realC Cr52).trans (T52_4 _ _ _  s4000 i4000)).symm)
    unfold topic_Name_l4
    refine le_cond rfl (fun _ => ?_) (fun _ => ?_)
    · skip
      refine le_cond rfl (fun _ => ?_) (fun _ => ?_)
      · skip
        exact topic_Name_j7_ok _ (ih) (i4000 : Int) ((dec s4000 i4000).1 : Int) (decide (((dec s4000 i4000).1 : Int) ≤ 122)) s4000 (i4000 + (dec s4000 i4000).2)
      · skip
        exact topic_Name_j7_ok _ (ih) (i4000 : Int) ((dec s4000 i4000).1 : Int) false s4000 (i4000 + (dec s4000 i4000).2)
    · skip
      exact le_ret (by first | rfl | (simp only [EN, topic_Name_out]; done) | (simp only [EN, topic_Name_out]; rfl))
theorem topic_Name_j3_ok (x0 : Str) : Le (Option.map topic_Name_out (topic_Name_j3 x0)) (Q52_3 x0) := by
  refine Le.trans ?_ (le_of_eq ((lab_realC Cr52).trans (T52_3 _ _ _  x0)).symm)
  unfold topic_Name_j3
  exact topic_Name_l4_ok fuel x0 0
theorem topic_Name_ok (p0 : Str) : Le (Option.map topic_Name_out (topic_Name p0)) (callW SE 52 [.d (.str p0)] [] []) := by
  refine le_bodyC Cr52 ?_
  refine Le.trans ?_ (le_of_eq (T52 _ _ _  p0).symm)
  unfold topic_Name
  refine le_cond rfl (fun _ => ?_) (fun _ => ?_)
  · skip
    exact le_ret (by first | rfl | (simp only [EN, topic_Name_out]; done) | (simp only [EN, topic_Name_out]; rfl))
  · skip
    refine le_cond rfl (fun _ => ?_) (fun _ => ?_)
    · skip
      exact le_ret (by first | rfl | (simp only [EN, topic_Name_out]; done) | (simp only [EN, topic_Name_out]; rfl))
    · skip
      exact topic_Name_j3_ok p0
def C75 (Γ : Fun)  : CFun := bindC Γ
def R75_5 (C : CFun) (Λ2 J : Lam) (a0 : Int) (a1 : Str) (a2 : Nat) : Res := lab SE C Λ2 J 75 0 [1, 1, 1, 0, 1, 0] (stoOf [(3, .d (.int .i64 a0)), (15, .it 4000)] [] [] [(4000, (a1, a2))] [])
def R75_3 (C : CFun) (Λ2 J : Lam) (a0 : Str) : Res := lab SE C Λ2 J 75 0 [1, 1, 0] (stoOf [(0, .d (.str a0))] [] [] [] [])
theorem T75 (Γ : Fun)  (Λ2 J : Lam) (p0 : Str) : bodyC SE (C75 Γ) Λ2 J 75 [.d (.str p0)] [] [] =
  cond (decide ((List.length p0 : Int) < 1)) (
   (some (.ret [.d (.bool false)] [] []))) (
  cond (decide ((List.length p0 : Int) > 64)) (
   (some (.ret [.d (.bool false)] [] []))) (
  R75_3 (C75 Γ) Λ2 J p0)) := by kernel_rfl
theorem T75_5 (Γ : Fun)  (Λ2 J : Lam) (x3 : Int) (s4000 : Str) (i4000 : Nat) : labU SE (C75 Γ) Λ2 J 75 0 [1, 1, 1, 0, 1, 0] (stoOf [(3, .d (.int .i64 x3)), (15, .it 4000)] [] [] [(4000, (s4000, i4000))] []) =
  cond (decide (i4000 < List.length s4000)) (
   cond (((dec s4000 i4000).1 : Int) == 0) (
    (some (.ret [.d (.bool false)] [] []))) (
   cond (((dec s4000 i4000).1 : Int) == 47) (
    R75_5 (C75 Γ) Λ2 J (IntKind.wrap .i64 (x3 + 1)) s4000 (i4000 + (dec s4000 i4000).2)) (
   R75_5 (C75 Γ) Λ2 J x3 s4000 (i4000 + (dec s4000 i4000).2)))) (
  (some (.ret [.d (.bool (decide (x3 ≤ 8)))] [] []))) := by kernel_rfl
theorem T75_3 (Γ : Fun)  (Λ2 J : Lam) (x0 : Str) : labU SE (C75 Γ) Λ2 J 75 0 [1, 1, 0] (stoOf [(0, .d (.str x0))] [] [] [] []) =
  R75_5 (C75 Γ) Λ2 J 1 x0 0 := by kernel_rfl
abbrev X75 : CFun := C75 (callG SE good)
theorem Cr75 : C75 (callG SE good) = bindC (callG SE good) := by unfold C75; rfl
noncomputable abbrev Q75_5 (a0 : Int) (a1 : Str) (a2 : Nat) : Res := R75_5 X75 (lam2 SE (callG SE good) (SE.hl 75) (SE.hr 75)) (J0 SE X75) a0 a1 a2
noncomputable abbrev Q75_3 (a0 : Str) : Res := R75_3 X75 (lam2 SE (callG SE good) (SE.hl 75) (SE.hr 75)) (J0 SE X75) a0
theorem topic_sized_l5_ok : ∀ (fu : Nat) (x3 : Int) (s4000 : Str) (i4000 : Nat), Le (Option.map topic_sized_out (topic_sized_l5 fu x3 s4000 i4000)) (Q75_5 x3 s4000 i4000) := by
  intro fu
  induction fu with
  | zero => intros; exact le_none
  | succ fu ih =>
    intro x3 s4000 i4000
    refine Le.trans ?_ (le_of_eq ((lab_realC Cr75).trans (T75_5 _ _ _  x3 s4000 i4000)).symm)
    unfold topic_sized_l5
    refine le_cond rfl (fun _ => ?_) (fun _ => ?_)
    · skip
      refine le_cond rfl (fun _ => ?_) (fun _ => ?_)
      · skip
        exact le_ret (by first | rfl | (simp only [EN, topic_sized_out]; done) | (simp only [EN, topic_sized_out]; rfl))
      · skip
        refine le_cond rfl (fun _ => ?_) (fun _ => ?_)
        · skip
          exact ih (IntKind.wrap .i64 (x3 + 1)) s4000 (i4000 + (dec s4000 i4000).2)
        · skip
          exact ih x3 s4000 (i4000 + (dec s4000 i4000).2)
    · skip
      exact le_ret (by first | rfl | (simp only [EN, topic_sized_out]; done) | (simp only [EN, topic_sized_out]; rfl))
theorem topic_sized_j3_ok (x0 : Str) : Le (Option.map topic_sized_out (topic_sized_j3 x0)) (Q75_3 x0) := by
  refine Le.trans ?_ (le_of_eq ((lab_realC Cr75).trans (T75_3 _ _ _  x0)).symm)
  unfold topic_sized_j3
  exact topic_sized_l5_ok fuel 1 x0 0
theorem topic_sized_ok (p0 : Str) : Le (Option.map topic_sized_out (topic_sized p0)) (callW SE 75 [.d (.str p0)] [] []) := by
  refine le_bodyC Cr75 ?_
  refine Le.trans ?_ (le_of_eq (T75 _ _ _  p0).symm)
  unfold topic_sized
  refine le_cond rfl (fun _ => ?_) (fun _ => ?_)
  · skip
    exact le_ret (by first | rfl | (simp only [EN, topic_sized_out]; done) | (simp only [EN, topic_sized_out]; rfl))
  · skip
    refine le_cond rfl (fun _ => ?_) (fun _ => ?_)
    · skip
      exact le_ret (by first | rfl | (simp only [EN, topic_sized_out]; done) | (simp only [EN, topic_sized_out]; rfl))
    · skip
      exact topic_sized_j3_ok p0
def C62 (Γ : Fun) (γ75 : Gm (Bool)) : CFun := updC (bindC Γ) 75 topic_sized_out γ75
def R62_4 (C : CFun) (Λ2 J : Lam) (a0 : Str) (a1 : Nat) : Res := lab SE C Λ2 J 62 0 [1, 1, 0, 1, 0] (stoOf [(9, .it 4000)] [] [] [(4000, (a0, a1))] [])
theorem T62 (Γ : Fun) (γ75 : Gm (Bool)) (Λ2 J : Lam) (p0 : Str) : bodyC SE (C62 Γ γ75) Λ2 J 62 [.d (.str p0)] [] [] =
  γ75 [.d (.str p0)] [] [] fun r0 =>
  cond (!r0) (
   (some (.ret [.d (.bool false)] [] []))) (
  R62_4 (C62 Γ γ75) Λ2 J p0 0) := by kernel_rfl
theorem T62_4 (Γ : Fun) (γ75 : Gm (Bool)) (Λ2 J : Lam) (s4000 : Str) (i4000 : Nat) : labU SE (C62 Γ γ75) Λ2 J 62 0 [1, 1, 0, 1, 0] (stoOf [(9, .it 4000)] [] [] [(4000, (s4000, i4000))] []) =
  cond (decide (i4000 < List.length s4000)) (
   cond (((dec s4000 i4000).1 : Int) == 43) (
    (some (.ret [.d (.bool false)] [] []))) (
   cond (((dec s4000 i4000).1 : Int) == 35) (
    (some (.ret [.d (.bool false)] [] []))) (
   R62_4 (C62 Γ γ75) Λ2 J s4000 (i4000 + (dec s4000 i4000).2)))) (
  (some (.ret [.d (.bool true)] [] []))) := by kernel_rfl
abbrev X62 : CFun := C62 (callG SE good) (callT SE good 75 topic_sized_out)
theorem Cr62 : C62 (callG SE good) (callT SE good 75 topic_sized_out) = bindC (callG SE good) := by unfold C62; rw [updC_real (fun _ h => h)]
noncomputable abbrev Q62_4 (a0 : Str) (a1 : Nat) : Res := R62_4 X62 (lam2 SE (callG SE good) (SE.hl 62) (SE.hr 62)) (J0 SE X62) a0 a1
theorem topic_Valid_l4_ok : ∀ (fu : Nat) (s4000 : Str) (i4000 : Nat), Le (Option.map topic_Valid_out (topic_Valid_l4 fu s4000 i4000)) (Q62_4 s4000 i4000) := by
  intro fu
  induction fu with
  | zero => intros; exact le_none
  | succ fu ih =>
    intro s4000 i4000
    refine Le.trans ?_ (le_of_eq ((lab_realC Cr62).trans (T62_4 _ _ _ _  s4000 i4000)).symm)
    unfold topic_Valid_l4
    refine le_cond rfl (fun _ => ?_) (fun _ => ?_)
    · skip
      refine le_cond rfl (fun _ => ?_) (fun _ => ?_)
      · skip
        exact le_ret (by first | rfl | (simp only [EN, topic_Valid_out]; done) | (simp only [EN, topic_Valid_out]; rfl))
      · skip
        refine le_cond rfl (fun _ => ?_) (fun _ => ?_)
        · skip
          exact le_ret (by first | rfl | (simp only [EN, topic_Valid_out]; done) | (simp only [EN, topic_Valid_out]; rfl))
        · skip
          exact ih s4000 (i4000 + (dec s4000 i4000).2)
    · skip
      exact le_ret (by first | rfl | (simp only [EN, topic_Valid_out]; done) | (simp only [EN, topic_Valid_out]; rfl))
theorem topic_Valid_ok (p0 : Str) : Le (Option.map topic_Valid_out (topic_Valid p0)) (callW SE 62 [.d (.str p0)] [] []) := by
  refine le_bodyC Cr62 ?_
  refine Le.trans ?_ (le_of_eq (T62 _ _ _ _  p0).symm)
  unfold topic_Valid
  refine le_call (good := good) (fun y => ⟨y, rfl⟩) topic_sized_inj (topic_sized_ok p0) (fun r0 _ => ?_)
  refine le_cond rfl (fun _ => ?_) (fun _ => ?_)
  · skip
    exact le_ret (by first | rfl | (simp only [EN, topic_Valid_out]; done) | (simp only [EN, topic_Valid_out]; rfl))
  · skip
    exact topic_Valid_l4_ok fuel p0 0
def C63 (Γ : Fun)  : CFun := bindC Γ
theorem T63 (Γ : Fun)  (Λ2 J : Lam) (p0 : Int) (p1 : Int) : bodyC SE (C63 Γ) Λ2 J 63 [.d (.int .i64 p0), .d (.int .i64 p1)] [] [] =
  cond (decide (p0 ≥ 0)) (
   (some (.ret [.d (.bool (decide (p0 ≤ p1)))] [] []))) (
  (some (.ret [.d (.bool false)] [] []))) := by kernel_rfl
abbrev X63 : CFun := C63 (callG SE good)
theorem Cr63 : C63 (callG SE good) = bindC (callG SE good) := by unfold C63; rfl
theorem message_is_ok (p0 : Int) (p1 : Int) : Le (Option.map message_is_out (message_is p0 p1)) (callW SE 63 [.d (.int .i64 p0), .d (.int .i64 p1)] [] []) := by
  refine le_bodyC Cr63 ?_
  refine Le.trans ?_ (le_of_eq (T63 _ _ _  p0 p1).symm)
  unfold message_is
  refine le_cond rfl (fun _ => ?_) (fun _ => ?_)
  · skip
    exact le_ret (by first | rfl | (simp only [EN, message_is_out]; done) | (simp only [EN, message_is_out]; rfl))
  · skip
    exact le_ret (by first | rfl | (simp only [EN, message_is_out]; done) | (simp only [EN, message_is_out]; rfl))
def C76 (Γ : Fun)  : CFun := bindC Γ
def R76_4 (C : CFun) (Λ2 J : Lam) (a0 : Str) (a1 : Int) : Res := lab SE C Λ2 J 76 0 [1, 1, 0, 1, 0] (stoOf [(0, .d (.str a0)), (3, .d (.int .i64 a1))] [] [] [] [])
def R76_3 (C : CFun) (Λ2 J : Lam) (a0 : Str) : Res := lab SE C Λ2 J 76 0 [1, 1, 0, 0] (stoOf [(0, .d (.str a0))] [] [] [] [])
theorem T76 (Γ : Fun)  (Λ2 J : Lam) (p0 : Str) : bodyC SE (C76 Γ) Λ2 J 76 [.d (.str p0)] [] [] =
  cond (decide ((List.length p0 : Int) < 1)) (
   (some (.ret [.d (.bool false)] [] []))) (
  cond (decide ((List.length p0 : Int) > 16)) (
   (some (.ret [.d (.bool false)] [] []))) (
  R76_3 (C76 Γ) Λ2 J p0)) := by kernel_rfl
theorem T76_4 (Γ : Fun)  (Λ2 J : Lam) (x0 : Str) (x3 : Int) : labU SE (C76 Γ) Λ2 J 76 0 [1, 1, 0, 1, 0] (stoOf [(0, .d (.str x0)), (3, .d (.int .i64 x3))] [] [] [] []) =
  cond (decide (x3 < (List.length x0 : Int))) (
   cond (decide (0 ≤ x3) && decide (x3 < (List.length x0 : Int))) (
    cond (decide ((UInt8.toNat (List.getD x0 (Int.toNat x3) 0) : Int) < 97)) (
     cond (decide ((UInt8.toNat (List.getD x0 (Int.toNat x3) 0) : Int) < 48)) (
      cond ((UInt8.toNat (List.getD x0 (Int.toNat x3) 0) : Int) != 45) (
       (some (.ret [.d (.bool false)] [] []))) (
      R76_4 (C76 Γ) Λ2 J x0 (IntKind.wrap .i64 (x3 + 1)))) (
     cond (decide ((UInt8.toNat (List.getD x0 (Int.toNat x3) 0) : Int) > 57)) (
      cond ((UInt8.toNat (List.getD x0 (Int.toNat x3) 0) : Int) != 45) (
       (some (.ret [.d (.bool false)] [] []))) (
      R76_4 (C76 Γ) Λ2 J x0 (IntKind.wrap .i64 (x3 + 1)))) (
     R76_4 (C76 Γ) Λ2 J x0 (IntKind.wrap .i64 (x3 + 1))))) (
    cond (decide ((UInt8.toNat (List.getD x0 (Int.toNat x3) 0) : Int) > 122)) (
     cond (decide ((UInt8.toNat (List.getD x0 (Int.toNat x3) 0) : Int) < 48)) (
      cond ((UInt8.toNat (List.getD x0 (Int.toNat x3) 0) : Int) != 45) (
       (some (.ret [.d (.bool false)] [] []))) (
      R76_4 (C76 Γ) Λ2 J x0 (IntKind.wrap .i64 (x3 + 1)))) (
     cond (decide ((UInt8.toNat (List.getD x0 (Int.toNat x3) 0) : Int) > 57)) (
      cond ((UInt8.toNat (List.getD x0 (Int.toNat x3) 0) : Int) != 45) (
       (some (.ret [.d (.bool false)] [] []))) (
      R76_4 (C76 Γ) Λ2 J x0 (IntKind.wrap .i64 (x3 + 1)))) (
     R76_4 (C76 Γ) Λ2 J x0 (IntKind.wrap .i64 (x3 + 1))))) (
    R76_4 (C76 Γ) Λ2 J x0 (IntKind.wrap .i64 (x3 + 1))))) none) (
  (some (.ret [.d (.bool true)] [] []))) := by kernel_rfl
theorem T76_3 (Γ : Fun)  (Λ2 J : Lam) (x0 : Str) : labU SE (C76 Γ) Λ2 J 76 0 [1, 1, 0, 0] (stoOf [(0, .d (.str x0))] [] [] [] []) =
  R76_4 (C76 Γ) Λ2 J x0 0 := by kernel_rfl
abbrev X76 : CFun := C76 (callG SE good)
theorem Cr76 : C76 (callG SE good) = bindC (callG SE good) := by unfold C76; rfl
noncomputable abbrev Q76_4 (a0 : Str) (a1 : Int) : Res := R76_4 X76 (lam2 SE (callG SE good) (SE.hl 76) (SE.hr 76)) (J0 SE X76) a0 a1
noncomputable abbrev Q76_3 (a0 : Str) : Res := R76_3 X76 (lam2 SE (callG SE good) (SE.hl 76) (SE.hr 76)) (J0 SE X76) a0
theorem message_key_l4_ok : ∀ (fu : Nat) (x0 : Str) (x3 : Int), Le (Option.map message_key_out (message_key_l4 fu x0 x3)) (Q76_4 x0 x3) := by
  intro fu
  induction fu with
  | zero => intros; exact le_none
  | succ fu ih =>
    intro x0 x3
    refine Le.trans ?_ (le_of_eq ((lab_realC Cr76).trans (T76_4 _ _ _  x0 x3)).symm)
    unfold message_key_l4
    refine le_cond rfl (fun _ => ?_) (fun _ => ?_)
    · skip
      refine le_cond rfl (fun _ => ?_) (fun _ => le_none)
      refine le_cond rfl (fun _ => ?_) (fun _ => ?_)
      · skip
        refine le_cond rfl (fun _ => ?_) (fun _ => ?_)
        · skip
          refine le_cond rfl (fun _ => ?_) (fun _ => ?_)
          · skip
            exact le_ret (by first | rfl | (simp only [EN, message_key_out]; done) | (simp only [EN, message_key_out]; rfl))
          · skip
            exact ih x0 (IntKind.wrap .i64 (x3 + 1))
        · skip
          refine le_cond rfl (fun _ => ?_) (fun _ => ?_)
          · skip
            refine le_cond rfl (fun _ => ?_) (fun _ => ?_)
            · skip
              exact le_ret (by first | rfl | (simp only [EN, message_key_out]; done) | (simp only [EN, message_key_out]; rfl))
            · skip
              exact ih x0 (IntKind.wrap .i64 (x3 + 1))
          · skip
            exact ih x0 (IntKind.wrap .i64 (x3 + 1))
      · skip
        refine le_cond rfl (fun _ => ?_) (fun _ => ?_)
        · skip
          refine le_cond rfl (fun _ => ?_) (fun _ => ?_)
          · skip
            refine le_cond rfl (fun _ => ?_) (fun _ => ?_)
            · skip
              exact le_ret (by first | rfl | (simp only [EN, message_key_out]; done) | (simp only [EN, message_key_out]; rfl))
            · skip
              exact ih x0 (IntKind.wrap .i64 (x3 + 1))
          · skip
            refine le_cond rfl (fun _ => ?_) (fun _ => ?_)
            · skip
              refine le_cond rfl (fun _ => ?_) (fun _ => ?_)
              · skip
                exact le_ret (by first | rfl | (simp only [EN, message_key_out]; done) | (simp only [EN, message_key_out]; rfl))
              · skip
                exact ih x0 (IntKind.wrap .i64 (x3 + 1))
            · skip
              exact ih x0 (IntKind.wrap .i64 (x3 + 1))
        · skip
          exact ih x0 (IntKind.wrap .i64 (x3 + 1))
    · skip
      exact le_ret (by first | rfl | (simp only [EN, message_key_out]; done) | (simp only [EN, message_key_out]; rfl))
theorem message_key_j3_ok (x0 : Str) : Le (Option.map message_key_out (message_key_j3 x0)) (Q76_3 x0) := by
  refine Le.trans ?_ (le_of_eq ((lab_realC Cr76).trans (T76_3 _ _ _  x0)).symm)
  unfold message_key_j3
  exact message_key_l4_ok fuel x0 0
theorem message_key_ok (p0 : Str) : Le (Option.map message_key_out (message_key p0)) (callW SE 76 [.d (.str p0)] [] []) := by
  refine le_bodyC Cr76 ?_
  refine Le.trans ?_ (le_of_eq (T76 _ _ _  p0).symm)
  unfold message_key
  refine le_cond rfl (fun _ => ?_) (fun _ => ?_)
  · skip
    exact le_ret (by first | rfl | (simp only [EN, message_key_out]; done) | (simp only [EN, message_key_out]; rfl))
  · skip
    refine le_cond rfl (fun _ => ?_) (fun _ => ?_)
    · skip
      exact le_ret (by first | rfl | (simp only [EN, message_key_out]; done) | (simp only [EN, message_key_out]; rfl))
    · skip
      exact message_key_j3_ok p0
def C64 (Γ : Fun) (γ76 : Gm (Bool)) : CFun := updC (bindC Γ) 76 message_key_out γ76
def R64_4 (C : CFun) (Λ2 J : Lam) (a0 : (List (List D))) (a1 : (List (List D))) (a2 : Int) (a3 : Int) : Res := lab SE C Λ2 J 64 0 [1, 1, 0, 1, 0] (stoOf [(0, .d (.sl api_Prop.ks a0)), (8, .d (.sl api_Prop.ks a1)), (9, .d (.int .i64 a2)), (10, .d (.int .i64 a3))] [] [] [] [])
theorem T64 (Γ : Fun) (γ76 : Gm (Bool)) (Λ2 J : Lam) (p0 : (List api_Prop)) : bodyC SE (C64 Γ γ76) Λ2 J 64 [.d (.sl api_Prop.ks (List.map api_Prop.enc p0))] [] [] =
  cond (decide ((List.length (List.map api_Prop.enc p0) : Int) > 8)) (
   (some (.ret [.d (.int .i64 5)] [] []))) (
  R64_4 (C64 Γ γ76) Λ2 J (List.map api_Prop.enc p0) (List.map api_Prop.enc p0) (List.length (List.map api_Prop.enc p0) : Int) 0) := by kernel_rfl
theorem T64_4 (Γ : Fun) (γ76 : Gm (Bool)) (Λ2 J : Lam) (x0 : (List api_Prop)) (x8 : (List api_Prop)) (x9 : Int) (x10 : Int) : labU SE (C64 Γ γ76) Λ2 J 64 0 [1, 1, 0, 1, 0] (stoOf [(0, .d (.sl api_Prop.ks (List.map api_Prop.enc x0))), (8, .d (.sl api_Prop.ks (List.map api_Prop.enc x8))), (9, .d (.int .i64 x9)), (10, .d (.int .i64 x10))] [] [] [] []) =
  cond (decide (x10 < x9)) (
   cond (decide (0 ≤ x10) && decide (x10 < (List.length (List.map api_Prop.enc x8) : Int))) (
    γ76 [.d (.str (dStr (cellAt (elemAt (List.map api_Prop.enc x8) (Int.toNat x10)) 0)))] [] [] fun r0 =>
    cond (!r0) (
     (some (.ret [.d (.int .i64 16)] [] []))) (
    cond (decide ((List.length (dStr (cellAt (elemAt (List.map api_Prop.enc x8) (Int.toNat x10)) 1)) : Int) > 160)) (
     (some (.ret [.d (.int .i64 5)] [] []))) (
    cond (decide (x10 > 0)) (
     cond (decide (0 ≤ (IntKind.wrap .i64 (x10 - 1))) && decide ((IntKind.wrap .i64 (x10 - 1)) < (List.length (List.map api_Prop.enc x0) : Int))) (
      cond (Op.bytesLess (dStr (cellAt (elemAt (List.map api_Prop.enc x8) (Int.toNat x10)) 0)) (dStr (cellAt (elemAt (List.map api_Prop.enc x0) (Int.toNat (IntKind.wrap .i64 (x10 - 1)))) 0)) || (dStr (cellAt (elemAt (List.map api_Prop.enc x8) (Int.toNat x10)) 0)) == (dStr (cellAt (elemAt (List.map api_Prop.enc x0) (Int.toNat (IntKind.wrap .i64 (x10 - 1)))) 0))) (
       (some (.ret [.d (.int .i64 16)] [] []))) (
      R64_4 (C64 Γ γ76) Λ2 J (List.map api_Prop.enc x0) (List.map api_Prop.enc x8) x9 (IntKind.wrap .i64 (x10 + 1)))) none) (
    R64_4 (C64 Γ γ76) Λ2 J (List.map api_Prop.enc x0) (List.map api_Prop.enc x8) x9 (IntKind.wrap .i64 (x10 + 1)))))) none) (
  (some (.ret [.d (.int .i64 0)] [] []))) := by kernel_rfl
abbrev X64 : CFun := C64 (callG SE good) (callT SE good 76 message_key_out)
theorem Cr64 : C64 (callG SE good) (callT SE good 76 message_key_out) = bindC (callG SE good) := by unfold C64; rw [updC_real (fun _ h => h)]
noncomputable abbrev Q64_4 (a0 : (List (List D))) (a1 : (List (List D))) (a2 : Int) (a3 : Int) : Res := R64_4 X64 (lam2 SE (callG SE good) (SE.hl 64) (SE.hr 64)) (J0 SE X64) a0 a1 a2 a3
theorem message_Props_l4_ok : ∀ (fu : Nat) (x0 : (List api_Prop)) (x8 : (List api_Prop)) (x9 : Int) (x10 : Int), Le (Option.map message_Props_out (message_Props_l4 fu x0 x8 x9 x10)) (Q64_4 (List.map api_Prop.enc x0) (List.map api_Prop.enc x8) x9 x10) := by
  intro fu
  induction fu with
  | zero => intros; exact le_none
  | succ fu ih =>
    intro x0 x8 x9 x10
    refine Le.trans ?_ (le_of_eq ((lab_realC Cr64).trans (T64_4 _ _ _ _  x0 x8 x9 x10)).symm)
    unfold message_Props_l4
    refine le_cond rfl (fun _ => ?_) (fun _ => ?_)
    · skip
      refine le_cond (by simp only [EN]) (fun _ => ?_) (fun _ => le_none)
      refine le_call (good := good) (fun y => ⟨y, rfl⟩) message_key_inj (by first | (simp only [EN]; exact message_key_ok ((List.getD x8 (Int.toNat x10) default).Key)) | exact message_key_ok ((List.getD x8 (Int.toNat x10) default).Key)) (fun r0 _ => ?_)
      refine le_cond rfl (fun _ => ?_) (fun _ => ?_)
      · skip
        exact le_ret (by first | rfl | (simp only [EN, message_Props_out]; done) | (simp only [EN, message_Props_out]; rfl))
      · skip
        refine le_cond (by simp only [EN]) (fun _ => ?_) (fun _ => ?_)
        · skip
          exact le_ret (by first | rfl | (simp only [EN, message_Props_out]; done) | (simp only [EN, message_Props_out]; rfl))
        · skip
          refine le_cond rfl (fun _ => ?_) (fun _ => ?_)
          · skip
            refine le_cond (by simp only [EN]) (fun _ => ?_) (fun _ => le_none)
            refine le_cond (by simp only [EN]) (fun _ => ?_) (fun _ => ?_)
            · skip
              exact le_ret (by first | rfl | (simp only [EN, message_Props_out]; done) | (simp only [EN, message_Props_out]; rfl))
            · skip
              exact ih x0 x8 x9 (IntKind.wrap .i64 (x10 + 1))
          · skip
            exact ih x0 x8 x9 (IntKind.wrap .i64 (x10 + 1))
    · skip
      exact le_ret (by first | rfl | (simp only [EN, message_Props_out]; done) | (simp only [EN, message_Props_out]; rfl))
theorem message_Props_ok (p0 : (List api_Prop)) : Le (Option.map message_Props_out (message_Props p0)) (callW SE 64 [.d (.sl api_Prop.ks (List.map api_Prop.enc p0))] [] []) := by
  refine le_bodyC Cr64 ?_
  refine Le.trans ?_ (le_of_eq (T64 _ _ _ _  p0).symm)
  unfold message_Props
  refine le_cond (by simp only [EN]) (fun _ => ?_) (fun _ => ?_)
  · skip
    exact le_ret (by first | rfl | (simp only [EN, message_Props_out]; done) | (simp only [EN, message_Props_out]; rfl))
  · skip
    first | (simp only [EN]; exact message_Props_l4_ok fuel p0 p0 (List.length p0 : Int) 0) | exact message_Props_l4_ok fuel p0 p0 (List.length p0 : Int) 0
def C53 (Γ : Fun) (γ62 : Gm (Bool)) (γ63 : Gm (Bool)) (γ52 : Gm (Bool)) (γ64 : Gm (Int)) : CFun := updC (updC (updC (updC (bindC Γ) 62 topic_Valid_out γ62) 63 message_is_out γ63) 52 topic_Name_out γ52) 64 message_Props_out γ64
theorem T53 (Γ : Fun) (γ62 : Gm (Bool)) (γ63 : Gm (Bool)) (γ52 : Gm (Bool)) (γ64 : Gm (Int)) (Λ2 J : Lam) (p0 : api_Message) : bodyC SE (C53 Γ γ62 γ63 γ52 γ64) Λ2 J 53 [api_Message.av p0] [] [] =
  γ62 [.d (.str p0.Topic)] [] [] fun r0 =>
  cond (!r0) (
   (some (.ret [.d (.int .i64 12)] [] []))) (
  cond (decide ((List.length p0.Payload : Int) > 256)) (
   (some (.ret [.d (.int .i64 5)] [] []))) (
  γ63 [.d (.int .i64 p0.Level), .d (.int .i64 2)] [] [] fun r1 =>
  cond (!r1) (
   (some (.ret [.d (.int .i64 14)] [] []))) (
  γ63 [.d (.int .i64 p0.Priority), .d (.int .i64 9)] [] [] fun r2 =>
  cond (!r2) (
   (some (.ret [.d (.int .i64 1)] [] []))) (
  γ63 [.d (.int .i64 p0.Expires), .d (.int .i64 1099511627776)] [] [] fun r3 =>
  cond (!r3) (
   (some (.ret [.d (.int .i64 1)] [] []))) (
  cond (!(p0.From == ([] : Str))) (
   γ52 [.d (.str p0.From)] [] [] fun r4 =>
   cond (!r4) (
    (some (.ret [.d (.int .i64 11)] [] []))) (
   γ63 [.d (.int .i64 p0.Seq), .d (.int .i64 1099511627776)] [] [] fun r5 =>
   cond (!r5) (
    (some (.ret [.d (.int .i64 1)] [] []))) (
   γ64 [.d (.sl api_Prop.ks (List.map api_Prop.enc p0.Props))] [] [] fun r6 =>
   (some (.ret [.d (.int .i64 r6)] [] []))))) (
  γ63 [.d (.int .i64 p0.Seq), .d (.int .i64 1099511627776)] [] [] fun r7 =>
  cond (!r7) (
   (some (.ret [.d (.int .i64 1)] [] []))) (
  γ64 [.d (.sl api_Prop.ks (List.map api_Prop.enc p0.Props))] [] [] fun r8 =>
  (some (.ret [.d (.int .i64 r8)] [] []))))))))) := by kernel_rfl
abbrev X53 : CFun := C53 (callG SE good) (callT SE good 62 topic_Valid_out) (callT SE good 63 message_is_out) (callT SE good 52 topic_Name_out) (callT SE good 64 message_Props_out)
theorem Cr53 : C53 (callG SE good) (callT SE good 62 topic_Valid_out) (callT SE good 63 message_is_out) (callT SE good 52 topic_Name_out) (callT SE good 64 message_Props_out) = bindC (callG SE good) := by unfold C53; rw [updC_real (fun _ h => h), updC_real (fun _ h => h), updC_real (fun _ h => h), updC_real (fun _ h => h)]
theorem message_Check_ok (p0 : api_Message) : Le (Option.map message_Check_out (message_Check p0)) (callW SE 53 [api_Message.av p0] [] []) := by
  refine le_bodyC Cr53 ?_
  refine Le.trans ?_ (le_of_eq (T53 _ _ _ _ _ _ _  p0).symm)
  unfold message_Check
  refine le_call (good := good) (fun y => ⟨y, rfl⟩) topic_Valid_inj (topic_Valid_ok p0.Topic) (fun r0 _ => ?_)
  refine le_cond rfl (fun _ => ?_) (fun _ => ?_)
  · skip
    exact le_ret (by first | rfl | (simp only [EN, message_Check_out]; done) | (simp only [EN, message_Check_out]; rfl))
  · skip
    refine le_cond rfl (fun _ => ?_) (fun _ => ?_)
    · skip
      exact le_ret (by first | rfl | (simp only [EN, message_Check_out]; done) | (simp only [EN, message_Check_out]; rfl))
    · skip
      refine le_call (good := good) (fun y => ⟨y, rfl⟩) message_is_inj (message_is_ok p0.Level 2) (fun r1 _ => ?_)
      refine le_cond rfl (fun _ => ?_) (fun _ => ?_)
      · skip
        exact le_ret (by first | rfl | (simp only [EN, message_Check_out]; done) | (simp only [EN, message_Check_out]; rfl))
      · skip
        refine le_call (good := good) (fun y => ⟨y, rfl⟩) message_is_inj (message_is_ok p0.Priority 9) (fun r2 _ => ?_)
        refine le_cond rfl (fun _ => ?_) (fun _ => ?_)
        · skip
          exact le_ret (by first | rfl | (simp only [EN, message_Check_out]; done) | (simp only [EN, message_Check_out]; rfl))
        · skip
          refine le_call (good := good) (fun y => ⟨y, rfl⟩) message_is_inj (message_is_ok p0.Expires 1099511627776) (fun r3 _ => ?_)
          refine le_cond rfl (fun _ => ?_) (fun _ => ?_)
          · skip
            exact le_ret (by first | rfl | (simp only [EN, message_Check_out]; done) | (simp only [EN, message_Check_out]; rfl))
          · skip
            refine le_cond rfl (fun _ => ?_) (fun _ => ?_)
            · skip
              refine le_call (good := good) (fun y => ⟨y, rfl⟩) topic_Name_inj (topic_Name_ok p0.From) (fun r4 _ => ?_)
              refine le_cond rfl (fun _ => ?_) (fun _ => ?_)
              · skip
                exact le_ret (by first | rfl | (simp only [EN, message_Check_out]; done) | (simp only [EN, message_Check_out]; rfl))
              · skip
                refine le_call (good := good) (fun y => ⟨y, rfl⟩) message_is_inj (message_is_ok p0.Seq 1099511627776) (fun r5 _ => ?_)
                refine le_cond rfl (fun _ => ?_) (fun _ => ?_)
                · skip
                  exact le_ret (by first | rfl | (simp only [EN, message_Check_out]; done) | (simp only [EN, message_Check_out]; rfl))
                · skip
                  refine le_call (good := good) (fun y => ⟨y, rfl⟩) message_Props_inj (message_Props_ok p0.Props) (fun r6 _ => ?_)
                  exact le_ret (by first | rfl | (simp only [EN, message_Check_out]; done) | (simp only [EN, message_Check_out]; rfl))
            · skip
              refine le_call (good := good) (fun y => ⟨y, rfl⟩) message_is_inj (message_is_ok p0.Seq 1099511627776) (fun r7 _ => ?_)
              refine le_cond rfl (fun _ => ?_) (fun _ => ?_)
              · skip
                exact le_ret (by first | rfl | (simp only [EN, message_Check_out]; done) | (simp only [EN, message_Check_out]; rfl))
              · skip
                refine le_call (good := good) (fun y => ⟨y, rfl⟩) message_Props_inj (message_Props_ok p0.Props) (fun r8 _ => ?_)
                exact le_ret (by first | rfl | (simp only [EN, message_Check_out]; done) | (simp only [EN, message_Check_out]; rfl))
def C26 (Γ : Fun) (γ52 : Gm (Bool)) (γ24 : Gm (Bool)) (γ43 : Gm (Bool)) (γ53 : Gm (Int)) : CFun := updC (updC (updC (updC (bindC Γ) 52 topic_Name_out γ52) 24 packet_is_out γ24) 43 message_Same_out γ43) 53 message_Check_out γ53
theorem T26 (Γ : Fun) (γ52 : Gm (Bool)) (γ24 : Gm (Bool)) (γ43 : Gm (Bool)) (γ53 : Gm (Int)) (Λ2 J : Lam) (p0 : api_Packet) : bodyC SE (C26 Γ γ52 γ24 γ43 γ53) Λ2 J 26 [api_Packet.av p0] [] [] =
  γ52 [.d (.str p0.Client)] [] [] fun r0 =>
  cond (!r0) (
   (some (.ret [.d (.int .i64 11)] [] []))) (
  cond (!(p0.User == ([] : Str))) (
   γ52 [.d (.str p0.User)] [] [] fun r1 =>
   cond (!r1) (
    (some (.ret [.d (.int .i64 11)] [] []))) (
   γ24 [.d (.int .i64 p0.Keep), .d (.int .i64 0), .d (.int .i64 1099511627776)] [] [] fun r2 =>
   cond (!r2) (
    (some (.ret [.d (.int .i64 1)] [] []))) (
   γ24 [.d (.int .i64 p0.Expiry), .d (.int .i64 0), .d (.int .i64 1099511627776)] [] [] fun r3 =>
   cond (!r3) (
    (some (.ret [.d (.int .i64 1)] [] []))) (
   γ24 [.d (.int .i64 p0.Window), .d (.int .i64 1), .d (.int .i64 32)] [] [] fun r4 =>
   cond (!r4) (
    (some (.ret [.d (.int .i64 1)] [] []))) (
   cond (!p0.Will.Set) (
    cond (p0.Will.Delay != 0) (
     (some (.ret [.d (.int .i64 28)] [] []))) (
    γ43 [api_Message.av p0.Will.Message, .agg [.d (.str ([] : Str)), .d (.str ([] : Str)), .d (.int .i64 0), .d (.bool false), .d (.int .i64 0), .d (.int .i64 0), .d (.str ([] : Str)), .d (.int .i64 0), .d (.sl api_Prop.ks (List.map api_Prop.enc []))]] [] [] fun r5 =>
    cond (!r5) (
     (some (.ret [.d (.int .i64 28)] [] []))) (
    cond (!p0.Will.Set) (
     (some (.ret [.d (.int .i64 0)] [] []))) (
    γ24 [.d (.int .i64 p0.Will.Delay), .d (.int .i64 0), .d (.int .i64 1099511627776)] [] [] fun r6 =>
    cond (!r6) (
     (some (.ret [.d (.int .i64 1)] [] []))) (
    γ53 [api_Message.av p0.Will.Message] [] [] fun r7 =>
    (some (.ret [.d (.int .i64 r7)] [] []))))))) (
   cond (!p0.Will.Set) (
    (some (.ret [.d (.int .i64 0)] [] []))) (
   γ24 [.d (.int .i64 p0.Will.Delay), .d (.int .i64 0), .d (.int .i64 1099511627776)] [] [] fun r8 =>
   cond (!r8) (
    (some (.ret [.d (.int .i64 1)] [] []))) (
   γ53 [api_Message.av p0.Will.Message] [] [] fun r9 =>
   (some (.ret [.d (.int .i64 r9)] [] [])))))))))) (
  γ24 [.d (.int .i64 p0.Keep), .d (.int .i64 0), .d (.int .i64 1099511627776)] [] [] fun r10 =>
  cond (!r10) (
   (some (.ret [.d (.int .i64 1)] [] []))) (
  γ24 [.d (.int .i64 p0.Expiry), .d (.int .i64 0), .d (.int .i64 1099511627776)] [] [] fun r11 =>
  cond (!r11) (
   (some (.ret [.d (.int .i64 1)] [] []))) (
  γ24 [.d (.int .i64 p0.Window), .d (.int .i64 1), .d (.int .i64 32)] [] [] fun r12 =>
  cond (!r12) (
   (some (.ret [.d (.int .i64 1)] [] []))) (
  cond (!p0.Will.Set) (
   cond (p0.Will.Delay != 0) (
    (some (.ret [.d (.int .i64 28)] [] []))) (
   γ43 [api_Message.av p0.Will.Message, .agg [.d (.str ([] : Str)), .d (.str ([] : Str)), .d (.int .i64 0), .d (.bool false), .d (.int .i64 0), .d (.int .i64 0), .d (.str ([] : Str)), .d (.int .i64 0), .d (.sl api_Prop.ks (List.map api_Prop.enc []))]] [] [] fun r13 =>
   cond (!r13) (
    (some (.ret [.d (.int .i64 28)] [] []))) (
   cond (!p0.Will.Set) (
    (some (.ret [.d (.int .i64 0)] [] []))) (
   γ24 [.d (.int .i64 p0.Will.Delay), .d (.int .i64 0), .d (.int .i64 1099511627776)] [] [] fun r14 =>
   cond (!r14) (
    (some (.ret [.d (.int .i64 1)] [] []))) (
   γ53 [api_Message.av p0.Will.Message] [] [] fun r15 =>
   (some (.ret [.d (.int .i64 r15)] [] []))))))) (
  cond (!p0.Will.Set) (
   (some (.ret [.d (.int .i64 0)] [] []))) (
  γ24 [.d (.int .i64 p0.Will.Delay), .d (.int .i64 0), .d (.int .i64 1099511627776)] [] [] fun r16 =>
  cond (!r16) (
   (some (.ret [.d (.int .i64 1)] [] []))) (
  γ53 [api_Message.av p0.Will.Message] [] [] fun r17 =>
  (some (.ret [.d (.int .i64 r17)] [] [])))))))))) := by kernel_rfl
abbrev X26 : CFun := C26 (callG SE good) (callT SE good 52 topic_Name_out) (callT SE good 24 packet_is_out) (callT SE good 43 message_Same_out) (callT SE good 53 message_Check_out)
theorem Cr26 : C26 (callG SE good) (callT SE good 52 topic_Name_out) (callT SE good 24 packet_is_out) (callT SE good 43 message_Same_out) (callT SE good 53 message_Check_out) = bindC (callG SE good) := by unfold C26; rw [updC_real (fun _ h => h), updC_real (fun _ h => h), updC_real (fun _ h => h), updC_real (fun _ h => h)]
theorem packet_connect_ok (p0 : api_Packet) : Le (Option.map packet_connect_out (packet_connect p0)) (callW SE 26 [api_Packet.av p0] [] []) := by
  refine le_bodyC Cr26 ?_
  refine Le.trans ?_ (le_of_eq (T26 _ _ _ _ _ _ _  p0).symm)
  unfold packet_connect
  refine le_call (good := good) (fun y => ⟨y, rfl⟩) topic_Name_inj (topic_Name_ok p0.Client) (fun r0 _ => ?_)
  refine le_cond rfl (fun _ => ?_) (fun _ => ?_)
  · skip
    exact le_ret (by first | rfl | (simp only [EN, packet_connect_out]; done) | (simp only [EN, packet_connect_out]; rfl))
  · skip
    refine le_cond rfl (fun _ => ?_) (fun _ => ?_)
    · skip
      refine le_call (good := good) (fun y => ⟨y, rfl⟩) topic_Name_inj (topic_Name_ok p0.User) (fun r1 _ => ?_)
      refine le_cond rfl (fun _ => ?_) (fun _ => ?_)
      · skip
        exact le_ret (by first | rfl | (simp only [EN, packet_connect_out]; done) | (simp only [EN, packet_connect_out]; rfl))
      · skip
        refine le_call (good := good) (fun y => ⟨y, rfl⟩) packet_is_inj (packet_is_ok p0.Keep 0 1099511627776) (fun r2 _ => ?_)
        refine le_cond rfl (fun _ => ?_) (fun _ => ?_)
        · skip
          exact le_ret (by first | rfl | (simp only [EN, packet_connect_out]; done) | (simp only [EN, packet_connect_out]; rfl))
        · skip
          refine le_call (good := good) (fun y => ⟨y, rfl⟩) packet_is_inj (packet_is_ok p0.Expiry 0 1099511627776) (fun r3 _ => ?_)
          refine le_cond rfl (fun _ => ?_) (fun _ => ?_)
          · skip
            exact le_ret (by first | rfl | (simp only [EN, packet_connect_out]; done) | (simp only [EN, packet_connect_out]; rfl))
          · skip
            refine le_call (good := good) (fun y => ⟨y, rfl⟩) packet_is_inj (packet_is_ok p0.Window 1 32) (fun r4 _ => ?_)
            refine le_cond rfl (fun _ => ?_) (fun _ => ?_)
            · skip
              exact le_ret (by first | rfl | (simp only [EN, packet_connect_out]; done) | (simp only [EN, packet_connect_out]; rfl))
            · skip
              refine le_cond rfl (fun _ => ?_) (fun _ => ?_)
              · skip
                refine le_cond rfl (fun _ => ?_) (fun _ => ?_)
                · skip
                  exact le_ret (by first | rfl | (simp only [EN, packet_connect_out]; done) | (simp only [EN, packet_connect_out]; rfl))
                · skip
                  refine le_call (good := good) (fun y => ⟨y, rfl⟩) message_Same_inj (by first | (simp only [EN]; exact message_Same_ok p0.Will.Message ((api_Message.mk ([] : Str) ([] : Str) 0 false 0 0 ([] : Str) 0 ([] : List api_Prop)))) | exact message_Same_ok p0.Will.Message ((api_Message.mk ([] : Str) ([] : Str) 0 false 0 0 ([] : Str) 0 ([] : List api_Prop)))) (fun r5 _ => ?_)
                  refine le_cond rfl (fun _ => ?_) (fun _ => ?_)
                  · skip
                    exact le_ret (by first | rfl | (simp only [EN, packet_connect_out]; done) | (simp only [EN, packet_connect_out]; rfl))
                  · skip
                    refine le_cond rfl (fun _ => ?_) (fun _ => ?_)
                    · skip
                      exact le_ret (by first | rfl | (simp only [EN, packet_connect_out]; done) | (simp only [EN, packet_connect_out]; rfl))
                    · skip
                      refine le_call (good := good) (fun y => ⟨y, rfl⟩) packet_is_inj (packet_is_ok p0.Will.Delay 0 1099511627776) (fun r6 _ => ?_)
                      refine le_cond rfl (fun _ => ?_) (fun _ => ?_)
                      · skip
                        exact le_ret (by first | rfl | (simp only [EN, packet_connect_out]; done) | (simp only [EN, packet_connect_out]; rfl))
                      · skip
                        refine le_call (good := good) (fun y => ⟨y, rfl⟩) message_Check_inj (message_Check_ok p0.Will.Message) (fun r7 _ => ?_)
                        exact le_ret (by first | rfl | (simp only [EN, packet_connect_out]; done) | (simp only [EN, packet_connect_out]; rfl))
              · skip
                refine le_cond rfl (fun _ => ?_) (fun _ => ?_)
                · skip
                  exact le_ret (by first | rfl | (simp only [EN, packet_connect_out]; done) | (simp only [EN, packet_connect_out]; rfl))
                · skip
                  refine le_call (good := good) (fun y => ⟨y, rfl⟩) packet_is_inj (packet_is_ok p0.Will.Delay 0 1099511627776) (fun r8 _ => ?_)
                  refine le_cond rfl (fun _ => ?_) (fun _ => ?_)
                  · skip
                    exact le_ret (by first | rfl | (simp only [EN, packet_connect_out]; done) | (simp only [EN, packet_connect_out]; rfl))
                  · skip
                    refine le_call (good := good) (fun y => ⟨y, rfl⟩) message_Check_inj (message_Check_ok p0.Will.Message) (fun r9 _ => ?_)
                    exact le_ret (by first | rfl | (simp only [EN, packet_connect_out]; done) | (simp only [EN, packet_connect_out]; rfl))
    · skip
      refine le_call (good := good) (fun y => ⟨y, rfl⟩) packet_is_inj (packet_is_ok p0.Keep 0 1099511627776) (fun r10 _ => ?_)
      refine le_cond rfl (fun _ => ?_) (fun _ => ?_)
      · skip
        exact le_ret (by first | rfl | (simp only [EN, packet_connect_out]; done) | (simp only [EN, packet_connect_out]; rfl))
      · skip
        refine le_call (good := good) (fun y => ⟨y, rfl⟩) packet_is_inj (packet_is_ok p0.Expiry 0 1099511627776) (fun r11 _ => ?_)
        refine le_cond rfl (fun _ => ?_) (fun _ => ?_)
        · skip
          exact le_ret (by first | rfl | (simp only [EN, packet_connect_out]; done) | (simp only [EN, packet_connect_out]; rfl))
        · skip
          refine le_call (good := good) (fun y => ⟨y, rfl⟩) packet_is_inj (packet_is_ok p0.Window 1 32) (fun r12 _ => ?_)
          refine le_cond rfl (fun _ => ?_) (fun _ => ?_)
          · skip
            exact le_ret (by first | rfl | (simp only [EN, packet_connect_out]; done) | (simp only [EN, packet_connect_out]; rfl))
          · skip
            refine le_cond rfl (fun _ => ?_) (fun _ => ?_)
            · skip
              refine le_cond rfl (fun _ => ?_) (fun _ => ?_)
              · skip
                exact le_ret (by first | rfl | (simp only [EN, packet_connect_out]; done) | (simp only [EN, packet_connect_out]; rfl))
              · skip
                refine le_call (good := good) (fun y => ⟨y, rfl⟩) message_Same_inj (by first | (simp only [EN]; exact message_Same_ok p0.Will.Message ((api_Message.mk ([] : Str) ([] : Str) 0 false 0 0 ([] : Str) 0 ([] : List api_Prop)))) | exact message_Same_ok p0.Will.Message ((api_Message.mk ([] : Str) ([] : Str) 0 false 0 0 ([] : Str) 0 ([] : List api_Prop)))) (fun r13 _ => ?_)
                refine le_cond rfl (fun _ => ?_) (fun _ => ?_)
                · skip
                  exact le_ret (by first | rfl | (simp only [EN, packet_connect_out]; done) | (simp only [EN, packet_connect_out]; rfl))
                · skip
                  refine le_cond rfl (fun _ => ?_) (fun _ => ?_)
                  · skip
                    exact le_ret (by first | rfl | (simp only [EN, packet_connect_out]; done) | (simp only [EN, packet_connect_out]; rfl))
                  · skip
                    refine le_call (good := good) (fun y => ⟨y, rfl⟩) packet_is_inj (packet_is_ok p0.Will.Delay 0 1099511627776) (fun r14 _ => ?_)
                    refine le_cond rfl (fun _ => ?_) (fun _ => ?_)
                    · skip
                      exact le_ret (by first | rfl | (simp only [EN, packet_connect_out]; done) | (simp only [EN, packet_connect_out]; rfl))
                    · skip
                      refine le_call (good := good) (fun y => ⟨y, rfl⟩) message_Check_inj (message_Check_ok p0.Will.Message) (fun r15 _ => ?_)
                      exact le_ret (by first | rfl | (simp only [EN, packet_connect_out]; done) | (simp only [EN, packet_connect_out]; rfl))
            · skip
              refine le_cond rfl (fun _ => ?_) (fun _ => ?_)
              · skip
                exact le_ret (by first | rfl | (simp only [EN, packet_connect_out]; done) | (simp only [EN, packet_connect_out]; rfl))
              · skip
                refine le_call (good := good) (fun y => ⟨y, rfl⟩) packet_is_inj (packet_is_ok p0.Will.Delay 0 1099511627776) (fun r16 _ => ?_)
                refine le_cond rfl (fun _ => ?_) (fun _ => ?_)
                · skip
                  exact le_ret (by first | rfl | (simp only [EN, packet_connect_out]; done) | (simp only [EN, packet_connect_out]; rfl))
                · skip
                  refine le_call (good := good) (fun y => ⟨y, rfl⟩) message_Check_inj (message_Check_ok p0.Will.Message) (fun r17 _ => ?_)
                  exact le_ret (by first | rfl | (simp only [EN, packet_connect_out]; done) | (simp only [EN, packet_connect_out]; rfl))
def C27 (Γ : Fun) (γ24 : Gm (Bool)) : CFun := updC (bindC Γ) 24 packet_is_out γ24
theorem T27 (Γ : Fun) (γ24 : Gm (Bool)) (Λ2 J : Lam) (p0 : Int) : bodyC SE (C27 Γ γ24) Λ2 J 27 [.d (.int .i64 p0)] [] [] =
  γ24 [.d (.int .i64 p0), .d (.int .i64 0), .d (.int .i64 29)] [] [] fun r0 =>
  (some (.ret [.d (.bool r0)] [] [])) := by kernel_rfl
abbrev X27 : CFun := C27 (callG SE good) (callT SE good 24 packet_is_out)
theorem Cr27 : C27 (callG SE good) (callT SE good 24 packet_is_out) = bindC (callG SE good) := by unfold C27; rw [updC_real (fun _ h => h)]
theorem packet_code_ok (p0 : Int) : Le (Option.map packet_code_out (packet_code p0)) (callW SE 27 [.d (.int .i64 p0)] [] []) := by
  refine le_bodyC Cr27 ?_
  refine Le.trans ?_ (le_of_eq (T27 _ _ _ _  p0).symm)
  unfold packet_code
  refine le_call (good := good) (fun y => ⟨y, rfl⟩) packet_is_inj (packet_is_ok p0 0 29) (fun r0 _ => ?_)
  exact le_ret (by first | rfl | (simp only [EN, packet_code_out]; done) | (simp only [EN, packet_code_out]; rfl))
def C29 (Γ : Fun) (γ24 : Gm (Bool)) : CFun := updC (bindC Γ) 24 packet_is_out γ24
theorem T29 (Γ : Fun) (γ24 : Gm (Bool)) (Λ2 J : Lam) (p0 : Int) : bodyC SE (C29 Γ γ24) Λ2 J 29 [.d (.int .i64 p0)] [] [] =
  γ24 [.d (.int .i64 p0), .d (.int .i64 1), .d (.int .i64 65535)] [] [] fun r0 =>
  cond (!r0) (
   (some (.ret [.d (.int .i64 15)] [] []))) (
  (some (.ret [.d (.int .i64 0)] [] []))) := by kernel_rfl
abbrev X29 : CFun := C29 (callG SE good) (callT SE good 24 packet_is_out)
theorem Cr29 : C29 (callG SE good) (callT SE good 24 packet_is_out) = bindC (callG SE good) := by unfold C29; rw [updC_real (fun _ h => h)]
theorem packet_ident_ok (p0 : Int) : Le (Option.map packet_ident_out (packet_ident p0)) (callW SE 29 [.d (.int .i64 p0)] [] []) := by
  refine le_bodyC Cr29 ?_
  refine Le.trans ?_ (le_of_eq (T29 _ _ _ _  p0).symm)
  unfold packet_ident
  refine le_call (good := good) (fun y => ⟨y, rfl⟩) packet_is_inj (packet_is_ok p0 1 65535) (fun r0 _ => ?_)
  refine le_cond rfl (fun _ => ?_) (fun _ => ?_)
  · skip
    exact le_ret (by first | rfl | (simp only [EN, packet_ident_out]; done) | (simp only [EN, packet_ident_out]; rfl))
  · skip
    exact le_ret (by first | rfl | (simp only [EN, packet_ident_out]; done) | (simp only [EN, packet_ident_out]; rfl))
def C28 (Γ : Fun) (γ53 : Gm (Int)) (γ29 : Gm (Int)) : CFun := updC (updC (bindC Γ) 53 message_Check_out γ53) 29 packet_ident_out γ29
theorem T28 (Γ : Fun) (γ53 : Gm (Int)) (γ29 : Gm (Int)) (Λ2 J : Lam) (p0 : api_Packet) : bodyC SE (C28 Γ γ53 γ29) Λ2 J 28 [api_Packet.av p0] [] [] =
  γ53 [api_Message.av p0.Message] [] [] fun r0 =>
  cond (r0 != 0) (
   (some (.ret [.d (.int .i64 r0)] [] []))) (
  cond (p0.Message.Level != 0) (
   γ29 [.d (.int .i64 p0.ID)] [] [] fun r1 =>
   (some (.ret [.d (.int .i64 r1)] [] []))) (
  cond (p0.ID != 0) (
   (some (.ret [.d (.int .i64 15)] [] []))) (
  cond p0.Dup (
   (some (.ret [.d (.int .i64 28)] [] []))) (
  (some (.ret [.d (.int .i64 0)] [] [])))))) := by kernel_rfl
abbrev X28 : CFun := C28 (callG SE good) (callT SE good 53 message_Check_out) (callT SE good 29 packet_ident_out)
theorem Cr28 : C28 (callG SE good) (callT SE good 53 message_Check_out) (callT SE good 29 packet_ident_out) = bindC (callG SE good) := by unfold C28; rw [updC_real (fun _ h => h), updC_real (fun _ h => h)]
theorem packet_publish_ok (p0 : api_Packet) : Le (Option.map packet_publish_out (packet_publish p0)) (callW SE 28 [api_Packet.av p0] [] []) := by
  refine le_bodyC Cr28 ?_
  refine Le.trans ?_ (le_of_eq (T28 _ _ _ _ _  p0).symm)
  unfold packet_publish
  refine le_call (good := good) (fun y => ⟨y, rfl⟩) message_Check_inj (message_Check_ok p0.Message) (fun r0 _ => ?_)
  refine le_cond rfl (fun _ => ?_) (fun _ => ?_)
  · skip
    exact le_ret (by first | rfl | (simp only [EN, packet_publish_out]; done) | (simp only [EN, packet_publish_out]; rfl))
  · skip
    refine le_cond rfl (fun _ => ?_) (fun _ => ?_)
    · skip
      refine le_call (good := good) (fun y => ⟨y, rfl⟩) packet_ident_inj (packet_ident_ok p0.ID) (fun r1 _ => ?_)
      exact le_ret (by first | rfl | (simp only [EN, packet_publish_out]; done) | (simp only [EN, packet_publish_out]; rfl))
    · skip
      refine le_cond rfl (fun _ => ?_) (fun _ => ?_)
      · skip
        exact le_ret (by first | rfl | (simp only [EN, packet_publish_out]; done) | (simp only [EN, packet_publish_out]; rfl))
      · skip
        refine le_cond rfl (fun _ => ?_) (fun _ => ?_)
        · skip
          exact le_ret (by first | rfl | (simp only [EN, packet_publish_out]; done) | (simp only [EN, packet_publish_out]; rfl))
        · skip
          exact le_ret (by first | rfl | (simp only [EN, packet_publish_out]; done) | (simp only [EN, packet_publish_out]; rfl))
def C54 (Γ : Fun) (γ24 : Gm (Bool)) : CFun := updC (bindC Γ) 24 packet_is_out γ24
theorem T54 (Γ : Fun) (γ24 : Gm (Bool)) (Λ2 J : Lam) (p0 : Int) (p1 : Int) : bodyC SE (C54 Γ γ24) Λ2 J 54 [.d (.int .i64 p0), .d (.int .i64 p1)] [] [] =
  γ24 [.d (.int .i64 p0), .d (.int .i64 1), .d (.int .i64 65535)] [] [] fun r0 =>
  cond (!r0) (
   (some (.ret [.d (.int .i64 15)] [] []))) (
  cond (p1 == 0) (
   (some (.ret [.d (.int .i64 1)] [] []))) (
  cond (decide (p1 > 32)) (
   (some (.ret [.d (.int .i64 5)] [] []))) (
  (some (.ret [.d (.int .i64 0)] [] []))))) := by kernel_rfl
abbrev X54 : CFun := C54 (callG SE good) (callT SE good 24 packet_is_out)
theorem Cr54 : C54 (callG SE good) (callT SE good 24 packet_is_out) = bindC (callG SE good) := by unfold C54; rw [updC_real (fun _ h => h)]
theorem packet_counted_ok (p0 : Int) (p1 : Int) : Le (Option.map packet_counted_out (packet_counted p0 p1)) (callW SE 54 [.d (.int .i64 p0), .d (.int .i64 p1)] [] []) := by
  refine le_bodyC Cr54 ?_
  refine Le.trans ?_ (le_of_eq (T54 _ _ _ _  p0 p1).symm)
  unfold packet_counted
  refine le_call (good := good) (fun y => ⟨y, rfl⟩) packet_is_inj (packet_is_ok p0 1 65535) (fun r0 _ => ?_)
  refine le_cond rfl (fun _ => ?_) (fun _ => ?_)
  · skip
    exact le_ret (by first | rfl | (simp only [EN, packet_counted_out]; done) | (simp only [EN, packet_counted_out]; rfl))
  · skip
    refine le_cond rfl (fun _ => ?_) (fun _ => ?_)
    · skip
      exact le_ret (by first | rfl | (simp only [EN, packet_counted_out]; done) | (simp only [EN, packet_counted_out]; rfl))
    · skip
      refine le_cond rfl (fun _ => ?_) (fun _ => ?_)
      · skip
        exact le_ret (by first | rfl | (simp only [EN, packet_counted_out]; done) | (simp only [EN, packet_counted_out]; rfl))
      · skip
        exact le_ret (by first | rfl | (simp only [EN, packet_counted_out]; done) | (simp only [EN, packet_counted_out]; rfl))
def C80 (Γ : Fun)  : CFun := bindC Γ
theorem T80 (Γ : Fun)  (Λ2 J : Lam) (p0 : Str) (p1 : Str) : bodyC SE (C80 Γ) Λ2 J 80 [.d (.str p0), .d (.str p1)] [] [] =
  cond (decide ((List.length p0 : Int) ≥ (List.length p1 : Int))) (
   cond (decide (0 ≤ (List.length p1 : Int)) && decide ((List.length p1 : Int) ≤ ((List.length p0) : Int))) (
    (some (.ret [.d (.bool ((cutL p0 none (some (List.length p1 : Int))) == p1))] [] []))) none) (
  (some (.ret [.d (.bool false)] [] []))) := by kernel_rfl
abbrev X80 : CFun := C80 (callG SE good)
theorem Cr80 : C80 (callG SE good) = bindC (callG SE good) := by unfold C80; rfl
theorem stringslite_HasPrefix_ok (p0 : Str) (p1 : Str) : Le (Option.map stringslite_HasPrefix_out (stringslite_HasPrefix p0 p1)) (callW SE 80 [.d (.str p0), .d (.str p1)] [] []) := by
  refine le_bodyC Cr80 ?_
  refine Le.trans ?_ (le_of_eq (T80 _ _ _  p0 p1).symm)
  unfold stringslite_HasPrefix
  refine le_cond rfl (fun _ => ?_) (fun _ => ?_)
  · skip
    refine le_cond rfl (fun _ => ?_) (fun _ => le_none)
    exact le_ret (by first | rfl | (simp only [EN, stringslite_HasPrefix_out]; done) | (simp only [EN, stringslite_HasPrefix_out]; rfl))
  · skip
    exact le_ret (by first | rfl | (simp only [EN, stringslite_HasPrefix_out]; done) | (simp only [EN, stringslite_HasPrefix_out]; rfl))
def C85 (Γ : Fun) (γ80 : Gm (Bool)) : CFun := updC (bindC Γ) 80 stringslite_HasPrefix_out γ80
theorem T85 (Γ : Fun) (γ80 : Gm (Bool)) (Λ2 J : Lam) (p0 : Str) (p1 : Str) : bodyC SE (C85 Γ γ80) Λ2 J 85 [.d (.str p0), .d (.str p1)] [] [] =
  γ80 [.d (.str p0), .d (.str p1)] [] [] fun r0 =>
  cond (!r0) (
   (some (.ret [.d (.str p0), .d (.bool false)] [] []))) (
  cond (decide (0 ≤ (List.length p1 : Int)) && decide ((List.length p1 : Int) ≤ ((List.length p0) : Int))) (
   (some (.ret [.d (.str (cutL p0 (some (List.length p1 : Int)) none)), .d (.bool true)] [] []))) none) := by kernel_rfl
abbrev X85 : CFun := C85 (callG SE good) (callT SE good 80 stringslite_HasPrefix_out)
theorem Cr85 : C85 (callG SE good) (callT SE good 80 stringslite_HasPrefix_out) = bindC (callG SE good) := by unfold C85; rw [updC_real (fun _ h => h)]
theorem stringslite_CutPrefix_ok (p0 : Str) (p1 : Str) : Le (Option.map stringslite_CutPrefix_out (stringslite_CutPrefix p0 p1)) (callW SE 85 [.d (.str p0), .d (.str p1)] [] []) := by
  refine le_bodyC Cr85 ?_
  refine Le.trans ?_ (le_of_eq (T85 _ _ _ _  p0 p1).symm)
  unfold stringslite_CutPrefix
  refine le_call (good := good) (fun y => ⟨y, rfl⟩) stringslite_HasPrefix_inj (stringslite_HasPrefix_ok p0 p1) (fun r0 _ => ?_)
  refine le_cond rfl (fun _ => ?_) (fun _ => ?_)
  · skip
    exact le_ret (by first | rfl | (simp only [EN, stringslite_CutPrefix_out]; done) | (simp only [EN, stringslite_CutPrefix_out]; rfl))
  · skip
    refine le_cond rfl (fun _ => ?_) (fun _ => le_none)
    exact le_ret (by first | rfl | (simp only [EN, stringslite_CutPrefix_out]; done) | (simp only [EN, stringslite_CutPrefix_out]; rfl))
def C77 (Γ : Fun) (γ85 : Gm (Str × Bool)) : CFun := updC (bindC Γ) 85 stringslite_CutPrefix_out γ85
theorem T77 (Γ : Fun) (γ85 : Gm (Str × Bool)) (Λ2 J : Lam) (p0 : Str) (p1 : Str) : bodyC SE (C77 Γ γ85) Λ2 J 77 [.d (.str p0), .d (.str p1)] [] [] =
  γ85 [.d (.str p0), .d (.str p1)] [] [] fun r0 =>
  (some (.ret [.d (.str r0.1), .d (.bool r0.2)] [] [])) := by kernel_rfl
abbrev X77 : CFun := C77 (callG SE good) (callT SE good 85 stringslite_CutPrefix_out)
theorem Cr77 : C77 (callG SE good) (callT SE good 85 stringslite_CutPrefix_out) = bindC (callG SE good) := by unfold C77; rw [updC_real (fun _ h => h)]
theorem strings_CutPrefix_ok (p0 : Str) (p1 : Str) : Le (Option.map strings_CutPrefix_out (strings_CutPrefix p0 p1)) (callW SE 77 [.d (.str p0), .d (.str p1)] [] []) := by
  refine le_bodyC Cr77 ?_
  refine Le.trans ?_ (le_of_eq (T77 _ _ _ _  p0 p1).symm)
  unfold strings_CutPrefix
  refine le_call (good := good) (fun y => ⟨y, rfl⟩) stringslite_CutPrefix_inj (stringslite_CutPrefix_ok p0 p1) (fun r0 _ => ?_)
  exact le_ret (by first | rfl | (simp only [EN, strings_CutPrefix_out]; done) | (simp only [EN, strings_CutPrefix_out]; rfl))
def C90 (Γ : Fun)  : CFun := bindC Γ
theorem T90 (Γ : Fun)  (Λ2 J : Lam) (p0 : Str) (p1 : Int) : bodyC SE (C90 Γ) Λ2 J 90 [.d (.str p0), .d (.int .u8 p1)] [] [] =
  (some (.ret [.d (.int .i64 (Lib.indexByte p0 (UInt8.ofNat (Int.toNat p1)) : Int))] [] [])) := by kernel_rfl
abbrev X90 : CFun := C90 (callG SE good)
theorem Cr90 : C90 (callG SE good) = bindC (callG SE good) := by unfold C90; rfl
theorem stringslite_IndexByte_ok (p0 : Str) (p1 : Int) : Le (Option.map stringslite_IndexByte_out (stringslite_IndexByte p0 p1)) (callW SE 90 [.d (.str p0), .d (.int .u8 p1)] [] []) := by
  refine le_bodyC Cr90 ?_
  refine Le.trans ?_ (le_of_eq (T90 _ _ _  p0 p1).symm)
  unfold stringslite_IndexByte
  exact le_ret (by first | rfl | (simp only [EN, stringslite_IndexByte_out]; done) | (simp only [EN, stringslite_IndexByte_out]; rfl))
def C88 (Γ : Fun) (γ90 : Gm (Int)) : CFun := updC (bindC Γ) 90 stringslite_IndexByte_out γ90
theorem T88 (Γ : Fun) (γ90 : Gm (Int)) (Λ2 J : Lam) (p0 : Str) (p1 : Str) : bodyC SE (C88 Γ γ90) Λ2 J 88 [.d (.str p0), .d (.str p1)] [] [] =
  cond ((List.length p1 : Int) == 0) (
   (some (.ret [.d (.int .i64 0)] [] []))) (
  cond (p1 == p0) (
   (some (.ret [.d (.int .i64 0)] [] []))) (
  cond ((List.length p1 : Int) == 1) (
   cond (decide (0 ≤ 0) && decide (0 < (List.length p1 : Int))) (
    γ90 [.d (.str p0), .d (.int .u8 (UInt8.toNat (List.getD p1 (Int.toNat 0) 0) : Int))] [] [] fun r0 =>
    (some (.ret [.d (.int .i64 r0)] [] []))) none) (
  cond (decide ((List.length p1 : Int) ≥ (List.length p0 : Int))) (
   (some (.ret [.d (.int .i64 (-1))] [] []))) none))) := by kernel_rfl
abbrev X88 : CFun := C88 (callG SE good) (callT SE good 90 stringslite_IndexByte_out)
theorem Cr88 : C88 (callG SE good) (callT SE good 90 stringslite_IndexByte_out) = bindC (callG SE good) := by unfold C88; rw [updC_real (fun _ h => h)]
theorem stringslite_Index_ok (p0 : Str) (p1 : Str) : Le (Option.map stringslite_Index_out (stringslite_Index p0 p1)) (callW SE 88 [.d (.str p0), .d (.str p1)] [] []) := by
  refine le_bodyC Cr88 ?_
  refine Le.trans ?_ (le_of_eq (T88 _ _ _ _  p0 p1).symm)
  unfold stringslite_Index
  refine le_cond rfl (fun _ => ?_) (fun _ => ?_)
  · skip
    exact le_ret (by first | rfl | (simp only [EN, stringslite_Index_out]; done) | (simp only [EN, stringslite_Index_out]; rfl))
  · skip
    refine le_cond rfl (fun _ => ?_) (fun _ => ?_)
    · skip
      exact le_ret (by first | rfl | (simp only [EN, stringslite_Index_out]; done) | (simp only [EN, stringslite_Index_out]; rfl))
    · skip
      refine le_cond rfl (fun _ => ?_) (fun _ => ?_)
      · skip
        refine le_cond rfl (fun _ => ?_) (fun _ => le_none)
        refine le_call (good := good) (fun y => ⟨y, rfl⟩) stringslite_IndexByte_inj (stringslite_IndexByte_ok p0 (UInt8.toNat (List.getD p1 (Int.toNat 0) 0) : Int)) (fun r0 _ => ?_)
        exact le_ret (by first | rfl | (simp only [EN, stringslite_Index_out]; done) | (simp only [EN, stringslite_Index_out]; rfl))
      · skip
        refine le_cond rfl (fun _ => ?_) (fun _ => le_none)
        exact le_ret (by first | rfl | (simp only [EN, stringslite_Index_out]; done) | (simp only [EN, stringslite_Index_out]; rfl))
def C86 (Γ : Fun) (γ88 : Gm (Int)) : CFun := updC (bindC Γ) 88 stringslite_Index_out γ88
theorem T86 (Γ : Fun) (γ88 : Gm (Int)) (Λ2 J : Lam) (p0 : Str) (p1 : Str) : bodyC SE (C86 Γ γ88) Λ2 J 86 [.d (.str p0), .d (.str p1)] [] [] =
  γ88 [.d (.str p0), .d (.str p1)] [] [] fun r0 =>
  cond (decide (r0 ≥ 0)) (
   cond (decide (0 ≤ r0) && decide (r0 ≤ ((List.length p0) : Int))) (
    cond (decide (0 ≤ (IntKind.wrap .i64 (r0 + (List.length p1 : Int)))) && decide ((IntKind.wrap .i64 (r0 + (List.length p1 : Int))) ≤ ((List.length p0) : Int))) (
     (some (.ret [.d (.str (cutL p0 none (some r0))), .d (.str (cutL p0 (some (IntKind.wrap .i64 (r0 + (List.length p1 : Int)))) none)), .d (.bool true)] [] []))) none) none) (
  (some (.ret [.d (.str p0), .d (.str ([] : Str)), .d (.bool false)] [] []))) := by kernel_rfl
abbrev X86 : CFun := C86 (callG SE good) (callT SE good 88 stringslite_Index_out)
theorem Cr86 : C86 (callG SE good) (callT SE good 88 stringslite_Index_out) = bindC (callG SE good) := by unfold C86; rw [updC_real (fun _ h => h)]
theorem stringslite_Cut_ok (p0 : Str) (p1 : Str) : Le (Option.map stringslite_Cut_out (stringslite_Cut p0 p1)) (callW SE 86 [.d (.str p0), .d (.str p1)] [] []) := by
  refine le_bodyC Cr86 ?_
  refine Le.trans ?_ (le_of_eq (T86 _ _ _ _  p0 p1).symm)
  unfold stringslite_Cut
  refine le_call (good := good) (fun y => ⟨y, rfl⟩) stringslite_Index_inj (stringslite_Index_ok p0 p1) (fun r0 _ => ?_)
  refine le_cond rfl (fun _ => ?_) (fun _ => ?_)
  · skip
    refine le_cond rfl (fun _ => ?_) (fun _ => le_none)
    refine le_cond rfl (fun _ => ?_) (fun _ => le_none)
    exact le_ret (by first | rfl | (simp only [EN, stringslite_Cut_out]; done) | (simp only [EN, stringslite_Cut_out]; rfl))
  · skip
    exact le_ret (by first | rfl | (simp only [EN, stringslite_Cut_out]; done) | (simp only [EN, stringslite_Cut_out]; rfl))
def C78 (Γ : Fun) (γ86 : Gm (Str × Str × Bool)) : CFun := updC (bindC Γ) 86 stringslite_Cut_out γ86
theorem T78 (Γ : Fun) (γ86 : Gm (Str × Str × Bool)) (Λ2 J : Lam) (p0 : Str) (p1 : Str) : bodyC SE (C78 Γ γ86) Λ2 J 78 [.d (.str p0), .d (.str p1)] [] [] =
  γ86 [.d (.str p0), .d (.str p1)] [] [] fun r0 =>
  (some (.ret [.d (.str r0.1), .d (.str r0.2.1), .d (.bool r0.2.2)] [] [])) := by kernel_rfl
abbrev X78 : CFun := C78 (callG SE good) (callT SE good 86 stringslite_Cut_out)
theorem Cr78 : C78 (callG SE good) (callT SE good 86 stringslite_Cut_out) = bindC (callG SE good) := by unfold C78; rw [updC_real (fun _ h => h)]
theorem strings_Cut_ok (p0 : Str) (p1 : Str) : Le (Option.map strings_Cut_out (strings_Cut p0 p1)) (callW SE 78 [.d (.str p0), .d (.str p1)] [] []) := by
  refine le_bodyC Cr78 ?_
  refine Le.trans ?_ (le_of_eq (T78 _ _ _ _  p0 p1).symm)
  unfold strings_Cut
  refine le_call (good := good) (fun y => ⟨y, rfl⟩) stringslite_Cut_inj (stringslite_Cut_ok p0 p1) (fun r0 _ => ?_)
  exact le_ret (by first | rfl | (simp only [EN, strings_Cut_out]; done) | (simp only [EN, strings_Cut_out]; rfl))
def C96 (Γ : Fun) (γ88 : Gm (Int)) : CFun := updC (bindC Γ) 88 stringslite_Index_out γ88
theorem T96 (Γ : Fun) (γ88 : Gm (Int)) (Λ2 J : Lam) (p0 : Str) (p1 : Str) : bodyC SE (C96 Γ γ88) Λ2 J 96 [.d (.str p0), .d (.str p1)] [] [] =
  γ88 [.d (.str p0), .d (.str p1)] [] [] fun r0 =>
  (some (.ret [.d (.int .i64 r0)] [] [])) := by kernel_rfl
abbrev X96 : CFun := C96 (callG SE good) (callT SE good 88 stringslite_Index_out)
theorem Cr96 : C96 (callG SE good) (callT SE good 88 stringslite_Index_out) = bindC (callG SE good) := by unfold C96; rw [updC_real (fun _ h => h)]
theorem strings_Index_ok (p0 : Str) (p1 : Str) : Le (Option.map strings_Index_out (strings_Index p0 p1)) (callW SE 96 [.d (.str p0), .d (.str p1)] [] []) := by
  refine le_bodyC Cr96 ?_
  refine Le.trans ?_ (le_of_eq (T96 _ _ _ _  p0 p1).symm)
  unfold strings_Index
  refine le_call (good := good) (fun y => ⟨y, rfl⟩) stringslite_Index_inj (stringslite_Index_ok p0 p1) (fun r0 _ => ?_)
  exact le_ret (by first | rfl | (simp only [EN, strings_Index_out]; done) | (simp only [EN, strings_Index_out]; rfl))
def C95 (Γ : Fun) (γ96 : Gm (Int)) : CFun := updC (bindC Γ) 96 strings_Index_out γ96
def R95_6 (C : CFun) (Λ2 J : Lam) (a0 : Str) (a1 : Str) (a2 : Int) : Res := lab SE C Λ2 J 95 0 [1, 1, 1, 1, 0] (stoOf [(0, .d (.str a0)), (1, .d (.str a1)), (5, .d (.int .i64 a2))] [] [] [] [])
theorem T95 (Γ : Fun) (γ96 : Gm (Int)) (Λ2 J : Lam) (p0 : Str) (p1 : Str) : bodyC SE (C95 Γ γ96) Λ2 J 95 [.d (.str p0), .d (.str p1)] [] [] =
  cond ((List.length p1 : Int) == 0) (
   none) (
  cond ((List.length p1 : Int) == 1) (
   cond (decide (0 ≤ 0) && decide (0 < (List.length p1 : Int))) (
    (some (.ret [.d (.int .i64 (Lib.countByte p0 (UInt8.ofNat (Int.toNat (UInt8.toNat (List.getD p1 (Int.toNat 0) 0) : Int))) : Int))] [] []))) none) (
  R95_6 (C95 Γ γ96) Λ2 J p0 p1 0)) := by kernel_rfl
theorem T95_6 (Γ : Fun) (γ96 : Gm (Int)) (Λ2 J : Lam) (x0 : Str) (x1 : Str) (x5 : Int) : labU SE (C95 Γ γ96) Λ2 J 95 0 [1, 1, 1, 1, 0] (stoOf [(0, .d (.str x0)), (1, .d (.str x1)), (5, .d (.int .i64 x5))] [] [] [] []) =
  γ96 [.d (.str x0), .d (.str x1)] [] [] fun r0 =>
  cond (r0 == (-1)) (
   (some (.ret [.d (.int .i64 x5)] [] []))) (
  cond (decide (0 ≤ (IntKind.wrap .i64 (r0 + (List.length x1 : Int)))) && decide ((IntKind.wrap .i64 (r0 + (List.length x1 : Int))) ≤ ((List.length x0) : Int))) (
   R95_6 (C95 Γ γ96) Λ2 J (cutL x0 (some (IntKind.wrap .i64 (r0 + (List.length x1 : Int)))) none) x1 (IntKind.wrap .i64 (x5 + 1))) none) := by kernel_rfl
abbrev X95 : CFun := C95 (callG SE good) (callT SE good 96 strings_Index_out)
theorem Cr95 : C95 (callG SE good) (callT SE good 96 strings_Index_out) = bindC (callG SE good) := by unfold C95; rw [updC_real (fun _ h => h)]
noncomputable abbrev Q95_6 (a0 : Str) (a1 : Str) (a2 : Int) : Res := R95_6 X95 (lam2 SE (callG SE good) (SE.hl 95) (SE.hr 95)) (J0 SE X95) a0 a1 a2
theorem strings_Count_l6_ok : ∀ (fu : Nat) (x0 : Str) (x1 : Str) (x5 : Int), Le (Option.map strings_Count_out (strings_Count_l6 fu x0 x1 x5)) (Q95_6 x0 x1 x5) := by
  intro fu
  induction fu with
  | zero => intros; exact le_none
  | succ fu ih =>
    intro x0 x1 x5
    refine Le.trans ?_ (le_of_eq ((lab_realC Cr95).trans (T95_6 _ _ _ _  x0 x1 x5)).symm)
    unfold strings_Count_l6
    refine le_call (good := good) (fun y => ⟨y, rfl⟩) strings_Index_inj (strings_Index_ok x0 x1) (fun r0 _ => ?_)
    refine le_cond rfl (fun _ => ?_) (fun _ => ?_)
    · skip
      exact le_ret (by first | rfl | (simp only [EN, strings_Count_out]; done) | (simp only [EN, strings_Count_out]; rfl))
    · skip
      refine le_cond rfl (fun _ => ?_) (fun _ => le_none)
      exact ih (cutL x0 (some (IntKind.wrap .i64 (r0 + (List.length x1 : Int)))) none) x1 (IntKind.wrap .i64 (x5 + 1))
theorem strings_Count_ok (p0 : Str) (p1 : Str) : Le (Option.map strings_Count_out (strings_Count p0 p1)) (callW SE 95 [.d (.str p0), .d (.str p1)] [] []) := by
  refine le_bodyC Cr95 ?_
  refine Le.trans ?_ (le_of_eq (T95 _ _ _ _  p0 p1).symm)
  unfold strings_Count
  refine le_cond rfl (fun _ => ?_) (fun _ => ?_)
  · skip
    exact le_none
  · skip
    refine le_cond rfl (fun _ => ?_) (fun _ => ?_)
    · skip
      refine le_cond rfl (fun _ => ?_) (fun _ => le_none)
      exact le_ret (by first | rfl | (simp only [EN, strings_Count_out]; done) | (simp only [EN, strings_Count_out]; rfl))
    · skip
      exact strings_Count_l6_ok fuel p0 p1 0
end Te
end PX
