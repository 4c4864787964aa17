import Derived.Test.YtjbfkdbbdkafnaaTab
set_option linter.unusedVariables false
set_option linter.unusedSimpArgs false
set_option linter.unusedVariables false
set_option linter.unusedSimpArgs false
set_option maxRecDepth 100000
noncomputable section
namespace PX
open Go
open Md
namespace Te
def C9 (Γ : Fun)  : CFun := bindC Γ
theorem T9 (Γ : Fun)  (Λ2 J : Lam) (p0 : (List api_Message)) : bodyC SE (C9 Γ) Λ2 J 9 [.d (.sl api_Message.ks (List.map api_Message.enc p0))] [] [] =
  (some (.ret [.d (.bool (decide ((List.length (List.map api_Message.enc p0) : Int) ≤ 300)))] [] [])) := by kernel_rfl
abbrev X9 : CFun := C9 (callG SE good)
theorem Cr9 : C9 (callG SE good) = bindC (callG SE good) := by unfold C9; rfl
theorem brokerlaw17_few_ok (p0 : (List api_Message)) : Le (Option.map brokerlaw17_few_out (brokerlaw17_few p0)) (callW SE 9 [.d (.sl api_Message.ks (List.map api_Message.enc p0))] [] []) := by
  refine le_bodyC Cr9 ?_
  refine Le.trans ?_ (le_of_eq (T9 _ _ _  p0).symm)
  unfold brokerlaw17_few
  exact le_ret (by first | rfl | (simp only [EN, brokerlaw17_few_out]; done) | (simp only [EN, brokerlaw17_few_out]; rfl))
def C23 (Γ : Fun)  : CFun := bindC Γ
theorem T23 (Γ : Fun)  (Λ2 J : Lam) (p0 : api_Message) : bodyC SE (C23 Γ) Λ2 J 23 [api_Message.av p0] [] [] =
  cond (decide (List.length (List.map api_Prop.enc p0.Props) * 32 ≤ 140737488355328)) (
   (some (.ret [api_Message.av p0] [] []))) none := by kernel_rfl
abbrev X23 : CFun := C23 (callG SE good)
theorem Cr23 : C23 (callG SE good) = bindC (callG SE good) := by unfold C23; rfl
theorem slow_copied_ok (p0 : api_Message) : Le (Option.map slow_copied_out (slow_copied p0)) (callW SE 23 [api_Message.av p0] [] []) := by
  refine le_bodyC Cr23 ?_
  refine Le.trans ?_ (le_of_eq (T23 _ _ _  p0).symm)
  unfold slow_copied
  refine le_cond (by simp only [EN]) (fun _ => ?_) (fun _ => le_none)
  exact le_ret (by first | rfl | (simp only [EN, slow_copied_out]; done) | (simp only [EN, slow_copied_out]; rfl))
def C22 (Γ : Fun) (γ23 : Gm (api_Message)) : CFun := updC (bindC Γ) 23 slow_copied_out γ23
def R22_3 (C : CFun) (Λ2 J : Lam) (a0 : (List (List D))) (a1 : Int) (a2 : Int) (a3 : (List (List D))) : Res := lab SE C Λ2 J 22 0 [1, 1, 0, 1, 0] (stoOf [(5, .row 3005), (13, .d (.sl api_Message.ks a0)), (14, .d (.int .i64 a1)), (15, .d (.int .i64 a2))] [] [] [] [(3005, ⟨api_Message.ks, 25, 112, a3⟩)])
theorem T22 (Γ : Fun) (γ23 : Gm (api_Message)) (Λ2 J : Lam) (p0 : (List api_Message)) (p1 : Int) : bodyC SE (C22 Γ γ23) Λ2 J 22 [.d (.sl api_Message.ks (List.map api_Message.enc p0)), .d (.int .i64 p1)] [] [] =
  cond (decide (0 ≤ 0) && decide (0 ≤ (IntKind.wrap .i64 ((List.length (List.map api_Message.enc p0) : Int) + p1))) && decide ((IntKind.wrap .i64 ((List.length (List.map api_Message.enc p0) : Int) + p1)) * 112 ≤ 281474976710656)) (
   R22_3 (C22 Γ γ23) Λ2 J (List.map api_Message.enc p0) (List.length (List.map api_Message.enc p0) : Int) 0 (List.map api_Message.enc [])) none := by kernel_rfl
theorem T22_3 (Γ : Fun) (γ23 : Gm (api_Message)) (Λ2 J : Lam) (x13 : (List api_Message)) (x14 : Int) (x15 : Int) (w3005 : (List api_Message)) : labU SE (C22 Γ γ23) Λ2 J 22 0 [1, 1, 0, 1, 0] (stoOf [(5, .row 3005), (13, .d (.sl api_Message.ks (List.map api_Message.enc x13))), (14, .d (.int .i64 x14)), (15, .d (.int .i64 x15))] [] [] [] [(3005, ⟨api_Message.ks, 25, 112, (List.map api_Message.enc w3005)⟩)]) =
  cond (decide (x15 < x14)) (
   cond (decide (0 ≤ x15) && decide (x15 < (List.length (List.map api_Message.enc x13) : Int))) (
    γ23 [.agg [.d (.str (dStr (cellAt (elemAt (List.map api_Message.enc x13) (Int.toNat x15)) 0))), .d (.str (dStr (cellAt (elemAt (List.map api_Message.enc x13) (Int.toNat x15)) 1))), .d (.int .i64 (dInt (cellAt (elemAt (List.map api_Message.enc x13) (Int.toNat x15)) 2))), .d (.bool (dBool (cellAt (elemAt (List.map api_Message.enc x13) (Int.toNat x15)) 3))), .d (.int .i64 (dInt (cellAt (elemAt (List.map api_Message.enc x13) (Int.toNat x15)) 4))), .d (.int .i64 (dInt (cellAt (elemAt (List.map api_Message.enc x13) (Int.toNat x15)) 5))), .d (.str (dStr (cellAt (elemAt (List.map api_Message.enc x13) (Int.toNat x15)) 6))), .d (.int .i64 (dInt (cellAt (elemAt (List.map api_Message.enc x13) (Int.toNat x15)) 7))), .d (.sl api_Prop.ks (dSl (cellAt (elemAt (List.map api_Message.enc x13) (Int.toNat x15)) 8)))]] [] [] fun r0 =>
    cond (decide ((List.length (List.map api_Message.enc w3005) + List.length (List.map api_Message.enc [r0])) * 112 ≤ 140737488355328)) (
     R22_3 (C22 Γ γ23) Λ2 J (List.map api_Message.enc x13) x14 (IntKind.wrap .i64 (x15 + 1)) (((List.map api_Message.enc w3005) ++ (List.map api_Message.enc [r0])))) none) none) (
  (some (.ret [.row 0] [] [⟨api_Message.ks, 25, 112, (List.map api_Message.enc w3005)⟩]))) := by kernel_rfl
abbrev X22 : CFun := C22 (callG SE good) (callT SE good 23 slow_copied_out)
theorem Cr22 : C22 (callG SE good) (callT SE good 23 slow_copied_out) = bindC (callG SE good) := by unfold C22; rw [updC_real (fun _ h => h)]
noncomputable abbrev Q22_3 (a0 : (List (List D))) (a1 : Int) (a2 : Int) (a3 : (List (List D))) : Res := R22_3 X22 (lam2 SE (callG SE good) (SE.hl 22) (SE.hr 22)) (J0 SE X22) a0 a1 a2 a3
theorem slow_clone_l3_ok : ∀ (fu : Nat) (x13 : (List api_Message)) (x14 : Int) (x15 : Int) (w3005 : (List api_Message)), Le (Option.map slow_clone_out (slow_clone_l3 fu x13 x14 x15 w3005)) (Q22_3 (List.map api_Message.enc x13) x14 x15 (List.map api_Message.enc w3005)) := by
  intro fu
  induction fu with
  | zero => intros; exact le_none
  | succ fu ih =>
    intro x13 x14 x15 w3005
    refine Le.trans ?_ (le_of_eq ((lab_realC Cr22).trans (T22_3 _ _ _ _  x13 x14 x15 w3005)).symm)
    unfold slow_clone_l3
    refine le_cond rfl (fun _ => ?_) (fun _ => ?_)
    · skip
      refine le_cond (by simp only [EN]) (fun _ => ?_) (fun _ => le_none)
      refine le_call (good := good) (fun y => ⟨y, rfl⟩) slow_copied_inj (by first | (simp only [EN]; exact slow_copied_ok (List.getD x13 (Int.toNat x15) default)) | exact slow_copied_ok (List.getD x13 (Int.toNat x15) default)) (fun r0 _ => ?_)
      refine le_cond (by simp only [EN]) (fun _ => ?_) (fun _ => le_none)
      first | (simp only [EN]; exact ih x13 x14 (IntKind.wrap .i64 (x15 + 1)) (w3005 ++ [r0])) | exact ih x13 x14 (IntKind.wrap .i64 (x15 + 1)) (w3005 ++ [r0])
    · skip
      exact le_ret (by first | rfl | (simp only [EN, slow_clone_out]; done) | (simp only [EN, slow_clone_out]; rfl))
theorem slow_clone_ok (p0 : (List api_Message)) (p1 : Int) : Le (Option.map slow_clone_out (slow_clone p0 p1)) (callW SE 22 [.d (.sl api_Message.ks (List.map api_Message.enc p0)), .d (.int .i64 p1)] [] []) := by
  refine le_bodyC Cr22 ?_
  refine Le.trans ?_ (le_of_eq (T22 _ _ _ _  p0 p1).symm)
  unfold slow_clone
  refine le_cond (by simp only [EN]) (fun _ => ?_) (fun _ => le_none)
  first | (simp only [EN]; exact slow_clone_l3_ok fuel p0 (List.length p0 : Int) 0 ([] : List api_Message)) | exact slow_clone_l3_ok fuel p0 (List.length p0 : Int) 0 ([] : List api_Message)
def C11 (Γ : Fun) (γ22 : Gm ((List api_Message))) (γ23 : Gm (api_Message)) : CFun := updC (updC (bindC Γ) 22 slow_clone_out γ22) 23 slow_copied_out γ23
def R11_6 (C : CFun) (Λ2 J : Lam) (a0 : (List D)) (a1 : (List (List D))) : Res := lab SE C Λ2 J 11 0 [1, 1, 1, 1, 0] (stoOf [(5, .ptr 1000000000 0), (11, .row 3011)] [⟨25, (List.map AV.d a0)⟩] [] [] [(3011, ⟨api_Message.ks, 25, 112, a1⟩)])
theorem T11 (Γ : Fun) (γ22 : Gm ((List api_Message))) (γ23 : Gm (api_Message)) (Λ2 J : Lam) (p0 : (List api_Message)) (p1 : api_Message) (p2 : Int) (p3 : Int) : bodyC SE (C11 Γ γ22 γ23) Λ2 J 11 [.d (.sl api_Message.ks (List.map api_Message.enc p0)), api_Message.av p1, .d (.int .i64 p2), .d (.int .i64 p3)] [] [] =
  γ22 [.d (.sl api_Message.ks (List.map api_Message.enc p0)), .d (.int .i64 1)] [] [] fun r0 =>
  cond (decide ((List.length (List.map api_Message.enc p0) : Int) < p2)) (
   γ23 [api_Message.av p1] [] [] fun r1 =>
   cond (decide ((List.length (List.map api_Message.enc r0) + List.length (List.map api_Message.enc [r1])) * 112 ≤ 140737488355328)) (
    (some (.ret [.row 0, .row 1, .d (.bool false)] [] [⟨api_Message.ks, 25, 112, ((List.map api_Message.enc r0) ++ (List.map api_Message.enc [r1]))⟩, ⟨api_Message.ks, 25, 112, []⟩]))) none) (
  cond (p3 != 1) (
   γ23 [api_Message.av p1] [] [] fun r2 =>
   (some (.ret [.row 0, .row 1, .d (.bool (p3 == 3))] [] [⟨api_Message.ks, 25, 112, (List.map api_Message.enc r0)⟩, ⟨api_Message.ks, 25, 112, (List.map api_Message.enc [r2])⟩]))) (
  cond (decide (p2 < 1)) (
   γ23 [api_Message.av p1] [] [] fun r3 =>
   (some (.ret [.row 0, .row 1, .d (.bool (p3 == 3))] [] [⟨api_Message.ks, 25, 112, (List.map api_Message.enc r0)⟩, ⟨api_Message.ks, 25, 112, (List.map api_Message.enc [r3])⟩]))) (
  R11_6 (C11 Γ γ22 γ23) Λ2 J (api_Message.enc p1) (List.map api_Message.enc r0)))) := by kernel_rfl
theorem T11_6 (Γ : Fun) (γ22 : Gm ((List api_Message))) (γ23 : Gm (api_Message)) (Λ2 J : Lam) (b0 : api_Message) (w3011 : (List api_Message)) : labU SE (C11 Γ γ22 γ23) Λ2 J 11 0 [1, 1, 1, 1, 0] (stoOf [(5, .ptr 1000000000 0), (11, .row 3011)] [⟨25, (List.map AV.d (api_Message.enc b0))⟩] [] [] [(3011, ⟨api_Message.ks, 25, 112, (List.map api_Message.enc w3011)⟩)]) =
  cond (decide (0 ≤ 0) && decide (0 < (List.length (List.map api_Message.enc w3011) : Int))) (
   cond (decide (0 ≤ 1) && decide (1 ≤ ((List.length (List.map api_Message.enc w3011)) : Int))) (
    γ23 [api_Message.av b0] [] [] fun r4 =>
    cond (decide (0 ≤ (IntKind.wrap .i64 ((List.length (List.take (List.length (List.map api_Message.enc w3011)) (List.take ((List.length (List.map api_Message.enc w3011)) - (Int.toNat 1)) (List.drop (Int.toNat 1) (List.map api_Message.enc w3011))) ++ List.drop (min (List.length (List.take ((List.length (List.map api_Message.enc w3011)) - (Int.toNat 1)) (List.drop (Int.toNat 1) (List.map api_Message.enc w3011)))) (List.length (List.map api_Message.enc w3011))) (List.map api_Message.enc w3011)) : Int) - 1))) && decide ((IntKind.wrap .i64 ((List.length (List.take (List.length (List.map api_Message.enc w3011)) (List.take ((List.length (List.map api_Message.enc w3011)) - (Int.toNat 1)) (List.drop (Int.toNat 1) (List.map api_Message.enc w3011))) ++ List.drop (min (List.length (List.take ((List.length (List.map api_Message.enc w3011)) - (Int.toNat 1)) (List.drop (Int.toNat 1) (List.map api_Message.enc w3011)))) (List.length (List.map api_Message.enc w3011))) (List.map api_Message.enc w3011)) : Int) - 1)) < (List.length (List.take (List.length (List.map api_Message.enc w3011)) (List.take ((List.length (List.map api_Message.enc w3011)) - (Int.toNat 1)) (List.drop (Int.toNat 1) (List.map api_Message.enc w3011))) ++ List.drop (min (List.length (List.take ((List.length (List.map api_Message.enc w3011)) - (Int.toNat 1)) (List.drop (Int.toNat 1) (List.map api_Message.enc w3011)))) (List.length (List.map api_Message.enc w3011))) (List.map api_Message.enc w3011)) : Int))) (
     (some (.ret [.row 0, .row 1, .d (.bool false)] [] [⟨api_Message.ks, 25, 112, (setE (List.take (List.length (List.map api_Message.enc w3011)) (List.take ((List.length (List.map api_Message.enc w3011)) - (Int.toNat 1)) (List.drop (Int.toNat 1) (List.map api_Message.enc w3011))) ++ List.drop (min (List.length (List.take ((List.length (List.map api_Message.enc w3011)) - (Int.toNat 1)) (List.drop (Int.toNat 1) (List.map api_Message.enc w3011)))) (List.length (List.map api_Message.enc w3011))) (List.map api_Message.enc w3011)) (Int.toNat (IntKind.wrap .i64 ((List.length (List.take (List.length (List.map api_Message.enc w3011)) (List.take ((List.length (List.map api_Message.enc w3011)) - (Int.toNat 1)) (List.drop (Int.toNat 1) (List.map api_Message.enc w3011))) ++ List.drop (min (List.length (List.take ((List.length (List.map api_Message.enc w3011)) - (Int.toNat 1)) (List.drop (Int.toNat 1) (List.map api_Message.enc w3011)))) (List.length (List.map api_Message.enc w3011))) (List.map api_Message.enc w3011)) : Int) - 1))) 0 (api_Message.enc r4))⟩, ⟨api_Message.ks, 25, 112, [[D.str (dStr (cellAt (elemAt (List.map api_Message.enc w3011) (Int.toNat 0)) 0)), D.str (dStr (cellAt (elemAt (List.map api_Message.enc w3011) (Int.toNat 0)) 1)), D.int .i64 (dInt (cellAt (elemAt (List.map api_Message.enc w3011) (Int.toNat 0)) 2)), D.bool (dBool (cellAt (elemAt (List.map api_Message.enc w3011) (Int.toNat 0)) 3)), D.int .i64 (dInt (cellAt (elemAt (List.map api_Message.enc w3011) (Int.toNat 0)) 4)), D.int .i64 (dInt (cellAt (elemAt (List.map api_Message.enc w3011) (Int.toNat 0)) 5)), D.str (dStr (cellAt (elemAt (List.map api_Message.enc w3011) (Int.toNat 0)) 6)), D.int .i64 (dInt (cellAt (elemAt (List.map api_Message.enc w3011) (Int.toNat 0)) 7)), D.sl api_Prop.ks (dSl (cellAt (elemAt (List.map api_Message.enc w3011) (Int.toNat 0)) 8))]]⟩]))) none) none) none := by kernel_rfl
abbrev X11 : CFun := C11 (callG SE good) (callT SE good 22 slow_clone_out) (callT SE good 23 slow_copied_out)
theorem Cr11 : C11 (callG SE good) (callT SE good 22 slow_clone_out) (callT SE good 23 slow_copied_out) = bindC (callG SE good) := by unfold C11; rw [updC_real (fun _ h => h), updC_real (fun _ h => h)]
noncomputable abbrev Q11_6 (a0 : (List D)) (a1 : (List (List D))) : Res := R11_6 X11 (lam2 SE (callG SE good) (SE.hl 11) (SE.hr 11)) (J0 SE X11) a0 a1
theorem slow_Push_j6_ok (b0 : api_Message) (w3011 : (List api_Message)) : Le (Option.map slow_Push_out (slow_Push_j6 b0 w3011)) (Q11_6 (api_Message.enc b0) (List.map api_Message.enc w3011)) := by
  refine Le.trans ?_ (le_of_eq ((lab_realC Cr11).trans (T11_6 _ _ _ _ _  b0 w3011)).symm)
  unfold slow_Push_j6
  refine le_cond (by simp only [EN]) (fun _ => ?_) (fun _ => le_none)
  refine le_cond (by simp only [EN]) (fun _ => ?_) (fun _ => le_none)
  refine le_call (good := good) (fun y => ⟨y, rfl⟩) slow_copied_inj (slow_copied_ok b0) (fun r4 _ => ?_)
  refine le_cond (by simp only [EN]) (fun _ => ?_) (fun _ => le_none)
  exact le_ret (by first | rfl | (simp only [EN, slow_Push_out]; done) | (simp only [EN, slow_Push_out]; rfl))
theorem slow_Push_ok (p0 : (List api_Message)) (p1 : api_Message) (p2 : Int) (p3 : Int) : Le (Option.map slow_Push_out (slow_Push p0 p1 p2 p3)) (callW SE 11 [.d (.sl api_Message.ks (List.map api_Message.enc p0)), api_Message.av p1, .d (.int .i64 p2), .d (.int .i64 p3)] [] []) := by
  refine le_bodyC Cr11 ?_
  refine Le.trans ?_ (le_of_eq (T11 _ _ _ _ _  p0 p1 p2 p3).symm)
  unfold slow_Push
  refine le_call (good := good) (fun y => ⟨y, rfl⟩) slow_clone_inj (slow_clone_ok p0 1) (fun r0 _ => ?_)
  refine le_cond (by simp only [EN]) (fun _ => ?_) (fun _ => ?_)
  · skip
    refine le_call (good := good) (fun y => ⟨y, rfl⟩) slow_copied_inj (slow_copied_ok p1) (fun r1 _ => ?_)
    refine le_cond (by simp only [EN]) (fun _ => ?_) (fun _ => le_none)
    exact le_ret (by first | rfl | (simp only [EN, slow_Push_out]; done) | (simp only [EN, slow_Push_out]; rfl))
  · skip
    refine le_cond rfl (fun _ => ?_) (fun _ => ?_)
    · skip
      refine le_call (good := good) (fun y => ⟨y, rfl⟩) slow_copied_inj (slow_copied_ok p1) (fun r2 _ => ?_)
      exact le_ret (by first | rfl | (simp only [EN, slow_Push_out]; done) | (simp only [EN, slow_Push_out]; rfl))
    · skip
      refine le_cond rfl (fun _ => ?_) (fun _ => ?_)
      · skip
        refine le_call (good := good) (fun y => ⟨y, rfl⟩) slow_copied_inj (slow_copied_ok p1) (fun r3 _ => ?_)
        exact le_ret (by first | rfl | (simp only [EN, slow_Push_out]; done) | (simp only [EN, slow_Push_out]; rfl))
      · skip
        exact slow_Push_j6_ok p1 r0
def C24 (Γ : Fun)  : CFun := bindC Γ
theorem T24 (Γ : Fun)  (Λ2 J : Lam) (p0 : api_Message) (p1 : Int) : bodyC SE (C24 Γ) Λ2 J 24 [api_Message.av p0, .d (.int .i64 p1)] [] [] =
  cond (p0.Expires != 0) (
   (some (.ret [.d (.bool (decide (p1 ≥ p0.Expires)))] [] []))) (
  (some (.ret [.d (.bool false)] [] []))) := by kernel_rfl
abbrev X24 : CFun := C24 (callG SE good)
theorem Cr24 : C24 (callG SE good) = bindC (callG SE good) := by unfold C24; rfl
theorem message_Expired_ok (p0 : api_Message) (p1 : Int) : Le (Option.map message_Expired_out (message_Expired p0 p1)) (callW SE 24 [api_Message.av p0, .d (.int .i64 p1)] [] []) := by
  refine le_bodyC Cr24 ?_
  refine Le.trans ?_ (le_of_eq (T24 _ _ _  p0 p1).symm)
  unfold message_Expired
  refine le_cond rfl (fun _ => ?_) (fun _ => ?_)
  · skip
    exact le_ret (by first | rfl | (simp only [EN, message_Expired_out]; done) | (simp only [EN, message_Expired_out]; rfl))
  · skip
    exact le_ret (by first | rfl | (simp only [EN, message_Expired_out]; done) | (simp only [EN, message_Expired_out]; rfl))
def C14 (Γ : Fun) (γ22 : Gm ((List api_Message))) (γ24 : Gm (Bool)) : CFun := updC (updC (bindC Γ) 22 slow_clone_out γ22) 24 message_Expired_out γ24
def R14_3 (C : CFun) (Λ2 J : Lam) (a0 : Int) (a1 : Int) (a2 : Int) (a3 : (List D)) (a4 : (List (List D))) : Res := lab SE C Λ2 J 14 0 [1, 1, 0, 1, 0] (stoOf [(1, .d (.int .i64 a0)), (4, .ptr 1000000000 0), (8, .row 3008), (13, .row 3008), (14, .d (.int .i64 a1)), (15, .d (.int .i64 a2))] [⟨25, (List.map AV.d a3)⟩] [] [] [(3008, ⟨api_Message.ks, 25, 112, a4⟩), (3008, ⟨api_Message.ks, 25, 112, a4⟩)])
theorem T14 (Γ : Fun) (γ22 : Gm ((List api_Message))) (γ24 : Gm (Bool)) (Λ2 J : Lam) (p0 : (List api_Message)) (p1 : Int) : bodyC SE (C14 Γ γ22 γ24) Λ2 J 14 [.d (.sl api_Message.ks (List.map api_Message.enc p0)), .d (.int .i64 p1)] [] [] =
  γ22 [.d (.sl api_Message.ks (List.map api_Message.enc p0)), .d (.int .i64 0)] [] [] fun r0 =>
  R14_3 (C14 Γ γ22 γ24) Λ2 J p1 (List.length (List.map api_Message.enc r0) : Int) 0 [D.str ([] : Str), D.str ([] : Str), D.int .i64 0, D.bool false, D.int .i64 0, D.int .i64 0, D.str ([] : Str), D.int .i64 0, D.sl api_Prop.ks (List.map api_Prop.enc [])] (List.map api_Message.enc r0) := by kernel_rfl
theorem T14_3 (Γ : Fun) (γ22 : Gm ((List api_Message))) (γ24 : Gm (Bool)) (Λ2 J : Lam) (x1 : Int) (x14 : Int) (x15 : Int) (b0 : api_Message) (w3008 : (List api_Message)) : labU SE (C14 Γ γ22 γ24) Λ2 J 14 0 [1, 1, 0, 1, 0] (stoOf [(1, .d (.int .i64 x1)), (4, .ptr 1000000000 0), (8, .row 3008), (13, .row 3008), (14, .d (.int .i64 x14)), (15, .d (.int .i64 x15))] [⟨25, (List.map AV.d (api_Message.enc b0))⟩] [] [] [(3008, ⟨api_Message.ks, 25, 112, (List.map api_Message.enc w3008)⟩), (3008, ⟨api_Message.ks, 25, 112, (List.map api_Message.enc w3008)⟩)]) =
  cond (decide (x15 < x14)) (
   cond (decide (0 ≤ x15) && decide (x15 < (List.length (List.map api_Message.enc w3008) : Int))) (
    γ24 [.agg [.d (.str (dStr (cellAt (elemAt (List.map api_Message.enc w3008) (Int.toNat x15)) 0))), .d (.str (dStr (cellAt (elemAt (List.map api_Message.enc w3008) (Int.toNat x15)) 1))), .d (.int .i64 (dInt (cellAt (elemAt (List.map api_Message.enc w3008) (Int.toNat x15)) 2))), .d (.bool (dBool (cellAt (elemAt (List.map api_Message.enc w3008) (Int.toNat x15)) 3))), .d (.int .i64 (dInt (cellAt (elemAt (List.map api_Message.enc w3008) (Int.toNat x15)) 4))), .d (.int .i64 (dInt (cellAt (elemAt (List.map api_Message.enc w3008) (Int.toNat x15)) 5))), .d (.str (dStr (cellAt (elemAt (List.map api_Message.enc w3008) (Int.toNat x15)) 6))), .d (.int .i64 (dInt (cellAt (elemAt (List.map api_Message.enc w3008) (Int.toNat x15)) 7))), .d (.sl api_Prop.ks (dSl (cellAt (elemAt (List.map api_Message.enc w3008) (Int.toNat x15)) 8)))], .d (.int .i64 x1)] [] [] fun r1 =>
    cond (!r1) (
     cond (decide (0 ≤ (IntKind.wrap .i64 (x15 + 1))) && decide ((IntKind.wrap .i64 (x15 + 1)) ≤ ((List.length (List.map api_Message.enc w3008)) : Int))) (
      cond (decide (0 ≤ x15) && decide (x15 ≤ ((List.length (List.map api_Message.enc w3008)) : Int))) (
       cond (decide (0 ≤ x15) && decide (x15 ≤ x15)) (
        (some (.ret [.agg [.d (.str (dStr (cellAt (elemAt (List.map api_Message.enc w3008) (Int.toNat x15)) 0))), .d (.str (dStr (cellAt (elemAt (List.map api_Message.enc w3008) (Int.toNat x15)) 1))), .d (.int .i64 (dInt (cellAt (elemAt (List.map api_Message.enc w3008) (Int.toNat x15)) 2))), .d (.bool (dBool (cellAt (elemAt (List.map api_Message.enc w3008) (Int.toNat x15)) 3))), .d (.int .i64 (dInt (cellAt (elemAt (List.map api_Message.enc w3008) (Int.toNat x15)) 4))), .d (.int .i64 (dInt (cellAt (elemAt (List.map api_Message.enc w3008) (Int.toNat x15)) 5))), .d (.str (dStr (cellAt (elemAt (List.map api_Message.enc w3008) (Int.toNat x15)) 6))), .d (.int .i64 (dInt (cellAt (elemAt (List.map api_Message.enc w3008) (Int.toNat x15)) 7))), .d (.sl api_Prop.ks (dSl (cellAt (elemAt (List.map api_Message.enc w3008) (Int.toNat x15)) 8)))], .d (.bool true), .d (.sl api_Message.ks (List.take ((List.length (List.map api_Message.enc w3008)) - (Int.toNat (IntKind.wrap .i64 (x15 + 1)))) (List.drop (Int.toNat (IntKind.wrap .i64 (x15 + 1))) (List.map api_Message.enc w3008)))), .d (.sl api_Message.ks (List.take ((Int.toNat x15) - 0) (List.drop 0 (List.map api_Message.enc w3008))))] [] []))) none) none) none) (
    R14_3 (C14 Γ γ22 γ24) Λ2 J x1 x14 (IntKind.wrap .i64 (x15 + 1)) (api_Message.enc b0) (List.map api_Message.enc w3008))) none) (
  (some (.ret [.agg [.d (.str ([] : Str)), .d (.str ([] : Str)), .d (.int .i64 0), .d (.bool false), .d (.int .i64 0), .d (.int .i64 0), .d (.str ([] : Str)), .d (.int .i64 0), .d (.sl api_Prop.ks (List.map api_Prop.enc []))], .d (.bool false), .d (.sl api_Message.ks (List.map api_Message.enc [])), .d (.sl api_Message.ks (List.map api_Message.enc w3008))] [] []))) := by kernel_rfl
abbrev X14 : CFun := C14 (callG SE good) (callT SE good 22 slow_clone_out) (callT SE good 24 message_Expired_out)
theorem Cr14 : C14 (callG SE good) (callT SE good 22 slow_clone_out) (callT SE good 24 message_Expired_out) = bindC (callG SE good) := by unfold C14; rw [updC_real (fun _ h => h), updC_real (fun _ h => h)]
noncomputable abbrev Q14_3 (a0 : Int) (a1 : Int) (a2 : Int) (a3 : (List D)) (a4 : (List (List D))) : Res := R14_3 X14 (lam2 SE (callG SE good) (SE.hl 14) (SE.hr 14)) (J0 SE X14) a0 a1 a2 a3 a4
theorem slow_Pop_l3_ok : ∀ (fu : Nat) (x1 : Int) (x14 : Int) (x15 : Int) (b0 : api_Message) (w3008 : (List api_Message)), Le (Option.map slow_Pop_out (slow_Pop_l3 fu x1 x14 x15 b0 w3008)) (Q14_3 x1 x14 x15 (api_Message.enc b0) (List.map api_Message.enc w3008)) := by
  intro fu
  induction fu with
  | zero => intros; exact le_none
  | succ fu ih =>
    intro x1 x14 x15 b0 w3008
    refine Le.trans ?_ (le_of_eq ((lab_realC Cr14).trans (T14_3 _ _ _ _ _  x1 x14 x15 b0 w3008)).symm)
    unfold slow_Pop_l3
    refine le_cond rfl (fun _ => ?_) (fun _ => ?_)
    · skip
      refine le_cond (by simp only [EN]) (fun _ => ?_) (fun _ => le_none)
      refine le_call (good := good) (fun y => ⟨y, rfl⟩) message_Expired_inj (by first | (simp only [EN]; exact message_Expired_ok (List.getD w3008 (Int.toNat x15) default) x1) | exact message_Expired_ok (List.getD w3008 (Int.toNat x15) default) x1) (fun r1 _ => ?_)
      refine le_cond rfl (fun _ => ?_) (fun _ => ?_)
      · skip
        refine le_cond (by simp only [EN]) (fun _ => ?_) (fun _ => le_none)
        refine le_cond (by simp only [EN]) (fun _ => ?_) (fun _ => le_none)
        refine le_cond rfl (fun _ => ?_) (fun _ => le_none)
        exact le_ret (by first | rfl | (simp only [EN, slow_Pop_out]; done) | (simp only [EN, slow_Pop_out]; rfl))
      · skip
        exact ih x1 x14 (IntKind.wrap .i64 (x15 + 1)) b0 w3008
    · skip
      exact le_ret (by first | rfl | (simp only [EN, slow_Pop_out]; done) | (simp only [EN, slow_Pop_out]; rfl))
theorem slow_Pop_ok (p0 : (List api_Message)) (p1 : Int) : Le (Option.map slow_Pop_out (slow_Pop p0 p1)) (callW SE 14 [.d (.sl api_Message.ks (List.map api_Message.enc p0)), .d (.int .i64 p1)] [] []) := by
  refine le_bodyC Cr14 ?_
  refine Le.trans ?_ (le_of_eq (T14 _ _ _ _ _  p0 p1).symm)
  unfold slow_Pop
  refine le_call (good := good) (fun y => ⟨y, rfl⟩) slow_clone_inj (slow_clone_ok p0 0) (fun r0 _ => ?_)
  first | (simp only [EN]; exact slow_Pop_l3_ok fuel p1 (List.length r0 : Int) 0 ((api_Message.mk ([] : Str) ([] : Str) 0 false 0 0 ([] : Str) 0 ([] : List api_Prop))) r0) | exact slow_Pop_l3_ok fuel p1 (List.length r0 : Int) 0 ((api_Message.mk ([] : Str) ([] : Str) 0 false 0 0 ([] : Str) 0 ([] : List api_Prop))) r0
def C26 (Γ : Fun)  : CFun := bindC Γ
def R26_4 (C : CFun) (Λ2 J : Lam) (a0 : (List (List D))) (a1 : (List (List D))) (a2 : Int) : Res := lab SE C Λ2 J 26 0 [1, 1, 0, 1, 0] (stoOf [(0, .d (.sl api_Prop.ks a0)), (1, .d (.sl api_Prop.ks a1)), (5, .d (.int .i64 a2))] [] [] [] [])
theorem T26 (Γ : Fun)  (Λ2 J : Lam) (p0 : (List api_Prop)) (p1 : (List api_Prop)) : bodyC SE (C26 Γ) Λ2 J 26 [.d (.sl api_Prop.ks (List.map api_Prop.enc p0)), .d (.sl api_Prop.ks (List.map api_Prop.enc p1))] [] [] =
  cond ((List.length (List.map api_Prop.enc p0) : Int) != (List.length (List.map api_Prop.enc p1) : Int)) (
   (some (.ret [.d (.bool false)] [] []))) (
  R26_4 (C26 Γ) Λ2 J (List.map api_Prop.enc p0) (List.map api_Prop.enc p1) 0) := by kernel_rfl
theorem T26_4 (Γ : Fun)  (Λ2 J : Lam) (x0 : (List api_Prop)) (x1 : (List api_Prop)) (x5 : Int) : labU SE (C26 Γ) Λ2 J 26 0 [1, 1, 0, 1, 0] (stoOf [(0, .d (.sl api_Prop.ks (List.map api_Prop.enc x0))), (1, .d (.sl api_Prop.ks (List.map api_Prop.enc x1))), (5, .d (.int .i64 x5))] [] [] [] []) =
  cond (decide (x5 < (List.length (List.map api_Prop.enc x0) : Int))) (
   cond (decide (0 ≤ x5) && decide (x5 < (List.length (List.map api_Prop.enc x0) : Int))) (
    cond (decide (0 ≤ x5) && decide (x5 < (List.length (List.map api_Prop.enc x1) : Int))) (
     cond (!(((dStr (cellAt (elemAt (List.map api_Prop.enc x0) (Int.toNat x5)) 0)) == (dStr (cellAt (elemAt (List.map api_Prop.enc x1) (Int.toNat x5)) 0))) && (((dStr (cellAt (elemAt (List.map api_Prop.enc x0) (Int.toNat x5)) 1)) == (dStr (cellAt (elemAt (List.map api_Prop.enc x1) (Int.toNat x5)) 1))) && true))) (
      (some (.ret [.d (.bool false)] [] []))) (
     R26_4 (C26 Γ) Λ2 J (List.map api_Prop.enc x0) (List.map api_Prop.enc x1) (IntKind.wrap .i64 (x5 + 1)))) none) none) (
  (some (.ret [.d (.bool true)] [] []))) := by kernel_rfl
abbrev X26 : CFun := C26 (callG SE good)
theorem Cr26 : C26 (callG SE good) = bindC (callG SE good) := by unfold C26; rfl
noncomputable abbrev Q26_4 (a0 : (List (List D))) (a1 : (List (List D))) (a2 : Int) : Res := R26_4 X26 (lam2 SE (callG SE good) (SE.hl 26) (SE.hr 26)) (J0 SE X26) a0 a1 a2
theorem brokerref05_SameProps_l4_ok : ∀ (fu : Nat) (x0 : (List api_Prop)) (x1 : (List api_Prop)) (x5 : Int), Le (Option.map brokerref05_SameProps_out (brokerref05_SameProps_l4 fu x0 x1 x5)) (Q26_4 (List.map api_Prop.enc x0) (List.map api_Prop.enc x1) x5) := by
  intro fu
  induction fu with
  | zero => intros; exact le_none
  | succ fu ih =>
    intro x0 x1 x5
    refine Le.trans ?_ (le_of_eq ((lab_realC Cr26).trans (T26_4 _ _ _  x0 x1 x5)).symm)
    unfold brokerref05_SameProps_l4
    refine le_cond (by simp only [EN]) (fun _ => ?_) (fun _ => ?_)
    · skip
      refine le_cond (by simp only [EN]) (fun _ => ?_) (fun _ => le_none)
      refine le_cond (by simp only [EN]) (fun _ => ?_) (fun _ => le_none)
      refine le_cond (by simp only [EN]) (fun _ => ?_) (fun _ => ?_)
      · skip
        exact le_ret (by first | rfl | (simp only [EN, brokerref05_SameProps_out]; done) | (simp only [EN, brokerref05_SameProps_out]; rfl))
      · skip
        exact ih x0 x1 (IntKind.wrap .i64 (x5 + 1))
    · skip
      exact le_ret (by first | rfl | (simp only [EN, brokerref05_SameProps_out]; done) | (simp only [EN, brokerref05_SameProps_out]; rfl))
theorem brokerref05_SameProps_ok (p0 : (List api_Prop)) (p1 : (List api_Prop)) : Le (Option.map brokerref05_SameProps_out (brokerref05_SameProps p0 p1)) (callW SE 26 [.d (.sl api_Prop.ks (List.map api_Prop.enc p0)), .d (.sl api_Prop.ks (List.map api_Prop.enc p1))] [] []) := by
  refine le_bodyC Cr26 ?_
  refine Le.trans ?_ (le_of_eq (T26 _ _ _  p0 p1).symm)
  unfold brokerref05_SameProps
  refine le_cond (by simp only [EN]) (fun _ => ?_) (fun _ => ?_)
  · skip
    exact le_ret (by first | rfl | (simp only [EN, brokerref05_SameProps_out]; done) | (simp only [EN, brokerref05_SameProps_out]; rfl))
  · skip
    exact brokerref05_SameProps_l4_ok fuel p0 p1 0
def C16 (Γ : Fun) (γ26 : Gm (Bool)) : CFun := updC (bindC Γ) 26 brokerref05_SameProps_out γ26
theorem T16 (Γ : Fun) (γ26 : Gm (Bool)) (Λ2 J : Lam) (p0 : api_Message) (p1 : api_Message) : bodyC SE (C16 Γ γ26) Λ2 J 16 [api_Message.av p0, api_Message.av p1] [] [] =
  cond (p0.Topic == p1.Topic) (
   cond (p0.Payload == p1.Payload) (
    cond (p0.Level == p1.Level) (
     cond (p0.Retain == p1.Retain) (
      cond (p0.Priority == p1.Priority) (
       cond (p0.Expires == p1.Expires) (
        cond (p0.From == p1.From) (
         cond (p0.Seq == p1.Seq) (
          γ26 [.d (.sl api_Prop.ks (List.map api_Prop.enc p0.Props)), .d (.sl api_Prop.ks (List.map api_Prop.enc p1.Props))] [] [] fun r0 =>
          (some (.ret [.d (.bool r0)] [] []))) (
         (some (.ret [.d (.bool false)] [] [])))) (
        (some (.ret [.d (.bool false)] [] [])))) (
       (some (.ret [.d (.bool false)] [] [])))) (
      (some (.ret [.d (.bool false)] [] [])))) (
     (some (.ret [.d (.bool false)] [] [])))) (
    (some (.ret [.d (.bool false)] [] [])))) (
   (some (.ret [.d (.bool false)] [] [])))) (
  (some (.ret [.d (.bool false)] [] []))) := by kernel_rfl
abbrev X16 : CFun := C16 (callG SE good) (callT SE good 26 brokerref05_SameProps_out)
theorem Cr16 : C16 (callG SE good) (callT SE good 26 brokerref05_SameProps_out) = bindC (callG SE good) := by unfold C16; rw [updC_real (fun _ h => h)]
theorem brokerref05_Same_ok (p0 : api_Message) (p1 : api_Message) : Le (Option.map brokerref05_Same_out (brokerref05_Same p0 p1)) (callW SE 16 [api_Message.av p0, api_Message.av p1] [] []) := by
  refine le_bodyC Cr16 ?_
  refine Le.trans ?_ (le_of_eq (T16 _ _ _ _  p0 p1).symm)
  unfold brokerref05_Same
  refine le_cond rfl (fun _ => ?_) (fun _ => ?_)
  · skip
    refine le_cond rfl (fun _ => ?_) (fun _ => ?_)
    · skip
      refine le_cond rfl (fun _ => ?_) (fun _ => ?_)
      · skip
        refine le_cond rfl (fun _ => ?_) (fun _ => ?_)
        · skip
          refine le_cond rfl (fun _ => ?_) (fun _ => ?_)
          · skip
            refine le_cond rfl (fun _ => ?_) (fun _ => ?_)
            · skip
              refine le_cond rfl (fun _ => ?_) (fun _ => ?_)
              · skip
                refine le_cond rfl (fun _ => ?_) (fun _ => ?_)
                · skip
                  refine le_call (good := good) (fun y => ⟨y, rfl⟩) brokerref05_SameProps_inj (brokerref05_SameProps_ok p0.Props p1.Props) (fun r0 _ => ?_)
                  exact le_ret (by first | rfl | (simp only [EN, brokerref05_Same_out]; done) | (simp only [EN, brokerref05_Same_out]; rfl))
                · skip
                  exact le_ret (by first | rfl | (simp only [EN, brokerref05_Same_out]; done) | (simp only [EN, brokerref05_Same_out]; rfl))
              · skip
                exact le_ret (by first | rfl | (simp only [EN, brokerref05_Same_out]; done) | (simp only [EN, brokerref05_Same_out]; rfl))
            · skip
              exact le_ret (by first | rfl | (simp only [EN, brokerref05_Same_out]; done) | (simp only [EN, brokerref05_Same_out]; rfl))
          · skip
            exact le_ret (by first | rfl | (simp only [EN, brokerref05_Same_out]; done) | (simp only [EN, brokerref05_Same_out]; rfl))
        · skip
          exact le_ret (by first | rfl | (simp only [EN, brokerref05_Same_out]; done) | (simp only [EN, brokerref05_Same_out]; rfl))
      · skip
        exact le_ret (by first | rfl | (simp only [EN, brokerref05_Same_out]; done) | (simp only [EN, brokerref05_Same_out]; rfl))
    · skip
      exact le_ret (by first | rfl | (simp only [EN, brokerref05_Same_out]; done) | (simp only [EN, brokerref05_Same_out]; rfl))
  · skip
    exact le_ret (by first | rfl | (simp only [EN, brokerref05_Same_out]; done) | (simp only [EN, brokerref05_Same_out]; rfl))
def C13 (Γ : Fun) (γ16 : Gm (Bool)) : CFun := updC (bindC Γ) 16 brokerref05_Same_out γ16
def R13_4 (C : CFun) (Λ2 J : Lam) (a0 : (List (List D))) (a1 : (List (List D))) (a2 : Int) : Res := lab SE C Λ2 J 13 0 [1, 1, 0, 1, 0] (stoOf [(0, .d (.sl api_Message.ks a0)), (1, .d (.sl api_Message.ks a1)), (5, .d (.int .i64 a2))] [] [] [] [])
theorem T13 (Γ : Fun) (γ16 : Gm (Bool)) (Λ2 J : Lam) (p0 : (List api_Message)) (p1 : (List api_Message)) : bodyC SE (C13 Γ γ16) Λ2 J 13 [.d (.sl api_Message.ks (List.map api_Message.enc p0)), .d (.sl api_Message.ks (List.map api_Message.enc p1))] [] [] =
  cond ((List.length (List.map api_Message.enc p0) : Int) != (List.length (List.map api_Message.enc p1) : Int)) (
   (some (.ret [.d (.bool false)] [] []))) (
  R13_4 (C13 Γ γ16) Λ2 J (List.map api_Message.enc p0) (List.map api_Message.enc p1) 0) := by kernel_rfl
theorem T13_4 (Γ : Fun) (γ16 : Gm (Bool)) (Λ2 J : Lam) (x0 : (List api_Message)) (x1 : (List api_Message)) (x5 : Int) : labU SE (C13 Γ γ16) Λ2 J 13 0 [1, 1, 0, 1, 0] (stoOf [(0, .d (.sl api_Message.ks (List.map api_Message.enc x0))), (1, .d (.sl api_Message.ks (List.map api_Message.enc x1))), (5, .d (.int .i64 x5))] [] [] [] []) =
  cond (decide (x5 < (List.length (List.map api_Message.enc x0) : Int))) (
   cond (decide (0 ≤ x5) && decide (x5 < (List.length (List.map api_Message.enc x0) : Int))) (
    cond (decide (0 ≤ x5) && decide (x5 < (List.length (List.map api_Message.enc x1) : Int))) (
     γ16 [.agg [.d (.str (dStr (cellAt (elemAt (List.map api_Message.enc x0) (Int.toNat x5)) 0))), .d (.str (dStr (cellAt (elemAt (List.map api_Message.enc x0) (Int.toNat x5)) 1))), .d (.int .i64 (dInt (cellAt (elemAt (List.map api_Message.enc x0) (Int.toNat x5)) 2))), .d (.bool (dBool (cellAt (elemAt (List.map api_Message.enc x0) (Int.toNat x5)) 3))), .d (.int .i64 (dInt (cellAt (elemAt (List.map api_Message.enc x0) (Int.toNat x5)) 4))), .d (.int .i64 (dInt (cellAt (elemAt (List.map api_Message.enc x0) (Int.toNat x5)) 5))), .d (.str (dStr (cellAt (elemAt (List.map api_Message.enc x0) (Int.toNat x5)) 6))), .d (.int .i64 (dInt (cellAt (elemAt (List.map api_Message.enc x0) (Int.toNat x5)) 7))), .d (.sl api_Prop.ks (dSl (cellAt (elemAt (List.map api_Message.enc x0) (Int.toNat x5)) 8)))], .agg [.d (.str (dStr (cellAt (elemAt (List.map api_Message.enc x1) (Int.toNat x5)) 0))), .d (.str (dStr (cellAt (elemAt (List.map api_Message.enc x1) (Int.toNat x5)) 1))), .d (.int .i64 (dInt (cellAt (elemAt (List.map api_Message.enc x1) (Int.toNat x5)) 2))), .d (.bool (dBool (cellAt (elemAt (List.map api_Message.enc x1) (Int.toNat x5)) 3))), .d (.int .i64 (dInt (cellAt (elemAt (List.map api_Message.enc x1) (Int.toNat x5)) 4))), .d (.int .i64 (dInt (cellAt (elemAt (List.map api_Message.enc x1) (Int.toNat x5)) 5))), .d (.str (dStr (cellAt (elemAt (List.map api_Message.enc x1) (Int.toNat x5)) 6))), .d (.int .i64 (dInt (cellAt (elemAt (List.map api_Message.enc x1) (Int.toNat x5)) 7))), .d (.sl api_Prop.ks (dSl (cellAt (elemAt (List.map api_Message.enc x1) (Int.toNat x5)) 8)))]] [] [] fun r0 =>
     cond (!r0) (
      (some (.ret [.d (.bool false)] [] []))) (
     R13_4 (C13 Γ γ16) Λ2 J (List.map api_Message.enc x0) (List.map api_Message.enc x1) (IntKind.wrap .i64 (x5 + 1)))) none) none) (
  (some (.ret [.d (.bool true)] [] []))) := by kernel_rfl
abbrev X13 : CFun := C13 (callG SE good) (callT SE good 16 brokerref05_Same_out)
theorem Cr13 : C13 (callG SE good) (callT SE good 16 brokerref05_Same_out) = bindC (callG SE good) := by unfold C13; rw [updC_real (fun _ h => h)]
noncomputable abbrev Q13_4 (a0 : (List (List D))) (a1 : (List (List D))) (a2 : Int) : Res := R13_4 X13 (lam2 SE (callG SE good) (SE.hl 13) (SE.hr 13)) (J0 SE X13) a0 a1 a2
theorem brokerref17_Same_l4_ok : ∀ (fu : Nat) (x0 : (List api_Message)) (x1 : (List api_Message)) (x5 : Int), Le (Option.map brokerref17_Same_out (brokerref17_Same_l4 fu x0 x1 x5)) (Q13_4 (List.map api_Message.enc x0) (List.map api_Message.enc x1) x5) := by
  intro fu
  induction fu with
  | zero => intros; exact le_none
  | succ fu ih =>
    intro x0 x1 x5
    refine Le.trans ?_ (le_of_eq ((lab_realC Cr13).trans (T13_4 _ _ _ _  x0 x1 x5)).symm)
    unfold brokerref17_Same_l4
    refine le_cond (by simp only [EN]) (fun _ => ?_) (fun _ => ?_)
    · skip
      refine le_cond (by simp only [EN]) (fun _ => ?_) (fun _ => le_none)
      refine le_cond (by simp only [EN]) (fun _ => ?_) (fun _ => le_none)
      refine le_call (good := good) (fun y => ⟨y, rfl⟩) brokerref05_Same_inj (by first | (simp only [EN]; exact brokerref05_Same_ok (List.getD x0 (Int.toNat x5) default) (List.getD x1 (Int.toNat x5) default)) | exact brokerref05_Same_ok (List.getD x0 (Int.toNat x5) default) (List.getD x1 (Int.toNat x5) default)) (fun r0 _ => ?_)
      refine le_cond rfl (fun _ => ?_) (fun _ => ?_)
      · skip
        exact le_ret (by first | rfl | (simp only [EN, brokerref17_Same_out]; done) | (simp only [EN, brokerref17_Same_out]; rfl))
      · skip
        exact ih x0 x1 (IntKind.wrap .i64 (x5 + 1))
    · skip
      exact le_ret (by first | rfl | (simp only [EN, brokerref17_Same_out]; done) | (simp only [EN, brokerref17_Same_out]; rfl))
theorem brokerref17_Same_ok (p0 : (List api_Message)) (p1 : (List api_Message)) : Le (Option.map brokerref17_Same_out (brokerref17_Same p0 p1)) (callW SE 13 [.d (.sl api_Message.ks (List.map api_Message.enc p0)), .d (.sl api_Message.ks (List.map api_Message.enc p1))] [] []) := by
  refine le_bodyC Cr13 ?_
  refine Le.trans ?_ (le_of_eq (T13 _ _ _ _  p0 p1).symm)
  unfold brokerref17_Same
  refine le_cond (by simp only [EN]) (fun _ => ?_) (fun _ => ?_)
  · skip
    exact le_ret (by first | rfl | (simp only [EN, brokerref17_Same_out]; done) | (simp only [EN, brokerref17_Same_out]; rfl))
  · skip
    exact brokerref17_Same_l4_ok fuel p0 p1 0
def C17 (Γ : Fun)  : CFun := bindC Γ
def R17_3 (C : CFun) (Λ2 J : Lam) (a0 : Int) (a1 : (List (List D))) (a2 : Int) (a3 : Int) : Res := lab SE C Λ2 J 17 0 [1, 1, 0, 1, 0] (stoOf [(3, .d (.int .i64 a0)), (6, .d (.sl api_Message.ks a1)), (7, .d (.int .i64 a2)), (8, .d (.int .i64 a3))] [] [] [] [])
theorem T17 (Γ : Fun)  (Λ2 J : Lam) (p0 : (List api_Message)) : bodyC SE (C17 Γ) Λ2 J 17 [.d (.sl api_Message.ks (List.map api_Message.enc p0))] [] [] =
  R17_3 (C17 Γ) Λ2 J 0 (List.map api_Message.enc p0) (List.length (List.map api_Message.enc p0) : Int) 0 := by kernel_rfl
theorem T17_3 (Γ : Fun)  (Λ2 J : Lam) (x3 : Int) (x6 : (List api_Message)) (x7 : Int) (x8 : Int) : labU SE (C17 Γ) Λ2 J 17 0 [1, 1, 0, 1, 0] (stoOf [(3, .d (.int .i64 x3)), (6, .d (.sl api_Message.ks (List.map api_Message.enc x6))), (7, .d (.int .i64 x7)), (8, .d (.int .i64 x8))] [] [] [] []) =
  cond (decide (x8 < x7)) (
   cond (decide (0 ≤ x8) && decide (x8 < (List.length (List.map api_Message.enc x6) : Int))) (
    R17_3 (C17 Γ) Λ2 J ((IntKind.wrap .i64 (x3 + (List.length (dStr (cellAt (elemAt (List.map api_Message.enc x6) (Int.toNat x8)) 1)) : Int)))) (List.map api_Message.enc x6) x7 (IntKind.wrap .i64 (x8 + 1))) none) (
  (some (.ret [.d (.int .i64 x3)] [] []))) := by kernel_rfl
abbrev X17 : CFun := C17 (callG SE good)
theorem Cr17 : C17 (callG SE good) = bindC (callG SE good) := by unfold C17; rfl
noncomputable abbrev Q17_3 (a0 : Int) (a1 : (List (List D))) (a2 : Int) (a3 : Int) : Res := R17_3 X17 (lam2 SE (callG SE good) (SE.hl 17) (SE.hr 17)) (J0 SE X17) a0 a1 a2 a3
theorem slow_Bytes_l3_ok : ∀ (fu : Nat) (x3 : Int) (x6 : (List api_Message)) (x7 : Int) (x8 : Int), Le (Option.map slow_Bytes_out (slow_Bytes_l3 fu x3 x6 x7 x8)) (Q17_3 x3 (List.map api_Message.enc x6) x7 x8) := by
  intro fu
  induction fu with
  | zero => intros; exact le_none
  | succ fu ih =>
    intro x3 x6 x7 x8
    refine Le.trans ?_ (le_of_eq ((lab_realC Cr17).trans (T17_3 _ _ _  x3 x6 x7 x8)).symm)
    unfold slow_Bytes_l3
    refine le_cond rfl (fun _ => ?_) (fun _ => ?_)
    · skip
      refine le_cond (by simp only [EN]) (fun _ => ?_) (fun _ => le_none)
      first | (simp only [EN]; exact ih (IntKind.wrap .i64 (x3 + (List.length (List.getD x6 (Int.toNat x8) default).Payload : Int))) x6 x7 (IntKind.wrap .i64 (x8 + 1))) | exact ih (IntKind.wrap .i64 (x3 + (List.length (List.getD x6 (Int.toNat x8) default).Payload : Int))) x6 x7 (IntKind.wrap .i64 (x8 + 1))
    · skip
      exact le_ret (by first | rfl | (simp only [EN, slow_Bytes_out]; done) | (simp only [EN, slow_Bytes_out]; rfl))
theorem slow_Bytes_ok (p0 : (List api_Message)) : Le (Option.map slow_Bytes_out (slow_Bytes p0)) (callW SE 17 [.d (.sl api_Message.ks (List.map api_Message.enc p0))] [] []) := by
  refine le_bodyC Cr17 ?_
  refine Le.trans ?_ (le_of_eq (T17 _ _ _  p0).symm)
  unfold slow_Bytes
  first | (simp only [EN]; exact slow_Bytes_l3_ok fuel 0 p0 (List.length p0 : Int) 0) | exact slow_Bytes_l3_ok fuel 0 p0 (List.length p0 : Int) 0
def C10 (Γ : Fun) (γ11 : Gm ((List api_Message) × (List api_Message) × Bool)) (γ14 : Gm (api_Message × Bool × (List api_Message) × (List api_Message))) (γ13 : Gm (Bool)) (γ17 : Gm (Int)) : CFun := updC (updC (updC (updC (bindC Γ) 11 slow_Push_out γ11) 14 slow_Pop_out γ14) 13 brokerref17_Same_out γ13) 17 slow_Bytes_out γ17
theorem T10 (Γ : Fun) (γ11 : Gm ((List api_Message) × (List api_Message) × Bool)) (γ14 : Gm (api_Message × Bool × (List api_Message) × (List api_Message))) (γ13 : Gm (Bool)) (γ17 : Gm (Int)) (Λ2 J : Lam) : bodyC SE (C10 Γ γ11 γ14 γ13 γ17) Λ2 J 10 [] [] [] =
  γ11 [.d (.sl api_Message.ks [[D.str ([97] : Str), D.str ([] : Str), D.int .i64 0, D.bool false, D.int .i64 0, D.int .i64 5, D.str ([] : Str), D.int .i64 0, D.sl api_Prop.ks (List.map api_Prop.enc [])], [D.str ([98] : Str), D.str ([120, 121] : Str), D.int .i64 0, D.bool false, D.int .i64 0, D.int .i64 0, D.str ([] : Str), D.int .i64 0, D.sl api_Prop.ks (List.map api_Prop.enc [])]]), .agg [.d (.str ([99] : Str)), .d (.str ([] : Str)), .d (.int .i64 0), .d (.bool false), .d (.int .i64 0), .d (.int .i64 0), .d (.str ([] : Str)), .d (.int .i64 0), .d (.sl api_Prop.ks (List.map api_Prop.enc []))], .d (.int .i64 2), .d (.int .i64 1)] [] [] fun r0 =>
  γ11 [.d (.sl api_Message.ks [[D.str ([97] : Str), D.str ([] : Str), D.int .i64 0, D.bool false, D.int .i64 0, D.int .i64 5, D.str ([] : Str), D.int .i64 0, D.sl api_Prop.ks (List.map api_Prop.enc [])], [D.str ([98] : Str), D.str ([120, 121] : Str), D.int .i64 0, D.bool false, D.int .i64 0, D.int .i64 0, D.str ([] : Str), D.int .i64 0, D.sl api_Prop.ks (List.map api_Prop.enc [])]]), .agg [.d (.str ([99] : Str)), .d (.str ([] : Str)), .d (.int .i64 0), .d (.bool false), .d (.int .i64 0), .d (.int .i64 0), .d (.str ([] : Str)), .d (.int .i64 0), .d (.sl api_Prop.ks (List.map api_Prop.enc []))], .d (.int .i64 2), .d (.int .i64 3)] [] [] fun r1 =>
  γ14 [.d (.sl api_Message.ks [[D.str ([97] : Str), D.str ([] : Str), D.int .i64 0, D.bool false, D.int .i64 0, D.int .i64 5, D.str ([] : Str), D.int .i64 0, D.sl api_Prop.ks (List.map api_Prop.enc [])], [D.str ([98] : Str), D.str ([120, 121] : Str), D.int .i64 0, D.bool false, D.int .i64 0, D.int .i64 0, D.str ([] : Str), D.int .i64 0, D.sl api_Prop.ks (List.map api_Prop.enc [])]]), .d (.int .i64 5)] [] [] fun r2 =>
  cond ((List.length (List.map api_Message.enc r0.1) : Int) == 2) (
   cond (decide (0 ≤ 0) && decide (0 < (List.length (List.map api_Message.enc r0.1) : Int))) (
    cond ((dStr (cellAt (elemAt (List.map api_Message.enc r0.1) (Int.toNat 0)) 0)) == ([98] : Str)) (
     cond (decide (0 ≤ 1) && decide (1 < (List.length (List.map api_Message.enc r0.1) : Int))) (
      cond ((dStr (cellAt (elemAt (List.map api_Message.enc r0.1) (Int.toNat 1)) 0)) == ([99] : Str)) (
       cond ((List.length (List.map api_Message.enc r0.2.1) : Int) == 1) (
        cond (decide (0 ≤ 0) && decide (0 < (List.length (List.map api_Message.enc r0.2.1) : Int))) (
         cond ((dStr (cellAt (elemAt (List.map api_Message.enc r0.2.1) (Int.toNat 0)) 0)) == ([97] : Str)) (
          cond (!r0.2.2) (
           γ13 [.d (.sl api_Message.ks (List.map api_Message.enc r1.1)), .d (.sl api_Message.ks [[D.str ([97] : Str), D.str ([] : Str), D.int .i64 0, D.bool false, D.int .i64 0, D.int .i64 5, D.str ([] : Str), D.int .i64 0, D.sl api_Prop.ks (List.map api_Prop.enc [])], [D.str ([98] : Str), D.str ([120, 121] : Str), D.int .i64 0, D.bool false, D.int .i64 0, D.int .i64 0, D.str ([] : Str), D.int .i64 0, D.sl api_Prop.ks (List.map api_Prop.enc [])]])] [] [] fun r3 =>
           cond r3 (
            cond ((List.length (List.map api_Message.enc r1.2.1) : Int) == 1) (
             cond (decide (0 ≤ 0) && decide (0 < (List.length (List.map api_Message.enc r1.2.1) : Int))) (
              cond ((dStr (cellAt (elemAt (List.map api_Message.enc r1.2.1) (Int.toNat 0)) 0)) == ([99] : Str)) (
               cond r1.2.2 (
                cond r2.2.1 (
                 cond (r2.1.Topic == ([98] : Str)) (
                  cond ((List.length (List.map api_Message.enc r2.2.2.1) : Int) == 0) (
                   cond ((List.length (List.map api_Message.enc r2.2.2.2) : Int) == 1) (
                    γ17 [.d (.sl api_Message.ks [[D.str ([97] : Str), D.str ([] : Str), D.int .i64 0, D.bool false, D.int .i64 0, D.int .i64 5, D.str ([] : Str), D.int .i64 0, D.sl api_Prop.ks (List.map api_Prop.enc [])], [D.str ([98] : Str), D.str ([120, 121] : Str), D.int .i64 0, D.bool false, D.int .i64 0, D.int .i64 0, D.str ([] : Str), D.int .i64 0, D.sl api_Prop.ks (List.map api_Prop.enc [])]])] [] [] fun r4 =>
                    (some (.ret [.d (.bool (r4 == 2))] [] []))) (
                   (some (.ret [.d (.bool false)] [] [])))) (
                  (some (.ret [.d (.bool false)] [] [])))) (
                 (some (.ret [.d (.bool false)] [] [])))) (
                (some (.ret [.d (.bool false)] [] [])))) (
               (some (.ret [.d (.bool false)] [] [])))) (
              (some (.ret [.d (.bool false)] [] [])))) none) (
            (some (.ret [.d (.bool false)] [] [])))) (
           (some (.ret [.d (.bool false)] [] [])))) (
          (some (.ret [.d (.bool false)] [] [])))) (
         (some (.ret [.d (.bool false)] [] [])))) none) (
       (some (.ret [.d (.bool false)] [] [])))) (
      (some (.ret [.d (.bool false)] [] [])))) none) (
    (some (.ret [.d (.bool false)] [] [])))) none) (
  (some (.ret [.d (.bool false)] [] []))) := by kernel_rfl
abbrev X10 : CFun := C10 (callG SE good) (callT SE good 11 slow_Push_out) (callT SE good 14 slow_Pop_out) (callT SE good 13 brokerref17_Same_out) (callT SE good 17 slow_Bytes_out)
theorem Cr10 : C10 (callG SE good) (callT SE good 11 slow_Push_out) (callT SE good 14 slow_Pop_out) (callT SE good 13 brokerref17_Same_out) (callT SE good 17 slow_Bytes_out) = bindC (callG SE good) := by unfold C10; rw [updC_real (fun _ h => h), updC_real (fun _ h => h), updC_real (fun _ h => h), updC_real (fun _ h => h)]
theorem brokerlaw17_awake_ok : Le (Option.map brokerlaw17_awake_out (brokerlaw17_awake)) (callW SE 10 [] [] []) := by
  refine le_bodyC Cr10 ?_
  refine Le.trans ?_ (le_of_eq (T10 _ _ _ _ _ _ _ ).symm)
  unfold brokerlaw17_awake
  refine le_call (good := good) (fun y => ⟨y, rfl⟩) slow_Push_inj (by first | (simp only [EN]; exact slow_Push_ok [(api_Message.mk ([97] : Str) ([] : Str) 0 false 0 5 ([] : Str) 0 ([] : List api_Prop)), (api_Message.mk ([98] : Str) ([120, 121] : Str) 0 false 0 0 ([] : Str) 0 ([] : List api_Prop))] ((api_Message.mk ([99] : Str) ([] : Str) 0 false 0 0 ([] : Str) 0 ([] : List api_Prop))) 2 1) | exact slow_Push_ok [(api_Message.mk ([97] : Str) ([] : Str) 0 false 0 5 ([] : Str) 0 ([] : List api_Prop)), (api_Message.mk ([98] : Str) ([120, 121] : Str) 0 false 0 0 ([] : Str) 0 ([] : List api_Prop))] ((api_Message.mk ([99] : Str) ([] : Str) 0 false 0 0 ([] : Str) 0 ([] : List api_Prop))) 2 1) (fun r0 _ => ?_)
  refine le_call (good := good) (fun y => ⟨y, rfl⟩) slow_Push_inj (by first | (simp only [EN]; exact slow_Push_ok [(api_Message.mk ([97] : Str) ([] : Str) 0 false 0 5 ([] : Str) 0 ([] : List api_Prop)), (api_Message.mk ([98] : Str) ([120, 121] : Str) 0 false 0 0 ([] : Str) 0 ([] : List api_Prop))] ((api_Message.mk ([99] : Str) ([] : Str) 0 false 0 0 ([] : Str) 0 ([] : List api_Prop))) 2 3) | exact slow_Push_ok [(api_Message.mk ([97] : Str) ([] : Str) 0 false 0 5 ([] : Str) 0 ([] : List api_Prop)), (api_Message.mk ([98] : Str) ([120, 121] : Str) 0 false 0 0 ([] : Str) 0 ([] : List api_Prop))] ((api_Message.mk ([99] : Str) ([] : Str) 0 false 0 0 ([] : Str) 0 ([] : List api_Prop))) 2 3) (fun r1 _ => ?_)
  refine le_call (good := good) (fun y => ⟨y, rfl⟩) slow_Pop_inj (by first | (simp only [EN]; exact slow_Pop_ok [(api_Message.mk ([97] : Str) ([] : Str) 0 false 0 5 ([] : Str) 0 ([] : List api_Prop)), (api_Message.mk ([98] : Str) ([120, 121] : Str) 0 false 0 0 ([] : Str) 0 ([] : List api_Prop))] 5) | exact slow_Pop_ok [(api_Message.mk ([97] : Str) ([] : Str) 0 false 0 5 ([] : Str) 0 ([] : List api_Prop)), (api_Message.mk ([98] : Str) ([120, 121] : Str) 0 false 0 0 ([] : Str) 0 ([] : List api_Prop))] 5) (fun r2 _ => ?_)
  refine le_cond (by simp only [EN]) (fun _ => ?_) (fun _ => ?_)
  · skip
    refine le_cond (by simp only [EN]) (fun _ => ?_) (fun _ => le_none)
    refine le_cond (by simp only [EN]) (fun _ => ?_) (fun _ => ?_)
    · skip
      refine le_cond (by simp only [EN]) (fun _ => ?_) (fun _ => le_none)
      refine le_cond (by simp only [EN]) (fun _ => ?_) (fun _ => ?_)
      · skip
        refine le_cond (by simp only [EN]) (fun _ => ?_) (fun _ => ?_)
        · skip
          refine le_cond (by simp only [EN]) (fun _ => ?_) (fun _ => le_none)
          refine le_cond (by simp only [EN]) (fun _ => ?_) (fun _ => ?_)
          · skip
            refine le_cond rfl (fun _ => ?_) (fun _ => ?_)
            · skip
              refine le_call (good := good) (fun y => ⟨y, rfl⟩) brokerref17_Same_inj (by first | (simp only [EN]; exact brokerref17_Same_ok r1.1 [(api_Message.mk ([97] : Str) ([] : Str) 0 false 0 5 ([] : Str) 0 ([] : List api_Prop)), (api_Message.mk ([98] : Str) ([120, 121] : Str) 0 false 0 0 ([] : Str) 0 ([] : List api_Prop))]) | exact brokerref17_Same_ok r1.1 [(api_Message.mk ([97] : Str) ([] : Str) 0 false 0 5 ([] : Str) 0 ([] : List api_Prop)), (api_Message.mk ([98] : Str) ([120, 121] : Str) 0 false 0 0 ([] : Str) 0 ([] : List api_Prop))]) (fun r3 _ => ?_)
              refine le_cond rfl (fun _ => ?_) (fun _ => ?_)
              · skip
                refine le_cond (by simp only [EN]) (fun _ => ?_) (fun _ => ?_)
                · skip
                  refine le_cond (by simp only [EN]) (fun _ => ?_) (fun _ => le_none)
                  refine le_cond (by simp only [EN]) (fun _ => ?_) (fun _ => ?_)
                  · skip
                    refine le_cond rfl (fun _ => ?_) (fun _ => ?_)
                    · skip
                      refine le_cond rfl (fun _ => ?_) (fun _ => ?_)
                      · skip
                        refine le_cond rfl (fun _ => ?_) (fun _ => ?_)
                        · skip
                          refine le_cond (by simp only [EN]) (fun _ => ?_) (fun _ => ?_)
                          · skip
                            refine le_cond (by simp only [EN]) (fun _ => ?_) (fun _ => ?_)
                            · skip
                              refine le_call (good := good) (fun y => ⟨y, rfl⟩) slow_Bytes_inj (by first | (simp only [EN]; exact slow_Bytes_ok [(api_Message.mk ([97] : Str) ([] : Str) 0 false 0 5 ([] : Str) 0 ([] : List api_Prop)), (api_Message.mk ([98] : Str) ([120, 121] : Str) 0 false 0 0 ([] : Str) 0 ([] : List api_Prop))]) | exact slow_Bytes_ok [(api_Message.mk ([97] : Str) ([] : Str) 0 false 0 5 ([] : Str) 0 ([] : List api_Prop)), (api_Message.mk ([98] : Str) ([120, 121] : Str) 0 false 0 0 ([] : Str) 0 ([] : List api_Prop))]) (fun r4 _ => ?_)
                              exact le_ret (by first | rfl | (simp only [EN, brokerlaw17_awake_out]; done) | (simp only [EN, brokerlaw17_awake_out]; rfl))
                            · skip
                              exact le_ret (by first | rfl | (simp only [EN, brokerlaw17_awake_out]; done) | (simp only [EN, brokerlaw17_awake_out]; rfl))
                          · skip
                            exact le_ret (by first | rfl | (simp only [EN, brokerlaw17_awake_out]; done) | (simp only [EN, brokerlaw17_awake_out]; rfl))
                        · skip
                          exact le_ret (by first | rfl | (simp only [EN, brokerlaw17_awake_out]; done) | (simp only [EN, brokerlaw17_awake_out]; rfl))
                      · skip
                        exact le_ret (by first | rfl | (simp only [EN, brokerlaw17_awake_out]; done) | (simp only [EN, brokerlaw17_awake_out]; rfl))
                    · skip
                      exact le_ret (by first | rfl | (simp only [EN, brokerlaw17_awake_out]; done) | (simp only [EN, brokerlaw17_awake_out]; rfl))
                  · skip
                    exact le_ret (by first | rfl | (simp only [EN, brokerlaw17_awake_out]; done) | (simp only [EN, brokerlaw17_awake_out]; rfl))
                · skip
                  exact le_ret (by first | rfl | (simp only [EN, brokerlaw17_awake_out]; done) | (simp only [EN, brokerlaw17_awake_out]; rfl))
              · skip
                exact le_ret (by first | rfl | (simp only [EN, brokerlaw17_awake_out]; done) | (simp only [EN, brokerlaw17_awake_out]; rfl))
            · skip
              exact le_ret (by first | rfl | (simp only [EN, brokerlaw17_awake_out]; done) | (simp only [EN, brokerlaw17_awake_out]; rfl))
          · skip
            exact le_ret (by first | rfl | (simp only [EN, brokerlaw17_awake_out]; done) | (simp only [EN, brokerlaw17_awake_out]; rfl))
        · skip
          exact le_ret (by first | rfl | (simp only [EN, brokerlaw17_awake_out]; done) | (simp only [EN, brokerlaw17_awake_out]; rfl))
      · skip
        exact le_ret (by first | rfl | (simp only [EN, brokerlaw17_awake_out]; done) | (simp only [EN, brokerlaw17_awake_out]; rfl))
    · skip
      exact le_ret (by first | rfl | (simp only [EN, brokerlaw17_awake_out]; done) | (simp only [EN, brokerlaw17_awake_out]; rfl))
  · skip
    exact le_ret (by first | rfl | (simp only [EN, brokerlaw17_awake_out]; done) | (simp only [EN, brokerlaw17_awake_out]; rfl))
def C12 (Γ : Fun)  : CFun := bindC Γ
def R12_5 (C : CFun) (Λ2 J : Lam) (a0 : (List (List D))) (a1 : Int) (a2 : (List D)) : Res := lab SE C Λ2 J 12 0 [1, 1, 1, 0] (stoOf [(0, .d (.sl api_Message.ks a0)), (3, .d (.int .i64 a1)), (5, .ptr 1000000000 0)] [⟨25, (List.map AV.d a2)⟩] [] [] [])
theorem T12 (Γ : Fun)  (Λ2 J : Lam) (p0 : (List api_Message)) (p1 : api_Message) (p2 : Int) (p3 : Int) : bodyC SE (C12 Γ) Λ2 J 12 [.d (.sl api_Message.ks (List.map api_Message.enc p0)), api_Message.av p1, .d (.int .i64 p2), .d (.int .i64 p3)] [] [] =
  cond (decide ((List.length (List.map api_Message.enc p0) : Int) < p2)) (
   cond (decide ((List.length (List.map api_Message.enc []) + List.length (List.map api_Message.enc p0)) * 112 ≤ 140737488355328)) (
    cond (decide ((List.length ((List.map api_Message.enc []) ++ (List.map api_Message.enc p0)) + List.length (List.map api_Message.enc [p1])) * 112 ≤ 140737488355328)) (
     (some (.ret [.d (.sl api_Message.ks (((List.map api_Message.enc []) ++ (List.map api_Message.enc p0)) ++ (List.map api_Message.enc [p1]))), .row 0, .d (.bool false)] [] [⟨api_Message.ks, 25, 112, []⟩]))) none) none) (
  cond (p3 == 1) (
   cond (decide (p2 ≥ 1)) (
    cond (decide (0 ≤ 1) && decide (1 ≤ ((List.length (List.map api_Message.enc p0)) : Int))) (
     cond (decide ((List.length (List.map api_Message.enc []) + List.length (cutL (List.map api_Message.enc p0) (some 1) none)) * 112 ≤ 140737488355328)) (
      cond (decide ((List.length ((List.map api_Message.enc []) ++ (cutL (List.map api_Message.enc p0) (some 1) none)) + List.length (List.map api_Message.enc [p1])) * 112 ≤ 140737488355328)) (
       cond (decide (0 ≤ 0) && decide (0 < (List.length (List.map api_Message.enc p0) : Int))) (
        (some (.ret [.d (.sl api_Message.ks (((List.map api_Message.enc []) ++ (cutL (List.map api_Message.enc p0) (some 1) none)) ++ (List.map api_Message.enc [p1]))), .row 0, .d (.bool false)] [] [⟨api_Message.ks, 25, 112, [[D.str (dStr (cellAt (elemAt (List.map api_Message.enc p0) (Int.toNat 0)) 0)), D.str (dStr (cellAt (elemAt (List.map api_Message.enc p0) (Int.toNat 0)) 1)), D.int .i64 (dInt (cellAt (elemAt (List.map api_Message.enc p0) (Int.toNat 0)) 2)), D.bool (dBool (cellAt (elemAt (List.map api_Message.enc p0) (Int.toNat 0)) 3)), D.int .i64 (dInt (cellAt (elemAt (List.map api_Message.enc p0) (Int.toNat 0)) 4)), D.int .i64 (dInt (cellAt (elemAt (List.map api_Message.enc p0) (Int.toNat 0)) 5)), D.str (dStr (cellAt (elemAt (List.map api_Message.enc p0) (Int.toNat 0)) 6)), D.int .i64 (dInt (cellAt (elemAt (List.map api_Message.enc p0) (Int.toNat 0)) 7)), D.sl api_Prop.ks (dSl (cellAt (elemAt (List.map api_Message.enc p0) (Int.toNat 0)) 8))]]⟩]))) none) none) none) none) (
   R12_5 (C12 Γ) Λ2 J (List.map api_Message.enc p0) p3 (api_Message.enc p1))) (
  R12_5 (C12 Γ) Λ2 J (List.map api_Message.enc p0) p3 (api_Message.enc p1))) := by kernel_rfl
theorem T12_5 (Γ : Fun)  (Λ2 J : Lam) (x0 : (List api_Message)) (x3 : Int) (b0 : api_Message) : labU SE (C12 Γ) Λ2 J 12 0 [1, 1, 1, 0] (stoOf [(0, .d (.sl api_Message.ks (List.map api_Message.enc x0))), (3, .d (.int .i64 x3)), (5, .ptr 1000000000 0)] [⟨25, (List.map AV.d (api_Message.enc b0))⟩] [] [] []) =
  (some (.ret [.d (.sl api_Message.ks (List.map api_Message.enc x0)), .row 0, .d (.bool (x3 == 3))] [] [⟨api_Message.ks, 25, 112, (List.map api_Message.enc [b0])⟩])) := by kernel_rfl
abbrev X12 : CFun := C12 (callG SE good)
theorem Cr12 : C12 (callG SE good) = bindC (callG SE good) := by unfold C12; rfl
noncomputable abbrev Q12_5 (a0 : (List (List D))) (a1 : Int) (a2 : (List D)) : Res := R12_5 X12 (lam2 SE (callG SE good) (SE.hl 12) (SE.hr 12)) (J0 SE X12) a0 a1 a2
theorem brokerref17_Push_j5_ok (x0 : (List api_Message)) (x3 : Int) (b0 : api_Message) : Le (Option.map brokerref17_Push_out (brokerref17_Push_j5 x0 x3 b0)) (Q12_5 (List.map api_Message.enc x0) x3 (api_Message.enc b0)) := by
  refine Le.trans ?_ (le_of_eq ((lab_realC Cr12).trans (T12_5 _ _ _  x0 x3 b0)).symm)
  unfold brokerref17_Push_j5
  exact le_ret (by first | rfl | (simp only [EN, brokerref17_Push_out]; done) | (simp only [EN, brokerref17_Push_out]; rfl))
theorem brokerref17_Push_ok (p0 : (List api_Message)) (p1 : api_Message) (p2 : Int) (p3 : Int) : Le (Option.map brokerref17_Push_out (brokerref17_Push p0 p1 p2 p3)) (callW SE 12 [.d (.sl api_Message.ks (List.map api_Message.enc p0)), api_Message.av p1, .d (.int .i64 p2), .d (.int .i64 p3)] [] []) := by
  refine le_bodyC Cr12 ?_
  refine Le.trans ?_ (le_of_eq (T12 _ _ _  p0 p1 p2 p3).symm)
  unfold brokerref17_Push
  refine le_cond (by simp only [EN]) (fun _ => ?_) (fun _ => ?_)
  · skip
    refine le_cond (by simp only [EN]) (fun _ => ?_) (fun _ => le_none)
    refine le_cond (by simp only [EN]) (fun _ => ?_) (fun _ => le_none)
    exact le_ret (by first | rfl | (simp only [EN, brokerref17_Push_out]; done) | (simp only [EN, brokerref17_Push_out]; rfl))
  · skip
    refine le_cond rfl (fun _ => ?_) (fun _ => ?_)
    · skip
      refine le_cond rfl (fun _ => ?_) (fun _ => ?_)
      · skip
        refine le_cond (by simp only [EN]) (fun _ => ?_) (fun _ => le_none)
        refine le_cond (by simp only [EN]) (fun _ => ?_) (fun _ => le_none)
        refine le_cond (by simp only [EN]) (fun _ => ?_) (fun _ => le_none)
        refine le_cond (by simp only [EN]) (fun _ => ?_) (fun _ => le_none)
        exact le_ret (by first | rfl | (simp only [EN, brokerref17_Push_out]; done) | (simp only [EN, brokerref17_Push_out]; rfl))
      · skip
        exact brokerref17_Push_j5_ok p0 p3 p1
    · skip
      exact brokerref17_Push_j5_ok p0 p3 p1
def C3 (Γ : Fun) (γ9 : Gm (Bool)) (γ10 : Gm (Bool)) (γ11 : Gm ((List api_Message) × (List api_Message) × Bool)) (γ12 : Gm ((List api_Message) × (List api_Message) × Bool)) (γ13 : Gm (Bool)) : CFun := updC (updC (updC (updC (updC (bindC Γ) 9 brokerlaw17_few_out γ9) 10 brokerlaw17_awake_out γ10) 11 slow_Push_out γ11) 12 brokerref17_Push_out γ12) 13 brokerref17_Same_out γ13
theorem T3 (Γ : Fun) (γ9 : Gm (Bool)) (γ10 : Gm (Bool)) (γ11 : Gm ((List api_Message) × (List api_Message) × Bool)) (γ12 : Gm ((List api_Message) × (List api_Message) × Bool)) (γ13 : Gm (Bool)) (Λ2 J : Lam) (p0 : (List api_Message)) (p1 : api_Message) (p2 : Int) (p3 : Int) : bodyC SE (C3 Γ γ9 γ10 γ11 γ12 γ13) Λ2 J 3 [.d (.sl api_Message.ks (List.map api_Message.enc p0)), api_Message.av p1, .d (.int .i64 p2), .d (.int .i64 p3)] [] [] =
  γ9 [.d (.sl api_Message.ks (List.map api_Message.enc p0))] [] [] fun r0 =>
  cond (!r0) (
   γ10 [] [] [] fun r1 =>
   (some (.ret [.d (.bool r1)] [] []))) (
  γ11 [.d (.sl api_Message.ks (List.map api_Message.enc p0)), api_Message.av p1, .d (.int .i64 p2), .d (.int .i64 p3)] [] [] fun r2 =>
  γ12 [.d (.sl api_Message.ks (List.map api_Message.enc p0)), api_Message.av p1, .d (.int .i64 p2), .d (.int .i64 p3)] [] [] fun r3 =>
  γ10 [] [] [] fun r4 =>
  cond r4 (
   γ13 [.d (.sl api_Message.ks (List.map api_Message.enc r2.1)), .d (.sl api_Message.ks (List.map api_Message.enc r3.1))] [] [] fun r5 =>
   cond r5 (
    γ13 [.d (.sl api_Message.ks (List.map api_Message.enc r2.2.1)), .d (.sl api_Message.ks (List.map api_Message.enc r3.2.1))] [] [] fun r6 =>
    cond r6 (
     (some (.ret [.d (.bool (r2.2.2 == r3.2.2))] [] []))) (
    (some (.ret [.d (.bool false)] [] [])))) (
   (some (.ret [.d (.bool false)] [] [])))) (
  (some (.ret [.d (.bool false)] [] [])))) := by kernel_rfl
abbrev X3 : CFun := C3 (callG SE good) (callT SE good 9 brokerlaw17_few_out) (callT SE good 10 brokerlaw17_awake_out) (callT SE good 11 slow_Push_out) (callT SE good 12 brokerref17_Push_out) (callT SE good 13 brokerref17_Same_out)
theorem Cr3 : C3 (callG SE good) (callT SE good 9 brokerlaw17_few_out) (callT SE good 10 brokerlaw17_awake_out) (callT SE good 11 slow_Push_out) (callT SE good 12 brokerref17_Push_out) (callT SE good 13 brokerref17_Same_out) = bindC (callG SE good) := by unfold C3; rw [updC_real (fun _ h => h), updC_real (fun _ h => h), updC_real (fun _ h => h), updC_real (fun _ h => h), updC_real (fun _ h => h)]
theorem brokerlaw17_SlowPushes_ok (p0 : (List api_Message)) (p1 : api_Message) (p2 : Int) (p3 : Int) : Le (Option.map brokerlaw17_SlowPushes_out (brokerlaw17_SlowPushes p0 p1 p2 p3)) (callW SE 3 [.d (.sl api_Message.ks (List.map api_Message.enc p0)), api_Message.av p1, .d (.int .i64 p2), .d (.int .i64 p3)] [] []) := by
  refine le_bodyC Cr3 ?_
  refine Le.trans ?_ (le_of_eq (T3 _ _ _ _ _ _ _ _  p0 p1 p2 p3).symm)
  unfold brokerlaw17_SlowPushes
  refine le_call (good := good) (fun y => ⟨y, rfl⟩) brokerlaw17_few_inj (brokerlaw17_few_ok p0) (fun r0 _ => ?_)
  refine le_cond rfl (fun _ => ?_) (fun _ => ?_)
  · skip
    refine le_call (good := good) (fun y => ⟨y, rfl⟩) brokerlaw17_awake_inj (brokerlaw17_awake_ok) (fun r1 _ => ?_)
    exact le_ret (by first | rfl | (simp only [EN, brokerlaw17_SlowPushes_out]; done) | (simp only [EN, brokerlaw17_SlowPushes_out]; rfl))
  · skip
    refine le_call (good := good) (fun y => ⟨y, rfl⟩) slow_Push_inj (slow_Push_ok p0 p1 p2 p3) (fun r2 _ => ?_)
    refine le_call (good := good) (fun y => ⟨y, rfl⟩) brokerref17_Push_inj (brokerref17_Push_ok p0 p1 p2 p3) (fun r3 _ => ?_)
    refine le_call (good := good) (fun y => ⟨y, rfl⟩) brokerlaw17_awake_inj (brokerlaw17_awake_ok) (fun r4 _ => ?_)
    refine le_cond rfl (fun _ => ?_) (fun _ => ?_)
    · skip
      refine le_call (good := good) (fun y => ⟨y, rfl⟩) brokerref17_Same_inj (brokerref17_Same_ok r2.1 r3.1) (fun r5 _ => ?_)
      refine le_cond rfl (fun _ => ?_) (fun _ => ?_)
      · skip
        refine le_call (good := good) (fun y => ⟨y, rfl⟩) brokerref17_Same_inj (brokerref17_Same_ok r2.2.1 r3.2.1) (fun r6 _ => ?_)
        refine le_cond rfl (fun _ => ?_) (fun _ => ?_)
        · skip
          exact le_ret (by first | rfl | (simp only [EN, brokerlaw17_SlowPushes_out]; done) | (simp only [EN, brokerlaw17_SlowPushes_out]; rfl))
        · skip
          exact le_ret (by first | rfl | (simp only [EN, brokerlaw17_SlowPushes_out]; done) | (simp only [EN, brokerlaw17_SlowPushes_out]; rfl))
      · skip
        exact le_ret (by first | rfl | (simp only [EN, brokerlaw17_SlowPushes_out]; done) | (simp only [EN, brokerlaw17_SlowPushes_out]; rfl))
    · skip
      exact le_ret (by first | rfl | (simp only [EN, brokerlaw17_SlowPushes_out]; done) | (simp only [EN, brokerlaw17_SlowPushes_out]; rfl))
def C25 (Γ : Fun)  : CFun := bindC Γ
theorem T25 (Γ : Fun)  (Λ2 J : Lam) (p0 : api_Message) (p1 : Int) : bodyC SE (C25 Γ) Λ2 J 25 [api_Message.av p0, .d (.int .i64 p1)] [] [] =
  cond (p0.Expires != 0) (
   (some (.ret [.d (.bool (decide (p1 ≥ p0.Expires)))] [] []))) (
  (some (.ret [.d (.bool false)] [] []))) := by kernel_rfl
abbrev X25 : CFun := C25 (callG SE good)
theorem Cr25 : C25 (callG SE good) = bindC (callG SE good) := by unfold C25; rfl
theorem brokerref05_Expired_ok (p0 : api_Message) (p1 : Int) : Le (Option.map brokerref05_Expired_out (brokerref05_Expired p0 p1)) (callW SE 25 [api_Message.av p0, .d (.int .i64 p1)] [] []) := by
  refine le_bodyC Cr25 ?_
  refine Le.trans ?_ (le_of_eq (T25 _ _ _  p0 p1).symm)
  unfold brokerref05_Expired
  refine le_cond rfl (fun _ => ?_) (fun _ => ?_)
  · skip
    exact le_ret (by first | rfl | (simp only [EN, brokerref05_Expired_out]; done) | (simp only [EN, brokerref05_Expired_out]; rfl))
  · skip
    exact le_ret (by first | rfl | (simp only [EN, brokerref05_Expired_out]; done) | (simp only [EN, brokerref05_Expired_out]; rfl))
def C15 (Γ : Fun) (γ25 : Gm (Bool)) : CFun := updC (bindC Γ) 25 brokerref05_Expired_out γ25
def R15_2 (C : CFun) (Λ2 J : Lam) (a0 : (List (List D))) (a1 : Int) (a2 : Int) (a3 : (List D)) : Res := lab SE C Λ2 J 15 0 [1, 0, 1, 0] (stoOf [(0, .d (.sl api_Message.ks a0)), (1, .d (.int .i64 a1)), (4, .ptr 1000000000 0), (8, .d (.int .i64 a2))] [⟨25, (List.map AV.d a3)⟩] [] [] [])
theorem T15 (Γ : Fun) (γ25 : Gm (Bool)) (Λ2 J : Lam) (p0 : (List api_Message)) (p1 : Int) : bodyC SE (C15 Γ γ25) Λ2 J 15 [.d (.sl api_Message.ks (List.map api_Message.enc p0)), .d (.int .i64 p1)] [] [] =
  R15_2 (C15 Γ γ25) Λ2 J (List.map api_Message.enc p0) p1 0 [D.str ([] : Str), D.str ([] : Str), D.int .i64 0, D.bool false, D.int .i64 0, D.int .i64 0, D.str ([] : Str), D.int .i64 0, D.sl api_Prop.ks (List.map api_Prop.enc [])] := by kernel_rfl
theorem T15_2 (Γ : Fun) (γ25 : Gm (Bool)) (Λ2 J : Lam) (x0 : (List api_Message)) (x1 : Int) (x8 : Int) (b0 : api_Message) : labU SE (C15 Γ γ25) Λ2 J 15 0 [1, 0, 1, 0] (stoOf [(0, .d (.sl api_Message.ks (List.map api_Message.enc x0))), (1, .d (.int .i64 x1)), (4, .ptr 1000000000 0), (8, .d (.int .i64 x8))] [⟨25, (List.map AV.d (api_Message.enc b0))⟩] [] [] []) =
  cond (decide (x8 < (List.length (List.map api_Message.enc x0) : Int))) (
   cond (decide (0 ≤ x8) && decide (x8 < (List.length (List.map api_Message.enc x0) : Int))) (
    γ25 [.agg [.d (.str (dStr (cellAt (elemAt (List.map api_Message.enc x0) (Int.toNat x8)) 0))), .d (.str (dStr (cellAt (elemAt (List.map api_Message.enc x0) (Int.toNat x8)) 1))), .d (.int .i64 (dInt (cellAt (elemAt (List.map api_Message.enc x0) (Int.toNat x8)) 2))), .d (.bool (dBool (cellAt (elemAt (List.map api_Message.enc x0) (Int.toNat x8)) 3))), .d (.int .i64 (dInt (cellAt (elemAt (List.map api_Message.enc x0) (Int.toNat x8)) 4))), .d (.int .i64 (dInt (cellAt (elemAt (List.map api_Message.enc x0) (Int.toNat x8)) 5))), .d (.str (dStr (cellAt (elemAt (List.map api_Message.enc x0) (Int.toNat x8)) 6))), .d (.int .i64 (dInt (cellAt (elemAt (List.map api_Message.enc x0) (Int.toNat x8)) 7))), .d (.sl api_Prop.ks (dSl (cellAt (elemAt (List.map api_Message.enc x0) (Int.toNat x8)) 8)))], .d (.int .i64 x1)] [] [] fun r0 =>
    cond (!r0) (
     cond (decide (0 ≤ x8) && decide (x8 < (List.length (List.map api_Message.enc x0) : Int))) (
      cond (decide (0 ≤ (IntKind.wrap .i64 (x8 + 1))) && decide ((IntKind.wrap .i64 (x8 + 1)) ≤ ((List.length (List.map api_Message.enc x0)) : Int))) (
       cond (decide (0 ≤ x8) && decide (x8 ≤ ((List.length (List.map api_Message.enc x0)) : Int))) (
        (some (.ret [.agg [.d (.str (dStr (cellAt (elemAt (List.map api_Message.enc x0) (Int.toNat x8)) 0))), .d (.str (dStr (cellAt (elemAt (List.map api_Message.enc x0) (Int.toNat x8)) 1))), .d (.int .i64 (dInt (cellAt (elemAt (List.map api_Message.enc x0) (Int.toNat x8)) 2))), .d (.bool (dBool (cellAt (elemAt (List.map api_Message.enc x0) (Int.toNat x8)) 3))), .d (.int .i64 (dInt (cellAt (elemAt (List.map api_Message.enc x0) (Int.toNat x8)) 4))), .d (.int .i64 (dInt (cellAt (elemAt (List.map api_Message.enc x0) (Int.toNat x8)) 5))), .d (.str (dStr (cellAt (elemAt (List.map api_Message.enc x0) (Int.toNat x8)) 6))), .d (.int .i64 (dInt (cellAt (elemAt (List.map api_Message.enc x0) (Int.toNat x8)) 7))), .d (.sl api_Prop.ks (dSl (cellAt (elemAt (List.map api_Message.enc x0) (Int.toNat x8)) 8)))], .d (.bool true), .d (.sl api_Message.ks (cutL (List.map api_Message.enc x0) (some (IntKind.wrap .i64 (x8 + 1))) none)), .d (.sl api_Message.ks (cutL (List.map api_Message.enc x0) none (some x8)))] [] []))) none) none) none) (
    R15_2 (C15 Γ γ25) Λ2 J (List.map api_Message.enc x0) x1 (IntKind.wrap .i64 (x8 + 1)) (api_Message.enc b0))) none) (
  (some (.ret [.agg [.d (.str ([] : Str)), .d (.str ([] : Str)), .d (.int .i64 0), .d (.bool false), .d (.int .i64 0), .d (.int .i64 0), .d (.str ([] : Str)), .d (.int .i64 0), .d (.sl api_Prop.ks (List.map api_Prop.enc []))], .d (.bool false), .d (.sl api_Message.ks (List.map api_Message.enc [])), .d (.sl api_Message.ks (List.map api_Message.enc x0))] [] []))) := by kernel_rfl
abbrev X15 : CFun := C15 (callG SE good) (callT SE good 25 brokerref05_Expired_out)
theorem Cr15 : C15 (callG SE good) (callT SE good 25 brokerref05_Expired_out) = bindC (callG SE good) := by unfold C15; rw [updC_real (fun _ h => h)]
noncomputable abbrev Q15_2 (a0 : (List (List D))) (a1 : Int) (a2 : Int) (a3 : (List D)) : Res := R15_2 X15 (lam2 SE (callG SE good) (SE.hl 15) (SE.hr 15)) (J0 SE X15) a0 a1 a2 a3
theorem brokerref17_Pop_l2_ok : ∀ (fu : Nat) (x0 : (List api_Message)) (x1 : Int) (x8 : Int) (b0 : api_Message), Le (Option.map brokerref17_Pop_out (brokerref17_Pop_l2 fu x0 x1 x8 b0)) (Q15_2 (List.map api_Message.enc x0) x1 x8 (api_Message.enc b0)) := by
  intro fu
  induction fu with
  | zero => intros; exact le_none
  | succ fu ih =>
    intro x0 x1 x8 b0
    refine Le.trans ?_ (le_of_eq ((lab_realC Cr15).trans (T15_2 _ _ _ _  x0 x1 x8 b0)).symm)
    unfold brokerref17_Pop_l2
    refine le_cond (by simp only [EN]) (fun _ => ?_) (fun _ => ?_)
    · skip
      refine le_cond (by simp only [EN]) (fun _ => ?_) (fun _ => le_none)
      refine le_call (good := good) (fun y => ⟨y, rfl⟩) brokerref05_Expired_inj (by first | (simp only [EN]; exact brokerref05_Expired_ok (List.getD x0 (Int.toNat x8) default) x1) | exact brokerref05_Expired_ok (List.getD x0 (Int.toNat x8) default) x1) (fun r0 _ => ?_)
      refine le_cond rfl (fun _ => ?_) (fun _ => ?_)
      · skip
        refine le_cond (by simp only [EN]) (fun _ => ?_) (fun _ => le_none)
        refine le_cond (by simp only [EN]) (fun _ => ?_) (fun _ => le_none)
        refine le_cond (by simp only [EN]) (fun _ => ?_) (fun _ => le_none)
        exact le_ret (by first | rfl | (simp only [EN, brokerref17_Pop_out]; done) | (simp only [EN, brokerref17_Pop_out]; rfl))
      · skip
        exact ih x0 x1 (IntKind.wrap .i64 (x8 + 1)) b0
    · skip
      exact le_ret (by first | rfl | (simp only [EN, brokerref17_Pop_out]; done) | (simp only [EN, brokerref17_Pop_out]; rfl))
theorem brokerref17_Pop_ok (p0 : (List api_Message)) (p1 : Int) : Le (Option.map brokerref17_Pop_out (brokerref17_Pop p0 p1)) (callW SE 15 [.d (.sl api_Message.ks (List.map api_Message.enc p0)), .d (.int .i64 p1)] [] []) := by
  refine le_bodyC Cr15 ?_
  refine Le.trans ?_ (le_of_eq (T15 _ _ _ _  p0 p1).symm)
  unfold brokerref17_Pop
  first | (simp only [EN]; exact brokerref17_Pop_l2_ok fuel p0 p1 0 ((api_Message.mk ([] : Str) ([] : Str) 0 false 0 0 ([] : Str) 0 ([] : List api_Prop)))) | exact brokerref17_Pop_l2_ok fuel p0 p1 0 ((api_Message.mk ([] : Str) ([] : Str) 0 false 0 0 ([] : Str) 0 ([] : List api_Prop)))
def C4 (Γ : Fun) (γ9 : Gm (Bool)) (γ10 : Gm (Bool)) (γ14 : Gm (api_Message × Bool × (List api_Message) × (List api_Message))) (γ15 : Gm (api_Message × Bool × (List api_Message) × (List api_Message))) (γ16 : Gm (Bool)) (γ13 : Gm (Bool)) : CFun := updC (updC (updC (updC (updC (updC (bindC Γ) 9 brokerlaw17_few_out γ9) 10 brokerlaw17_awake_out γ10) 14 slow_Pop_out γ14) 15 brokerref17_Pop_out γ15) 16 brokerref05_Same_out γ16) 13 brokerref17_Same_out γ13
def R4_10 (C : CFun) (Λ2 J : Lam) (a0 : (List (List D))) (a1 : (List (List D))) (a2 : (List (List D))) : Res := lab SE C Λ2 J 4 0 [1, 1, 1, 1, 1, 1, 1, 0] (stoOf [(0, .d (.sl api_Message.ks a0)), (7, .d (.sl api_Message.ks a1)), (13, .row 3013)] [] [] [] [(3013, ⟨api_Message.ks, 25, 112, a2⟩)])
def R4_7 (C : CFun) (Λ2 J : Lam) (a0 : (List (List D))) (a1 : Bool) (a2 : (List (List D))) (a3 : (List (List D))) (a4 : (List D)) : Res := lab SE C Λ2 J 4 0 [1, 1, 1, 1, 1, 0] (stoOf [(0, .d (.sl api_Message.ks a0)), (5, .ptr 1000000000 0), (6, .d (.bool a1)), (7, .d (.sl api_Message.ks a2)), (8, .d (.sl api_Message.ks a3))] [⟨25, (List.map AV.d a4)⟩] [] [] [])
theorem T4 (Γ : Fun) (γ9 : Gm (Bool)) (γ10 : Gm (Bool)) (γ14 : Gm (api_Message × Bool × (List api_Message) × (List api_Message))) (γ15 : Gm (api_Message × Bool × (List api_Message) × (List api_Message))) (γ16 : Gm (Bool)) (γ13 : Gm (Bool)) (Λ2 J : Lam) (p0 : (List api_Message)) (p1 : Int) : bodyC SE (C4 Γ γ9 γ10 γ14 γ15 γ16 γ13) Λ2 J 4 [.d (.sl api_Message.ks (List.map api_Message.enc p0)), .d (.int .i64 p1)] [] [] =
  γ9 [.d (.sl api_Message.ks (List.map api_Message.enc p0))] [] [] fun r0 =>
  cond (!r0) (
   γ10 [] [] [] fun r1 =>
   (some (.ret [.d (.bool r1)] [] []))) (
  γ14 [.d (.sl api_Message.ks (List.map api_Message.enc p0)), .d (.int .i64 p1)] [] [] fun r2 =>
  γ15 [.d (.sl api_Message.ks (List.map api_Message.enc p0)), .d (.int .i64 p1)] [] [] fun r3 =>
  γ16 [api_Message.av r2.1, api_Message.av r3.1] [] [] fun r4 =>
  cond (!r4) (
   (some (.ret [.d (.bool false)] [] []))) (
  cond (r2.2.1 != r3.2.1) (
   (some (.ret [.d (.bool false)] [] []))) (
  γ13 [.d (.sl api_Message.ks (List.map api_Message.enc r2.2.2.1)), .d (.sl api_Message.ks (List.map api_Message.enc r3.2.2.1))] [] [] fun r5 =>
  cond (!r5) (
   (some (.ret [.d (.bool false)] [] []))) (
  γ13 [.d (.sl api_Message.ks (List.map api_Message.enc r2.2.2.2)), .d (.sl api_Message.ks (List.map api_Message.enc r3.2.2.2))] [] [] fun r6 =>
  cond (!r6) (
   (some (.ret [.d (.bool false)] [] []))) (
  R4_7 (C4 Γ γ9 γ10 γ14 γ15 γ16 γ13) Λ2 J (List.map api_Message.enc p0) r2.2.1 (List.map api_Message.enc r2.2.2.1) (List.map api_Message.enc r2.2.2.2) (api_Message.enc r2.1)))))) := by kernel_rfl
theorem T4_10 (Γ : Fun) (γ9 : Gm (Bool)) (γ10 : Gm (Bool)) (γ14 : Gm (api_Message × Bool × (List api_Message) × (List api_Message))) (γ15 : Gm (api_Message × Bool × (List api_Message) × (List api_Message))) (γ16 : Gm (Bool)) (γ13 : Gm (Bool)) (Λ2 J : Lam) (x0 : (List api_Message)) (x7 : (List api_Message)) (w3013 : (List api_Message)) : labU SE (C4 Γ γ9 γ10 γ14 γ15 γ16 γ13) Λ2 J 4 0 [1, 1, 1, 1, 1, 1, 1, 0] (stoOf [(0, .d (.sl api_Message.ks (List.map api_Message.enc x0))), (7, .d (.sl api_Message.ks (List.map api_Message.enc x7))), (13, .row 3013)] [] [] [] [(3013, ⟨api_Message.ks, 25, 112, (List.map api_Message.enc w3013)⟩)]) =
  γ10 [] [] [] fun r7 =>
  cond r7 (
   cond (decide ((List.length (List.map api_Message.enc w3013) + List.length (List.map api_Message.enc x7)) * 112 ≤ 140737488355328)) (
    γ13 [.d (.sl api_Message.ks ((List.map api_Message.enc w3013) ++ (List.map api_Message.enc x7))), .d (.sl api_Message.ks (List.map api_Message.enc x0))] [] [] fun r8 =>
    (some (.ret [.d (.bool r8)] [] []))) none) (
  (some (.ret [.d (.bool false)] [] []))) := by kernel_rfl
theorem T4_7 (Γ : Fun) (γ9 : Gm (Bool)) (γ10 : Gm (Bool)) (γ14 : Gm (api_Message × Bool × (List api_Message) × (List api_Message))) (γ15 : Gm (api_Message × Bool × (List api_Message) × (List api_Message))) (γ16 : Gm (Bool)) (γ13 : Gm (Bool)) (Λ2 J : Lam) (x0 : (List api_Message)) (x6 : Bool) (x7 : (List api_Message)) (x8 : (List api_Message)) (b0 : api_Message) : labU SE (C4 Γ γ9 γ10 γ14 γ15 γ16 γ13) Λ2 J 4 0 [1, 1, 1, 1, 1, 0] (stoOf [(0, .d (.sl api_Message.ks (List.map api_Message.enc x0))), (5, .ptr 1000000000 0), (6, .d (.bool x6)), (7, .d (.sl api_Message.ks (List.map api_Message.enc x7))), (8, .d (.sl api_Message.ks (List.map api_Message.enc x8)))] [⟨25, (List.map AV.d (api_Message.enc b0))⟩] [] [] []) =
  cond (decide ((List.length (List.map api_Message.enc []) + List.length (List.map api_Message.enc x8)) * 112 ≤ 140737488355328)) (
   cond x6 (
    cond (decide ((List.length ((List.map api_Message.enc []) ++ (List.map api_Message.enc x8)) + List.length (List.map api_Message.enc [b0])) * 112 ≤ 140737488355328)) (
     R4_10 (C4 Γ γ9 γ10 γ14 γ15 γ16 γ13) Λ2 J (List.map api_Message.enc x0) (List.map api_Message.enc x7) ((((List.map api_Message.enc []) ++ (List.map api_Message.enc x8)) ++ (List.map api_Message.enc [b0])))) none) (
   R4_10 (C4 Γ γ9 γ10 γ14 γ15 γ16 γ13) Λ2 J (List.map api_Message.enc x0) (List.map api_Message.enc x7) (((List.map api_Message.enc []) ++ (List.map api_Message.enc x8))))) none := by kernel_rfl
abbrev X4 : CFun := C4 (callG SE good) (callT SE good 9 brokerlaw17_few_out) (callT SE good 10 brokerlaw17_awake_out) (callT SE good 14 slow_Pop_out) (callT SE good 15 brokerref17_Pop_out) (callT SE good 16 brokerref05_Same_out) (callT SE good 13 brokerref17_Same_out)
theorem Cr4 : C4 (callG SE good) (callT SE good 9 brokerlaw17_few_out) (callT SE good 10 brokerlaw17_awake_out) (callT SE good 14 slow_Pop_out) (callT SE good 15 brokerref17_Pop_out) (callT SE good 16 brokerref05_Same_out) (callT SE good 13 brokerref17_Same_out) = bindC (callG SE good) := by unfold C4; rw [updC_real (fun _ h => h), updC_real (fun _ h => h), updC_real (fun _ h => h), updC_real (fun _ h => h), updC_real (fun _ h => h), updC_real (fun _ h => h)]
noncomputable abbrev Q4_10 (a0 : (List (List D))) (a1 : (List (List D))) (a2 : (List (List D))) : Res := R4_10 X4 (lam2 SE (callG SE good) (SE.hl 4) (SE.hr 4)) (J0 SE X4) a0 a1 a2
noncomputable abbrev Q4_7 (a0 : (List (List D))) (a1 : Bool) (a2 : (List (List D))) (a3 : (List (List D))) (a4 : (List D)) : Res := R4_7 X4 (lam2 SE (callG SE good) (SE.hl 4) (SE.hr 4)) (J0 SE X4) a0 a1 a2 a3 a4
theorem brokerlaw17_SlowPops_j10_ok (x0 : (List api_Message)) (x7 : (List api_Message)) (w3013 : (List api_Message)) : Le (Option.map brokerlaw17_SlowPops_out (brokerlaw17_SlowPops_j10 x0 x7 w3013)) (Q4_10 (List.map api_Message.enc x0) (List.map api_Message.enc x7) (List.map api_Message.enc w3013)) := by
  refine Le.trans ?_ (le_of_eq ((lab_realC Cr4).trans (T4_10 _ _ _ _ _ _ _ _ _  x0 x7 w3013)).symm)
  unfold brokerlaw17_SlowPops_j10
  refine le_call (good := good) (fun y => ⟨y, rfl⟩) brokerlaw17_awake_inj (brokerlaw17_awake_ok) (fun r7 _ => ?_)
  refine le_cond rfl (fun _ => ?_) (fun _ => ?_)
  · skip
    refine le_cond (by simp only [EN]) (fun _ => ?_) (fun _ => le_none)
    refine le_call (good := good) (fun y => ⟨y, rfl⟩) brokerref17_Same_inj (by first | (simp only [EN]; exact brokerref17_Same_ok (w3013 ++ x7) x0) | exact brokerref17_Same_ok (w3013 ++ x7) x0) (fun r8 _ => ?_)
    exact le_ret (by first | rfl | (simp only [EN, brokerlaw17_SlowPops_out]; done) | (simp only [EN, brokerlaw17_SlowPops_out]; rfl))
  · skip
    exact le_ret (by first | rfl | (simp only [EN, brokerlaw17_SlowPops_out]; done) | (simp only [EN, brokerlaw17_SlowPops_out]; rfl))
theorem brokerlaw17_SlowPops_j7_ok (x0 : (List api_Message)) (x6 : Bool) (x7 : (List api_Message)) (x8 : (List api_Message)) (b0 : api_Message) : Le (Option.map brokerlaw17_SlowPops_out (brokerlaw17_SlowPops_j7 x0 x6 x7 x8 b0)) (Q4_7 (List.map api_Message.enc x0) x6 (List.map api_Message.enc x7) (List.map api_Message.enc x8) (api_Message.enc b0)) := by
  refine Le.trans ?_ (le_of_eq ((lab_realC Cr4).trans (T4_7 _ _ _ _ _ _ _ _ _  x0 x6 x7 x8 b0)).symm)
  unfold brokerlaw17_SlowPops_j7
  refine le_cond (by simp only [EN]) (fun _ => ?_) (fun _ => le_none)
  refine le_cond rfl (fun _ => ?_) (fun _ => ?_)
  · skip
    refine le_cond (by simp only [EN]) (fun _ => ?_) (fun _ => le_none)
    first | (simp only [EN]; exact brokerlaw17_SlowPops_j10_ok x0 x7 ((([] : List api_Message) ++ x8) ++ [b0])) | exact brokerlaw17_SlowPops_j10_ok x0 x7 ((([] : List api_Message) ++ x8) ++ [b0])
  · skip
    first | (simp only [EN]; exact brokerlaw17_SlowPops_j10_ok x0 x7 (([] : List api_Message) ++ x8)) | exact brokerlaw17_SlowPops_j10_ok x0 x7 (([] : List api_Message) ++ x8)
theorem brokerlaw17_SlowPops_ok (p0 : (List api_Message)) (p1 : Int) : Le (Option.map brokerlaw17_SlowPops_out (brokerlaw17_SlowPops p0 p1)) (callW SE 4 [.d (.sl api_Message.ks (List.map api_Message.enc p0)), .d (.int .i64 p1)] [] []) := by
  refine le_bodyC Cr4 ?_
  refine Le.trans ?_ (le_of_eq (T4 _ _ _ _ _ _ _ _ _  p0 p1).symm)
  unfold brokerlaw17_SlowPops
  refine le_call (good := good) (fun y => ⟨y, rfl⟩) brokerlaw17_few_inj (brokerlaw17_few_ok p0) (fun r0 _ => ?_)
  refine le_cond rfl (fun _ => ?_) (fun _ => ?_)
  · skip
    refine le_call (good := good) (fun y => ⟨y, rfl⟩) brokerlaw17_awake_inj (brokerlaw17_awake_ok) (fun r1 _ => ?_)
    exact le_ret (by first | rfl | (simp only [EN, brokerlaw17_SlowPops_out]; done) | (simp only [EN, brokerlaw17_SlowPops_out]; rfl))
  · skip
    refine le_call (good := good) (fun y => ⟨y, rfl⟩) slow_Pop_inj (slow_Pop_ok p0 p1) (fun r2 _ => ?_)
    refine le_call (good := good) (fun y => ⟨y, rfl⟩) brokerref17_Pop_inj (brokerref17_Pop_ok p0 p1) (fun r3 _ => ?_)
    refine le_call (good := good) (fun y => ⟨y, rfl⟩) brokerref05_Same_inj (brokerref05_Same_ok r2.1 r3.1) (fun r4 _ => ?_)
    refine le_cond rfl (fun _ => ?_) (fun _ => ?_)
    · skip
      exact le_ret (by first | rfl | (simp only [EN, brokerlaw17_SlowPops_out]; done) | (simp only [EN, brokerlaw17_SlowPops_out]; rfl))
    · skip
      refine le_cond rfl (fun _ => ?_) (fun _ => ?_)
      · skip
        exact le_ret (by first | rfl | (simp only [EN, brokerlaw17_SlowPops_out]; done) | (simp only [EN, brokerlaw17_SlowPops_out]; rfl))
      · skip
        refine le_call (good := good) (fun y => ⟨y, rfl⟩) brokerref17_Same_inj (brokerref17_Same_ok r2.2.2.1 r3.2.2.1) (fun r5 _ => ?_)
        refine le_cond rfl (fun _ => ?_) (fun _ => ?_)
        · skip
          exact le_ret (by first | rfl | (simp only [EN, brokerlaw17_SlowPops_out]; done) | (simp only [EN, brokerlaw17_SlowPops_out]; rfl))
        · skip
          refine le_call (good := good) (fun y => ⟨y, rfl⟩) brokerref17_Same_inj (brokerref17_Same_ok r2.2.2.2 r3.2.2.2) (fun r6 _ => ?_)
          refine le_cond rfl (fun _ => ?_) (fun _ => ?_)
          · skip
            exact le_ret (by first | rfl | (simp only [EN, brokerlaw17_SlowPops_out]; done) | (simp only [EN, brokerlaw17_SlowPops_out]; rfl))
          · skip
            exact brokerlaw17_SlowPops_j7_ok p0 r2.2.1 r2.2.2.1 r2.2.2.2 r2.1
def C18 (Γ : Fun)  : CFun := bindC Γ
def R18_3 (C : CFun) (Λ2 J : Lam) (a0 : (List (List D))) (a1 : Int) (a2 : Int) : Res := lab SE C Λ2 J 18 0 [1, 1, 0, 1, 0] (stoOf [(0, .d (.sl api_Message.ks a0)), (3, .d (.int .i64 a1)), (4, .d (.int .i64 a2))] [] [] [] [])
theorem T18 (Γ : Fun)  (Λ2 J : Lam) (p0 : (List api_Message)) : bodyC SE (C18 Γ) Λ2 J 18 [.d (.sl api_Message.ks (List.map api_Message.enc p0))] [] [] =
  R18_3 (C18 Γ) Λ2 J (List.map api_Message.enc p0) 0 0 := by kernel_rfl
theorem T18_3 (Γ : Fun)  (Λ2 J : Lam) (x0 : (List api_Message)) (x3 : Int) (x4 : Int) : labU SE (C18 Γ) Λ2 J 18 0 [1, 1, 0, 1, 0] (stoOf [(0, .d (.sl api_Message.ks (List.map api_Message.enc x0))), (3, .d (.int .i64 x3)), (4, .d (.int .i64 x4))] [] [] [] []) =
  cond (decide (x4 < (List.length (List.map api_Message.enc x0) : Int))) (
   cond (decide (0 ≤ x4) && decide (x4 < (List.length (List.map api_Message.enc x0) : Int))) (
    R18_3 (C18 Γ) Λ2 J (List.map api_Message.enc x0) ((IntKind.wrap .i64 (x3 + (List.length (dStr (cellAt (elemAt (List.map api_Message.enc x0) (Int.toNat x4)) 1)) : Int)))) (IntKind.wrap .i64 (x4 + 1))) none) (
  (some (.ret [.d (.int .i64 x3)] [] []))) := by kernel_rfl
abbrev X18 : CFun := C18 (callG SE good)
theorem Cr18 : C18 (callG SE good) = bindC (callG SE good) := by unfold C18; rfl
noncomputable abbrev Q18_3 (a0 : (List (List D))) (a1 : Int) (a2 : Int) : Res := R18_3 X18 (lam2 SE (callG SE good) (SE.hl 18) (SE.hr 18)) (J0 SE X18) a0 a1 a2
theorem brokerref17_Bytes_l3_ok : ∀ (fu : Nat) (x0 : (List api_Message)) (x3 : Int) (x4 : Int), Le (Option.map brokerref17_Bytes_out (brokerref17_Bytes_l3 fu x0 x3 x4)) (Q18_3 (List.map api_Message.enc x0) x3 x4) := by
  intro fu
  induction fu with
  | zero => intros; exact le_none
  | succ fu ih =>
    intro x0 x3 x4
    refine Le.trans ?_ (le_of_eq ((lab_realC Cr18).trans (T18_3 _ _ _  x0 x3 x4)).symm)
    unfold brokerref17_Bytes_l3
    refine le_cond (by simp only [EN]) (fun _ => ?_) (fun _ => ?_)
    · skip
      refine le_cond (by simp only [EN]) (fun _ => ?_) (fun _ => le_none)
      first | (simp only [EN]; exact ih x0 (IntKind.wrap .i64 (x3 + (List.length (List.getD x0 (Int.toNat x4) default).Payload : Int))) (IntKind.wrap .i64 (x4 + 1))) | exact ih x0 (IntKind.wrap .i64 (x3 + (List.length (List.getD x0 (Int.toNat x4) default).Payload : Int))) (IntKind.wrap .i64 (x4 + 1))
    · skip
      exact le_ret (by first | rfl | (simp only [EN, brokerref17_Bytes_out]; done) | (simp only [EN, brokerref17_Bytes_out]; rfl))
theorem brokerref17_Bytes_ok (p0 : (List api_Message)) : Le (Option.map brokerref17_Bytes_out (brokerref17_Bytes p0)) (callW SE 18 [.d (.sl api_Message.ks (List.map api_Message.enc p0))] [] []) := by
  refine le_bodyC Cr18 ?_
  refine Le.trans ?_ (le_of_eq (T18 _ _ _  p0).symm)
  unfold brokerref17_Bytes
  exact brokerref17_Bytes_l3_ok fuel p0 0 0
def C5 (Γ : Fun) (γ9 : Gm (Bool)) (γ10 : Gm (Bool)) (γ17 : Gm (Int)) (γ18 : Gm (Int)) : CFun := updC (updC (updC (updC (bindC Γ) 9 brokerlaw17_few_out γ9) 10 brokerlaw17_awake_out γ10) 17 slow_Bytes_out γ17) 18 brokerref17_Bytes_out γ18
def R5_3 (C : CFun) (Λ2 J : Lam) (a0 : (List (List D))) (a1 : (List (List D))) : Res := lab SE C Λ2 J 5 0 [1, 1, 0] (stoOf [(0, .d (.sl api_Message.ks a0)), (1, .d (.sl api_Message.ks a1))] [] [] [] [])
theorem T5 (Γ : Fun) (γ9 : Gm (Bool)) (γ10 : Gm (Bool)) (γ17 : Gm (Int)) (γ18 : Gm (Int)) (Λ2 J : Lam) (p0 : (List api_Message)) (p1 : (List api_Message)) : bodyC SE (C5 Γ γ9 γ10 γ17 γ18) Λ2 J 5 [.d (.sl api_Message.ks (List.map api_Message.enc p0)), .d (.sl api_Message.ks (List.map api_Message.enc p1))] [] [] =
  γ9 [.d (.sl api_Message.ks (List.map api_Message.enc p0))] [] [] fun r0 =>
  cond (!r0) (
   γ10 [] [] [] fun r1 =>
   (some (.ret [.d (.bool r1)] [] []))) (
  γ9 [.d (.sl api_Message.ks (List.map api_Message.enc p1))] [] [] fun r2 =>
  cond (!r2) (
   γ10 [] [] [] fun r3 =>
   (some (.ret [.d (.bool r3)] [] []))) (
  R5_3 (C5 Γ γ9 γ10 γ17 γ18) Λ2 J (List.map api_Message.enc p0) (List.map api_Message.enc p1))) := by kernel_rfl
theorem T5_3 (Γ : Fun) (γ9 : Gm (Bool)) (γ10 : Gm (Bool)) (γ17 : Gm (Int)) (γ18 : Gm (Int)) (Λ2 J : Lam) (x0 : (List api_Message)) (x1 : (List api_Message)) : labU SE (C5 Γ γ9 γ10 γ17 γ18) Λ2 J 5 0 [1, 1, 0] (stoOf [(0, .d (.sl api_Message.ks (List.map api_Message.enc x0))), (1, .d (.sl api_Message.ks (List.map api_Message.enc x1)))] [] [] [] []) =
  cond (decide ((List.length (List.map api_Message.enc []) + List.length (List.map api_Message.enc x0)) * 112 ≤ 140737488355328)) (
   cond (decide ((List.length ((List.map api_Message.enc []) ++ (List.map api_Message.enc x0)) + List.length (List.map api_Message.enc x1)) * 112 ≤ 140737488355328)) (
    γ10 [] [] [] fun r4 =>
    cond r4 (
     γ17 [.d (.sl api_Message.ks (List.map api_Message.enc x0))] [] [] fun r5 =>
     γ18 [.d (.sl api_Message.ks (List.map api_Message.enc x0))] [] [] fun r6 =>
     cond (r5 == r6) (
      γ17 [.d (.sl api_Message.ks (((List.map api_Message.enc []) ++ (List.map api_Message.enc x0)) ++ (List.map api_Message.enc x1)))] [] [] fun r7 =>
      γ17 [.d (.sl api_Message.ks (List.map api_Message.enc x0))] [] [] fun r8 =>
      γ17 [.d (.sl api_Message.ks (List.map api_Message.enc x1))] [] [] fun r9 =>
      (some (.ret [.d (.bool (r7 == (IntKind.wrap .i64 (r8 + r9))))] [] []))) (
     (some (.ret [.d (.bool false)] [] [])))) (
    (some (.ret [.d (.bool false)] [] [])))) none) none := by kernel_rfl
abbrev X5 : CFun := C5 (callG SE good) (callT SE good 9 brokerlaw17_few_out) (callT SE good 10 brokerlaw17_awake_out) (callT SE good 17 slow_Bytes_out) (callT SE good 18 brokerref17_Bytes_out)
theorem Cr5 : C5 (callG SE good) (callT SE good 9 brokerlaw17_few_out) (callT SE good 10 brokerlaw17_awake_out) (callT SE good 17 slow_Bytes_out) (callT SE good 18 brokerref17_Bytes_out) = bindC (callG SE good) := by unfold C5; rw [updC_real (fun _ h => h), updC_real (fun _ h => h), updC_real (fun _ h => h), updC_real (fun _ h => h)]
noncomputable abbrev Q5_3 (a0 : (List (List D))) (a1 : (List (List D))) : Res := R5_3 X5 (lam2 SE (callG SE good) (SE.hl 5) (SE.hr 5)) (J0 SE X5) a0 a1
theorem brokerlaw17_SlowBytes_j3_ok (x0 : (List api_Message)) (x1 : (List api_Message)) : Le (Option.map brokerlaw17_SlowBytes_out (brokerlaw17_SlowBytes_j3 x0 x1)) (Q5_3 (List.map api_Message.enc x0) (List.map api_Message.enc x1)) := by
  refine Le.trans ?_ (le_of_eq ((lab_realC Cr5).trans (T5_3 _ _ _ _ _ _ _  x0 x1)).symm)
  unfold brokerlaw17_SlowBytes_j3
  refine le_cond (by simp only [EN]) (fun _ => ?_) (fun _ => le_none)
  refine le_cond (by simp only [EN]) (fun _ => ?_) (fun _ => le_none)
  refine le_call (good := good) (fun y => ⟨y, rfl⟩) brokerlaw17_awake_inj (brokerlaw17_awake_ok) (fun r4 _ => ?_)
  refine le_cond rfl (fun _ => ?_) (fun _ => ?_)
  · skip
    refine le_call (good := good) (fun y => ⟨y, rfl⟩) slow_Bytes_inj (slow_Bytes_ok x0) (fun r5 _ => ?_)
    refine le_call (good := good) (fun y => ⟨y, rfl⟩) brokerref17_Bytes_inj (brokerref17_Bytes_ok x0) (fun r6 _ => ?_)
    refine le_cond rfl (fun _ => ?_) (fun _ => ?_)
    · skip
      refine le_call (good := good) (fun y => ⟨y, rfl⟩) slow_Bytes_inj (by first | (simp only [EN]; exact slow_Bytes_ok ((([] : List api_Message) ++ x0) ++ x1)) | exact slow_Bytes_ok ((([] : List api_Message) ++ x0) ++ x1)) (fun r7 _ => ?_)
      refine le_call (good := good) (fun y => ⟨y, rfl⟩) slow_Bytes_inj (slow_Bytes_ok x0) (fun r8 _ => ?_)
      refine le_call (good := good) (fun y => ⟨y, rfl⟩) slow_Bytes_inj (slow_Bytes_ok x1) (fun r9 _ => ?_)
      exact le_ret (by first | rfl | (simp only [EN, brokerlaw17_SlowBytes_out]; done) | (simp only [EN, brokerlaw17_SlowBytes_out]; rfl))
    · skip
      exact le_ret (by first | rfl | (simp only [EN, brokerlaw17_SlowBytes_out]; done) | (simp only [EN, brokerlaw17_SlowBytes_out]; rfl))
  · skip
    exact le_ret (by first | rfl | (simp only [EN, brokerlaw17_SlowBytes_out]; done) | (simp only [EN, brokerlaw17_SlowBytes_out]; rfl))
theorem brokerlaw17_SlowBytes_ok (p0 : (List api_Message)) (p1 : (List api_Message)) : Le (Option.map brokerlaw17_SlowBytes_out (brokerlaw17_SlowBytes p0 p1)) (callW SE 5 [.d (.sl api_Message.ks (List.map api_Message.enc p0)), .d (.sl api_Message.ks (List.map api_Message.enc p1))] [] []) := by
  refine le_bodyC Cr5 ?_
  refine Le.trans ?_ (le_of_eq (T5 _ _ _ _ _ _ _  p0 p1).symm)
  unfold brokerlaw17_SlowBytes
  refine le_call (good := good) (fun y => ⟨y, rfl⟩) brokerlaw17_few_inj (brokerlaw17_few_ok p0) (fun r0 _ => ?_)
  refine le_cond rfl (fun _ => ?_) (fun _ => ?_)
  · skip
    refine le_call (good := good) (fun y => ⟨y, rfl⟩) brokerlaw17_awake_inj (brokerlaw17_awake_ok) (fun r1 _ => ?_)
    exact le_ret (by first | rfl | (simp only [EN, brokerlaw17_SlowBytes_out]; done) | (simp only [EN, brokerlaw17_SlowBytes_out]; rfl))
  · skip
    refine le_call (good := good) (fun y => ⟨y, rfl⟩) brokerlaw17_few_inj (brokerlaw17_few_ok p1) (fun r2 _ => ?_)
    refine le_cond rfl (fun _ => ?_) (fun _ => ?_)
    · skip
      refine le_call (good := good) (fun y => ⟨y, rfl⟩) brokerlaw17_awake_inj (brokerlaw17_awake_ok) (fun r3 _ => ?_)
      exact le_ret (by first | rfl | (simp only [EN, brokerlaw17_SlowBytes_out]; done) | (simp only [EN, brokerlaw17_SlowBytes_out]; rfl))
    · skip
      exact brokerlaw17_SlowBytes_j3_ok p0 p1
def C19 (Γ : Fun)  : CFun := bindC Γ
def R19_3 (C : CFun) (Λ2 J : Lam) (a0 : Int) (a1 : Int) (a2 : (List (List D))) : Res := lab SE C Λ2 J 19 0 [1, 1, 0, 1, 0] (stoOf [(0, .d (.int .i64 a0)), (3, .row 3003), (4, .d (.int .i64 a1))] [] [] [] [(3003, ⟨api_Message.ks, 25, 112, a2⟩)])
theorem T19 (Γ : Fun)  (Λ2 J : Lam) (p0 : Int) : bodyC SE (C19 Γ) Λ2 J 19 [.d (.int .i64 p0)] [] [] =
  R19_3 (C19 Γ) Λ2 J p0 1 (List.map api_Message.enc []) := by kernel_rfl
theorem T19_3 (Γ : Fun)  (Λ2 J : Lam) (x0 : Int) (x4 : Int) (w3003 : (List api_Message)) : labU SE (C19 Γ) Λ2 J 19 0 [1, 1, 0, 1, 0] (stoOf [(0, .d (.int .i64 x0)), (3, .row 3003), (4, .d (.int .i64 x4))] [] [] [] [(3003, ⟨api_Message.ks, 25, 112, (List.map api_Message.enc w3003)⟩)]) =
  cond (decide (x4 ≤ x0)) (
   cond (decide ((List.length (List.map api_Message.enc w3003) + List.length [[D.str ([116] : Str), D.str ([] : Str), D.int .i64 0, D.bool false, D.int .i64 0, D.int .i64 0, D.str ([] : Str), D.int .i64 x4, D.sl api_Prop.ks (List.map api_Prop.enc [])]]) * 112 ≤ 140737488355328)) (
    R19_3 (C19 Γ) Λ2 J x0 (IntKind.wrap .i64 (x4 + 1)) (((List.map api_Message.enc w3003) ++ [[D.str ([116] : Str), D.str ([] : Str), D.int .i64 0, D.bool false, D.int .i64 0, D.int .i64 0, D.str ([] : Str), D.int .i64 x4, D.sl api_Prop.ks (List.map api_Prop.enc [])]]))) none) (
  (some (.ret [.row 0] [] [⟨api_Message.ks, 25, 112, (List.map api_Message.enc w3003)⟩]))) := by kernel_rfl
abbrev X19 : CFun := C19 (callG SE good)
theorem Cr19 : C19 (callG SE good) = bindC (callG SE good) := by unfold C19; rfl
noncomputable abbrev Q19_3 (a0 : Int) (a1 : Int) (a2 : (List (List D))) : Res := R19_3 X19 (lam2 SE (callG SE good) (SE.hl 19) (SE.hr 19)) (J0 SE X19) a0 a1 a2
theorem brokerlaw17_numbered_l3_ok : ∀ (fu : Nat) (x0 : Int) (x4 : Int) (w3003 : (List api_Message)), Le (Option.map brokerlaw17_numbered_out (brokerlaw17_numbered_l3 fu x0 x4 w3003)) (Q19_3 x0 x4 (List.map api_Message.enc w3003)) := by
  intro fu
  induction fu with
  | zero => intros; exact le_none
  | succ fu ih =>
    intro x0 x4 w3003
    refine Le.trans ?_ (le_of_eq ((lab_realC Cr19).trans (T19_3 _ _ _  x0 x4 w3003)).symm)
    unfold brokerlaw17_numbered_l3
    refine le_cond rfl (fun _ => ?_) (fun _ => ?_)
    · skip
      refine le_cond (by simp only [EN]) (fun _ => ?_) (fun _ => le_none)
      first | (simp only [EN]; exact ih x0 (IntKind.wrap .i64 (x4 + 1)) ((w3003 ++ [(api_Message.mk ([116] : Str) ([] : Str) 0 false 0 0 ([] : Str) x4 ([] : List api_Prop))]))) | exact ih x0 (IntKind.wrap .i64 (x4 + 1)) ((w3003 ++ [(api_Message.mk ([116] : Str) ([] : Str) 0 false 0 0 ([] : Str) x4 ([] : List api_Prop))]))
    · skip
      exact le_ret (by first | rfl | (simp only [EN, brokerlaw17_numbered_out]; done) | (simp only [EN, brokerlaw17_numbered_out]; rfl))
theorem brokerlaw17_numbered_ok (p0 : Int) : Le (Option.map brokerlaw17_numbered_out (brokerlaw17_numbered p0)) (callW SE 19 [.d (.int .i64 p0)] [] []) := by
  refine le_bodyC Cr19 ?_
  refine Le.trans ?_ (le_of_eq (T19 _ _ _  p0).symm)
  unfold brokerlaw17_numbered
  first | (simp only [EN]; exact brokerlaw17_numbered_l3_ok fuel p0 1 ([] : List api_Message)) | exact brokerlaw17_numbered_l3_ok fuel p0 1 ([] : List api_Message)
def C6 (Γ : Fun) (γ19 : Gm ((List api_Message))) (γ11 : Gm ((List api_Message) × (List api_Message) × Bool)) (γ10 : Gm (Bool)) (γ13 : Gm (Bool)) : CFun := updC (updC (updC (updC (bindC Γ) 19 brokerlaw17_numbered_out γ19) 11 slow_Push_out γ11) 10 brokerlaw17_awake_out γ10) 13 brokerref17_Same_out γ13
def R6_9 (C : CFun) (Λ2 J : Lam) (a0 : Int) (a1 : (List (List D))) (a2 : Int) (a3 : Int) (a4 : (List (List D))) (a5 : (List (List D))) (a6 : (List (List D))) : Res := lab SE C Λ2 J 6 0 [1, 1, 1, 0, 1, 0, 0, 1, 0, 0, 1, 1, 0] (stoOf [(1, .d (.int .i64 a0)), (2, .d (.sl [.int .i64] a1)), (7, .row 3007), (8, .row 3008), (9, .row 3009), (10, .d (.int .i64 a2)), (11, .d (.int .i64 a3))] [] [] [] [(3007, ⟨api_Message.ks, 25, 112, a4⟩), (3008, ⟨api_Message.ks, 25, 112, a5⟩), (3009, ⟨api_Message.ks, 25, 112, a6⟩)])
def R6_34 (C : CFun) (Λ2 J : Lam) (a0 : (List (List D))) (a1 : Int) (a2 : (List (List D))) (a3 : (List (List D))) : Res := lab SE C Λ2 J 6 0 [1, 1, 1, 1, 1, 1, 1, 1, 1, 1, 1, 0, 0] (stoOf [(2, .d (.sl [.int .i64] a0)), (7, .row 3007), (8, .row 3008), (18, .d (.int .i64 a1))] [] [] [] [(3007, ⟨api_Message.ks, 25, 112, a2⟩), (3008, ⟨api_Message.ks, 25, 112, a3⟩)])
def R6_31 (C : CFun) (Λ2 J : Lam) (a0 : Int) (a1 : (List (List D))) (a2 : (List (List D))) (a3 : (List (List D))) : Res := lab SE C Λ2 J 6 0 [1, 1, 1, 1, 1, 1, 1, 1, 1, 0] (stoOf [(1, .d (.int .i64 a0)), (2, .d (.sl [.int .i64] a1)), (7, .row 3007), (8, .row 3008)] [] [] [] [(3007, ⟨api_Message.ks, 25, 112, a2⟩), (3008, ⟨api_Message.ks, 25, 112, a3⟩)])
def R6_24 (C : CFun) (Λ2 J : Lam) (a0 : Int) (a1 : (List (List D))) (a2 : Int) (a3 : (List (List D))) (a4 : (List (List D))) (a5 : (List (List D))) (a6 : (List (List D))) : Res := lab SE C Λ2 J 6 0 [1, 1, 1, 1, 1, 1, 1, 0, 1, 0] (stoOf [(1, .d (.int .i64 a0)), (2, .d (.sl [.int .i64] a1)), (7, .row 3007), (8, .row 3008), (9, .row 3009), (15, .row 3015), (17, .d (.int .i64 a2))] [] [] [] [(3007, ⟨api_Message.ks, 25, 112, a3⟩), (3008, ⟨api_Message.ks, 25, 112, a4⟩), (3009, ⟨api_Message.ks, 25, 112, a5⟩), (3015, ⟨[.bool], 4, 1, a6⟩)])
def R6_18 (C : CFun) (Λ2 J : Lam) (a0 : Int) (a1 : (List (List D))) (a2 : Int) (a3 : (List (List D))) (a4 : (List (List D))) (a5 : (List (List D))) (a6 : (List (List D))) : Res := lab SE C Λ2 J 6 0 [1, 1, 1, 1, 1, 1, 0, 1, 0] (stoOf [(1, .d (.int .i64 a0)), (2, .d (.sl [.int .i64] a1)), (7, .row 3007), (8, .row 3008), (9, .row 3009), (15, .row 3015), (16, .d (.int .i64 a2))] [] [] [] [(3007, ⟨api_Message.ks, 25, 112, a3⟩), (3008, ⟨api_Message.ks, 25, 112, a4⟩), (3009, ⟨api_Message.ks, 25, 112, a5⟩), (3015, ⟨[.bool], 4, 1, a6⟩)])
def R6_16 (C : CFun) (Λ2 J : Lam) (a0 : Int) (a1 : (List (List D))) (a2 : (List (List D))) (a3 : (List (List D))) (a4 : (List (List D))) : Res := lab SE C Λ2 J 6 0 [1, 1, 1, 1, 1, 0] (stoOf [(1, .d (.int .i64 a0)), (2, .d (.sl [.int .i64] a1)), (7, .row 3007), (8, .row 3008), (9, .row 3009)] [] [] [] [(3007, ⟨api_Message.ks, 25, 112, a2⟩), (3008, ⟨api_Message.ks, 25, 112, a3⟩), (3009, ⟨api_Message.ks, 25, 112, a4⟩)])
def R6_4 (C : CFun) (Λ2 J : Lam) (a0 : Int) (a1 : (List (List D))) (a2 : Int) (a3 : (List (List D))) (a4 : (List (List D))) (a5 : (List (List D))) : Res := lab SE C Λ2 J 6 0 [1, 1, 1, 0, 1, 0] (stoOf [(1, .d (.int .i64 a0)), (2, .d (.sl [.int .i64] a1)), (7, .row 3007), (8, .row 3008), (9, .row 3009), (10, .d (.int .i64 a2))] [] [] [] [(3007, ⟨api_Message.ks, 25, 112, a3⟩), (3008, ⟨api_Message.ks, 25, 112, a4⟩), (3009, ⟨api_Message.ks, 25, 112, a5⟩)])
theorem T6 (Γ : Fun) (γ19 : Gm ((List api_Message))) (γ11 : Gm ((List api_Message) × (List api_Message) × Bool)) (γ10 : Gm (Bool)) (γ13 : Gm (Bool)) (Λ2 J : Lam) (p0 : Int) (p1 : Int) (p2 : (List Int)) : bodyC SE (C6 Γ γ19 γ11 γ10 γ13) Λ2 J 6 [.d (.int .u8 p0), .d (.int .i64 p1), .d (.sl [.int .i64] (List.map (encI .i64) p2))] [] [] =
  γ19 [.d (.int .i64 (Int.tmod (IntKind.wrap .i64 p0) 101))] [] [] fun r0 =>
  R6_4 (C6 Γ γ19 γ11 γ10 γ13) Λ2 J p1 (List.map (encI .i64) p2) 0 (List.map api_Message.enc r0) (List.map api_Message.enc []) (List.map api_Message.enc []) := by kernel_rfl
theorem T6_9 (Γ : Fun) (γ19 : Gm ((List api_Message))) (γ11 : Gm ((List api_Message) × (List api_Message) × Bool)) (γ10 : Gm (Bool)) (γ13 : Gm (Bool)) (Λ2 J : Lam) (x1 : Int) (x2 : (List Int)) (x10 : Int) (x11 : Int) (w3007 : (List api_Message)) (w3008 : (List api_Message)) (w3009 : (List api_Message)) : labU SE (C6 Γ γ19 γ11 γ10 γ13) Λ2 J 6 0 [1, 1, 1, 0, 1, 0, 0, 1, 0, 0, 1, 1, 0] (stoOf [(1, .d (.int .i64 x1)), (2, .d (.sl [.int .i64] (List.map (encI .i64) x2))), (7, .row 3007), (8, .row 3008), (9, .row 3009), (10, .d (.int .i64 x10)), (11, .d (.int .i64 x11))] [] [] [] [(3007, ⟨api_Message.ks, 25, 112, (List.map api_Message.enc w3007)⟩), (3008, ⟨api_Message.ks, 25, 112, (List.map api_Message.enc w3008)⟩), (3009, ⟨api_Message.ks, 25, 112, (List.map api_Message.enc w3009)⟩)]) =
  cond (decide (0 ≤ x10) && decide (x10 < (List.length (List.map api_Message.enc w3007) : Int))) (
   γ11 [.d (.sl api_Message.ks (List.map api_Message.enc w3008)), .agg [.d (.str (dStr (cellAt (elemAt (List.map api_Message.enc w3007) (Int.toNat x10)) 0))), .d (.str (dStr (cellAt (elemAt (List.map api_Message.enc w3007) (Int.toNat x10)) 1))), .d (.int .i64 (dInt (cellAt (elemAt (List.map api_Message.enc w3007) (Int.toNat x10)) 2))), .d (.bool (dBool (cellAt (elemAt (List.map api_Message.enc w3007) (Int.toNat x10)) 3))), .d (.int .i64 (dInt (cellAt (elemAt (List.map api_Message.enc w3007) (Int.toNat x10)) 4))), .d (.int .i64 (dInt (cellAt (elemAt (List.map api_Message.enc w3007) (Int.toNat x10)) 5))), .d (.str (dStr (cellAt (elemAt (List.map api_Message.enc w3007) (Int.toNat x10)) 6))), .d (.int .i64 (dInt (cellAt (elemAt (List.map api_Message.enc w3007) (Int.toNat x10)) 7))), .d (.sl api_Prop.ks (dSl (cellAt (elemAt (List.map api_Message.enc w3007) (Int.toNat x10)) 8)))], .d (.int .i64 x1), .d (.int .i64 x11)] [] [] fun r1 =>
   cond (decide ((List.length (List.map api_Message.enc r1.2.1) : Int) > 1)) (
    (some (.ret [.d (.bool false)] [] []))) (
   cond (decide ((List.length (List.map api_Message.enc w3009) + List.length (List.map api_Message.enc r1.2.1)) * 112 ≤ 140737488355328)) (
    R6_4 (C6 Γ γ19 γ11 γ10 γ13) Λ2 J x1 (List.map (encI .i64) x2) (IntKind.wrap .i64 (x10 + 1)) (List.map api_Message.enc w3007) (List.map api_Message.enc r1.1) (((List.map api_Message.enc w3009) ++ (List.map api_Message.enc r1.2.1)))) none)) none := by kernel_rfl
theorem T6_34 (Γ : Fun) (γ19 : Gm ((List api_Message))) (γ11 : Gm ((List api_Message) × (List api_Message) × Bool)) (γ10 : Gm (Bool)) (γ13 : Gm (Bool)) (Λ2 J : Lam) (x2 : (List Int)) (x18 : Int) (w3007 : (List api_Message)) (w3008 : (List api_Message)) : labU SE (C6 Γ γ19 γ11 γ10 γ13) Λ2 J 6 0 [1, 1, 1, 1, 1, 1, 1, 1, 1, 1, 1, 0, 0] (stoOf [(2, .d (.sl [.int .i64] (List.map (encI .i64) x2))), (7, .row 3007), (8, .row 3008), (18, .d (.int .i64 x18))] [] [] [] [(3007, ⟨api_Message.ks, 25, 112, (List.map api_Message.enc w3007)⟩), (3008, ⟨api_Message.ks, 25, 112, (List.map api_Message.enc w3008)⟩)]) =
  cond (decide (0 ≤ 0) && decide (0 < (List.length (List.map (encI .i64) x2) : Int))) (
   cond ((dInt (cellAt (elemAt (List.map (encI .i64) x2) (Int.toNat 0)) 0)) == 1) (
    γ10 [] [] [] fun r4 =>
    cond r4 (
     cond (decide (0 ≤ (IntKind.wrap .i64 ((List.length (List.map api_Message.enc w3007) : Int) - x18))) && decide ((IntKind.wrap .i64 ((List.length (List.map api_Message.enc w3007) : Int) - x18)) ≤ ((List.length (List.map api_Message.enc w3007)) : Int))) (
      γ13 [.d (.sl api_Message.ks (List.map api_Message.enc w3008)), .d (.sl api_Message.ks (List.take ((List.length (List.map api_Message.enc w3007)) - (Int.toNat (IntKind.wrap .i64 ((List.length (List.map api_Message.enc w3007) : Int) - x18)))) (List.drop (Int.toNat (IntKind.wrap .i64 ((List.length (List.map api_Message.enc w3007) : Int) - x18))) (List.map api_Message.enc w3007))))] [] [] fun r5 =>
      (some (.ret [.d (.bool r5)] [] []))) none) (
    (some (.ret [.d (.bool false)] [] [])))) (
   γ10 [] [] [] fun r6 =>
   cond r6 (
    cond (decide (0 ≤ x18) && decide (x18 ≤ ((List.length (List.map api_Message.enc w3007)) : Int))) (
     γ13 [.d (.sl api_Message.ks (List.map api_Message.enc w3008)), .d (.sl api_Message.ks (List.take ((Int.toNat x18) - 0) (List.drop 0 (List.map api_Message.enc w3007))))] [] [] fun r7 =>
     (some (.ret [.d (.bool r7)] [] []))) none) (
   (some (.ret [.d (.bool false)] [] []))))) none := by kernel_rfl
theorem T6_31 (Γ : Fun) (γ19 : Gm ((List api_Message))) (γ11 : Gm ((List api_Message) × (List api_Message) × Bool)) (γ10 : Gm (Bool)) (γ13 : Gm (Bool)) (Λ2 J : Lam) (x1 : Int) (x2 : (List Int)) (w3007 : (List api_Message)) (w3008 : (List api_Message)) : labU SE (C6 Γ γ19 γ11 γ10 γ13) Λ2 J 6 0 [1, 1, 1, 1, 1, 1, 1, 1, 1, 0] (stoOf [(1, .d (.int .i64 x1)), (2, .d (.sl [.int .i64] (List.map (encI .i64) x2))), (7, .row 3007), (8, .row 3008)] [] [] [] [(3007, ⟨api_Message.ks, 25, 112, (List.map api_Message.enc w3007)⟩), (3008, ⟨api_Message.ks, 25, 112, (List.map api_Message.enc w3008)⟩)]) =
  cond (decide (x1 > (List.length (List.map api_Message.enc w3007) : Int))) (
   R6_34 (C6 Γ γ19 γ11 γ10 γ13) Λ2 J (List.map (encI .i64) x2) (List.length (List.map api_Message.enc w3007) : Int) (List.map api_Message.enc w3007) (List.map api_Message.enc w3008)) (
  R6_34 (C6 Γ γ19 γ11 γ10 γ13) Λ2 J (List.map (encI .i64) x2) x1 (List.map api_Message.enc w3007) (List.map api_Message.enc w3008)) := by kernel_rfl
theorem T6_24 (Γ : Fun) (γ19 : Gm ((List api_Message))) (γ11 : Gm ((List api_Message) × (List api_Message) × Bool)) (γ10 : Gm (Bool)) (γ13 : Gm (Bool)) (Λ2 J : Lam) (x1 : Int) (x2 : (List Int)) (x17 : Int) (w3007 : (List api_Message)) (w3008 : (List api_Message)) (w3009 : (List api_Message)) (w3015 : (List Bool)) : labU SE (C6 Γ γ19 γ11 γ10 γ13) Λ2 J 6 0 [1, 1, 1, 1, 1, 1, 1, 0, 1, 0] (stoOf [(1, .d (.int .i64 x1)), (2, .d (.sl [.int .i64] (List.map (encI .i64) x2))), (7, .row 3007), (8, .row 3008), (9, .row 3009), (15, .row 3015), (17, .d (.int .i64 x17))] [] [] [] [(3007, ⟨api_Message.ks, 25, 112, (List.map api_Message.enc w3007)⟩), (3008, ⟨api_Message.ks, 25, 112, (List.map api_Message.enc w3008)⟩), (3009, ⟨api_Message.ks, 25, 112, (List.map api_Message.enc w3009)⟩), (3015, ⟨[.bool], 4, 1, (List.map encB w3015)⟩)]) =
  cond (decide (x17 < (List.length (List.map api_Message.enc w3009) : Int))) (
   cond (decide (0 ≤ x17) && decide (x17 < (List.length (List.map api_Message.enc w3009) : Int))) (
    cond (decide ((dInt (cellAt (elemAt (List.map api_Message.enc w3009) (Int.toNat x17)) 7)) < 1)) (
     (some (.ret [.d (.bool false)] [] []))) (
    cond (decide (0 ≤ x17) && decide (x17 < (List.length (List.map api_Message.enc w3009) : Int))) (
     cond (decide ((dInt (cellAt (elemAt (List.map api_Message.enc w3009) (Int.toNat x17)) 7)) > (List.length (List.map api_Message.enc w3007) : Int))) (
      (some (.ret [.d (.bool false)] [] []))) (
     cond (decide (0 ≤ x17) && decide (x17 < (List.length (List.map api_Message.enc w3009) : Int))) (
      cond (decide (0 ≤ (dInt (cellAt (elemAt (List.map api_Message.enc w3009) (Int.toNat x17)) 7))) && decide ((dInt (cellAt (elemAt (List.map api_Message.enc w3009) (Int.toNat x17)) 7)) < (List.length (List.map encB w3015) : Int))) (
       cond (dBool (cellAt (elemAt (List.map encB w3015) (Int.toNat (dInt (cellAt (elemAt (List.map api_Message.enc w3009) (Int.toNat x17)) 7)))) 0)) (
        (some (.ret [.d (.bool false)] [] []))) (
       cond (decide (0 ≤ x17) && decide (x17 < (List.length (List.map api_Message.enc w3009) : Int))) (
        cond (decide (0 ≤ (dInt (cellAt (elemAt (List.map api_Message.enc w3009) (Int.toNat x17)) 7))) && decide ((dInt (cellAt (elemAt (List.map api_Message.enc w3009) (Int.toNat x17)) 7)) < (List.length (List.map encB w3015) : Int))) (
         R6_24 (C6 Γ γ19 γ11 γ10 γ13) Λ2 J x1 (List.map (encI .i64) x2) (IntKind.wrap .i64 (x17 + 1)) (List.map api_Message.enc w3007) (List.map api_Message.enc w3008) (List.map api_Message.enc w3009) ((setE (List.map encB w3015) (Int.toNat (dInt (cellAt (elemAt (List.map api_Message.enc w3009) (Int.toNat x17)) 7))) 0 [D.bool true]))) none) none)) none) none)) none)) none) (
  cond ((List.length (List.map (encI .i64) x2) : Int) != 1) (
   γ10 [] [] [] fun r2 =>
   (some (.ret [.d (.bool r2)] [] []))) (
  cond (decide (x1 < 1)) (
   γ10 [] [] [] fun r3 =>
   (some (.ret [.d (.bool r3)] [] []))) (
  R6_31 (C6 Γ γ19 γ11 γ10 γ13) Λ2 J x1 (List.map (encI .i64) x2) (List.map api_Message.enc w3007) (List.map api_Message.enc w3008)))) := by kernel_rfl
theorem T6_18 (Γ : Fun) (γ19 : Gm ((List api_Message))) (γ11 : Gm ((List api_Message) × (List api_Message) × Bool)) (γ10 : Gm (Bool)) (γ13 : Gm (Bool)) (Λ2 J : Lam) (x1 : Int) (x2 : (List Int)) (x16 : Int) (w3007 : (List api_Message)) (w3008 : (List api_Message)) (w3009 : (List api_Message)) (w3015 : (List Bool)) : labU SE (C6 Γ γ19 γ11 γ10 γ13) Λ2 J 6 0 [1, 1, 1, 1, 1, 1, 0, 1, 0] (stoOf [(1, .d (.int .i64 x1)), (2, .d (.sl [.int .i64] (List.map (encI .i64) x2))), (7, .row 3007), (8, .row 3008), (9, .row 3009), (15, .row 3015), (16, .d (.int .i64 x16))] [] [] [] [(3007, ⟨api_Message.ks, 25, 112, (List.map api_Message.enc w3007)⟩), (3008, ⟨api_Message.ks, 25, 112, (List.map api_Message.enc w3008)⟩), (3009, ⟨api_Message.ks, 25, 112, (List.map api_Message.enc w3009)⟩), (3015, ⟨[.bool], 4, 1, (List.map encB w3015)⟩)]) =
  cond (decide (x16 < (List.length (List.map api_Message.enc w3008) : Int))) (
   cond (decide (x16 > 0)) (
    cond (decide (0 ≤ x16) && decide (x16 < (List.length (List.map api_Message.enc w3008) : Int))) (
     cond (decide (0 ≤ (IntKind.wrap .i64 (x16 - 1))) && decide ((IntKind.wrap .i64 (x16 - 1)) < (List.length (List.map api_Message.enc w3008) : Int))) (
      cond (decide ((dInt (cellAt (elemAt (List.map api_Message.enc w3008) (Int.toNat x16)) 7)) ≤ (dInt (cellAt (elemAt (List.map api_Message.enc w3008) (Int.toNat (IntKind.wrap .i64 (x16 - 1)))) 7)))) (
       (some (.ret [.d (.bool false)] [] []))) (
      cond (decide (0 ≤ x16) && decide (x16 < (List.length (List.map api_Message.enc w3008) : Int))) (
       cond (decide ((dInt (cellAt (elemAt (List.map api_Message.enc w3008) (Int.toNat x16)) 7)) < 1)) (
        (some (.ret [.d (.bool false)] [] []))) (
       cond (decide (0 ≤ x16) && decide (x16 < (List.length (List.map api_Message.enc w3008) : Int))) (
        cond (decide ((dInt (cellAt (elemAt (List.map api_Message.enc w3008) (Int.toNat x16)) 7)) > (List.length (List.map api_Message.enc w3007) : Int))) (
         (some (.ret [.d (.bool false)] [] []))) (
        cond (decide (0 ≤ x16) && decide (x16 < (List.length (List.map api_Message.enc w3008) : Int))) (
         cond (decide (0 ≤ (dInt (cellAt (elemAt (List.map api_Message.enc w3008) (Int.toNat x16)) 7))) && decide ((dInt (cellAt (elemAt (List.map api_Message.enc w3008) (Int.toNat x16)) 7)) < (List.length (List.map encB w3015) : Int))) (
          R6_18 (C6 Γ γ19 γ11 γ10 γ13) Λ2 J x1 (List.map (encI .i64) x2) (IntKind.wrap .i64 (x16 + 1)) (List.map api_Message.enc w3007) (List.map api_Message.enc w3008) (List.map api_Message.enc w3009) ((setE (List.map encB w3015) (Int.toNat (dInt (cellAt (elemAt (List.map api_Message.enc w3008) (Int.toNat x16)) 7))) 0 [D.bool true]))) none) none)) none)) none)) none) none) (
   cond (decide (0 ≤ x16) && decide (x16 < (List.length (List.map api_Message.enc w3008) : Int))) (
    cond (decide ((dInt (cellAt (elemAt (List.map api_Message.enc w3008) (Int.toNat x16)) 7)) < 1)) (
     (some (.ret [.d (.bool false)] [] []))) (
    cond (decide (0 ≤ x16) && decide (x16 < (List.length (List.map api_Message.enc w3008) : Int))) (
     cond (decide ((dInt (cellAt (elemAt (List.map api_Message.enc w3008) (Int.toNat x16)) 7)) > (List.length (List.map api_Message.enc w3007) : Int))) (
      (some (.ret [.d (.bool false)] [] []))) (
     cond (decide (0 ≤ x16) && decide (x16 < (List.length (List.map api_Message.enc w3008) : Int))) (
      cond (decide (0 ≤ (dInt (cellAt (elemAt (List.map api_Message.enc w3008) (Int.toNat x16)) 7))) && decide ((dInt (cellAt (elemAt (List.map api_Message.enc w3008) (Int.toNat x16)) 7)) < (List.length (List.map encB w3015) : Int))) (
       R6_18 (C6 Γ γ19 γ11 γ10 γ13) Λ2 J x1 (List.map (encI .i64) x2) (IntKind.wrap .i64 (x16 + 1)) (List.map api_Message.enc w3007) (List.map api_Message.enc w3008) (List.map api_Message.enc w3009) ((setE (List.map encB w3015) (Int.toNat (dInt (cellAt (elemAt (List.map api_Message.enc w3008) (Int.toNat x16)) 7))) 0 [D.bool true]))) none) none)) none)) none)) (
  R6_24 (C6 Γ γ19 γ11 γ10 γ13) Λ2 J x1 (List.map (encI .i64) x2) 0 (List.map api_Message.enc w3007) (List.map api_Message.enc w3008) (List.map api_Message.enc w3009) (List.map encB w3015)) := by kernel_rfl
theorem T6_16 (Γ : Fun) (γ19 : Gm ((List api_Message))) (γ11 : Gm ((List api_Message) × (List api_Message) × Bool)) (γ10 : Gm (Bool)) (γ13 : Gm (Bool)) (Λ2 J : Lam) (x1 : Int) (x2 : (List Int)) (w3007 : (List api_Message)) (w3008 : (List api_Message)) (w3009 : (List api_Message)) : labU SE (C6 Γ γ19 γ11 γ10 γ13) Λ2 J 6 0 [1, 1, 1, 1, 1, 0] (stoOf [(1, .d (.int .i64 x1)), (2, .d (.sl [.int .i64] (List.map (encI .i64) x2))), (7, .row 3007), (8, .row 3008), (9, .row 3009)] [] [] [] [(3007, ⟨api_Message.ks, 25, 112, (List.map api_Message.enc w3007)⟩), (3008, ⟨api_Message.ks, 25, 112, (List.map api_Message.enc w3008)⟩), (3009, ⟨api_Message.ks, 25, 112, (List.map api_Message.enc w3009)⟩)]) =
  cond (decide (0 ≤ (IntKind.wrap .i64 ((List.length (List.map api_Message.enc w3007) : Int) + 1))) && decide ((IntKind.wrap .i64 ((List.length (List.map api_Message.enc w3007) : Int) + 1)) ≤ (IntKind.wrap .i64 ((List.length (List.map api_Message.enc w3007) : Int) + 1))) && decide ((IntKind.wrap .i64 ((List.length (List.map api_Message.enc w3007) : Int) + 1)) * 1 ≤ 281474976710656)) (
   R6_18 (C6 Γ γ19 γ11 γ10 γ13) Λ2 J x1 (List.map (encI .i64) x2) 0 (List.map api_Message.enc w3007) (List.map api_Message.enc w3008) (List.map api_Message.enc w3009) (List.replicate (Int.toNat (IntKind.wrap .i64 ((List.length (List.map api_Message.enc w3007) : Int) + 1))) [D.bool false])) none := by kernel_rfl
theorem T6_4 (Γ : Fun) (γ19 : Gm ((List api_Message))) (γ11 : Gm ((List api_Message) × (List api_Message) × Bool)) (γ10 : Gm (Bool)) (γ13 : Gm (Bool)) (Λ2 J : Lam) (x1 : Int) (x2 : (List Int)) (x10 : Int) (w3007 : (List api_Message)) (w3008 : (List api_Message)) (w3009 : (List api_Message)) : labU SE (C6 Γ γ19 γ11 γ10 γ13) Λ2 J 6 0 [1, 1, 1, 0, 1, 0] (stoOf [(1, .d (.int .i64 x1)), (2, .d (.sl [.int .i64] (List.map (encI .i64) x2))), (7, .row 3007), (8, .row 3008), (9, .row 3009), (10, .d (.int .i64 x10))] [] [] [] [(3007, ⟨api_Message.ks, 25, 112, (List.map api_Message.enc w3007)⟩), (3008, ⟨api_Message.ks, 25, 112, (List.map api_Message.enc w3008)⟩), (3009, ⟨api_Message.ks, 25, 112, (List.map api_Message.enc w3009)⟩)]) =
  cond (decide (x10 < (List.length (List.map api_Message.enc w3007) : Int))) (
   cond (decide ((List.length (List.map (encI .i64) x2) : Int) > 0)) (
    cond ((List.length (List.map (encI .i64) x2) : Int) != 0) (
     cond (decide (0 ≤ (Int.tmod x10 (List.length (List.map (encI .i64) x2) : Int))) && decide ((Int.tmod x10 (List.length (List.map (encI .i64) x2) : Int)) < (List.length (List.map (encI .i64) x2) : Int))) (
      R6_9 (C6 Γ γ19 γ11 γ10 γ13) Λ2 J x1 (List.map (encI .i64) x2) x10 ((dInt (cellAt (elemAt (List.map (encI .i64) x2) (Int.toNat (Int.tmod x10 (List.length (List.map (encI .i64) x2) : Int)))) 0))) (List.map api_Message.enc w3007) (List.map api_Message.enc w3008) (List.map api_Message.enc w3009)) none) none) (
   R6_9 (C6 Γ γ19 γ11 γ10 γ13) Λ2 J x1 (List.map (encI .i64) x2) x10 2 (List.map api_Message.enc w3007) (List.map api_Message.enc w3008) (List.map api_Message.enc w3009))) (
  cond ((IntKind.wrap .i64 ((List.length (List.map api_Message.enc w3008) : Int) + (List.length (List.map api_Message.enc w3009) : Int))) != (List.length (List.map api_Message.enc w3007) : Int)) (
   (some (.ret [.d (.bool false)] [] []))) (
  cond (decide ((List.length (List.map api_Message.enc w3008) : Int) > 0)) (
   cond (decide ((List.length (List.map api_Message.enc w3008) : Int) > x1)) (
    (some (.ret [.d (.bool false)] [] []))) (
   R6_16 (C6 Γ γ19 γ11 γ10 γ13) Λ2 J x1 (List.map (encI .i64) x2) (List.map api_Message.enc w3007) (List.map api_Message.enc w3008) (List.map api_Message.enc w3009))) (
  R6_16 (C6 Γ γ19 γ11 γ10 γ13) Λ2 J x1 (List.map (encI .i64) x2) (List.map api_Message.enc w3007) (List.map api_Message.enc w3008) (List.map api_Message.enc w3009)))) := by kernel_rfl
abbrev X6 : CFun := C6 (callG SE good) (callT SE good 19 brokerlaw17_numbered_out) (callT SE good 11 slow_Push_out) (callT SE good 10 brokerlaw17_awake_out) (callT SE good 13 brokerref17_Same_out)
theorem Cr6 : C6 (callG SE good) (callT SE good 19 brokerlaw17_numbered_out) (callT SE good 11 slow_Push_out) (callT SE good 10 brokerlaw17_awake_out) (callT SE good 13 brokerref17_Same_out) = bindC (callG SE good) := by unfold C6; rw [updC_real (fun _ h => h), updC_real (fun _ h => h), updC_real (fun _ h => h), updC_real (fun _ h => h)]
noncomputable abbrev Q6_9 (a0 : Int) (a1 : (List (List D))) (a2 : Int) (a3 : Int) (a4 : (List (List D))) (a5 : (List (List D))) (a6 : (List (List D))) : Res := R6_9 X6 (lam2 SE (callG SE good) (SE.hl 6) (SE.hr 6)) (J0 SE X6) a0 a1 a2 a3 a4 a5 a6
noncomputable abbrev Q6_34 (a0 : (List (List D))) (a1 : Int) (a2 : (List (List D))) (a3 : (List (List D))) : Res := R6_34 X6 (lam2 SE (callG SE good) (SE.hl 6) (SE.hr 6)) (J0 SE X6) a0 a1 a2 a3
noncomputable abbrev Q6_31 (a0 : Int) (a1 : (List (List D))) (a2 : (List (List D))) (a3 : (List (List D))) : Res := R6_31 X6 (lam2 SE (callG SE good) (SE.hl 6) (SE.hr 6)) (J0 SE X6) a0 a1 a2 a3
noncomputable abbrev Q6_24 (a0 : Int) (a1 : (List (List D))) (a2 : Int) (a3 : (List (List D))) (a4 : (List (List D))) (a5 : (List (List D))) (a6 : (List (List D))) : Res := R6_24 X6 (lam2 SE (callG SE good) (SE.hl 6) (SE.hr 6)) (J0 SE X6) a0 a1 a2 a3 a4 a5 a6
noncomputable abbrev Q6_18 (a0 : Int) (a1 : (List (List D))) (a2 : Int) (a3 : (List (List D))) (a4 : (List (List D))) (a5 : (List (List D))) (a6 : (List (List D))) : Res := R6_18 X6 (lam2 SE (callG SE good) (SE.hl 6) (SE.hr 6)) (J0 SE X6) a0 a1 a2 a3 a4 a5 a6
noncomputable abbrev Q6_16 (a0 : Int) (a1 : (List (List D))) (a2 : (List (List D))) (a3 : (List (List D))) (a4 : (List (List D))) : Res := R6_16 X6 (lam2 SE (callG SE good) (SE.hl 6) (SE.hr 6)) (J0 SE X6) a0 a1 a2 a3 a4
noncomputable abbrev Q6_4 (a0 : Int) (a1 : (List (List D))) (a2 : Int) (a3 : (List (List D))) (a4 : (List (List D))) (a5 : (List (List D))) : Res := R6_4 X6 (lam2 SE (callG SE good) (SE.hl 6) (SE.hr 6)) (J0 SE X6) a0 a1 a2 a3 a4 a5
theorem brokerlaw17_SlowOrder_j9_ok (k4 : Int → (List Int) → Int → (List api_Message) → (List api_Message) → (List api_Message) → Option (Bool)) (hk4 : ∀ (x1 : Int) (x2 : (List Int)) (x10 : Int) (w3007 : (List api_Message)) (w3008 : (List api_Message)) (w3009 : (List api_Message)), Le (Option.map brokerlaw17_SlowOrder_out (k4 x1 x2 x10 w3007 w3008 w3009)) (Q6_4 x1 (List.map (encI .i64) x2) x10 (List.map api_Message.enc w3007) (List.map api_Message.enc w3008) (List.map api_Message.enc w3009))) (x1 : Int) (x2 : (List Int)) (x10 : Int) (x11 : Int) (w3007 : (List api_Message)) (w3008 : (List api_Message)) (w3009 : (List api_Message)) : Le (Option.map brokerlaw17_SlowOrder_out (brokerlaw17_SlowOrder_j9 k4 x1 x2 x10 x11 w3007 w3008 w3009)) (Q6_9 x1 (List.map (encI .i64) x2) x10 x11 (List.map api_Message.enc w3007) (List.map api_Message.enc w3008) (List.map api_Message.enc w3009)) := by
  refine Le.trans ?_ (le_of_eq ((lab_realC Cr6).trans (T6_9 _ _ _ _ _ _ _  x1 x2 x10 x11 w3007 w3008 w3009)).symm)
  unfold brokerlaw17_SlowOrder_j9
  refine le_cond (by simp only [EN]) (fun _ => ?_) (fun _ => le_none)
  refine le_call (good := good) (fun y => ⟨y, rfl⟩) slow_Push_inj (by first | (simp only [EN]; exact slow_Push_ok w3008 (List.getD w3007 (Int.toNat x10) default) x1 x11) | exact slow_Push_ok w3008 (List.getD w3007 (Int.toNat x10) default) x1 x11) (fun r1 _ => ?_)
  refine le_cond (by simp only [EN]) (fun _ => ?_) (fun _ => ?_)
  · skip
    exact le_ret (by first | rfl | (simp only [EN, brokerlaw17_SlowOrder_out]; done) | (simp only [EN, brokerlaw17_SlowOrder_out]; rfl))
  · skip
    refine le_cond (by simp only [EN]) (fun _ => ?_) (fun _ => le_none)
    first | (simp only [EN]; exact hk4 x1 x2 (IntKind.wrap .i64 (x10 + 1)) w3007 r1.1 (w3009 ++ r1.2.1)) | exact hk4 x1 x2 (IntKind.wrap .i64 (x10 + 1)) w3007 r1.1 (w3009 ++ r1.2.1)
theorem brokerlaw17_SlowOrder_j34_ok (x2 : (List Int)) (x18 : Int) (w3007 : (List api_Message)) (w3008 : (List api_Message)) : Le (Option.map brokerlaw17_SlowOrder_out (brokerlaw17_SlowOrder_j34 x2 x18 w3007 w3008)) (Q6_34 (List.map (encI .i64) x2) x18 (List.map api_Message.enc w3007) (List.map api_Message.enc w3008)) := by
  refine Le.trans ?_ (le_of_eq ((lab_realC Cr6).trans (T6_34 _ _ _ _ _ _ _  x2 x18 w3007 w3008)).symm)
  unfold brokerlaw17_SlowOrder_j34
  refine le_cond (by simp only [EN]) (fun _ => ?_) (fun _ => le_none)
  refine le_cond (by simp only [EN]) (fun _ => ?_) (fun _ => ?_)
  · skip
    refine le_call (good := good) (fun y => ⟨y, rfl⟩) brokerlaw17_awake_inj (brokerlaw17_awake_ok) (fun r4 _ => ?_)
    refine le_cond rfl (fun _ => ?_) (fun _ => ?_)
    · skip
      refine le_cond (by simp only [EN]) (fun _ => ?_) (fun _ => le_none)
      refine le_call (good := good) (fun y => ⟨y, rfl⟩) brokerref17_Same_inj (by first | (simp only [EN]; exact brokerref17_Same_ok w3008 ((List.take ((List.length w3007) - (Int.toNat (IntKind.wrap .i64 ((List.length w3007 : Int) - x18)))) (List.drop (Int.toNat (IntKind.wrap .i64 ((List.length w3007 : Int) - x18))) w3007)))) | exact brokerref17_Same_ok w3008 ((List.take ((List.length w3007) - (Int.toNat (IntKind.wrap .i64 ((List.length w3007 : Int) - x18)))) (List.drop (Int.toNat (IntKind.wrap .i64 ((List.length w3007 : Int) - x18))) w3007)))) (fun r5 _ => ?_)
      exact le_ret (by first | rfl | (simp only [EN, brokerlaw17_SlowOrder_out]; done) | (simp only [EN, brokerlaw17_SlowOrder_out]; rfl))
    · skip
      exact le_ret (by first | rfl | (simp only [EN, brokerlaw17_SlowOrder_out]; done) | (simp only [EN, brokerlaw17_SlowOrder_out]; rfl))
  · skip
    refine le_call (good := good) (fun y => ⟨y, rfl⟩) brokerlaw17_awake_inj (brokerlaw17_awake_ok) (fun r6 _ => ?_)
    refine le_cond rfl (fun _ => ?_) (fun _ => ?_)
    · skip
      refine le_cond (by simp only [EN]) (fun _ => ?_) (fun _ => le_none)
      refine le_call (good := good) (fun y => ⟨y, rfl⟩) brokerref17_Same_inj (by first | (simp only [EN]; exact brokerref17_Same_ok w3008 ((List.take ((Int.toNat x18) - 0) (List.drop 0 w3007)))) | exact brokerref17_Same_ok w3008 ((List.take ((Int.toNat x18) - 0) (List.drop 0 w3007)))) (fun r7 _ => ?_)
      exact le_ret (by first | rfl | (simp only [EN, brokerlaw17_SlowOrder_out]; done) | (simp only [EN, brokerlaw17_SlowOrder_out]; rfl))
    · skip
      exact le_ret (by first | rfl | (simp only [EN, brokerlaw17_SlowOrder_out]; done) | (simp only [EN, brokerlaw17_SlowOrder_out]; rfl))
theorem brokerlaw17_SlowOrder_j31_ok (x1 : Int) (x2 : (List Int)) (w3007 : (List api_Message)) (w3008 : (List api_Message)) : Le (Option.map brokerlaw17_SlowOrder_out (brokerlaw17_SlowOrder_j31 x1 x2 w3007 w3008)) (Q6_31 x1 (List.map (encI .i64) x2) (List.map api_Message.enc w3007) (List.map api_Message.enc w3008)) := by
  refine Le.trans ?_ (le_of_eq ((lab_realC Cr6).trans (T6_31 _ _ _ _ _ _ _  x1 x2 w3007 w3008)).symm)
  unfold brokerlaw17_SlowOrder_j31
  refine le_cond (by simp only [EN]) (fun _ => ?_) (fun _ => ?_)
  · skip
    first | (simp only [EN]; exact brokerlaw17_SlowOrder_j34_ok x2 (List.length w3007 : Int) w3007 w3008) | exact brokerlaw17_SlowOrder_j34_ok x2 (List.length w3007 : Int) w3007 w3008
  · skip
    exact brokerlaw17_SlowOrder_j34_ok x2 x1 w3007 w3008
theorem brokerlaw17_SlowOrder_l24_ok : ∀ (fu : Nat) (x1 : Int) (x2 : (List Int)) (x17 : Int) (w3007 : (List api_Message)) (w3008 : (List api_Message)) (w3009 : (List api_Message)) (w3015 : (List Bool)), Le (Option.map brokerlaw17_SlowOrder_out (brokerlaw17_SlowOrder_l24 fu x1 x2 x17 w3007 w3008 w3009 w3015)) (Q6_24 x1 (List.map (encI .i64) x2) x17 (List.map api_Message.enc w3007) (List.map api_Message.enc w3008) (List.map api_Message.enc w3009) (List.map encB w3015)) := by
  intro fu
  induction fu with
  | zero => intros; exact le_none
  | succ fu ih =>
    intro x1 x2 x17 w3007 w3008 w3009 w3015
    refine Le.trans ?_ (le_of_eq ((lab_realC Cr6).trans (T6_24 _ _ _ _ _ _ _  x1 x2 x17 w3007 w3008 w3009 w3015)).symm)
    unfold brokerlaw17_SlowOrder_l24
    refine le_cond (by simp only [EN]) (fun _ => ?_) (fun _ => ?_)
    · skip
      refine le_cond (by simp only [EN]) (fun _ => ?_) (fun _ => le_none)
      refine le_cond (by simp only [EN]) (fun _ => ?_) (fun _ => ?_)
      · skip
        exact le_ret (by first | rfl | (simp only [EN, brokerlaw17_SlowOrder_out]; done) | (simp only [EN, brokerlaw17_SlowOrder_out]; rfl))
      · skip
        refine le_cond (by simp only [EN]) (fun _ => ?_) (fun _ => le_none)
        refine le_cond (by simp only [EN]) (fun _ => ?_) (fun _ => ?_)
        · skip
          exact le_ret (by first | rfl | (simp only [EN, brokerlaw17_SlowOrder_out]; done) | (simp only [EN, brokerlaw17_SlowOrder_out]; rfl))
        · skip
          refine le_cond (by simp only [EN]) (fun _ => ?_) (fun _ => le_none)
          refine le_cond (by simp only [EN]) (fun _ => ?_) (fun _ => le_none)
          refine le_cond (by simp only [EN]) (fun _ => ?_) (fun _ => ?_)
          · skip
            exact le_ret (by first | rfl | (simp only [EN, brokerlaw17_SlowOrder_out]; done) | (simp only [EN, brokerlaw17_SlowOrder_out]; rfl))
          · skip
            refine le_cond (by simp only [EN]) (fun _ => ?_) (fun _ => le_none)
            refine le_cond (by simp only [EN]) (fun _ => ?_) (fun _ => le_none)
            first | (simp only [EN]; exact ih x1 x2 (IntKind.wrap .i64 (x17 + 1)) w3007 w3008 w3009 (List.set w3015 (Int.toNat (List.getD w3009 (Int.toNat x17) default).Seq) true)) | exact ih x1 x2 (IntKind.wrap .i64 (x17 + 1)) w3007 w3008 w3009 (List.set w3015 (Int.toNat (List.getD w3009 (Int.toNat x17) default).Seq) true)
    · skip
      refine le_cond (by simp only [EN]) (fun _ => ?_) (fun _ => ?_)
      · skip
        refine le_call (good := good) (fun y => ⟨y, rfl⟩) brokerlaw17_awake_inj (brokerlaw17_awake_ok) (fun r2 _ => ?_)
        exact le_ret (by first | rfl | (simp only [EN, brokerlaw17_SlowOrder_out]; done) | (simp only [EN, brokerlaw17_SlowOrder_out]; rfl))
      · skip
        refine le_cond rfl (fun _ => ?_) (fun _ => ?_)
        · skip
          refine le_call (good := good) (fun y => ⟨y, rfl⟩) brokerlaw17_awake_inj (brokerlaw17_awake_ok) (fun r3 _ => ?_)
          exact le_ret (by first | rfl | (simp only [EN, brokerlaw17_SlowOrder_out]; done) | (simp only [EN, brokerlaw17_SlowOrder_out]; rfl))
        · skip
          exact brokerlaw17_SlowOrder_j31_ok x1 x2 w3007 w3008
theorem brokerlaw17_SlowOrder_l18_ok : ∀ (fu : Nat) (x1 : Int) (x2 : (List Int)) (x16 : Int) (w3007 : (List api_Message)) (w3008 : (List api_Message)) (w3009 : (List api_Message)) (w3015 : (List Bool)), Le (Option.map brokerlaw17_SlowOrder_out (brokerlaw17_SlowOrder_l18 fu x1 x2 x16 w3007 w3008 w3009 w3015)) (Q6_18 x1 (List.map (encI .i64) x2) x16 (List.map api_Message.enc w3007) (List.map api_Message.enc w3008) (List.map api_Message.enc w3009) (List.map encB w3015)) := by
  intro fu
  induction fu with
  | zero => intros; exact le_none
  | succ fu ih =>
    intro x1 x2 x16 w3007 w3008 w3009 w3015
    refine Le.trans ?_ (le_of_eq ((lab_realC Cr6).trans (T6_18 _ _ _ _ _ _ _  x1 x2 x16 w3007 w3008 w3009 w3015)).symm)
    unfold brokerlaw17_SlowOrder_l18
    refine le_cond (by simp only [EN]) (fun _ => ?_) (fun _ => ?_)
    · skip
      refine le_cond rfl (fun _ => ?_) (fun _ => ?_)
      · skip
        refine le_cond (by simp only [EN]) (fun _ => ?_) (fun _ => le_none)
        refine le_cond (by simp only [EN]) (fun _ => ?_) (fun _ => le_none)
        refine le_cond (by simp only [EN]) (fun _ => ?_) (fun _ => ?_)
        · skip
          exact le_ret (by first | rfl | (simp only [EN, brokerlaw17_SlowOrder_out]; done) | (simp only [EN, brokerlaw17_SlowOrder_out]; rfl))
        · skip
          refine le_cond (by simp only [EN]) (fun _ => ?_) (fun _ => le_none)
          refine le_cond (by simp only [EN]) (fun _ => ?_) (fun _ => ?_)
          · skip
            exact le_ret (by first | rfl | (simp only [EN, brokerlaw17_SlowOrder_out]; done) | (simp only [EN, brokerlaw17_SlowOrder_out]; rfl))
          · skip
            refine le_cond (by simp only [EN]) (fun _ => ?_) (fun _ => le_none)
            refine le_cond (by simp only [EN]) (fun _ => ?_) (fun _ => ?_)
            · skip
              exact le_ret (by first | rfl | (simp only [EN, brokerlaw17_SlowOrder_out]; done) | (simp only [EN, brokerlaw17_SlowOrder_out]; rfl))
            · skip
              refine le_cond (by simp only [EN]) (fun _ => ?_) (fun _ => le_none)
              refine le_cond (by simp only [EN]) (fun _ => ?_) (fun _ => le_none)
              first | (simp only [EN]; exact ih x1 x2 (IntKind.wrap .i64 (x16 + 1)) w3007 w3008 w3009 (List.set w3015 (Int.toNat (List.getD w3008 (Int.toNat x16) default).Seq) true)) | exact ih x1 x2 (IntKind.wrap .i64 (x16 + 1)) w3007 w3008 w3009 (List.set w3015 (Int.toNat (List.getD w3008 (Int.toNat x16) default).Seq) true)
      · skip
        refine le_cond (by simp only [EN]) (fun _ => ?_) (fun _ => le_none)
        refine le_cond (by simp only [EN]) (fun _ => ?_) (fun _ => ?_)
        · skip
          exact le_ret (by first | rfl | (simp only [EN, brokerlaw17_SlowOrder_out]; done) | (simp only [EN, brokerlaw17_SlowOrder_out]; rfl))
        · skip
          refine le_cond (by simp only [EN]) (fun _ => ?_) (fun _ => le_none)
          refine le_cond (by simp only [EN]) (fun _ => ?_) (fun _ => ?_)
          · skip
            exact le_ret (by first | rfl | (simp only [EN, brokerlaw17_SlowOrder_out]; done) | (simp only [EN, brokerlaw17_SlowOrder_out]; rfl))
          · skip
            refine le_cond (by simp only [EN]) (fun _ => ?_) (fun _ => le_none)
            refine le_cond (by simp only [EN]) (fun _ => ?_) (fun _ => le_none)
            first | (simp only [EN]; exact ih x1 x2 (IntKind.wrap .i64 (x16 + 1)) w3007 w3008 w3009 (List.set w3015 (Int.toNat (List.getD w3008 (Int.toNat x16) default).Seq) true)) | exact ih x1 x2 (IntKind.wrap .i64 (x16 + 1)) w3007 w3008 w3009 (List.set w3015 (Int.toNat (List.getD w3008 (Int.toNat x16) default).Seq) true)
    · skip
      exact brokerlaw17_SlowOrder_l24_ok fuel x1 x2 0 w3007 w3008 w3009 w3015
theorem brokerlaw17_SlowOrder_j16_ok (x1 : Int) (x2 : (List Int)) (w3007 : (List api_Message)) (w3008 : (List api_Message)) (w3009 : (List api_Message)) : Le (Option.map brokerlaw17_SlowOrder_out (brokerlaw17_SlowOrder_j16 x1 x2 w3007 w3008 w3009)) (Q6_16 x1 (List.map (encI .i64) x2) (List.map api_Message.enc w3007) (List.map api_Message.enc w3008) (List.map api_Message.enc w3009)) := by
  refine Le.trans ?_ (le_of_eq ((lab_realC Cr6).trans (T6_16 _ _ _ _ _ _ _  x1 x2 w3007 w3008 w3009)).symm)
  unfold brokerlaw17_SlowOrder_j16
  refine le_cond (by simp only [EN]) (fun _ => ?_) (fun _ => le_none)
  first | (simp only [EN]; exact brokerlaw17_SlowOrder_l18_ok fuel x1 x2 0 w3007 w3008 w3009 (List.replicate (Int.toNat (IntKind.wrap .i64 ((List.length w3007 : Int) + 1))) default)) | exact brokerlaw17_SlowOrder_l18_ok fuel x1 x2 0 w3007 w3008 w3009 (List.replicate (Int.toNat (IntKind.wrap .i64 ((List.length w3007 : Int) + 1))) default)
theorem brokerlaw17_SlowOrder_l4_ok : ∀ (fu : Nat) (x1 : Int) (x2 : (List Int)) (x10 : Int) (w3007 : (List api_Message)) (w3008 : (List api_Message)) (w3009 : (List api_Message)), Le (Option.map brokerlaw17_SlowOrder_out (brokerlaw17_SlowOrder_l4 fu x1 x2 x10 w3007 w3008 w3009)) (Q6_4 x1 (List.map (encI .i64) x2) x10 (List.map api_Message.enc w3007) (List.map api_Message.enc w3008) (List.map api_Message.enc w3009)) := by
  intro fu
  induction fu with
  | zero => intros; exact le_none
  | succ fu ih =>
    intro x1 x2 x10 w3007 w3008 w3009
    refine Le.trans ?_ (le_of_eq ((lab_realC Cr6).trans (T6_4 _ _ _ _ _ _ _  x1 x2 x10 w3007 w3008 w3009)).symm)
    unfold brokerlaw17_SlowOrder_l4
    refine le_cond (by simp only [EN]) (fun _ => ?_) (fun _ => ?_)
    · skip
      refine le_cond (by simp only [EN]) (fun _ => ?_) (fun _ => ?_)
      · skip
        refine le_cond (by simp only [EN]) (fun _ => ?_) (fun _ => le_none)
        refine le_cond (by simp only [EN]) (fun _ => ?_) (fun _ => le_none)
        first | (simp only [EN]; exact brokerlaw17_SlowOrder_j9_ok _ (ih) x1 x2 x10 (List.getD x2 (Int.toNat (Int.tmod x10 (List.length x2 : Int))) default) w3007 w3008 w3009) | exact brokerlaw17_SlowOrder_j9_ok _ (ih) x1 x2 x10 (List.getD x2 (Int.toNat (Int.tmod x10 (List.length x2 : Int))) default) w3007 w3008 w3009
      · skip
        exact brokerlaw17_SlowOrder_j9_ok _ (ih) x1 x2 x10 2 w3007 w3008 w3009
    · skip
      refine le_cond (by simp only [EN]) (fun _ => ?_) (fun _ => ?_)
      · skip
        exact le_ret (by first | rfl | (simp only [EN, brokerlaw17_SlowOrder_out]; done) | (simp only [EN, brokerlaw17_SlowOrder_out]; rfl))
      · skip
        refine le_cond (by simp only [EN]) (fun _ => ?_) (fun _ => ?_)
        · skip
          refine le_cond (by simp only [EN]) (fun _ => ?_) (fun _ => ?_)
          · skip
            exact le_ret (by first | rfl | (simp only [EN, brokerlaw17_SlowOrder_out]; done) | (simp only [EN, brokerlaw17_SlowOrder_out]; rfl))
          · skip
            exact brokerlaw17_SlowOrder_j16_ok x1 x2 w3007 w3008 w3009
        · skip
          exact brokerlaw17_SlowOrder_j16_ok x1 x2 w3007 w3008 w3009
theorem brokerlaw17_SlowOrder_ok (p0 : Int) (p1 : Int) (p2 : (List Int)) : Le (Option.map brokerlaw17_SlowOrder_out (brokerlaw17_SlowOrder p0 p1 p2)) (callW SE 6 [.d (.int .u8 p0), .d (.int .i64 p1), .d (.sl [.int .i64] (List.map (encI .i64) p2))] [] []) := by
  refine le_bodyC Cr6 ?_
  refine Le.trans ?_ (le_of_eq (T6 _ _ _ _ _ _ _  p0 p1 p2).symm)
  unfold brokerlaw17_SlowOrder
  refine le_call (good := good) (fun y => ⟨y, rfl⟩) brokerlaw17_numbered_inj (brokerlaw17_numbered_ok (Int.tmod (IntKind.wrap .i64 p0) 101)) (fun r0 _ => ?_)
  first | (simp only [EN]; exact brokerlaw17_SlowOrder_l4_ok fuel p1 p2 0 r0 ([] : List api_Message) ([] : List api_Message)) | exact brokerlaw17_SlowOrder_l4_ok fuel p1 p2 0 r0 ([] : List api_Message) ([] : List api_Message)
def C7 (Γ : Fun) (γ9 : Gm (Bool)) (γ10 : Gm (Bool)) (γ11 : Gm ((List api_Message) × (List api_Message) × Bool)) : CFun := updC (updC (updC (bindC Γ) 9 brokerlaw17_few_out γ9) 10 brokerlaw17_awake_out γ10) 11 slow_Push_out γ11
theorem T7 (Γ : Fun) (γ9 : Gm (Bool)) (γ10 : Gm (Bool)) (γ11 : Gm ((List api_Message) × (List api_Message) × Bool)) (Λ2 J : Lam) (p0 : (List api_Message)) (p1 : api_Message) (p2 : Int) (p3 : Int) : bodyC SE (C7 Γ γ9 γ10 γ11) Λ2 J 7 [.d (.sl api_Message.ks (List.map api_Message.enc p0)), api_Message.av p1, .d (.int .i64 p2), .d (.int .i64 p3)] [] [] =
  γ9 [.d (.sl api_Message.ks (List.map api_Message.enc p0))] [] [] fun r0 =>
  cond (!r0) (
   γ10 [] [] [] fun r1 =>
   (some (.ret [.d (.bool r1)] [] []))) (
  γ11 [.d (.sl api_Message.ks (List.map api_Message.enc p0)), api_Message.av p1, .d (.int .i64 p2), .d (.int .i64 p3)] [] [] fun r2 =>
  γ10 [] [] [] fun r3 =>
  cond r3 (
   cond (decide ((List.length (List.map api_Message.enc p0) : Int) ≥ p2)) (
    cond (r2.2.2 == (p3 == 3)) (
     cond (((List.length (List.map api_Message.enc r2.2.1) : Int) == 1) == (decide ((List.length (List.map api_Message.enc p0) : Int) ≥ p2))) (
      (some (.ret [.d (.bool ((IntKind.wrap .i64 ((List.length (List.map api_Message.enc r2.1) : Int) + (List.length (List.map api_Message.enc r2.2.1) : Int))) == (IntKind.wrap .i64 ((List.length (List.map api_Message.enc p0) : Int) + 1))))] [] []))) (
     (some (.ret [.d (.bool false)] [] [])))) (
    (some (.ret [.d (.bool false)] [] [])))) (
   cond (r2.2.2 == false) (
    cond (((List.length (List.map api_Message.enc r2.2.1) : Int) == 1) == (decide ((List.length (List.map api_Message.enc p0) : Int) ≥ p2))) (
     (some (.ret [.d (.bool ((IntKind.wrap .i64 ((List.length (List.map api_Message.enc r2.1) : Int) + (List.length (List.map api_Message.enc r2.2.1) : Int))) == (IntKind.wrap .i64 ((List.length (List.map api_Message.enc p0) : Int) + 1))))] [] []))) (
    (some (.ret [.d (.bool false)] [] [])))) (
   (some (.ret [.d (.bool false)] [] []))))) (
  (some (.ret [.d (.bool false)] [] [])))) := by kernel_rfl
abbrev X7 : CFun := C7 (callG SE good) (callT SE good 9 brokerlaw17_few_out) (callT SE good 10 brokerlaw17_awake_out) (callT SE good 11 slow_Push_out)
theorem Cr7 : C7 (callG SE good) (callT SE good 9 brokerlaw17_few_out) (callT SE good 10 brokerlaw17_awake_out) (callT SE good 11 slow_Push_out) = bindC (callG SE good) := by unfold C7; rw [updC_real (fun _ h => h), updC_real (fun _ h => h), updC_real (fun _ h => h)]
theorem brokerlaw17_SlowEvicts_ok (p0 : (List api_Message)) (p1 : api_Message) (p2 : Int) (p3 : Int) : Le (Option.map brokerlaw17_SlowEvicts_out (brokerlaw17_SlowEvicts p0 p1 p2 p3)) (callW SE 7 [.d (.sl api_Message.ks (List.map api_Message.enc p0)), api_Message.av p1, .d (.int .i64 p2), .d (.int .i64 p3)] [] []) := by
  refine le_bodyC Cr7 ?_
  refine Le.trans ?_ (le_of_eq (T7 _ _ _ _ _ _  p0 p1 p2 p3).symm)
  unfold brokerlaw17_SlowEvicts
  refine le_call (good := good) (fun y => ⟨y, rfl⟩) brokerlaw17_few_inj (brokerlaw17_few_ok p0) (fun r0 _ => ?_)
  refine le_cond rfl (fun _ => ?_) (fun _ => ?_)
  · skip
    refine le_call (good := good) (fun y => ⟨y, rfl⟩) brokerlaw17_awake_inj (brokerlaw17_awake_ok) (fun r1 _ => ?_)
    exact le_ret (by first | rfl | (simp only [EN, brokerlaw17_SlowEvicts_out]; done) | (simp only [EN, brokerlaw17_SlowEvicts_out]; rfl))
  · skip
    refine le_call (good := good) (fun y => ⟨y, rfl⟩) slow_Push_inj (slow_Push_ok p0 p1 p2 p3) (fun r2 _ => ?_)
    refine le_call (good := good) (fun y => ⟨y, rfl⟩) brokerlaw17_awake_inj (brokerlaw17_awake_ok) (fun r3 _ => ?_)
    refine le_cond rfl (fun _ => ?_) (fun _ => ?_)
    · skip
      refine le_cond (by simp only [EN]) (fun _ => ?_) (fun _ => ?_)
      · skip
        refine le_cond rfl (fun _ => ?_) (fun _ => ?_)
        · skip
          refine le_cond (by simp only [EN]) (fun _ => ?_) (fun _ => ?_)
          · skip
            exact le_ret (by first | rfl | (simp only [EN, brokerlaw17_SlowEvicts_out]; done) | (simp only [EN, brokerlaw17_SlowEvicts_out]; rfl))
          · skip
            exact le_ret (by first | rfl | (simp only [EN, brokerlaw17_SlowEvicts_out]; done) | (simp only [EN, brokerlaw17_SlowEvicts_out]; rfl))
        · skip
          exact le_ret (by first | rfl | (simp only [EN, brokerlaw17_SlowEvicts_out]; done) | (simp only [EN, brokerlaw17_SlowEvicts_out]; rfl))
      · skip
        refine le_cond rfl (fun _ => ?_) (fun _ => ?_)
        · skip
          refine le_cond (by simp only [EN]) (fun _ => ?_) (fun _ => ?_)
          · skip
            exact le_ret (by first | rfl | (simp only [EN, brokerlaw17_SlowEvicts_out]; done) | (simp only [EN, brokerlaw17_SlowEvicts_out]; rfl))
          · skip
            exact le_ret (by first | rfl | (simp only [EN, brokerlaw17_SlowEvicts_out]; done) | (simp only [EN, brokerlaw17_SlowEvicts_out]; rfl))
        · skip
          exact le_ret (by first | rfl | (simp only [EN, brokerlaw17_SlowEvicts_out]; done) | (simp only [EN, brokerlaw17_SlowEvicts_out]; rfl))
    · skip
      exact le_ret (by first | rfl | (simp only [EN, brokerlaw17_SlowEvicts_out]; done) | (simp only [EN, brokerlaw17_SlowEvicts_out]; rfl))
def C20 (Γ : Fun) (γ24 : Gm (Bool)) (γ23 : Gm (api_Message)) : CFun := updC (updC (bindC Γ) 24 message_Expired_out γ24) 23 slow_copied_out γ23
def R20_3 (C : CFun) (Λ2 J : Lam) (a0 : Int) (a1 : (List (List D))) (a2 : Int) (a3 : Int) (a4 : (List (List D))) (a5 : (List (List D))) : Res := lab SE C Λ2 J 20 0 [1, 1, 0, 1, 0] (stoOf [(1, .d (.int .i64 a0)), (6, .row 3006), (7, .row 3007), (10, .d (.sl api_Message.ks a1)), (11, .d (.int .i64 a2)), (12, .d (.int .i64 a3))] [] [] [] [(3006, ⟨api_Message.ks, 25, 112, a4⟩), (3007, ⟨api_Message.ks, 25, 112, a5⟩)])
theorem T20 (Γ : Fun) (γ24 : Gm (Bool)) (γ23 : Gm (api_Message)) (Λ2 J : Lam) (p0 : (List api_Message)) (p1 : Int) : bodyC SE (C20 Γ γ24 γ23) Λ2 J 20 [.d (.sl api_Message.ks (List.map api_Message.enc p0)), .d (.int .i64 p1)] [] [] =
  R20_3 (C20 Γ γ24 γ23) Λ2 J p1 (List.map api_Message.enc p0) (List.length (List.map api_Message.enc p0) : Int) 0 (List.map api_Message.enc []) (List.map api_Message.enc []) := by kernel_rfl
theorem T20_3 (Γ : Fun) (γ24 : Gm (Bool)) (γ23 : Gm (api_Message)) (Λ2 J : Lam) (x1 : Int) (x10 : (List api_Message)) (x11 : Int) (x12 : Int) (w3006 : (List api_Message)) (w3007 : (List api_Message)) : labU SE (C20 Γ γ24 γ23) Λ2 J 20 0 [1, 1, 0, 1, 0] (stoOf [(1, .d (.int .i64 x1)), (6, .row 3006), (7, .row 3007), (10, .d (.sl api_Message.ks (List.map api_Message.enc x10))), (11, .d (.int .i64 x11)), (12, .d (.int .i64 x12))] [] [] [] [(3006, ⟨api_Message.ks, 25, 112, (List.map api_Message.enc w3006)⟩), (3007, ⟨api_Message.ks, 25, 112, (List.map api_Message.enc w3007)⟩)]) =
  cond (decide (x12 < x11)) (
   cond (decide (0 ≤ x12) && decide (x12 < (List.length (List.map api_Message.enc x10) : Int))) (
    γ24 [.agg [.d (.str (dStr (cellAt (elemAt (List.map api_Message.enc x10) (Int.toNat x12)) 0))), .d (.str (dStr (cellAt (elemAt (List.map api_Message.enc x10) (Int.toNat x12)) 1))), .d (.int .i64 (dInt (cellAt (elemAt (List.map api_Message.enc x10) (Int.toNat x12)) 2))), .d (.bool (dBool (cellAt (elemAt (List.map api_Message.enc x10) (Int.toNat x12)) 3))), .d (.int .i64 (dInt (cellAt (elemAt (List.map api_Message.enc x10) (Int.toNat x12)) 4))), .d (.int .i64 (dInt (cellAt (elemAt (List.map api_Message.enc x10) (Int.toNat x12)) 5))), .d (.str (dStr (cellAt (elemAt (List.map api_Message.enc x10) (Int.toNat x12)) 6))), .d (.int .i64 (dInt (cellAt (elemAt (List.map api_Message.enc x10) (Int.toNat x12)) 7))), .d (.sl api_Prop.ks (dSl (cellAt (elemAt (List.map api_Message.enc x10) (Int.toNat x12)) 8)))], .d (.int .i64 x1)] [] [] fun r0 =>
    cond r0 (
     γ23 [.agg [.d (.str (dStr (cellAt (elemAt (List.map api_Message.enc x10) (Int.toNat x12)) 0))), .d (.str (dStr (cellAt (elemAt (List.map api_Message.enc x10) (Int.toNat x12)) 1))), .d (.int .i64 (dInt (cellAt (elemAt (List.map api_Message.enc x10) (Int.toNat x12)) 2))), .d (.bool (dBool (cellAt (elemAt (List.map api_Message.enc x10) (Int.toNat x12)) 3))), .d (.int .i64 (dInt (cellAt (elemAt (List.map api_Message.enc x10) (Int.toNat x12)) 4))), .d (.int .i64 (dInt (cellAt (elemAt (List.map api_Message.enc x10) (Int.toNat x12)) 5))), .d (.str (dStr (cellAt (elemAt (List.map api_Message.enc x10) (Int.toNat x12)) 6))), .d (.int .i64 (dInt (cellAt (elemAt (List.map api_Message.enc x10) (Int.toNat x12)) 7))), .d (.sl api_Prop.ks (dSl (cellAt (elemAt (List.map api_Message.enc x10) (Int.toNat x12)) 8)))]] [] [] fun r1 =>
     cond (decide ((List.length (List.map api_Message.enc w3007) + List.length (List.map api_Message.enc [r1])) * 112 ≤ 140737488355328)) (
      R20_3 (C20 Γ γ24 γ23) Λ2 J x1 (List.map api_Message.enc x10) x11 (IntKind.wrap .i64 (x12 + 1)) (List.map api_Message.enc w3006) (((List.map api_Message.enc w3007) ++ (List.map api_Message.enc [r1])))) none) (
    γ23 [.agg [.d (.str (dStr (cellAt (elemAt (List.map api_Message.enc x10) (Int.toNat x12)) 0))), .d (.str (dStr (cellAt (elemAt (List.map api_Message.enc x10) (Int.toNat x12)) 1))), .d (.int .i64 (dInt (cellAt (elemAt (List.map api_Message.enc x10) (Int.toNat x12)) 2))), .d (.bool (dBool (cellAt (elemAt (List.map api_Message.enc x10) (Int.toNat x12)) 3))), .d (.int .i64 (dInt (cellAt (elemAt (List.map api_Message.enc x10) (Int.toNat x12)) 4))), .d (.int .i64 (dInt (cellAt (elemAt (List.map api_Message.enc x10) (Int.toNat x12)) 5))), .d (.str (dStr (cellAt (elemAt (List.map api_Message.enc x10) (Int.toNat x12)) 6))), .d (.int .i64 (dInt (cellAt (elemAt (List.map api_Message.enc x10) (Int.toNat x12)) 7))), .d (.sl api_Prop.ks (dSl (cellAt (elemAt (List.map api_Message.enc x10) (Int.toNat x12)) 8)))]] [] [] fun r2 =>
    cond (decide ((List.length (List.map api_Message.enc w3006) + List.length (List.map api_Message.enc [r2])) * 112 ≤ 140737488355328)) (
     R20_3 (C20 Γ γ24 γ23) Λ2 J x1 (List.map api_Message.enc x10) x11 (IntKind.wrap .i64 (x12 + 1)) (((List.map api_Message.enc w3006) ++ (List.map api_Message.enc [r2]))) (List.map api_Message.enc w3007)) none)) none) (
  (some (.ret [.row 0, .row 1] [] [⟨api_Message.ks, 25, 112, (List.map api_Message.enc w3006)⟩, ⟨api_Message.ks, 25, 112, (List.map api_Message.enc w3007)⟩]))) := by kernel_rfl
abbrev X20 : CFun := C20 (callG SE good) (callT SE good 24 message_Expired_out) (callT SE good 23 slow_copied_out)
theorem Cr20 : C20 (callG SE good) (callT SE good 24 message_Expired_out) (callT SE good 23 slow_copied_out) = bindC (callG SE good) := by unfold C20; rw [updC_real (fun _ h => h), updC_real (fun _ h => h)]
noncomputable abbrev Q20_3 (a0 : Int) (a1 : (List (List D))) (a2 : Int) (a3 : Int) (a4 : (List (List D))) (a5 : (List (List D))) : Res := R20_3 X20 (lam2 SE (callG SE good) (SE.hl 20) (SE.hr 20)) (J0 SE X20) a0 a1 a2 a3 a4 a5
theorem slow_Expire_l3_ok : ∀ (fu : Nat) (x1 : Int) (x10 : (List api_Message)) (x11 : Int) (x12 : Int) (w3006 : (List api_Message)) (w3007 : (List api_Message)), Le (Option.map slow_Expire_out (slow_Expire_l3 fu x1 x10 x11 x12 w3006 w3007)) (Q20_3 x1 (List.map api_Message.enc x10) x11 x12 (List.map api_Message.enc w3006) (List.map api_Message.enc w3007)) := by
  intro fu
  induction fu with
  | zero => intros; exact le_none
  | succ fu ih =>
    intro x1 x10 x11 x12 w3006 w3007
    refine Le.trans ?_ (le_of_eq ((lab_realC Cr20).trans (T20_3 _ _ _ _ _  x1 x10 x11 x12 w3006 w3007)).symm)
    unfold slow_Expire_l3
    refine le_cond rfl (fun _ => ?_) (fun _ => ?_)
    · skip
      refine le_cond (by simp only [EN]) (fun _ => ?_) (fun _ => le_none)
      refine le_call (good := good) (fun y => ⟨y, rfl⟩) message_Expired_inj (by first | (simp only [EN]; exact message_Expired_ok (List.getD x10 (Int.toNat x12) default) x1) | exact message_Expired_ok (List.getD x10 (Int.toNat x12) default) x1) (fun r0 _ => ?_)
      refine le_cond rfl (fun _ => ?_) (fun _ => ?_)
      · skip
        refine le_call (good := good) (fun y => ⟨y, rfl⟩) slow_copied_inj (by first | (simp only [EN]; exact slow_copied_ok (List.getD x10 (Int.toNat x12) default)) | exact slow_copied_ok (List.getD x10 (Int.toNat x12) default)) (fun r1 _ => ?_)
        refine le_cond (by simp only [EN]) (fun _ => ?_) (fun _ => le_none)
        first | (simp only [EN]; exact ih x1 x10 x11 (IntKind.wrap .i64 (x12 + 1)) w3006 (w3007 ++ [r1])) | exact ih x1 x10 x11 (IntKind.wrap .i64 (x12 + 1)) w3006 (w3007 ++ [r1])
      · skip
        refine le_call (good := good) (fun y => ⟨y, rfl⟩) slow_copied_inj (by first | (simp only [EN]; exact slow_copied_ok (List.getD x10 (Int.toNat x12) default)) | exact slow_copied_ok (List.getD x10 (Int.toNat x12) default)) (fun r2 _ => ?_)
        refine le_cond (by simp only [EN]) (fun _ => ?_) (fun _ => le_none)
        first | (simp only [EN]; exact ih x1 x10 x11 (IntKind.wrap .i64 (x12 + 1)) (w3006 ++ [r2]) w3007) | exact ih x1 x10 x11 (IntKind.wrap .i64 (x12 + 1)) (w3006 ++ [r2]) w3007
    · skip
      exact le_ret (by first | rfl | (simp only [EN, slow_Expire_out]; done) | (simp only [EN, slow_Expire_out]; rfl))
theorem slow_Expire_ok (p0 : (List api_Message)) (p1 : Int) : Le (Option.map slow_Expire_out (slow_Expire p0 p1)) (callW SE 20 [.d (.sl api_Message.ks (List.map api_Message.enc p0)), .d (.int .i64 p1)] [] []) := by
  refine le_bodyC Cr20 ?_
  refine Le.trans ?_ (le_of_eq (T20 _ _ _ _ _  p0 p1).symm)
  unfold slow_Expire
  first | (simp only [EN]; exact slow_Expire_l3_ok fuel p1 p0 (List.length p0 : Int) 0 ([] : List api_Message) ([] : List api_Message)) | exact slow_Expire_l3_ok fuel p1 p0 (List.length p0 : Int) 0 ([] : List api_Message) ([] : List api_Message)
end Te
end PX
