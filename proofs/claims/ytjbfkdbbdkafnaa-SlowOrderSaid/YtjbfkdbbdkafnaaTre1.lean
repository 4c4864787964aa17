import Derived.Test.YtjbfkdbbdkafnaaTre0
set_option linter.unusedVariables false
set_option linter.unusedSimpArgs false
set_option linter.unusedVariables false
set_option linter.unusedSimpArgs false
set_option maxRecDepth 100000
noncomputable section
namespace PX
open Go
open Md
namespace Te
def C21 (Γ : Fun) (γ25 : Gm (Bool)) : CFun := updC (bindC Γ) 25 brokerref05_Expired_out γ25
def R21_3 (C : CFun) (Λ2 J : Lam) (a0 : (List (List D))) (a1 : Int) (a2 : Int) (a3 : (List (List D))) (a4 : (List (List D))) : Res := lab SE C Λ2 J 21 0 [1, 1, 0, 1, 0] (stoOf [(0, .d (.sl api_Message.ks a0)), (1, .d (.int .i64 a1)), (6, .row 3006), (7, .row 3007), (8, .d (.int .i64 a2))] [] [] [] [(3006, ⟨api_Message.ks, 25, 112, a3⟩), (3007, ⟨api_Message.ks, 25, 112, a4⟩)])
theorem T21 (Γ : Fun) (γ25 : Gm (Bool)) (Λ2 J : Lam) (p0 : (List api_Message)) (p1 : Int) : bodyC SE (C21 Γ γ25) Λ2 J 21 [.d (.sl api_Message.ks (List.map api_Message.enc p0)), .d (.int .i64 p1)] [] [] =
  R21_3 (C21 Γ γ25) Λ2 J (List.map api_Message.enc p0) p1 0 (List.map api_Message.enc []) (List.map api_Message.enc []) := by kernel_rfl
theorem T21_3 (Γ : Fun) (γ25 : Gm (Bool)) (Λ2 J : Lam) (x0 : (List api_Message)) (x1 : Int) (x8 : Int) (w3006 : (List api_Message)) (w3007 : (List api_Message)) : labU SE (C21 Γ γ25) Λ2 J 21 0 [1, 1, 0, 1, 0] (stoOf [(0, .d (.sl api_Message.ks (List.map api_Message.enc x0))), (1, .d (.int .i64 x1)), (6, .row 3006), (7, .row 3007), (8, .d (.int .i64 x8))] [] [] [] [(3006, ⟨api_Message.ks, 25, 112, (List.map api_Message.enc w3006)⟩), (3007, ⟨api_Message.ks, 25, 112, (List.map api_Message.enc w3007)⟩)]) =
  cond (decide (x8 < (List.length (List.map api_Message.enc x0) : Int))) (
   cond (decide (0 ≤ x8) && decide (x8 < (List.length (List.map api_Message.enc x0) : Int))) (
    γ25 [.agg [.d (.str (dStr (cellAt (elemAt (List.map api_Message.enc x0) (Int.toNat x8)) 0))), .d (.str (dStr (cellAt (elemAt (List.map api_Message.enc x0) (Int.toNat x8)) 1))), .d (.int .i64 (dInt (cellAt (elemAt (List.map api_Message.enc x0) (Int.toNat x8)) 2))), .d (.bool (dBool (cellAt (elemAt (List.map api_Message.enc x0) (Int.toNat x8)) 3))), .d (.int .i64 (dInt (cellAt (elemAt (List.map api_Message.enc x0) (Int.toNat x8)) 4))), .d (.int .i64 (dInt (cellAt (elemAt (List.map api_Message.enc x0) (Int.toNat x8)) 5))), .d (.str (dStr (cellAt (elemAt (List.map api_Message.enc x0) (Int.toNat x8)) 6))), .d (.int .i64 (dInt (cellAt (elemAt (List.map api_Message.enc x0) (Int.toNat x8)) 7))), .d (.sl api_Prop.ks (dSl (cellAt (elemAt (List.map api_Message.enc x0) (Int.toNat x8)) 8)))], .d (.int .i64 x1)] [] [] fun r0 =>
    cond r0 (
     cond (decide (0 ≤ x8) && decide (x8 < (List.length (List.map api_Message.enc x0) : Int))) (
      cond (decide ((List.length (List.map api_Message.enc w3007) + List.length [[D.str (dStr (cellAt (elemAt (List.map api_Message.enc x0) (Int.toNat x8)) 0)), D.str (dStr (cellAt (elemAt (List.map api_Message.enc x0) (Int.toNat x8)) 1)), D.int .i64 (dInt (cellAt (elemAt (List.map api_Message.enc x0) (Int.toNat x8)) 2)), D.bool (dBool (cellAt (elemAt (List.map api_Message.enc x0) (Int.toNat x8)) 3)), D.int .i64 (dInt (cellAt (elemAt (List.map api_Message.enc x0) (Int.toNat x8)) 4)), D.int .i64 (dInt (cellAt (elemAt (List.map api_Message.enc x0) (Int.toNat x8)) 5)), D.str (dStr (cellAt (elemAt (List.map api_Message.enc x0) (Int.toNat x8)) 6)), D.int .i64 (dInt (cellAt (elemAt (List.map api_Message.enc x0) (Int.toNat x8)) 7)), D.sl api_Prop.ks (dSl (cellAt (elemAt (List.map api_Message.enc x0) (Int.toNat x8)) 8))]]) * 112 ≤ 140737488355328)) (
       R21_3 (C21 Γ γ25) Λ2 J (List.map api_Message.enc x0) x1 (IntKind.wrap .i64 (x8 + 1)) (List.map api_Message.enc w3006) (((List.map api_Message.enc w3007) ++ [[D.str (dStr (cellAt (elemAt (List.map api_Message.enc x0) (Int.toNat x8)) 0)), D.str (dStr (cellAt (elemAt (List.map api_Message.enc x0) (Int.toNat x8)) 1)), D.int .i64 (dInt (cellAt (elemAt (List.map api_Message.enc x0) (Int.toNat x8)) 2)), D.bool (dBool (cellAt (elemAt (List.map api_Message.enc x0) (Int.toNat x8)) 3)), D.int .i64 (dInt (cellAt (elemAt (List.map api_Message.enc x0) (Int.toNat x8)) 4)), D.int .i64 (dInt (cellAt (elemAt (List.map api_Message.enc x0) (Int.toNat x8)) 5)), D.str (dStr (cellAt (elemAt (List.map api_Message.enc x0) (Int.toNat x8)) 6)), D.int .i64 (dInt (cellAt (elemAt (List.map api_Message.enc x0) (Int.toNat x8)) 7)), D.sl api_Prop.ks (dSl (cellAt (elemAt (List.map api_Message.enc x0) (Int.toNat x8)) 8))]]))) none) none) (
    cond (decide (0 ≤ x8) && decide (x8 < (List.length (List.map api_Message.enc x0) : Int))) (
     cond (decide ((List.length (List.map api_Message.enc w3006) + List.length [[D.str (dStr (cellAt (elemAt (List.map api_Message.enc x0) (Int.toNat x8)) 0)), D.str (dStr (cellAt (elemAt (List.map api_Message.enc x0) (Int.toNat x8)) 1)), D.int .i64 (dInt (cellAt (elemAt (List.map api_Message.enc x0) (Int.toNat x8)) 2)), D.bool (dBool (cellAt (elemAt (List.map api_Message.enc x0) (Int.toNat x8)) 3)), D.int .i64 (dInt (cellAt (elemAt (List.map api_Message.enc x0) (Int.toNat x8)) 4)), D.int .i64 (dInt (cellAt (elemAt (List.map api_Message.enc x0) (Int.toNat x8)) 5)), D.str (dStr (cellAt (elemAt (List.map api_Message.enc x0) (Int.toNat x8)) 6)), D.int .i64 (dInt (cellAt (elemAt (List.map api_Message.enc x0) (Int.toNat x8)) 7)), D.sl api_Prop.ks (dSl (cellAt (elemAt (List.map api_Message.enc x0) (Int.toNat x8)) 8))]]) * 112 ≤ 140737488355328)) (
      R21_3 (C21 Γ γ25) Λ2 J (List.map api_Message.enc x0) x1 (IntKind.wrap .i64 (x8 + 1)) (((List.map api_Message.enc w3006) ++ [[D.str (dStr (cellAt (elemAt (List.map api_Message.enc x0) (Int.toNat x8)) 0)), D.str (dStr (cellAt (elemAt (List.map api_Message.enc x0) (Int.toNat x8)) 1)), D.int .i64 (dInt (cellAt (elemAt (List.map api_Message.enc x0) (Int.toNat x8)) 2)), D.bool (dBool (cellAt (elemAt (List.map api_Message.enc x0) (Int.toNat x8)) 3)), D.int .i64 (dInt (cellAt (elemAt (List.map api_Message.enc x0) (Int.toNat x8)) 4)), D.int .i64 (dInt (cellAt (elemAt (List.map api_Message.enc x0) (Int.toNat x8)) 5)), D.str (dStr (cellAt (elemAt (List.map api_Message.enc x0) (Int.toNat x8)) 6)), D.int .i64 (dInt (cellAt (elemAt (List.map api_Message.enc x0) (Int.toNat x8)) 7)), D.sl api_Prop.ks (dSl (cellAt (elemAt (List.map api_Message.enc x0) (Int.toNat x8)) 8))]])) (List.map api_Message.enc w3007)) none) none)) none) (
  (some (.ret [.row 0, .row 1] [] [⟨api_Message.ks, 25, 112, (List.map api_Message.enc w3006)⟩, ⟨api_Message.ks, 25, 112, (List.map api_Message.enc w3007)⟩]))) := by kernel_rfl
abbrev X21 : CFun := C21 (callG SE good) (callT SE good 25 brokerref05_Expired_out)
theorem Cr21 : C21 (callG SE good) (callT SE good 25 brokerref05_Expired_out) = bindC (callG SE good) := by unfold C21; rw [updC_real (fun _ h => h)]
noncomputable abbrev Q21_3 (a0 : (List (List D))) (a1 : Int) (a2 : Int) (a3 : (List (List D))) (a4 : (List (List D))) : Res := R21_3 X21 (lam2 SE (callG SE good) (SE.hl 21) (SE.hr 21)) (J0 SE X21) a0 a1 a2 a3 a4
theorem brokerref17_Expire_l3_ok : ∀ (fu : Nat) (x0 : (List api_Message)) (x1 : Int) (x8 : Int) (w3006 : (List api_Message)) (w3007 : (List api_Message)), Le (Option.map brokerref17_Expire_out (brokerref17_Expire_l3 fu x0 x1 x8 w3006 w3007)) (Q21_3 (List.map api_Message.enc x0) x1 x8 (List.map api_Message.enc w3006) (List.map api_Message.enc w3007)) := by
  intro fu
  induction fu with
  | zero => intros; exact le_none
  | succ fu ih =>
    intro x0 x1 x8 w3006 w3007
    refine Le.trans ?_ (le_of_eq ((lab_realC Cr21).trans (T21_3 _ _ _ _  x0 x1 x8 w3006 w3007)).symm)
    unfold brokerref17_Expire_l3
    refine le_cond (by simp only [EN]) (fun _ => ?_) (fun _ => ?_)
    · skip
      refine le_cond (by simp only [EN]) (fun _ => ?_) (fun _ => le_none)
      refine le_call (good := good) (fun y => ⟨y, rfl⟩) brokerref05_Expired_inj (by first | (simp only [EN]; exact brokerref05_Expired_ok (List.getD x0 (Int.toNat x8) default) x1) | exact brokerref05_Expired_ok (List.getD x0 (Int.toNat x8) default) x1) (fun r0 _ => ?_)
      refine le_cond rfl (fun _ => ?_) (fun _ => ?_)
      · skip
        refine le_cond (by simp only [EN]) (fun _ => ?_) (fun _ => le_none)
        refine le_cond (by simp only [EN]) (fun _ => ?_) (fun _ => le_none)
        first | (simp only [EN]; exact ih x0 x1 (IntKind.wrap .i64 (x8 + 1)) w3006 (w3007 ++ [(List.getD x0 (Int.toNat x8) default)])) | exact ih x0 x1 (IntKind.wrap .i64 (x8 + 1)) w3006 (w3007 ++ [(List.getD x0 (Int.toNat x8) default)])
      · skip
        refine le_cond (by simp only [EN]) (fun _ => ?_) (fun _ => le_none)
        refine le_cond (by simp only [EN]) (fun _ => ?_) (fun _ => le_none)
        first | (simp only [EN]; exact ih x0 x1 (IntKind.wrap .i64 (x8 + 1)) (w3006 ++ [(List.getD x0 (Int.toNat x8) default)]) w3007) | exact ih x0 x1 (IntKind.wrap .i64 (x8 + 1)) (w3006 ++ [(List.getD x0 (Int.toNat x8) default)]) w3007
    · skip
      exact le_ret (by first | rfl | (simp only [EN, brokerref17_Expire_out]; done) | (simp only [EN, brokerref17_Expire_out]; rfl))
theorem brokerref17_Expire_ok (p0 : (List api_Message)) (p1 : Int) : Le (Option.map brokerref17_Expire_out (brokerref17_Expire p0 p1)) (callW SE 21 [.d (.sl api_Message.ks (List.map api_Message.enc p0)), .d (.int .i64 p1)] [] []) := by
  refine le_bodyC Cr21 ?_
  refine Le.trans ?_ (le_of_eq (T21 _ _ _ _  p0 p1).symm)
  unfold brokerref17_Expire
  first | (simp only [EN]; exact brokerref17_Expire_l3_ok fuel p0 p1 0 ([] : List api_Message) ([] : List api_Message)) | exact brokerref17_Expire_l3_ok fuel p0 p1 0 ([] : List api_Message) ([] : List api_Message)
def C8 (Γ : Fun) (γ9 : Gm (Bool)) (γ10 : Gm (Bool)) (γ20 : Gm ((List api_Message) × (List api_Message))) (γ21 : Gm ((List api_Message) × (List api_Message))) (γ13 : Gm (Bool)) : CFun := updC (updC (updC (updC (updC (bindC Γ) 9 brokerlaw17_few_out γ9) 10 brokerlaw17_awake_out γ10) 20 slow_Expire_out γ20) 21 brokerref17_Expire_out γ21) 13 brokerref17_Same_out γ13
theorem T8 (Γ : Fun) (γ9 : Gm (Bool)) (γ10 : Gm (Bool)) (γ20 : Gm ((List api_Message) × (List api_Message))) (γ21 : Gm ((List api_Message) × (List api_Message))) (γ13 : Gm (Bool)) (Λ2 J : Lam) (p0 : (List api_Message)) (p1 : Int) : bodyC SE (C8 Γ γ9 γ10 γ20 γ21 γ13) Λ2 J 8 [.d (.sl api_Message.ks (List.map api_Message.enc p0)), .d (.int .i64 p1)] [] [] =
  γ9 [.d (.sl api_Message.ks (List.map api_Message.enc p0))] [] [] fun r0 =>
  cond (!r0) (
   γ10 [] [] [] fun r1 =>
   (some (.ret [.d (.bool r1)] [] []))) (
  γ20 [.d (.sl api_Message.ks (List.map api_Message.enc p0)), .d (.int .i64 p1)] [] [] fun r2 =>
  γ21 [.d (.sl api_Message.ks (List.map api_Message.enc p0)), .d (.int .i64 p1)] [] [] fun r3 =>
  γ10 [] [] [] fun r4 =>
  cond r4 (
   γ13 [.d (.sl api_Message.ks (List.map api_Message.enc r2.1)), .d (.sl api_Message.ks (List.map api_Message.enc r3.1))] [] [] fun r5 =>
   cond r5 (
    γ13 [.d (.sl api_Message.ks (List.map api_Message.enc r2.2)), .d (.sl api_Message.ks (List.map api_Message.enc r3.2))] [] [] fun r6 =>
    (some (.ret [.d (.bool r6)] [] []))) (
   (some (.ret [.d (.bool false)] [] [])))) (
  (some (.ret [.d (.bool false)] [] [])))) := by kernel_rfl
abbrev X8 : CFun := C8 (callG SE good) (callT SE good 9 brokerlaw17_few_out) (callT SE good 10 brokerlaw17_awake_out) (callT SE good 20 slow_Expire_out) (callT SE good 21 brokerref17_Expire_out) (callT SE good 13 brokerref17_Same_out)
theorem Cr8 : C8 (callG SE good) (callT SE good 9 brokerlaw17_few_out) (callT SE good 10 brokerlaw17_awake_out) (callT SE good 20 slow_Expire_out) (callT SE good 21 brokerref17_Expire_out) (callT SE good 13 brokerref17_Same_out) = bindC (callG SE good) := by unfold C8; rw [updC_real (fun _ h => h), updC_real (fun _ h => h), updC_real (fun _ h => h), updC_real (fun _ h => h), updC_real (fun _ h => h)]
theorem brokerlaw17_SlowExpires_ok (p0 : (List api_Message)) (p1 : Int) : Le (Option.map brokerlaw17_SlowExpires_out (brokerlaw17_SlowExpires p0 p1)) (callW SE 8 [.d (.sl api_Message.ks (List.map api_Message.enc p0)), .d (.int .i64 p1)] [] []) := by
  refine le_bodyC Cr8 ?_
  refine Le.trans ?_ (le_of_eq (T8 _ _ _ _ _ _ _ _  p0 p1).symm)
  unfold brokerlaw17_SlowExpires
  refine le_call (good := good) (fun y => ⟨y, rfl⟩) brokerlaw17_few_inj (brokerlaw17_few_ok p0) (fun r0 _ => ?_)
  refine le_cond rfl (fun _ => ?_) (fun _ => ?_)
  · skip
    refine le_call (good := good) (fun y => ⟨y, rfl⟩) brokerlaw17_awake_inj (brokerlaw17_awake_ok) (fun r1 _ => ?_)
    exact le_ret (by first | rfl | (simp only [EN, brokerlaw17_SlowExpires_out]; done) | (simp only [EN, brokerlaw17_SlowExpires_out]; rfl))
  · skip
    refine le_call (good := good) (fun y => ⟨y, rfl⟩) slow_Expire_inj (slow_Expire_ok p0 p1) (fun r2 _ => ?_)
    refine le_call (good := good) (fun y => ⟨y, rfl⟩) brokerref17_Expire_inj (brokerref17_Expire_ok p0 p1) (fun r3 _ => ?_)
    refine le_call (good := good) (fun y => ⟨y, rfl⟩) brokerlaw17_awake_inj (brokerlaw17_awake_ok) (fun r4 _ => ?_)
    refine le_cond rfl (fun _ => ?_) (fun _ => ?_)
    · skip
      refine le_call (good := good) (fun y => ⟨y, rfl⟩) brokerref17_Same_inj (brokerref17_Same_ok r2.1 r3.1) (fun r5 _ => ?_)
      refine le_cond rfl (fun _ => ?_) (fun _ => ?_)
      · skip
        refine le_call (good := good) (fun y => ⟨y, rfl⟩) brokerref17_Same_inj (brokerref17_Same_ok r2.2 r3.2) (fun r6 _ => ?_)
        exact le_ret (by first | rfl | (simp only [EN, brokerlaw17_SlowExpires_out]; done) | (simp only [EN, brokerlaw17_SlowExpires_out]; rfl))
      · skip
        exact le_ret (by first | rfl | (simp only [EN, brokerlaw17_SlowExpires_out]; done) | (simp only [EN, brokerlaw17_SlowExpires_out]; rfl))
    · skip
      exact le_ret (by first | rfl | (simp only [EN, brokerlaw17_SlowExpires_out]; done) | (simp only [EN, brokerlaw17_SlowExpires_out]; rfl))
end Te
end PX
