import Derived.Test.YtcfpheihkbkloaaGreatDoorTre2
set_option linter.unusedVariables false
set_option linter.unusedSimpArgs false
set_option linter.unusedVariables false
set_option linter.unusedSimpArgs false
set_option maxRecDepth 100000
noncomputable section
namespace PX
open Go
open Md
namespace Te
def C12 (Γ : Fun) (γ27 : Gm (Bool)) : CFun := updC (bindC Γ) 27 brokerref06_Same_out γ27
def R12_4 (C : CFun) (Λ2 J : Lam) (a0 : (List (List D))) (a1 : (List (List D))) (a2 : Int) : Res := lab SE C Λ2 J 12 0 [1, 1, 0, 1, 0] (stoOf [(0, .d (.sl api_Packet.ks a0)), (1, .d (.sl api_Packet.ks a1)), (5, .d (.int .i64 a2))] [] [] [] [])
theorem T12 (Γ : Fun) (γ27 : Gm (Bool)) (Λ2 J : Lam) (p0 : (List api_Packet)) (p1 : (List api_Packet)) : bodyC SE (C12 Γ γ27) Λ2 J 12 [.d (.sl api_Packet.ks (List.map api_Packet.enc p0)), .d (.sl api_Packet.ks (List.map api_Packet.enc p1))] [] [] =
 cond ((List.length (List.map api_Packet.enc p0) : Int) != (List.length (List.map api_Packet.enc p1) : Int)) (
 (some (.ret [.d (.bool false)] [] []))) (
 R12_4 (C12 Γ γ27) Λ2 J (List.map api_Packet.enc p0) (List.map api_Packet.enc p1) 0) := by kernel_rfl
theorem T12_4 (Γ : Fun) (γ27 : Gm (Bool)) (Λ2 J : Lam) (x0 : (List api_Packet)) (x1 : (List api_Packet)) (x5 : Int) : labU SE (C12 Γ γ27) Λ2 J 12 0 [1, 1, 0, 1, 0] (stoOf [(0, .d (.sl api_Packet.ks (List.map api_Packet.enc x0))), (1, .d (.sl api_Packet.ks (List.map api_Packet.enc x1))), (5, .d (.int .i64 x5))] [] [] [] []) =
 cond (decide (x5 < (List.length (List.map api_Packet.enc x0) : Int))) (
 cond (decide (0 ≤ x5) && decide (x5 < (List.length (List.map api_Packet.enc x0) : Int))) (
  cond (decide (0 ≤ x5) && decide (x5 < (List.length (List.map api_Packet.enc x1) : Int))) (
  γ27 [.agg [.d (.int .i64 (dInt (cellAt (elemAt (List.map api_Packet.enc x0) (Int.toNat x5)) 0))), .d (.int .i64 (dInt (cellAt (elemAt (List.map api_Packet.enc x0) (Int.toNat x5)) 1))), .d (.bool (dBool (cellAt (elemAt (List.map api_Packet.enc x0) (Int.toNat x5)) 2))), .d (.str (dStr (cellAt (elemAt (List.map api_Packet.enc x0) (Int.toNat x5)) 3))), .d (.str (dStr (cellAt (elemAt (List.map api_Packet.enc x0) (Int.toNat x5)) 4))), .d (.int .i64 (dInt (cellAt (elemAt (List.map api_Packet.enc x0) (Int.toNat x5)) 5))), .d (.bool (dBool (cellAt (elemAt (List.map api_Packet.enc x0) (Int.toNat x5)) 6))), .d (.int .i64 (dInt (cellAt (elemAt (List.map api_Packet.enc x0) (Int.toNat x5)) 7))), .d (.int .i64 (dInt (cellAt (elemAt (List.map api_Packet.enc x0) (Int.toNat x5)) 8))), .d (.str (dStr (cellAt (elemAt (List.map api_Packet.enc x0) (Int.toNat x5)) 9))), .d (.int .i64 (dInt (cellAt (elemAt (List.map api_Packet.enc x0) (Int.toNat x5)) 10))), .d (.sl api_Prop.ks (dSl (cellAt (elemAt (List.map api_Packet.enc x0) (Int.toNat x5)) 11))), .d (.str (dStr (cellAt (elemAt (List.map api_Packet.enc x0) (Int.toNat x5)) 12))), .d (.str (dStr (cellAt (elemAt (List.map api_Packet.enc x0) (Int.toNat x5)) 13))), .d (.bool (dBool (cellAt (elemAt (List.map api_Packet.enc x0) (Int.toNat x5)) 14))), .d (.int .i64 (dInt (cellAt (elemAt (List.map api_Packet.enc x0) (Int.toNat x5)) 15))), .d (.int .i64 (dInt (cellAt (elemAt (List.map api_Packet.enc x0) (Int.toNat x5)) 16))), .d (.int .i64 (dInt (cellAt (elemAt (List.map api_Packet.enc x0) (Int.toNat x5)) 17))), .d (.bool (dBool (cellAt (elemAt (List.map api_Packet.enc x0) (Int.toNat x5)) 18))), .d (.int .i64 (dInt (cellAt (elemAt (List.map api_Packet.enc x0) (Int.toNat x5)) 19))), .d (.str (dStr (cellAt (elemAt (List.map api_Packet.enc x0) (Int.toNat x5)) 20))), .d (.str (dStr (cellAt (elemAt (List.map api_Packet.enc x0) (Int.toNat x5)) 21))), .d (.int .i64 (dInt (cellAt (elemAt (List.map api_Packet.enc x0) (Int.toNat x5)) 22))), .d (.bool (dBool (cellAt (elemAt (List.map api_Packet.enc x0) (Int.toNat x5)) 23))), .d (.int .i64 (dInt (cellAt (elemAt (List.map api_Packet.enc x0) (Int.toNat x5)) 24))), .d (.int .i64 (dInt (cellAt (elemAt (List.map api_Packet.enc x0) (Int.toNat x5)) 25))), .d (.str (dStr (cellAt (elemAt (List.map api_Packet.enc x0) (Int.toNat x5)) 26))), .d (.int .i64 (dInt (cellAt (elemAt (List.map api_Packet.enc x0) (Int.toNat x5)) 27))), .d (.sl api_Prop.ks (dSl (cellAt (elemAt (List.map api_Packet.enc x0) (Int.toNat x5)) 28))), .d (.bool (dBool (cellAt (elemAt (List.map api_Packet.enc x0) (Int.toNat x5)) 29))), .d (.int .i64 (dInt (cellAt (elemAt (List.map api_Packet.enc x0) (Int.toNat x5)) 30))), .d (.sl api_Sub.ks (dSl (cellAt (elemAt (List.map api_Packet.enc x0) (Int.toNat x5)) 31))), .d (.sl [.str] (dSl (cellAt (elemAt (List.map api_Packet.enc x0) (Int.toNat x5)) 32))), .d (.sl [.int .i64] (dSl (cellAt (elemAt (List.map api_Packet.enc x0) (Int.toNat x5)) 33)))], .agg [.d (.int .i64 (dInt (cellAt (elemAt (List.map api_Packet.enc x1) (Int.toNat x5)) 0))), .d (.int .i64 (dInt (cellAt (elemAt (List.map api_Packet.enc x1) (Int.toNat x5)) 1))), .d (.bool (dBool (cellAt (elemAt (List.map api_Packet.enc x1) (Int.toNat x5)) 2))), .d (.str (dStr (cellAt (elemAt (List.map api_Packet.enc x1) (Int.toNat x5)) 3))), .d (.str (dStr (cellAt (elemAt (List.map api_Packet.enc x1) (Int.toNat x5)) 4))), .d (.int .i64 (dInt (cellAt (elemAt (List.map api_Packet.enc x1) (Int.toNat x5)) 5))), .d (.bool (dBool (cellAt (elemAt (List.map api_Packet.enc x1) (Int.toNat x5)) 6))), .d (.int .i64 (dInt (cellAt (elemAt (List.map api_Packet.enc x1) (Int.toNat x5)) 7))), .d (.int .i64 (dInt (cellAt (elemAt (List.map api_Packet.enc x1) (Int.toNat x5)) 8))), .d (.str (dStr (cellAt (elemAt (List.map api_Packet.enc x1) (Int.toNat x5)) 9))), .d (.int .i64 (dInt (cellAt (elemAt (List.map api_Packet.enc x1) (Int.toNat x5)) 10))), .d (.sl api_Prop.ks (dSl (cellAt (elemAt (List.map api_Packet.enc x1) (Int.toNat x5)) 11))), .d (.str (dStr (cellAt (elemAt (List.map api_Packet.enc x1) (Int.toNat x5)) 12))), .d (.str (dStr (cellAt (elemAt (List.map api_Packet.enc x1) (Int.toNat x5)) 13))), .d (.bool (dBool (cellAt (elemAt (List.map api_Packet.enc x1) (Int.toNat x5)) 14))), .d (.int .i64 (dInt (cellAt (elemAt (List.map api_Packet.enc x1) (Int.toNat x5)) 15))), .d (.int .i64 (dInt (cellAt (elemAt (List.map api_Packet.enc x1) (Int.toNat x5)) 16))), .d (.int .i64 (dInt (cellAt (elemAt (List.map api_Packet.enc x1) (Int.toNat x5)) 17))), .d (.bool (dBool (cellAt (elemAt (List.map api_Packet.enc x1) (Int.toNat x5)) 18))), .d (.int .i64 (dInt (cellAt (elemAt (List.map api_Packet.enc x1) (Int.toNat x5)) 19))), .d (.str (dStr (cellAt (elemAt (List.map api_Packet.enc x1) (Int.toNat x5)) 20))), .d (.str (dStr (cellAt (elemAt (List.map api_Packet.enc x1) (Int.toNat x5)) 21))), .d (.int .i64 (dInt (cellAt (elemAt (List.map api_Packet.enc x1) (Int.toNat x5)) 22))), .d (.bool (dBool (cellAt (elemAt (List.map api_Packet.enc x1) (Int.toNat x5)) 23))), .d (.int .i64 (dInt (cellAt (elemAt (List.map api_Packet.enc x1) (Int.toNat x5)) 24))), .d (.int .i64 (dInt (cellAt (elemAt (List.map api_Packet.enc x1) (Int.toNat x5)) 25))), .d (.str (dStr (cellAt (elemAt (List.map api_Packet.enc x1) (Int.toNat x5)) 26))), .d (.int .i64 (dInt (cellAt (elemAt (List.map api_Packet.enc x1) (Int.toNat x5)) 27))), .d (.sl api_Prop.ks (dSl (cellAt (elemAt (List.map api_Packet.enc x1) (Int.toNat x5)) 28))), .d (.bool (dBool (cellAt (elemAt (List.map api_Packet.enc x1) (Int.toNat x5)) 29))), .d (.int .i64 (dInt (cellAt (elemAt (List.map api_Packet.enc x1) (Int.toNat x5)) 30))), .d (.sl api_Sub.ks (dSl (cellAt (elemAt (List.map api_Packet.enc x1) (Int.toNat x5)) 31))), .d (.sl [.str] (dSl (cellAt (elemAt (List.map api_Packet.enc x1) (Int.toNat x5)) 32))), .d (.sl [.int .i64] (dSl (cellAt (elemAt (List.map api_Packet.enc x1) (Int.toNat x5)) 33)))]] [] [] fun r0 =>
  cond (!r0) (
   (some (.ret [.d (.bool false)] [] []))) (
  R12_4 (C12 Γ γ27) Λ2 J (List.map api_Packet.enc x0) (List.map api_Packet.enc x1) (IntKind.wrap .i64 (x5 + 1)))) none) none) (
 (some (.ret [.d (.bool true)] [] []))) := by kernel_rfl
abbrev X12 : CFun := C12 (callG SE good) (callT SE good 27 brokerref06_Same_out)
theorem Cr12 : C12 (callG SE good) (callT SE good 27 brokerref06_Same_out) = bindC (callG SE good) := by unfold C12; rw [updC_real (fun _ h => h)]
noncomputable abbrev Q12_4 (a0 : (List (List D))) (a1 : (List (List D))) (a2 : Int) : Res := R12_4 X12 (lam2 SE (callG SE good) (SE.hl 12) (SE.hr 12)) (J0 SE X12) a0 a1 a2
theorem brokerlaw15_packets_l4_ok : ∀ (fu : Nat) (x0 : (List api_Packet)) (x1 : (List api_Packet)) (x5 : Int), Le (Option.map brokerlaw15_packets_out (brokerlaw15_packets_l4 fu x0 x1 x5)) (Q12_4 (List.map api_Packet.enc x0) (List.map api_Packet.enc x1) x5) := by
 intro fu
 induction fu with
 | zero => intros; exact le_none
 | succ fu ih =>
  intro x0 x1 x5
  refine Le.trans ?_ (le_of_eq ((lab_realC Cr12).trans (T12_4 _ _ _ _  x0 x1 x5)).symm)
  unfold brokerlaw15_packets_l4
  refine le_cond (by simp only [EN]) (fun _ => ?_) (fun _ => ?_)
  ·refine le_cond (by simp only [EN]) (fun _ => ?_) (fun _ => le_none)
   refine le_cond (by simp only [EN]) (fun _ => ?_) (fun _ => le_none)
   refine le_call (good := good) (fun y => ⟨y, rfl⟩) brokerref06_Same_inj (by first | (simp only [EN]; exact brokerref06_Same_ok (List.getD x0 (Int.toNat x5) default) (List.getD x1 (Int.toNat x5) default)) | exact brokerref06_Same_ok (List.getD x0 (Int.toNat x5) default) (List.getD x1 (Int.toNat x5) default)) (fun r0 _ => ?_)
   refine le_cond rfl (fun _ => ?_) (fun _ => ?_)
   ·exact le_ret (by first | rfl | simp only [EN, brokerlaw15_packets_out] <;> rfl)
   ·exact ih x0 x1 (IntKind.wrap .i64 (x5 + 1))
  ·exact le_ret (by first | rfl | simp only [EN, brokerlaw15_packets_out] <;> rfl)
theorem brokerlaw15_packets_ok (p0 : (List api_Packet)) (p1 : (List api_Packet)) : Le (Option.map brokerlaw15_packets_out (brokerlaw15_packets p0 p1)) (callW SE 12 [.d (.sl api_Packet.ks (List.map api_Packet.enc p0)), .d (.sl api_Packet.ks (List.map api_Packet.enc p1))] [] []) := by
 refine le_bodyC Cr12 rfl ?_
 refine Le.trans ?_ (le_of_eq (T12 _ _ _ _  p0 p1).symm)
 unfold brokerlaw15_packets
 refine le_cond (by simp only [EN]) (fun _ => ?_) (fun _ => ?_)
 ·exact le_ret (by first | rfl | simp only [EN, brokerlaw15_packets_out] <;> rfl)
 ·exact brokerlaw15_packets_l4_ok fuel p0 p1 0
def C13 (Γ : Fun) (γ16 : Gm (api_Inbox × api_Packet × Int)) (γ28 : Gm (api_Inbox × api_Packet × Int)) (γ11 : Gm (Bool)) (γ27 : Gm (Bool)) (γ9 : Gm (api_Inbox × Bool × (List api_Packet) × Int)) (γ10 : Gm (api_Inbox × Bool × (List api_Packet) × Int)) (γ12 : Gm (Bool)) : CFun := updC (updC (updC (updC (updC (updC (updC (bindC Γ) 16 inbound_Release_out γ16) 28 brokerref15_Release_out γ28) 11 brokerref15_Same_out γ11) 27 brokerref06_Same_out γ27) 9 inbound_Accept_out γ9) 10 brokerref15_Accept_out γ10) 12 brokerlaw15_packets_out γ12
theorem T13 (Γ : Fun) (γ16 : Gm (api_Inbox × api_Packet × Int)) (γ28 : Gm (api_Inbox × api_Packet × Int)) (γ11 : Gm (Bool)) (γ27 : Gm (Bool)) (γ9 : Gm (api_Inbox × Bool × (List api_Packet) × Int)) (γ10 : Gm (api_Inbox × Bool × (List api_Packet) × Int)) (γ12 : Gm (Bool)) (Λ2 J : Lam) (p0 : api_Inbox) (p1 : api_Packet) : bodyC SE (C13 Γ γ16 γ28 γ11 γ27 γ9 γ10 γ12) Λ2 J 13 [api_Inbox.av p0, api_Packet.av p1] [] [] =
 cond (p1.Kind == 6) (
 γ16 [api_Inbox.av p0, api_Packet.av p1] [] [] fun r0 =>
 γ28 [api_Inbox.av p0, api_Packet.av p1] [] [] fun r1 =>
 cond (r1.2.2 != 0) (
  (some (.ret [api_Inbox.av p0, .d (.bool false), .d (.bool (r0.2.2 == r1.2.2))] [] []))) (
 cond (r0.2.2 == r1.2.2) (
  γ11 [api_Inbox.av r0.1, api_Inbox.av r1.1] [] [] fun r2 =>
  cond r2 (
  γ27 [api_Packet.av r0.2.1, api_Packet.av r1.2.1] [] [] fun r3 =>
  (some (.ret [api_Inbox.av r1.1, .d (.bool false), .d (.bool r3)] [] []))) (
  (some (.ret [api_Inbox.av r1.1, .d (.bool false), .d (.bool false)] [] [])))) (
 (some (.ret [api_Inbox.av r1.1, .d (.bool false), .d (.bool false)] [] []))))) (
 γ9 [api_Inbox.av p0, api_Packet.av p1] [] [] fun r4 =>
 γ10 [api_Inbox.av p0, api_Packet.av p1] [] [] fun r5 =>
 cond (r5.2.2.2 != 0) (
 (some (.ret [api_Inbox.av p0, .d (.bool false), .d (.bool (r4.2.2.2 == r5.2.2.2))] [] []))) (
 cond (r4.2.2.2 == r5.2.2.2) (
 cond (r4.2.1 == r5.2.1) (
  γ11 [api_Inbox.av r4.1, api_Inbox.av r5.1] [] [] fun r6 =>
  cond r6 (
  γ12 [.d (.sl api_Packet.ks (List.map api_Packet.enc r4.2.2.1)), .d (.sl api_Packet.ks (List.map api_Packet.enc r5.2.2.1))] [] [] fun r7 =>
  (some (.ret [api_Inbox.av r5.1, .d (.bool r4.2.1), .d (.bool r7)] [] []))) (
  (some (.ret [api_Inbox.av r5.1, .d (.bool r4.2.1), .d (.bool false)] [] [])))) (
 (some (.ret [api_Inbox.av r5.1, .d (.bool r4.2.1), .d (.bool false)] [] [])))) (
 (some (.ret [api_Inbox.av r5.1, .d (.bool r4.2.1), .d (.bool false)] [] []))))) := by kernel_rfl
abbrev X13 : CFun := C13 (callG SE good) (callT SE good 16 inbound_Release_out) (callT SE good 28 brokerref15_Release_out) (callT SE good 11 brokerref15_Same_out) (callT SE good 27 brokerref06_Same_out) (callT SE good 9 inbound_Accept_out) (callT SE good 10 brokerref15_Accept_out) (callT SE good 12 brokerlaw15_packets_out)
theorem Cr13 : C13 (callG SE good) (callT SE good 16 inbound_Release_out) (callT SE good 28 brokerref15_Release_out) (callT SE good 11 brokerref15_Same_out) (callT SE good 27 brokerref06_Same_out) (callT SE good 9 inbound_Accept_out) (callT SE good 10 brokerref15_Accept_out) (callT SE good 12 brokerlaw15_packets_out) = bindC (callG SE good) := by unfold C13; rw [updC_real (fun _ h => h), updC_real (fun _ h => h), updC_real (fun _ h => h), updC_real (fun _ h => h), updC_real (fun _ h => h), updC_real (fun _ h => h), updC_real (fun _ h => h)]
theorem brokerlaw15_step_ok (p0 : api_Inbox) (p1 : api_Packet) : Le (Option.map brokerlaw15_step_out (brokerlaw15_step p0 p1)) (callW SE 13 [api_Inbox.av p0, api_Packet.av p1] [] []) := by
 refine le_bodyC Cr13 rfl ?_
 refine Le.trans ?_ (le_of_eq (T13 _ _ _ _ _ _ _ _ _ _  p0 p1).symm)
 unfold brokerlaw15_step
 refine le_cond rfl (fun _ => ?_) (fun _ => ?_)
 ·refine le_call (good := good) (fun y => ⟨y, rfl⟩) inbound_Release_inj (inbound_Release_ok p0 p1) (fun r0 _ => ?_)
  refine le_call (good := good) (fun y => ⟨y, rfl⟩) brokerref15_Release_inj (brokerref15_Release_ok p0 p1) (fun r1 _ => ?_)
  refine le_cond rfl (fun _ => ?_) (fun _ => ?_)
  ·exact le_ret (by first | rfl | simp only [EN, brokerlaw15_step_out] <;> rfl)
  ·refine le_cond rfl (fun _ => ?_) (fun _ => ?_)
   ·refine le_call (good := good) (fun y => ⟨y, rfl⟩) brokerref15_Same_inj (brokerref15_Same_ok r0.1 r1.1) (fun r2 _ => ?_)
    refine le_cond rfl (fun _ => ?_) (fun _ => ?_)
    ·refine le_call (good := good) (fun y => ⟨y, rfl⟩) brokerref06_Same_inj (brokerref06_Same_ok r0.2.1 r1.2.1) (fun r3 _ => ?_)
     exact le_ret (by first | rfl | simp only [EN, brokerlaw15_step_out] <;> rfl)
    ·exact le_ret (by first | rfl | simp only [EN, brokerlaw15_step_out] <;> rfl)
   ·exact le_ret (by first | rfl | simp only [EN, brokerlaw15_step_out] <;> rfl)
 ·refine le_call (good := good) (fun y => ⟨y, rfl⟩) inbound_Accept_inj (inbound_Accept_ok p0 p1) (fun r4 _ => ?_)
  refine le_call (good := good) (fun y => ⟨y, rfl⟩) brokerref15_Accept_inj (brokerref15_Accept_ok p0 p1) (fun r5 _ => ?_)
  refine le_cond rfl (fun _ => ?_) (fun _ => ?_)
  ·exact le_ret (by first | rfl | simp only [EN, brokerlaw15_step_out] <;> rfl)
  ·refine le_cond rfl (fun _ => ?_) (fun _ => ?_)
   ·refine le_cond rfl (fun _ => ?_) (fun _ => ?_)
    ·refine le_call (good := good) (fun y => ⟨y, rfl⟩) brokerref15_Same_inj (brokerref15_Same_ok r4.1 r5.1) (fun r6 _ => ?_)
     refine le_cond rfl (fun _ => ?_) (fun _ => ?_)
     ·refine le_call (good := good) (fun y => ⟨y, rfl⟩) brokerlaw15_packets_inj (brokerlaw15_packets_ok r4.2.2.1 r5.2.2.1) (fun r7 _ => ?_)
      exact le_ret (by first | rfl | simp only [EN, brokerlaw15_step_out] <;> rfl)
     ·exact le_ret (by first | rfl | simp only [EN, brokerlaw15_step_out] <;> rfl)
    ·exact le_ret (by first | rfl | simp only [EN, brokerlaw15_step_out] <;> rfl)
   ·exact le_ret (by first | rfl | simp only [EN, brokerlaw15_step_out] <;> rfl)
def C4 (Γ : Fun) (γ8 : Gm (Bool)) (γ13 : Gm (api_Inbox × Bool × Bool)) (γ14 : Gm (Int)) : CFun := updC (updC (updC (bindC Γ) 8 brokerlaw15_awake_out γ8) 13 brokerlaw15_step_out γ13) 14 inbound_Check_out γ14
def R4_5 (C : CFun) (Λ2 J : Lam) (a0 : (List (List D))) (a1 : Int) (a2 : Int) (a3 : Bool) (a4 : (List D)) : Res := lab SE C Λ2 J 4 0 [1, 1, 0, 1, 0, 0, 1, 0, 0, 0] (stoOf [(0, .d (.sl api_Packet.ks a0)), (3, .ptr 1000000000 0), (4, .d (.int .i64 a1)), (13, .d (.int .i64 a2)), (14, .d (.bool a3))] [⟨24, (List.map AV.d a4)⟩] [] [] [])
def R4_3 (C : CFun) (Λ2 J : Lam) (a0 : (List (List D))) (a1 : Int) (a2 : (List D)) : Res := lab SE C Λ2 J 4 0 [1, 1, 0, 1, 0] (stoOf [(0, .d (.sl api_Packet.ks a0)), (3, .ptr 1000000000 0), (4, .d (.int .i64 a1))] [⟨24, (List.map AV.d a2)⟩] [] [] [])
theorem T4 (Γ : Fun) (γ8 : Gm (Bool)) (γ13 : Gm (api_Inbox × Bool × Bool)) (γ14 : Gm (Int)) (Λ2 J : Lam) (p0 : (List api_Packet)) : bodyC SE (C4 Γ γ8 γ13 γ14) Λ2 J 4 [.d (.sl api_Packet.ks (List.map api_Packet.enc p0))] [] [] =
 R4_3 (C4 Γ γ8 γ13 γ14) Λ2 J (List.map api_Packet.enc p0) 0 [D.sl [.int .i64] (List.map (encI .i64) [])] := by kernel_rfl
theorem T4_5 (Γ : Fun) (γ8 : Gm (Bool)) (γ13 : Gm (api_Inbox × Bool × Bool)) (γ14 : Gm (Int)) (Λ2 J : Lam) (x0 : (List api_Packet)) (x4 : Int) (x13 : Int) (x14 : Bool) (b0 : api_Inbox) : labU SE (C4 Γ γ8 γ13 γ14) Λ2 J 4 0 [1, 1, 0, 1, 0, 0, 1, 0, 0, 0] (stoOf [(0, .d (.sl api_Packet.ks (List.map api_Packet.enc x0))), (3, .ptr 1000000000 0), (4, .d (.int .i64 x4)), (13, .d (.int .i64 x13)), (14, .d (.bool x14))] [⟨24, (List.map AV.d (api_Inbox.enc b0))⟩] [] [] []) =
 cond (decide (0 ≤ x4) && decide (x4 < (List.length (List.map api_Packet.enc x0) : Int))) (
 γ13 [api_Inbox.av b0, .agg [.d (.int .i64 (dInt (cellAt (elemAt (List.map api_Packet.enc x0) (Int.toNat x4)) 0))), .d (.int .i64 (dInt (cellAt (elemAt (List.map api_Packet.enc x0) (Int.toNat x4)) 1))), .d (.bool (dBool (cellAt (elemAt (List.map api_Packet.enc x0) (Int.toNat x4)) 2))), .d (.str (dStr (cellAt (elemAt (List.map api_Packet.enc x0) (Int.toNat x4)) 3))), .d (.str (dStr (cellAt (elemAt (List.map api_Packet.enc x0) (Int.toNat x4)) 4))), .d (.int .i64 (dInt (cellAt (elemAt (List.map api_Packet.enc x0) (Int.toNat x4)) 5))), .d (.bool (dBool (cellAt (elemAt (List.map api_Packet.enc x0) (Int.toNat x4)) 6))), .d (.int .i64 (dInt (cellAt (elemAt (List.map api_Packet.enc x0) (Int.toNat x4)) 7))), .d (.int .i64 (dInt (cellAt (elemAt (List.map api_Packet.enc x0) (Int.toNat x4)) 8))), .d (.str (dStr (cellAt (elemAt (List.map api_Packet.enc x0) (Int.toNat x4)) 9))), .d (.int .i64 (dInt (cellAt (elemAt (List.map api_Packet.enc x0) (Int.toNat x4)) 10))), .d (.sl api_Prop.ks (dSl (cellAt (elemAt (List.map api_Packet.enc x0) (Int.toNat x4)) 11))), .d (.str (dStr (cellAt (elemAt (List.map api_Packet.enc x0) (Int.toNat x4)) 12))), .d (.str (dStr (cellAt (elemAt (List.map api_Packet.enc x0) (Int.toNat x4)) 13))), .d (.bool (dBool (cellAt (elemAt (List.map api_Packet.enc x0) (Int.toNat x4)) 14))), .d (.int .i64 (dInt (cellAt (elemAt (List.map api_Packet.enc x0) (Int.toNat x4)) 15))), .d (.int .i64 (dInt (cellAt (elemAt (List.map api_Packet.enc x0) (Int.toNat x4)) 16))), .d (.int .i64 (dInt (cellAt (elemAt (List.map api_Packet.enc x0) (Int.toNat x4)) 17))), .d (.bool (dBool (cellAt (elemAt (List.map api_Packet.enc x0) (Int.toNat x4)) 18))), .d (.int .i64 (dInt (cellAt (elemAt (List.map api_Packet.enc x0) (Int.toNat x4)) 19))), .d (.str (dStr (cellAt (elemAt (List.map api_Packet.enc x0) (Int.toNat x4)) 20))), .d (.str (dStr (cellAt (elemAt (List.map api_Packet.enc x0) (Int.toNat x4)) 21))), .d (.int .i64 (dInt (cellAt (elemAt (List.map api_Packet.enc x0) (Int.toNat x4)) 22))), .d (.bool (dBool (cellAt (elemAt (List.map api_Packet.enc x0) (Int.toNat x4)) 23))), .d (.int .i64 (dInt (cellAt (elemAt (List.map api_Packet.enc x0) (Int.toNat x4)) 24))), .d (.int .i64 (dInt (cellAt (elemAt (List.map api_Packet.enc x0) (Int.toNat x4)) 25))), .d (.str (dStr (cellAt (elemAt (List.map api_Packet.enc x0) (Int.toNat x4)) 26))), .d (.int .i64 (dInt (cellAt (elemAt (List.map api_Packet.enc x0) (Int.toNat x4)) 27))), .d (.sl api_Prop.ks (dSl (cellAt (elemAt (List.map api_Packet.enc x0) (Int.toNat x4)) 28))), .d (.bool (dBool (cellAt (elemAt (List.map api_Packet.enc x0) (Int.toNat x4)) 29))), .d (.int .i64 (dInt (cellAt (elemAt (List.map api_Packet.enc x0) (Int.toNat x4)) 30))), .d (.sl api_Sub.ks (dSl (cellAt (elemAt (List.map api_Packet.enc x0) (Int.toNat x4)) 31))), .d (.sl [.str] (dSl (cellAt (elemAt (List.map api_Packet.enc x0) (Int.toNat x4)) 32))), .d (.sl [.int .i64] (dSl (cellAt (elemAt (List.map api_Packet.enc x0) (Int.toNat x4)) 33)))]] [] [] fun r2 =>
 cond (!r2.2.2) (
  (some (.ret [.d (.bool false)] [] []))) (
 γ14 [api_Inbox.av r2.1] [] [] fun r3 =>
 cond (r3 != 0) (
  (some (.ret [.d (.bool false)] [] []))) (
 R4_3 (C4 Γ γ8 γ13 γ14) Λ2 J (List.map api_Packet.enc x0) (IntKind.wrap .i64 (x4 + 1)) (api_Inbox.enc r2.1)))) none := by kernel_rfl
theorem T4_3 (Γ : Fun) (γ8 : Gm (Bool)) (γ13 : Gm (api_Inbox × Bool × Bool)) (γ14 : Gm (Int)) (Λ2 J : Lam) (x0 : (List api_Packet)) (x4 : Int) (b0 : api_Inbox) : labU SE (C4 Γ γ8 γ13 γ14) Λ2 J 4 0 [1, 1, 0, 1, 0] (stoOf [(0, .d (.sl api_Packet.ks (List.map api_Packet.enc x0))), (3, .ptr 1000000000 0), (4, .d (.int .i64 x4))] [⟨24, (List.map AV.d (api_Inbox.enc b0))⟩] [] [] []) =
 cond (decide (x4 < (List.length (List.map api_Packet.enc x0) : Int))) (
 cond (decide (x4 < 60)) (
  R4_5 (C4 Γ γ8 γ13 γ14) Λ2 J (List.map api_Packet.enc x0) x4 x4 (decide (x4 < 60)) (api_Inbox.enc b0)) (
 γ8 [] [] [] fun r0 =>
 (some (.ret [.d (.bool r0)] [] [])))) (
 γ8 [] [] [] fun r1 =>
 (some (.ret [.d (.bool r1)] [] []))) := by kernel_rfl
abbrev X4 : CFun := C4 (callG SE good) (callT SE good 8 brokerlaw15_awake_out) (callT SE good 13 brokerlaw15_step_out) (callT SE good 14 inbound_Check_out)
theorem Cr4 : C4 (callG SE good) (callT SE good 8 brokerlaw15_awake_out) (callT SE good 13 brokerlaw15_step_out) (callT SE good 14 inbound_Check_out) = bindC (callG SE good) := by unfold C4; rw [updC_real (fun _ h => h), updC_real (fun _ h => h), updC_real (fun _ h => h)]
noncomputable abbrev Q4_5 (a0 : (List (List D))) (a1 : Int) (a2 : Int) (a3 : Bool) (a4 : (List D)) : Res := R4_5 X4 (lam2 SE (callG SE good) (SE.hl 4) (SE.hr 4)) (J0 SE X4) a0 a1 a2 a3 a4
noncomputable abbrev Q4_3 (a0 : (List (List D))) (a1 : Int) (a2 : (List D)) : Res := R4_3 X4 (lam2 SE (callG SE good) (SE.hl 4) (SE.hr 4)) (J0 SE X4) a0 a1 a2
theorem brokerlaw15_InboundRuns_j5_ok (k3 : (List api_Packet) → Int → api_Inbox → Option (Bool)) (hk3 : ∀ (x0 : (List api_Packet)) (x4 : Int) (b0 : api_Inbox), Le (Option.map brokerlaw15_InboundRuns_out (k3 x0 x4 b0)) (Q4_3 (List.map api_Packet.enc x0) x4 (api_Inbox.enc b0))) (x0 : (List api_Packet)) (x4 : Int) (x13 : Int) (x14 : Bool) (b0 : api_Inbox) : Le (Option.map brokerlaw15_InboundRuns_out (brokerlaw15_InboundRuns_j5 k3 x0 x4 x13 x14 b0)) (Q4_5 (List.map api_Packet.enc x0) x4 x13 x14 (api_Inbox.enc b0)) := by
 refine Le.trans ?_ (le_of_eq ((lab_realC Cr4).trans (T4_5 _ _ _ _ _ _  x0 x4 x13 x14 b0)).symm)
 unfold brokerlaw15_InboundRuns_j5
 refine le_cond (by simp only [EN]) (fun _ => ?_) (fun _ => le_none)
 refine le_call (good := good) (fun y => ⟨y, rfl⟩) brokerlaw15_step_inj (by first | (simp only [EN]; exact brokerlaw15_step_ok b0 (List.getD x0 (Int.toNat x4) default)) | exact brokerlaw15_step_ok b0 (List.getD x0 (Int.toNat x4) default)) (fun r2 _ => ?_)
 refine le_cond rfl (fun _ => ?_) (fun _ => ?_)
 ·exact le_ret (by first | rfl | simp only [EN, brokerlaw15_InboundRuns_out] <;> rfl)
 ·refine le_call (good := good) (fun y => ⟨y, rfl⟩) inbound_Check_inj (inbound_Check_ok r2.1) (fun r3 _ => ?_)
  refine le_cond rfl (fun _ => ?_) (fun _ => ?_)
  ·exact le_ret (by first | rfl | simp only [EN, brokerlaw15_InboundRuns_out] <;> rfl)
  ·exact hk3 x0 (IntKind.wrap .i64 (x4 + 1)) r2.1
theorem brokerlaw15_InboundRuns_l3_ok : ∀ (fu : Nat) (x0 : (List api_Packet)) (x4 : Int) (b0 : api_Inbox), Le (Option.map brokerlaw15_InboundRuns_out (brokerlaw15_InboundRuns_l3 fu x0 x4 b0)) (Q4_3 (List.map api_Packet.enc x0) x4 (api_Inbox.enc b0)) := by
 intro fu
 induction fu with
 | zero => intros; exact le_none
 | succ fu ih =>
  intro x0 x4 b0
  refine Le.trans ?_ (le_of_eq ((lab_realC Cr4).trans (T4_3 _ _ _ _ _ _  x0 x4 b0)).symm)
  unfold brokerlaw15_InboundRuns_l3
  refine le_cond (by simp only [EN]) (fun _ => ?_) (fun _ => ?_)
  ·refine le_cond rfl (fun _ => ?_) (fun _ => ?_)
   ·exact brokerlaw15_InboundRuns_j5_ok _ (ih) x0 x4 x4 (decide (x4 < 60)) b0
   ·refine le_call (good := good) (fun y => ⟨y, rfl⟩) brokerlaw15_awake_inj (brokerlaw15_awake_ok) (fun r0 _ => ?_)
    exact le_ret (by first | rfl | simp only [EN, brokerlaw15_InboundRuns_out] <;> rfl)
  ·refine le_call (good := good) (fun y => ⟨y, rfl⟩) brokerlaw15_awake_inj (brokerlaw15_awake_ok) (fun r1 _ => ?_)
   exact le_ret (by first | rfl | simp only [EN, brokerlaw15_InboundRuns_out] <;> rfl)
theorem brokerlaw15_InboundRuns_ok (p0 : (List api_Packet)) : Le (Option.map brokerlaw15_InboundRuns_out (brokerlaw15_InboundRuns p0)) (callW SE 4 [.d (.sl api_Packet.ks (List.map api_Packet.enc p0))] [] []) := by
 refine le_bodyC Cr4 rfl ?_
 refine Le.trans ?_ (le_of_eq (T4 _ _ _ _ _ _  p0).symm)
 unfold brokerlaw15_InboundRuns
 first | (simp only [EN]; exact brokerlaw15_InboundRuns_l3_ok fuel p0 0 (api_Inbox.mk ([] : List Int))) | exact brokerlaw15_InboundRuns_l3_ok fuel p0 0 (api_Inbox.mk ([] : List Int))
end Te
end PX
