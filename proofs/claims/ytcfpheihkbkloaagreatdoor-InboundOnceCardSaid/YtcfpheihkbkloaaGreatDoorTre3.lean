import Derived.Test.YtcfpheihkbkloaaGreatDoorTre2
set_option linter.unusedVariables false
set_option linter.unusedSimpArgs false
set_option linter.unusedVariables false
set_option linter.unusedSimpArgs false
set_option maxRecDepth 100000
noncomputable section
namespace PX
open Go
open Md
namespace Te
def C12 (Γ : Fun) (γ27 : Gm (Bool)) : CFun := updC (bindC Γ) 27 brokerref06_Same_out γ27
def R12_4 (C : CFun) (Λ2 J : Lam) (a0 : (List (List D))) (a1 : (List (List D))) (a2 : Int) : Res := lab SE C Λ2 J 12 0 [1, 1, 0, 1, 0] (stoOf [(0, .d (.sl api_Packet.ks a0)), (1, .d (.sl api_Packet.ks a1)), (5, .d (.int .i64 a2))] [] [] [] [])
theorem T12 (Γ : Fun) (γ27 : Gm (Bool)) (Λ2 J : Lam) (p0 : (List api_Packet)) (p1 : (List api_Packet)) : bodyC SE (C12 Γ γ27) Λ2 J 12 [.d (.sl api_Packet.ks (List.map api_Packet.enc p0)), .d (.sl api_Packet.ks (List.map api_Packet.enc p1))] [] [] =
 cond ((List.length (List.map api_Packet.enc p0) : Int) != (List.length (List.map api_Packet.enc p1) : Int)) (
 (some (.ret [.d (.bool false)] [] []))) (
 R12_4 (C12 Γ γ27) Λ2 J (List.map api_Packet.enc p0) (List.map api_Packet.enc p1) 0) := by kernel_rfl
theorem T12_4 (Γ : Fun) (γ27 : Gm (Bool)) (Λ2 J : Lam) (x0 : (List api_Packet)) (x1 : (List api_Packet)) (x5 : Int) : labU SE (C12 Γ γ27) Λ2 J 12 0 [1, 1, 0, 1, 0] (stoOf [(0, .d (.sl api_Packet.ks (List.map api_Packet.enc x0))), (1, .d (.sl api_Packet.ks (List.map api_Packet.enc x1))), (5, .d (.int .i64 x5))] [] [] [] []) =
 cond (decide (x5 < (List.length (List.map api_Packet.enc x0) : Int))) (
 cond (decide (0 ≤ x5) && decide (x5 < (List.length (List.map api_Packet.enc x0) : Int))) (
  cond (decide (0 ≤ x5) && decide (x5 < (List.length (List.map api_Packet.enc x1) : Int))) (
  γ27 [.agg [.d (.int .i64 (dInt (cellAt (elemAt (List.map api_Packet.enc x0) (Int.toNat x5)) 0))), .d (.int .i64 (dInt (cellAt (elemAt (List.map api_Packet.enc x0) (Int.toNat x5)) 1))), .d (.bool (dBool (cellAt (elemAt (List.map api_Packet.enc x0) (Int.toNat x5)) 2))), .d (.str (dStr (cellAt (elemAt (List.map api_Packet.enc x0) (Int.toNat x5)) 3))), .d (.str (dStr (cellAt (elemAt (List.map api_Packet.enc x0) (Int.toNat x5)) 4))), .d (.int .i64 (dInt (cellAt (elemAt (List.map api_Packet.enc x0) (Int.toNat x5)) 5))), .d (.bool (dBool (cellAt (elemAt (List.map api_Packet.enc x0) (Int.toNat x5)) 6))), .d (.int .i64 (dInt (cellAt (elemAt (List.map api_Packet.enc x0) (Int.toNat x5)) 7))), .d (.int .i64 (dInt (cellAt (elemAt (List.map api_Packet.enc x0) (Int.toNat x5)) 8))), .d (.str (dStr (cellAt (elemAt (List.map api_Packet.enc x0) (Int.toNat x5)) 9))), .d (.int .i64 (dInt (cellAt (elemAt (List.map api_Packet.enc x0) (Int.toNat x5)) 10))), .d (.sl api_Prop.ks (dSl (cellAt (elemAt (List.map api_Packet.enc x0) (Int.toNat x5)) 11))), .d (.str (dStr (cellAt (elemAt (List.map api_Packet.enc x0) (Int.toNat x5)) 12))), .d (.str (dStr (cellAt (elemAt (List.map api_Packet.enc x0) (Int.toNat x5)) 13))), .d (.bool (dBool (cellAt (elemAt (List.map api_Packet.enc x0) (Int.toNat x5)) 14))), .d (.int .i64 (dInt (cellAt (elemAt (List.map api_Packet.enc x0) (Int.toNat x5)) 15))), .d (.int .i64 (dInt (cellAt (elemAt (List.map api_Packet.enc x0) (Int.toNat x5)) 16))), .d (.int .i64 (dInt (cellAt (elemAt (List.map api_Packet.enc x0) (Int.toNat x5)) 17))), .d (.bool (dBool (cellAt (elemAt (List.map api_Packet.enc x0) (Int.toNat x5)) 18))), .d (.int .i64 (dInt (cellAt (elemAt (List.map api_Packet.enc x0) (Int.toNat x5)) 19))), .d (.str (dStr (cellAt (elemAt (List.map api_Packet.enc x0) (Int.toNat x5)) 20))), .d (.str (dStr (cellAt (elemAt (List.map api_Packet.enc x0) (Int.toNat x5)) 21))), .d (.int .i64 (dInt (cellAt (elemAt (List.map api_Packet.enc x0) (Int.toNat x5)) 22))), .d (.bool (dBool (cellAt (elemAt (List.map api_Packet.enc x0) (Int.toNat x5)) 23))), .d (.int .i64 (dInt (cellAt (elemAt (List.map api_Packet.enc x0) (Int.toNat x5)) 24))), .d (.int .i64 (dInt (cellAt (elemAt (List.map api_Packet.enc x0) (Int.toNat x5)) 25))), .d (.str (dStr (cellAt (elemAt (List.map api_Packet.enc x0) (Int.toNat x5)) 26))), .d (.int .i64 (dInt (cellAt (elemAt (List.map api_Packet.enc x0) (Int.toNat x5)) 27))), .d (.sl api_Prop.ks (dSl (cellAt (elemAt (List.map api_Packet.enc x0) (Int.toNat x5)) 28))), .d (.bool (dBool (cellAt (elemAt (List.map api_Packet.enc x0) (Int.toNat x5)) 29))), .d (.int .i64 (dInt (cellAt (elemAt (List.map api_Packet.enc x0) (Int.toNat x5)) 30))), .d (.sl api_Sub.ks (dSl (cellAt (elemAt (List.map api_Packet.enc x0) (Int.toNat x5)) 31))), .d (.sl [.str] (dSl (cellAt (elemAt (List.map api_Packet.enc x0) (Int.toNat x5)) 32))), .d (.sl [.int .i64] (dSl (cellAt (elemAt (List.map api_Packet.enc x0) (Int.toNat x5)) 33)))], .agg [.d (.int .i64 (dInt (cellAt (elemAt (List.map api_Packet.enc x1) (Int.toNat x5)) 0))), .d (.int .i64 (dInt (cellAt (elemAt (List.map api_Packet.enc x1) (Int.toNat x5)) 1))), .d (.bool (dBool (cellAt (elemAt (List.map api_Packet.enc x1) (Int.toNat x5)) 2))), .d (.str (dStr (cellAt (elemAt (List.map api_Packet.enc x1) (Int.toNat x5)) 3))), .d (.str (dStr (cellAt (elemAt (List.map api_Packet.enc x1) (Int.toNat x5)) 4))), .d (.int .i64 (dInt (cellAt (elemAt (List.map api_Packet.enc x1) (Int.toNat x5)) 5))), .d (.bool (dBool (cellAt (elemAt (List.map api_Packet.enc x1) (Int.toNat x5)) 6))), .d (.int .i64 (dInt (cellAt (elemAt (List.map api_Packet.enc x1) (Int.toNat x5)) 7))), .d (.int .i64 (dInt (cellAt (elemAt (List.map api_Packet.enc x1) (Int.toNat x5)) 8))), .d (.str (dStr (cellAt (elemAt (List.map api_Packet.enc x1) (Int.toNat x5)) 9))), .d (.int .i64 (dInt (cellAt (elemAt (List.map api_Packet.enc x1) (Int.toNat x5)) 10))), .d (.sl api_Prop.ks (dSl (cellAt (elemAt (List.map api_Packet.enc x1) (Int.toNat x5)) 11))), .d (.str (dStr (cellAt (elemAt (List.map api_Packet.enc x1) (Int.toNat x5)) 12))), .d (.str (dStr (cellAt (elemAt (List.map api_Packet.enc x1) (Int.toNat x5)) 13))), .d (.bool (dBool (cellAt (elemAt (List.map api_Packet.enc x1) (Int.toNat x5)) 14))), .d (.int .i64 (dInt (cellAt (elemAt (List.map api_Packet.enc x1) (Int.toNat x5)) 15))), .d (.int .i64 (dInt (cellAt (elemAt (List.map api_Packet.enc x1) (Int.toNat x5)) 16))), .d (.int .i64 (dInt (cellAt (elemAt (List.map api_Packet.enc x1) (Int.toNat x5)) 17))), .d (.bool (dBool (cellAt (elemAt (List.map api_Packet.enc x1) (Int.toNat x5)) 18))), .d (.int .i64 (dInt (cellAt (elemAt (List.map api_Packet.enc x1) (Int.toNat x5)) 19))), .d (.str (dStr (cellAt (elemAt (List.map api_Packet.enc x1) (Int.toNat x5)) 20))), .d (.str (dStr (cellAt (elemAt (List.map api_Packet.enc x1) (Int.toNat x5)) 21))), .d (.int .i64 (dInt (cellAt (elemAt (List.map api_Packet.enc x1) (Int.toNat x5)) 22))), .d (.bool (dBool (cellAt (elemAt (List.map api_Packet.enc x1) (Int.toNat x5)) 23))), .d (.int .i64 (dInt (cellAt (elemAt (List.map api_Packet.enc x1) (Int.toNat x5)) 24))), .d (.int .i64 (dInt (cellAt (elemAt (List.map api_Packet.enc x1) (Int.toNat x5)) 25))), .d (.str (dStr (cellAt (elemAt (List.map api_Packet.enc x1) (Int.toNat x5)) 26))), .d (.int .i64 (dInt (cellAt (elemAt (List.map api_Packet.enc x1) (Int.toNat x5)) 27))), .d (.sl api_Prop.ks (dSl (cellAt (elemAt (List.map api_Packet.enc x1) (Int.toNat x5)) 28))), .d (.bool (dBool (cellAt (elemAt (List.map api_Packet.enc x1) (Int.toNat x5)) 29))), .d (.int .i64 (dInt (cellAt (elemAt (List.map api_Packet.enc x1) (Int.toNat x5)) 30))), .d (.sl api_Sub.ks (dSl (cellAt (elemAt (List.map api_Packet.enc x1) (Int.toNat x5)) 31))), .d (.sl [.str] (dSl (cellAt (elemAt (List.map api_Packet.enc x1) (Int.toNat x5)) 32))), .d (.sl [.int .i64] (dSl (cellAt (elemAt (List.map api_Packet.enc x1) (Int.toNat x5)) 33)))]] [] [] fun r0 =>
  cond (!r0) (
   (some (.ret [.d (.bool false)] [] []))) (
  R12_4 (C12 Γ γ27) Λ2 J (List.map api_Packet.enc x0) (List.map api_Packet.enc x1) (IntKind.wrap .i64 (x5 + 1)))) none) none) (
 (some (.ret [.d (.bool true)] [] []))) := by kernel_rfl
abbrev X12 : CFun := C12 (callG SE good) (callT SE good 27 brokerref06_Same_out)
theorem Cr12 : C12 (callG SE good) (callT SE good 27 brokerref06_Same_out) = bindC (callG SE good) := by unfold C12; rw [updC_real (fun _ h => h)]
noncomputable abbrev Q12_4 (a0 : (List (List D))) (a1 : (List (List D))) (a2 : Int) : Res := R12_4 X12 (lam2 SE (callG SE good) (SE.hl 12) (SE.hr 12)) (J0 SE X12) a0 a1 a2
theorem brokerlaw15_packets_l4_ok : ∀ (fu : Nat) (x0 : (List api_Packet)) (x1 : (List api_Packet)) (x5 : Int), Le (Option.map brokerlaw15_packets_out (brokerlaw15_packets_l4 fu x0 x1 x5)) (Q12_4 (List.map api_Packet.enc x0) (List.map api_Packet.enc x1) x5) := by
 intro fu
 induction fu with
 | zero => intros; exact le_none
 | succ fu ih =>
  intro x0 x1 x5
  refine Le.trans ?_ (le_of_eq ((lab_realC Cr12).trans (T12_4 _ _ _ _  x0 x1 x5)).symm)
  unfold brokerlaw15_packets_l4
  refine le_cond (by simp only [EN]) (fun _ => ?_) (fun _ => ?_)
  ·refine le_cond (by simp only [EN]) (fun _ => ?_) (fun _ => le_none)
   refine le_cond (by simp only [EN]) (fun _ => ?_) (fun _ => le_none)
   refine le_call (good := good) eX brokerref06_Same_inj (by first | (simp only [EN]; exact brokerref06_Same_ok (List.getD x0 (Int.toNat x5) default) (List.getD x1 (Int.toNat x5) default)) | exact brokerref06_Same_ok (List.getD x0 (Int.toNat x5) default) (List.getD x1 (Int.toNat x5) default)) (fun r0 _ => ?_)
   refine lC ?_ ?_
   ·exact le_ret (by first | rfl | simp only [EN, brokerlaw15_packets_out] <;> rfl)
   ·exact ih x0 x1 (IntKind.wrap .i64 (x5 + 1))
  ·exact le_ret (by first | rfl | simp only [EN, brokerlaw15_packets_out] <;> rfl)
theorem brokerlaw15_packets_ok (p0 : (List api_Packet)) (p1 : (List api_Packet)) : Le (Option.map brokerlaw15_packets_out (brokerlaw15_packets p0 p1)) (callW SE 12 [.d (.sl api_Packet.ks (List.map api_Packet.enc p0)), .d (.sl api_Packet.ks (List.map api_Packet.enc p1))] [] []) := by
 refine le_bodyC Cr12 rfl ?_
 refine Le.trans ?_ (le_of_eq (T12 _ _ _ _  p0 p1).symm)
 unfold brokerlaw15_packets
 refine le_cond (by simp only [EN]) (fun _ => ?_) (fun _ => ?_)
 ·exact le_ret (by first | rfl | simp only [EN, brokerlaw15_packets_out] <;> rfl)
 ·exact brokerlaw15_packets_l4_ok fuel p0 p1 0
def C13 (Γ : Fun) (γ16 : Gm (api_Inbox × api_Packet × Int)) (γ28 : Gm (api_Inbox × api_Packet × Int)) (γ11 : Gm (Bool)) (γ27 : Gm (Bool)) (γ9 : Gm (api_Inbox × Bool × (List api_Packet) × Int)) (γ10 : Gm (api_Inbox × Bool × (List api_Packet) × Int)) (γ12 : Gm (Bool)) : CFun := updC (updC (updC (updC (updC (updC (updC (bindC Γ) 16 inbound_Release_out γ16) 28 brokerref15_Release_out γ28) 11 brokerref15_Same_out γ11) 27 brokerref06_Same_out γ27) 9 inbound_Accept_out γ9) 10 brokerref15_Accept_out γ10) 12 brokerlaw15_packets_out γ12
theorem T13 (Γ : Fun) (γ16 : Gm (api_Inbox × api_Packet × Int)) (γ28 : Gm (api_Inbox × api_Packet × Int)) (γ11 : Gm (Bool)) (γ27 : Gm (Bool)) (γ9 : Gm (api_Inbox × Bool × (List api_Packet) × Int)) (γ10 : Gm (api_Inbox × Bool × (List api_Packet) × Int)) (γ12 : Gm (Bool)) (Λ2 J : Lam) (p0 : api_Inbox) (p1 : api_Packet) : bodyC SE (C13 Γ γ16 γ28 γ11 γ27 γ9 γ10 γ12) Λ2 J 13 [api_Inbox.av p0, api_Packet.av p1] [] [] =
 cond (p1.Kind == 6) (
 γ16 [api_Inbox.av p0, api_Packet.av p1] [] [] fun r0 =>
 γ28 [api_Inbox.av p0, api_Packet.av p1] [] [] fun r1 =>
 cond (r1.2.2 != 0) (
  (some (.ret [api_Inbox.av p0, .d (.bool false), .d (.bool (r0.2.2 == r1.2.2))] [] []))) (
 cond (r0.2.2 == r1.2.2) (
  γ11 [api_Inbox.av r0.1, api_Inbox.av r1.1] [] [] fun r2 =>
  cond r2 (
  γ27 [api_Packet.av r0.2.1, api_Packet.av r1.2.1] [] [] fun r3 =>
  (some (.ret [api_Inbox.av r1.1, .d (.bool false), .d (.bool r3)] [] []))) (
  (some (.ret [api_Inbox.av r1.1, .d (.bool false), .d (.bool false)] [] [])))) (
 (some (.ret [api_Inbox.av r1.1, .d (.bool false), .d (.bool false)] [] []))))) (
 γ9 [api_Inbox.av p0, api_Packet.av p1] [] [] fun r4 =>
 γ10 [api_Inbox.av p0, api_Packet.av p1] [] [] fun r5 =>
 cond (r5.2.2.2 != 0) (
 (some (.ret [api_Inbox.av p0, .d (.bool false), .d (.bool (r4.2.2.2 == r5.2.2.2))] [] []))) (
 cond (r4.2.2.2 == r5.2.2.2) (
 cond (r4.2.1 == r5.2.1) (
  γ11 [api_Inbox.av r4.1, api_Inbox.av r5.1] [] [] fun r6 =>
  cond r6 (
  γ12 [.d (.sl api_Packet.ks (List.map api_Packet.enc r4.2.2.1)), .d (.sl api_Packet.ks (List.map api_Packet.enc r5.2.2.1))] [] [] fun r7 =>
  (some (.ret [api_Inbox.av r5.1, .d (.bool r4.2.1), .d (.bool r7)] [] []))) (
  (some (.ret [api_Inbox.av r5.1, .d (.bool r4.2.1), .d (.bool false)] [] [])))) (
 (some (.ret [api_Inbox.av r5.1, .d (.bool r4.2.1), .d (.bool false)] [] [])))) (
 (some (.ret [api_Inbox.av r5.1, .d (.bool r4.2.1), .d (.bool false)] [] []))))) := by kernel_rfl
abbrev X13 : CFun := C13 (callG SE good) (callT SE good 16 inbound_Release_out) (callT SE good 28 brokerref15_Release_out) (callT SE good 11 brokerref15_Same_out) (callT SE good 27 brokerref06_Same_out) (callT SE good 9 inbound_Accept_out) (callT SE good 10 brokerref15_Accept_out) (callT SE good 12 brokerlaw15_packets_out)
theorem Cr13 : C13 (callG SE good) (callT SE good 16 inbound_Release_out) (callT SE good 28 brokerref15_Release_out) (callT SE good 11 brokerref15_Same_out) (callT SE good 27 brokerref06_Same_out) (callT SE good 9 inbound_Accept_out) (callT SE good 10 brokerref15_Accept_out) (callT SE good 12 brokerlaw15_packets_out) = bindC (callG SE good) := by unfold C13; rw [updC_real (fun _ h => h), updC_real (fun _ h => h), updC_real (fun _ h => h), updC_real (fun _ h => h), updC_real (fun _ h => h), updC_real (fun _ h => h), updC_real (fun _ h => h)]
theorem brokerlaw15_step_ok (p0 : api_Inbox) (p1 : api_Packet) : Le (Option.map brokerlaw15_step_out (brokerlaw15_step p0 p1)) (callW SE 13 [api_Inbox.av p0, api_Packet.av p1] [] []) := by
 refine le_bodyC Cr13 rfl ?_
 refine Le.trans ?_ (le_of_eq (T13 _ _ _ _ _ _ _ _ _ _  p0 p1).symm)
 unfold brokerlaw15_step
 refine lC ?_ ?_
 ·refine le_call (good := good) eX inbound_Release_inj (inbound_Release_ok p0 p1) (fun r0 _ => ?_)
  refine le_call (good := good) eX brokerref15_Release_inj (brokerref15_Release_ok p0 p1) (fun r1 _ => ?_)
  refine lC ?_ ?_
  ·exact le_ret (by first | rfl | simp only [EN, brokerlaw15_step_out] <;> rfl)
  ·refine lC ?_ ?_
   ·refine le_call (good := good) eX brokerref15_Same_inj (brokerref15_Same_ok r0.1 r1.1) (fun r2 _ => ?_)
    refine lC ?_ ?_
    ·refine le_call (good := good) eX brokerref06_Same_inj (brokerref06_Same_ok r0.2.1 r1.2.1) (fun r3 _ => ?_)
     exact le_ret (by first | rfl | simp only [EN, brokerlaw15_step_out] <;> rfl)
    ·exact le_ret (by first | rfl | simp only [EN, brokerlaw15_step_out] <;> rfl)
   ·exact le_ret (by first | rfl | simp only [EN, brokerlaw15_step_out] <;> rfl)
 ·refine le_call (good := good) eX inbound_Accept_inj (inbound_Accept_ok p0 p1) (fun r4 _ => ?_)
  refine le_call (good := good) eX brokerref15_Accept_inj (brokerref15_Accept_ok p0 p1) (fun r5 _ => ?_)
  refine lC ?_ ?_
  ·exact le_ret (by first | rfl | simp only [EN, brokerlaw15_step_out] <;> rfl)
  ·refine lC ?_ ?_
   ·refine lC ?_ ?_
    ·refine le_call (good := good) eX brokerref15_Same_inj (brokerref15_Same_ok r4.1 r5.1) (fun r6 _ => ?_)
     refine lC ?_ ?_
     ·refine le_call (good := good) eX brokerlaw15_packets_inj (brokerlaw15_packets_ok r4.2.2.1 r5.2.2.1) (fun r7 _ => ?_)
      exact le_ret (by first | rfl | simp only [EN, brokerlaw15_step_out] <;> rfl)
     ·exact le_ret (by first | rfl | simp only [EN, brokerlaw15_step_out] <;> rfl)
    ·exact le_ret (by first | rfl | simp only [EN, brokerlaw15_step_out] <;> rfl)
   ·exact le_ret (by first | rfl | simp only [EN, brokerlaw15_step_out] <;> rfl)
def C5 (Γ : Fun) (γ7 : Gm (Int)) (γ8 : Gm (Bool)) (γ10 : Gm (api_Inbox × Bool × (List api_Packet) × Int)) (γ15 : Gm (Bool)) (γ9 : Gm (api_Inbox × Bool × (List api_Packet) × Int)) (γ16 : Gm (api_Inbox × api_Packet × Int)) (γ13 : Gm (api_Inbox × Bool × Bool)) : CFun := updC (updC (updC (updC (updC (updC (updC (bindC Γ) 7 brokerref15_Check_out γ7) 8 brokerlaw15_awake_out γ8) 10 brokerref15_Accept_out γ10) 15 brokerref15_Has_out γ15) 9 inbound_Accept_out γ9) 16 inbound_Release_out γ16) 13 brokerlaw15_step_out γ13
def R5_15 (C : CFun) (Λ2 J : Lam) (a0 : (List (List D))) (a1 : Int) (a2 : Int) (a3 : Int) (a4 : Int) (a5 : Bool) (a6 : Int) (a7 : Bool) (a8 : Int) (a9 : Int) (a10 : Bool) (a11 : (List D)) (a12 : (List D)) (a13 : (List D)) (a14 : (List (List D))) : Res := lab SE C Λ2 J 5 0 [1, 1, 1, 1, 1, 0, 1, 0, 0, 1, 0, 0, 1, 1, 1, 0] (stoOf [(2, .d (.sl api_Packet.ks a0)), (3, .d (.int .u8 a1)), (4, .ptr 1000000000 0), (5, .ptr 1000000001 0), (13, .d (.int .i64 a2)), (14, .d (.int .i64 a3)), (15, .ptr 1000000002 0), (73, .row 3073), (74, .d (.int .i64 a4)), (75, .d (.bool a5)), (78, .row 3073), (81, .d (.int .i64 a6)), (82, .d (.bool a7)), (85, .row 3073), (88, .d (.int .i64 a8)), (89, .ptr 1000000001 1), (90, .d (.int .i64 a9)), (91, .d (.bool a10))] [⟨24, (List.map AV.d a11)⟩, ⟨33, (List.map AV.d a12)⟩, ⟨24, (List.map AV.d a13)⟩] [] [] [(3073, ⟨api_Packet.ks, 33, 416, a14⟩), (3073, ⟨api_Packet.ks, 33, 416, a14⟩), (3073, ⟨api_Packet.ks, 33, 416, a14⟩)])
def R5_13 (C : CFun) (Λ2 J : Lam) (a0 : (List (List D))) (a1 : Int) (a2 : Int) (a3 : Int) (a4 : Bool) (a5 : Int) (a6 : Bool) (a7 : Int) (a8 : Bool) (a9 : Int) (a10 : Int) (a11 : Bool) (a12 : (List D)) (a13 : (List D)) (a14 : (List D)) (a15 : (List (List D))) : Res := lab SE C Λ2 J 5 0 [1, 1, 1, 1, 1, 0, 1, 0, 0, 1, 0, 0, 1, 1, 0, 0] (stoOf [(2, .d (.sl api_Packet.ks a0)), (3, .d (.int .u8 a1)), (4, .ptr 1000000000 0), (5, .ptr 1000000001 0), (13, .d (.int .i64 a2)), (14, .d (.int .i64 a3)), (15, .ptr 1000000002 0), (16, .d (.bool a4)), (73, .row 3073), (74, .d (.int .i64 a5)), (75, .d (.bool a6)), (78, .row 3073), (81, .d (.int .i64 a7)), (82, .d (.bool a8)), (85, .row 3073), (88, .d (.int .i64 a9)), (89, .ptr 1000000001 1), (90, .d (.int .i64 a10)), (91, .d (.bool a11))] [⟨24, (List.map AV.d a12)⟩, ⟨33, (List.map AV.d a13)⟩, ⟨24, (List.map AV.d a14)⟩] [] [] [(3073, ⟨api_Packet.ks, 33, 416, a15⟩), (3073, ⟨api_Packet.ks, 33, 416, a15⟩), (3073, ⟨api_Packet.ks, 33, 416, a15⟩)])
def R5_8 (C : CFun) (Λ2 J : Lam) (a0 : (List (List D))) (a1 : Int) (a2 : Int) (a3 : Int) (a4 : (List D)) (a5 : (List D)) : Res := lab SE C Λ2 J 5 0 [1, 1, 1, 1, 1, 0, 1, 0] (stoOf [(2, .d (.sl api_Packet.ks a0)), (3, .d (.int .u8 a1)), (4, .ptr 1000000000 0), (5, .ptr 1000000001 0), (13, .d (.int .i64 a2)), (14, .d (.int .i64 a3))] [⟨24, (List.map AV.d a4)⟩, ⟨33, (List.map AV.d a5)⟩] [] [] [])
def R5_6 (C : CFun) (Λ2 J : Lam) (a0 : (List (List D))) (a1 : Int) (a2 : (List D)) (a3 : (List D)) : Res := lab SE C Λ2 J 5 0 [1, 1, 1, 1, 0] (stoOf [(2, .d (.sl api_Packet.ks a0)), (3, .d (.int .u8 a1)), (4, .ptr 1000000000 0), (5, .ptr 1000000001 0)] [⟨24, (List.map AV.d a2)⟩, ⟨33, (List.map AV.d a3)⟩] [] [] [])
theorem T5 (Γ : Fun) (γ7 : Gm (Int)) (γ8 : Gm (Bool)) (γ10 : Gm (api_Inbox × Bool × (List api_Packet) × Int)) (γ15 : Gm (Bool)) (γ9 : Gm (api_Inbox × Bool × (List api_Packet) × Int)) (γ16 : Gm (api_Inbox × api_Packet × Int)) (γ13 : Gm (api_Inbox × Bool × Bool)) (Λ2 J : Lam) (p0 : api_Inbox) (p1 : api_Packet) (p2 : (List api_Packet)) (p3 : Int) : bodyC SE (C5 Γ γ7 γ8 γ10 γ15 γ9 γ16 γ13) Λ2 J 5 [api_Inbox.av p0, api_Packet.av p1, .d (.sl api_Packet.ks (List.map api_Packet.enc p2)), .d (.int .u8 p3)] [] [] =
 γ7 [api_Inbox.av p0] [] [] fun r0 =>
 cond (r0 != 0) (
 γ8 [] [] [] fun r1 =>
 (some (.ret [.d (.bool r1)] [] []))) (
 γ10 [api_Inbox.av p0, api_Packet.av p1] [] [] fun r2 =>
 cond (r2.2.2.2 != 0) (
 γ8 [] [] [] fun r3 =>
 (some (.ret [.d (.bool r3)] [] []))) (
 cond (p1.Message.Level != 2) (
 γ8 [] [] [] fun r4 =>
 (some (.ret [.d (.bool r4)] [] []))) (
 γ15 [api_Inbox.av p0, .d (.int .i64 p1.ID)] [] [] fun r5 =>
 cond r5 (
 γ8 [] [] [] fun r6 =>
 (some (.ret [.d (.bool r6)] [] []))) (
 R5_6 (C5 Γ γ7 γ8 γ10 γ15 γ9 γ16 γ13) Λ2 J (List.map api_Packet.enc p2) p3 (api_Inbox.enc p0) (api_Packet.enc p1))))) := by kernel_rfl
theorem T5_15 (Γ : Fun) (γ7 : Gm (Int)) (γ8 : Gm (Bool)) (γ10 : Gm (api_Inbox × Bool × (List api_Packet) × Int)) (γ15 : Gm (Bool)) (γ9 : Gm (api_Inbox × Bool × (List api_Packet) × Int)) (γ16 : Gm (api_Inbox × api_Packet × Int)) (γ13 : Gm (api_Inbox × Bool × Bool)) (Λ2 J : Lam) (x2 : (List api_Packet)) (x3 : Int) (x13 : Int) (x14 : Int) (x74 : Int) (x75 : Bool) (x81 : Int) (x82 : Bool) (x88 : Int) (x90 : Int) (x91 : Bool) (b0 : api_Inbox) (b1 : api_Packet) (b2 : api_Inbox) (w3073 : (List api_Packet)) : labU SE (C5 Γ γ7 γ8 γ10 γ15 γ9 γ16 γ13) Λ2 J 5 0 [1, 1, 1, 1, 1, 0, 1, 0, 0, 1, 0, 0, 1, 1, 1, 0] (stoOf [(2, .d (.sl api_Packet.ks (List.map api_Packet.enc x2))), (3, .d (.int .u8 x3)), (4, .ptr 1000000000 0), (5, .ptr 1000000001 0), (13, .d (.int .i64 x13)), (14, .d (.int .i64 x14)), (15, .ptr 1000000002 0), (73, .row 3073), (74, .d (.int .i64 x74)), (75, .d (.bool x75)), (78, .row 3073), (81, .d (.int .i64 x81)), (82, .d (.bool x82)), (85, .row 3073), (88, .d (.int .i64 x88)), (89, .ptr 1000000001 1), (90, .d (.int .i64 x90)), (91, .d (.bool x91))] [⟨24, (List.map AV.d (api_Inbox.enc b0))⟩, ⟨33, (List.map AV.d (api_Packet.enc b1))⟩, ⟨24, (List.map AV.d (api_Inbox.enc b2))⟩] [] [] [(3073, ⟨api_Packet.ks, 33, 416, (List.map api_Packet.enc w3073)⟩), (3073, ⟨api_Packet.ks, 33, 416, (List.map api_Packet.enc w3073)⟩), (3073, ⟨api_Packet.ks, 33, 416, (List.map api_Packet.enc w3073)⟩)]) =
 cond (decide (x14 < (List.length (List.map api_Packet.enc x2) : Int))) (
 cond (decide (x14 < 40)) (
  cond (decide (0 ≤ x14) && decide (x14 < (List.length (List.map api_Packet.enc x2) : Int))) (
  cond ((dInt (cellAt (elemAt (List.map api_Packet.enc x2) (Int.toNat x14)) 1)) != b1.ID) (
   cond (decide (0 ≤ x14) && decide (x14 < (List.length (List.map api_Packet.enc x2) : Int))) (
   γ13 [api_Inbox.av b2, .agg [.d (.int .i64 (dInt (cellAt (elemAt (List.map api_Packet.enc x2) (Int.toNat x14)) 0))), .d (.int .i64 (dInt (cellAt (elemAt (List.map api_Packet.enc x2) (Int.toNat x14)) 1))), .d (.bool (dBool (cellAt (elemAt (List.map api_Packet.enc x2) (Int.toNat x14)) 2))), .d (.str (dStr (cellAt (elemAt (List.map api_Packet.enc x2) (Int.toNat x14)) 3))), .d (.str (dStr (cellAt (elemAt (List.map api_Packet.enc x2) (Int.toNat x14)) 4))), .d (.int .i64 (dInt (cellAt (elemAt (List.map api_Packet.enc x2) (Int.toNat x14)) 5))), .d (.bool (dBool (cellAt (elemAt (List.map api_Packet.enc x2) (Int.toNat x14)) 6))), .d (.int .i64 (dInt (cellAt (elemAt (List.map api_Packet.enc x2) (Int.toNat x14)) 7))), .d (.int .i64 (dInt (cellAt (elemAt (List.map api_Packet.enc x2) (Int.toNat x14)) 8))), .d (.str (dStr (cellAt (elemAt (List.map api_Packet.enc x2) (Int.toNat x14)) 9))), .d (.int .i64 (dInt (cellAt (elemAt (List.map api_Packet.enc x2) (Int.toNat x14)) 10))), .d (.sl api_Prop.ks (dSl (cellAt (elemAt (List.map api_Packet.enc x2) (Int.toNat x14)) 11))), .d (.str (dStr (cellAt (elemAt (List.map api_Packet.enc x2) (Int.toNat x14)) 12))), .d (.str (dStr (cellAt (elemAt (List.map api_Packet.enc x2) (Int.toNat x14)) 13))), .d (.bool (dBool (cellAt (elemAt (List.map api_Packet.enc x2) (Int.toNat x14)) 14))), .d (.int .i64 (dInt (cellAt (elemAt (List.map api_Packet.enc x2) (Int.toNat x14)) 15))), .d (.int .i64 (dInt (cellAt (elemAt (List.map api_Packet.enc x2) (Int.toNat x14)) 16))), .d (.int .i64 (dInt (cellAt (elemAt (List.map api_Packet.enc x2) (Int.toNat x14)) 17))), .d (.bool (dBool (cellAt (elemAt (List.map api_Packet.enc x2) (Int.toNat x14)) 18))), .d (.int .i64 (dInt (cellAt (elemAt (List.map api_Packet.enc x2) (Int.toNat x14)) 19))), .d (.str (dStr (cellAt (elemAt (List.map api_Packet.enc x2) (Int.toNat x14)) 20))), .d (.str (dStr (cellAt (elemAt (List.map api_Packet.enc x2) (Int.toNat x14)) 21))), .d (.int .i64 (dInt (cellAt (elemAt (List.map api_Packet.enc x2) (Int.toNat x14)) 22))), .d (.bool (dBool (cellAt (elemAt (List.map api_Packet.enc x2) (Int.toNat x14)) 23))), .d (.int .i64 (dInt (cellAt (elemAt (List.map api_Packet.enc x2) (Int.toNat x14)) 24))), .d (.int .i64 (dInt (cellAt (elemAt (List.map api_Packet.enc x2) (Int.toNat x14)) 25))), .d (.str (dStr (cellAt (elemAt (List.map api_Packet.enc x2) (Int.toNat x14)) 26))), .d (.int .i64 (dInt (cellAt (elemAt (List.map api_Packet.enc x2) (Int.toNat x14)) 27))), .d (.sl api_Prop.ks (dSl (cellAt (elemAt (List.map api_Packet.enc x2) (Int.toNat x14)) 28))), .d (.bool (dBool (cellAt (elemAt (List.map api_Packet.enc x2) (Int.toNat x14)) 29))), .d (.int .i64 (dInt (cellAt (elemAt (List.map api_Packet.enc x2) (Int.toNat x14)) 30))), .d (.sl api_Sub.ks (dSl (cellAt (elemAt (List.map api_Packet.enc x2) (Int.toNat x14)) 31))), .d (.sl [.str] (dSl (cellAt (elemAt (List.map api_Packet.enc x2) (Int.toNat x14)) 32))), .d (.sl [.int .i64] (dSl (cellAt (elemAt (List.map api_Packet.enc x2) (Int.toNat x14)) 33)))]] [] [] fun r11 =>
   cond (!r11.2.2) (
    (some (.ret [.d (.bool false)] [] []))) (
   R5_8 (C5 Γ γ7 γ8 γ10 γ15 γ9 γ16 γ13) Λ2 J (List.map api_Packet.enc x2) x3 x13 (IntKind.wrap .i64 (x14 + 1)) (api_Inbox.enc r11.1) (api_Packet.enc b1))) none) (
  R5_8 (C5 Γ γ7 γ8 γ10 γ15 γ9 γ16 γ13) Λ2 J (List.map api_Packet.enc x2) x3 x13 (IntKind.wrap .i64 (x14 + 1)) (api_Inbox.enc b2) (api_Packet.enc b1))) none) (
 R5_8 (C5 Γ γ7 γ8 γ10 γ15 γ9 γ16 γ13) Λ2 J (List.map api_Packet.enc x2) x3 x13 (IntKind.wrap .i64 (x14 + 1)) (api_Inbox.enc b2) (api_Packet.enc b1))) (
 R5_8 (C5 Γ γ7 γ8 γ10 γ15 γ9 γ16 γ13) Λ2 J (List.map api_Packet.enc x2) x3 x13 (IntKind.wrap .i64 (x14 + 1)) (api_Inbox.enc b2) (api_Packet.enc b1)) := by kernel_rfl
theorem T5_13 (Γ : Fun) (γ7 : Gm (Int)) (γ8 : Gm (Bool)) (γ10 : Gm (api_Inbox × Bool × (List api_Packet) × Int)) (γ15 : Gm (Bool)) (γ9 : Gm (api_Inbox × Bool × (List api_Packet) × Int)) (γ16 : Gm (api_Inbox × api_Packet × Int)) (γ13 : Gm (api_Inbox × Bool × Bool)) (Λ2 J : Lam) (x2 : (List api_Packet)) (x3 : Int) (x13 : Int) (x14 : Int) (x16 : Bool) (x74 : Int) (x75 : Bool) (x81 : Int) (x82 : Bool) (x88 : Int) (x90 : Int) (x91 : Bool) (b0 : api_Inbox) (b1 : api_Packet) (b2 : api_Inbox) (w3073 : (List api_Packet)) : labU SE (C5 Γ γ7 γ8 γ10 γ15 γ9 γ16 γ13) Λ2 J 5 0 [1, 1, 1, 1, 1, 0, 1, 0, 0, 1, 0, 0, 1, 1, 0, 0] (stoOf [(2, .d (.sl api_Packet.ks (List.map api_Packet.enc x2))), (3, .d (.int .u8 x3)), (4, .ptr 1000000000 0), (5, .ptr 1000000001 0), (13, .d (.int .i64 x13)), (14, .d (.int .i64 x14)), (15, .ptr 1000000002 0), (16, .d (.bool x16)), (73, .row 3073), (74, .d (.int .i64 x74)), (75, .d (.bool x75)), (78, .row 3073), (81, .d (.int .i64 x81)), (82, .d (.bool x82)), (85, .row 3073), (88, .d (.int .i64 x88)), (89, .ptr 1000000001 1), (90, .d (.int .i64 x90)), (91, .d (.bool x91))] [⟨24, (List.map AV.d (api_Inbox.enc b0))⟩, ⟨33, (List.map AV.d (api_Packet.enc b1))⟩, ⟨24, (List.map AV.d (api_Inbox.enc b2))⟩] [] [] [(3073, ⟨api_Packet.ks, 33, 416, (List.map api_Packet.enc w3073)⟩), (3073, ⟨api_Packet.ks, 33, 416, (List.map api_Packet.enc w3073)⟩), (3073, ⟨api_Packet.ks, 33, 416, (List.map api_Packet.enc w3073)⟩)]) =
 cond x16 (
 R5_15 (C5 Γ γ7 γ8 γ10 γ15 γ9 γ16 γ13) Λ2 J (List.map api_Packet.enc x2) x3 (IntKind.wrap .i64 (x13 + 1)) x14 x74 x75 x81 x82 x88 x90 x91 (api_Inbox.enc b0) (api_Packet.enc b1) (api_Inbox.enc b2) (List.map api_Packet.enc w3073)) (
 R5_15 (C5 Γ γ7 γ8 γ10 γ15 γ9 γ16 γ13) Λ2 J (List.map api_Packet.enc x2) x3 x13 x14 x74 x75 x81 x82 x88 x90 x91 (api_Inbox.enc b0) (api_Packet.enc b1) (api_Inbox.enc b2) (List.map api_Packet.enc w3073)) := by kernel_rfl
theorem T5_8 (Γ : Fun) (γ7 : Gm (Int)) (γ8 : Gm (Bool)) (γ10 : Gm (api_Inbox × Bool × (List api_Packet) × Int)) (γ15 : Gm (Bool)) (γ9 : Gm (api_Inbox × Bool × (List api_Packet) × Int)) (γ16 : Gm (api_Inbox × api_Packet × Int)) (γ13 : Gm (api_Inbox × Bool × Bool)) (Λ2 J : Lam) (x2 : (List api_Packet)) (x3 : Int) (x13 : Int) (x14 : Int) (b0 : api_Inbox) (b1 : api_Packet) : labU SE (C5 Γ γ7 γ8 γ10 γ15 γ9 γ16 γ13) Λ2 J 5 0 [1, 1, 1, 1, 1, 0, 1, 0] (stoOf [(2, .d (.sl api_Packet.ks (List.map api_Packet.enc x2))), (3, .d (.int .u8 x3)), (4, .ptr 1000000000 0), (5, .ptr 1000000001 0), (13, .d (.int .i64 x13)), (14, .d (.int .i64 x14))] [⟨24, (List.map AV.d (api_Inbox.enc b0))⟩, ⟨33, (List.map AV.d (api_Packet.enc b1))⟩] [] [] []) =
 cond (decide (x14 ≤ (Int.tmod (IntKind.wrap .i64 x3) 21))) (
 γ9 [api_Inbox.av b0, api_Packet.av b1] [] [] fun r7 =>
 cond (r7.2.2.2 != 0) (
  (some (.ret [.d (.bool false)] [] []))) (
 cond ((List.length (List.map api_Packet.enc r7.2.2.1) : Int) != 1) (
  (some (.ret [.d (.bool false)] [] []))) (
 cond (decide (0 ≤ 0) && decide (0 < (List.length (List.map api_Packet.enc r7.2.2.1) : Int))) (
  cond ((dInt (cellAt (elemAt (List.map api_Packet.enc r7.2.2.1) (Int.toNat 0)) 0)) != 5) (
  (some (.ret [.d (.bool false)] [] []))) (
  cond (decide (0 ≤ 0) && decide (0 < (List.length (List.map api_Packet.enc r7.2.2.1) : Int))) (
  cond ((dInt (cellAt (elemAt (List.map api_Packet.enc r7.2.2.1) (Int.toNat 0)) 1)) != b1.ID) (
   (some (.ret [.d (.bool false)] [] []))) (
  R5_13 (C5 Γ γ7 γ8 γ10 γ15 γ9 γ16 γ13) Λ2 J (List.map api_Packet.enc x2) x3 x13 x14 r7.2.1 (List.length (List.map api_Packet.enc r7.2.2.1) : Int) ((List.length (List.map api_Packet.enc r7.2.2.1) : Int) != 1) ((dInt (cellAt (elemAt (List.map api_Packet.enc r7.2.2.1) (Int.toNat 0)) 0))) (((dInt (cellAt (elemAt (List.map api_Packet.enc r7.2.2.1) (Int.toNat 0)) 0)) != 5)) ((dInt (cellAt (elemAt (List.map api_Packet.enc r7.2.2.1) (Int.toNat 0)) 1))) b1.ID (((dInt (cellAt (elemAt (List.map api_Packet.enc r7.2.2.1) (Int.toNat 0)) 1)) != b1.ID)) (api_Inbox.enc b0) (api_Packet.enc b1) (api_Inbox.enc r7.1) (List.map api_Packet.enc r7.2.2.1))) none)) none))) (
 cond (x13 != 1) (
 (some (.ret [.d (.bool false)] [] []))) (
 γ16 [api_Inbox.av b0, .agg [.d (.int .i64 6), .d (.int .i64 b1.ID), .d (.bool false), .d (.str ([] : Str)), .d (.str ([] : Str)), .d (.int .i64 0), .d (.bool false), .d (.int .i64 0), .d (.int .i64 0), .d (.str ([] : Str)), .d (.int .i64 0), .d (.sl api_Prop.ks (List.map api_Prop.enc [])), .d (.str ([] : Str)), .d (.str ([] : Str)), .d (.bool false), .d (.int .i64 0), .d (.int .i64 0), .d (.int .i64 0), .d (.bool false), .d (.int .i64 0), .d (.str ([] : Str)), .d (.str ([] : Str)), .d (.int .i64 0), .d (.bool false), .d (.int .i64 0), .d (.int .i64 0), .d (.str ([] : Str)), .d (.int .i64 0), .d (.sl api_Prop.ks (List.map api_Prop.enc [])), .d (.bool false), .d (.int .i64 0), .d (.sl api_Sub.ks (List.map api_Sub.enc [])), .d (.sl [.str] (List.map encS [])), .d (.sl [.int .i64] (List.map (encI .i64) []))]] [] [] fun r8 =>
 γ9 [api_Inbox.av r8.1, api_Packet.av b1] [] [] fun r9 =>
 γ8 [] [] [] fun r10 =>
 cond r10 (
 cond (r8.2.2 == 0) (
  cond (r9.2.2.2 == 0) (
  (some (.ret [.d (.bool r9.2.1)] [] []))) (
  (some (.ret [.d (.bool false)] [] [])))) (
 (some (.ret [.d (.bool false)] [] [])))) (
 (some (.ret [.d (.bool false)] [] []))))) := by kernel_rfl
theorem T5_6 (Γ : Fun) (γ7 : Gm (Int)) (γ8 : Gm (Bool)) (γ10 : Gm (api_Inbox × Bool × (List api_Packet) × Int)) (γ15 : Gm (Bool)) (γ9 : Gm (api_Inbox × Bool × (List api_Packet) × Int)) (γ16 : Gm (api_Inbox × api_Packet × Int)) (γ13 : Gm (api_Inbox × Bool × Bool)) (Λ2 J : Lam) (x2 : (List api_Packet)) (x3 : Int) (b0 : api_Inbox) (b1 : api_Packet) : labU SE (C5 Γ γ7 γ8 γ10 γ15 γ9 γ16 γ13) Λ2 J 5 0 [1, 1, 1, 1, 0] (stoOf [(2, .d (.sl api_Packet.ks (List.map api_Packet.enc x2))), (3, .d (.int .u8 x3)), (4, .ptr 1000000000 0), (5, .ptr 1000000001 0)] [⟨24, (List.map AV.d (api_Inbox.enc b0))⟩, ⟨33, (List.map AV.d (api_Packet.enc b1))⟩] [] [] []) =
 R5_8 (C5 Γ γ7 γ8 γ10 γ15 γ9 γ16 γ13) Λ2 J (List.map api_Packet.enc x2) x3 0 0 (api_Inbox.enc b0) (api_Packet.enc b1) := by kernel_rfl
abbrev X5 : CFun := C5 (callG SE good) (callT SE good 7 brokerref15_Check_out) (callT SE good 8 brokerlaw15_awake_out) (callT SE good 10 brokerref15_Accept_out) (callT SE good 15 brokerref15_Has_out) (callT SE good 9 inbound_Accept_out) (callT SE good 16 inbound_Release_out) (callT SE good 13 brokerlaw15_step_out)
theorem Cr5 : C5 (callG SE good) (callT SE good 7 brokerref15_Check_out) (callT SE good 8 brokerlaw15_awake_out) (callT SE good 10 brokerref15_Accept_out) (callT SE good 15 brokerref15_Has_out) (callT SE good 9 inbound_Accept_out) (callT SE good 16 inbound_Release_out) (callT SE good 13 brokerlaw15_step_out) = bindC (callG SE good) := by unfold C5; rw [updC_real (fun _ h => h), updC_real (fun _ h => h), updC_real (fun _ h => h), updC_real (fun _ h => h), updC_real (fun _ h => h), updC_real (fun _ h => h), updC_real (fun _ h => h)]
noncomputable abbrev Q5_15 (a0 : (List (List D))) (a1 : Int) (a2 : Int) (a3 : Int) (a4 : Int) (a5 : Bool) (a6 : Int) (a7 : Bool) (a8 : Int) (a9 : Int) (a10 : Bool) (a11 : (List D)) (a12 : (List D)) (a13 : (List D)) (a14 : (List (List D))) : Res := R5_15 X5 (lam2 SE (callG SE good) (SE.hl 5) (SE.hr 5)) (J0 SE X5) a0 a1 a2 a3 a4 a5 a6 a7 a8 a9 a10 a11 a12 a13 a14
noncomputable abbrev Q5_13 (a0 : (List (List D))) (a1 : Int) (a2 : Int) (a3 : Int) (a4 : Bool) (a5 : Int) (a6 : Bool) (a7 : Int) (a8 : Bool) (a9 : Int) (a10 : Int) (a11 : Bool) (a12 : (List D)) (a13 : (List D)) (a14 : (List D)) (a15 : (List (List D))) : Res := R5_13 X5 (lam2 SE (callG SE good) (SE.hl 5) (SE.hr 5)) (J0 SE X5) a0 a1 a2 a3 a4 a5 a6 a7 a8 a9 a10 a11 a12 a13 a14 a15
noncomputable abbrev Q5_8 (a0 : (List (List D))) (a1 : Int) (a2 : Int) (a3 : Int) (a4 : (List D)) (a5 : (List D)) : Res := R5_8 X5 (lam2 SE (callG SE good) (SE.hl 5) (SE.hr 5)) (J0 SE X5) a0 a1 a2 a3 a4 a5
noncomputable abbrev Q5_6 (a0 : (List (List D))) (a1 : Int) (a2 : (List D)) (a3 : (List D)) : Res := R5_6 X5 (lam2 SE (callG SE good) (SE.hl 5) (SE.hr 5)) (J0 SE X5) a0 a1 a2 a3
theorem brokerlaw15_InboundOnce_j15_ok (k8 : (List api_Packet) → Int → Int → Int → api_Inbox → api_Packet → Option (Bool)) (hk8 : ∀ (x2 : (List api_Packet)) (x3 : Int) (x13 : Int) (x14 : Int) (b0 : api_Inbox) (b1 : api_Packet), Le (Option.map brokerlaw15_InboundOnce_out (k8 x2 x3 x13 x14 b0 b1)) (Q5_8 (List.map api_Packet.enc x2) x3 x13 x14 (api_Inbox.enc b0) (api_Packet.enc b1))) (x2 : (List api_Packet)) (x3 : Int) (x13 : Int) (x14 : Int) (x74 : Int) (x75 : Bool) (x81 : Int) (x82 : Bool) (x88 : Int) (x90 : Int) (x91 : Bool) (b0 : api_Inbox) (b1 : api_Packet) (b2 : api_Inbox) (w3073 : (List api_Packet)) : Le (Option.map brokerlaw15_InboundOnce_out (brokerlaw15_InboundOnce_j15 k8 x2 x3 x13 x14 x74 x75 x81 x82 x88 x90 x91 b0 b1 b2 w3073)) (Q5_15 (List.map api_Packet.enc x2) x3 x13 x14 x74 x75 x81 x82 x88 x90 x91 (api_Inbox.enc b0) (api_Packet.enc b1) (api_Inbox.enc b2) (List.map api_Packet.enc w3073)) := by
 refine Le.trans ?_ (le_of_eq ((lab_realC Cr5).trans (T5_15 _ _ _ _ _ _ _ _ _ _  x2 x3 x13 x14 x74 x75 x81 x82 x88 x90 x91 b0 b1 b2 w3073)).symm)
 unfold brokerlaw15_InboundOnce_j15
 refine le_cond (by simp only [EN]) (fun _ => ?_) (fun _ => ?_)
 ·refine lC ?_ ?_
  ·refine le_cond (by simp only [EN]) (fun _ => ?_) (fun _ => le_none)
   refine le_cond (by simp only [EN]) (fun _ => ?_) (fun _ => ?_)
   ·refine le_cond (by simp only [EN]) (fun _ => ?_) (fun _ => le_none)
    refine le_call (good := good) eX brokerlaw15_step_inj (by first | (simp only [EN]; exact brokerlaw15_step_ok b2 (List.getD x2 (Int.toNat x14) default)) | exact brokerlaw15_step_ok b2 (List.getD x2 (Int.toNat x14) default)) (fun r11 _ => ?_)
    refine lC ?_ ?_
    ·exact le_ret (by first | rfl | simp only [EN, brokerlaw15_InboundOnce_out] <;> rfl)
    ·exact hk8 x2 x3 x13 (IntKind.wrap .i64 (x14 + 1)) r11.1 b1
   ·exact hk8 x2 x3 x13 (IntKind.wrap .i64 (x14 + 1)) b2 b1
  ·exact hk8 x2 x3 x13 (IntKind.wrap .i64 (x14 + 1)) b2 b1
 ·exact hk8 x2 x3 x13 (IntKind.wrap .i64 (x14 + 1)) b2 b1
theorem brokerlaw15_InboundOnce_j13_ok (k8 : (List api_Packet) → Int → Int → Int → api_Inbox → api_Packet → Option (Bool)) (hk8 : ∀ (x2 : (List api_Packet)) (x3 : Int) (x13 : Int) (x14 : Int) (b0 : api_Inbox) (b1 : api_Packet), Le (Option.map brokerlaw15_InboundOnce_out (k8 x2 x3 x13 x14 b0 b1)) (Q5_8 (List.map api_Packet.enc x2) x3 x13 x14 (api_Inbox.enc b0) (api_Packet.enc b1))) (x2 : (List api_Packet)) (x3 : Int) (x13 : Int) (x14 : Int) (x16 : Bool) (x74 : Int) (x75 : Bool) (x81 : Int) (x82 : Bool) (x88 : Int) (x90 : Int) (x91 : Bool) (b0 : api_Inbox) (b1 : api_Packet) (b2 : api_Inbox) (w3073 : (List api_Packet)) : Le (Option.map brokerlaw15_InboundOnce_out (brokerlaw15_InboundOnce_j13 k8 x2 x3 x13 x14 x16 x74 x75 x81 x82 x88 x90 x91 b0 b1 b2 w3073)) (Q5_13 (List.map api_Packet.enc x2) x3 x13 x14 x16 x74 x75 x81 x82 x88 x90 x91 (api_Inbox.enc b0) (api_Packet.enc b1) (api_Inbox.enc b2) (List.map api_Packet.enc w3073)) := by
 refine Le.trans ?_ (le_of_eq ((lab_realC Cr5).trans (T5_13 _ _ _ _ _ _ _ _ _ _  x2 x3 x13 x14 x16 x74 x75 x81 x82 x88 x90 x91 b0 b1 b2 w3073)).symm)
 unfold brokerlaw15_InboundOnce_j13
 refine lC ?_ ?_
 ·exact brokerlaw15_InboundOnce_j15_ok _ hk8 x2 x3 (IntKind.wrap .i64 (x13 + 1)) x14 x74 x75 x81 x82 x88 x90 x91 b0 b1 b2 w3073
 ·exact brokerlaw15_InboundOnce_j15_ok _ hk8 x2 x3 x13 x14 x74 x75 x81 x82 x88 x90 x91 b0 b1 b2 w3073
theorem brokerlaw15_InboundOnce_l8_ok : ∀ (fu : Nat) (x2 : (List api_Packet)) (x3 : Int) (x13 : Int) (x14 : Int) (b0 : api_Inbox) (b1 : api_Packet), Le (Option.map brokerlaw15_InboundOnce_out (brokerlaw15_InboundOnce_l8 fu x2 x3 x13 x14 b0 b1)) (Q5_8 (List.map api_Packet.enc x2) x3 x13 x14 (api_Inbox.enc b0) (api_Packet.enc b1)) := by
 intro fu
 induction fu with
 | zero => intros; exact le_none
 | succ fu ih =>
  intro x2 x3 x13 x14 b0 b1
  refine Le.trans ?_ (le_of_eq ((lab_realC Cr5).trans (T5_8 _ _ _ _ _ _ _ _ _ _  x2 x3 x13 x14 b0 b1)).symm)
  unfold brokerlaw15_InboundOnce_l8
  refine lC ?_ ?_
  ·refine le_call (good := good) eX inbound_Accept_inj (inbound_Accept_ok b0 b1) (fun r7 _ => ?_)
   refine lC ?_ ?_
   ·exact le_ret (by first | rfl | simp only [EN, brokerlaw15_InboundOnce_out] <;> rfl)
   ·refine le_cond (by simp only [EN]) (fun _ => ?_) (fun _ => ?_)
    ·exact le_ret (by first | rfl | simp only [EN, brokerlaw15_InboundOnce_out] <;> rfl)
    ·refine le_cond (by simp only [EN]) (fun _ => ?_) (fun _ => le_none)
     refine le_cond (by simp only [EN]) (fun _ => ?_) (fun _ => ?_)
     ·exact le_ret (by first | rfl | simp only [EN, brokerlaw15_InboundOnce_out] <;> rfl)
     ·refine le_cond (by simp only [EN]) (fun _ => ?_) (fun _ => le_none)
      refine le_cond (by simp only [EN]) (fun _ => ?_) (fun _ => ?_)
      ·exact le_ret (by first | rfl | simp only [EN, brokerlaw15_InboundOnce_out] <;> rfl)
      ·first | (simp only [EN]; exact brokerlaw15_InboundOnce_j13_ok _ (ih) x2 x3 x13 x14 r7.2.1 (List.length r7.2.2.1 : Int) ((List.length r7.2.2.1 : Int) != 1) ((List.getD r7.2.2.1 (Int.toNat 0) default).Kind) ((List.getD r7.2.2.1 (Int.toNat 0) default).Kind != 5) ((List.getD r7.2.2.1 (Int.toNat 0) default).ID) b1.ID ((List.getD r7.2.2.1 (Int.toNat 0) default).ID != b1.ID) b0 b1 r7.1 r7.2.2.1) | exact brokerlaw15_InboundOnce_j13_ok _ (ih) x2 x3 x13 x14 r7.2.1 (List.length r7.2.2.1 : Int) ((List.length r7.2.2.1 : Int) != 1) ((List.getD r7.2.2.1 (Int.toNat 0) default).Kind) ((List.getD r7.2.2.1 (Int.toNat 0) default).Kind != 5) ((List.getD r7.2.2.1 (Int.toNat 0) default).ID) b1.ID ((List.getD r7.2.2.1 (Int.toNat 0) default).ID != b1.ID) b0 b1 r7.1 r7.2.2.1
  ·refine lC ?_ ?_
   ·exact le_ret (by first | rfl | simp only [EN, brokerlaw15_InboundOnce_out] <;> rfl)
   ·refine le_call (good := good) eX inbound_Release_inj (by first | (simp only [EN]; exact inbound_Release_ok b0 ((api_Packet.mk 6 b1.ID false (api_Message.mk ([] : Str) ([] : Str) 0 false 0 0 ([] : Str) 0 ([] : List api_Prop)) ([] : Str) ([] : Str) false 0 0 0 (api_Will.mk false 0 (api_Message.mk ([] : Str) ([] : Str) 0 false 0 0 ([] : Str) 0 ([] : List api_Prop))) false 0 ([] : List api_Sub) ([] : List Str) ([] : List Int)))) | exact inbound_Release_ok b0 ((api_Packet.mk 6 b1.ID false (api_Message.mk ([] : Str) ([] : Str) 0 false 0 0 ([] : Str) 0 ([] : List api_Prop)) ([] : Str) ([] : Str) false 0 0 0 (api_Will.mk false 0 (api_Message.mk ([] : Str) ([] : Str) 0 false 0 0 ([] : Str) 0 ([] : List api_Prop))) false 0 ([] : List api_Sub) ([] : List Str) ([] : List Int)))) (fun r8 _ => ?_)
    refine le_call (good := good) eX inbound_Accept_inj (inbound_Accept_ok r8.1 b1) (fun r9 _ => ?_)
    refine le_call (good := good) eX brokerlaw15_awake_inj (brokerlaw15_awake_ok) (fun r10 _ => ?_)
    refine lC ?_ ?_
    ·refine lC ?_ ?_
     ·refine lC ?_ ?_
      ·exact le_ret (by first | rfl | simp only [EN, brokerlaw15_InboundOnce_out] <;> rfl)
      ·exact le_ret (by first | rfl | simp only [EN, brokerlaw15_InboundOnce_out] <;> rfl)
     ·exact le_ret (by first | rfl | simp only [EN, brokerlaw15_InboundOnce_out] <;> rfl)
    ·exact le_ret (by first | rfl | simp only [EN, brokerlaw15_InboundOnce_out] <;> rfl)
theorem brokerlaw15_InboundOnce_j6_ok (x2 : (List api_Packet)) (x3 : Int) (b0 : api_Inbox) (b1 : api_Packet) : Le (Option.map brokerlaw15_InboundOnce_out (brokerlaw15_InboundOnce_j6 x2 x3 b0 b1)) (Q5_6 (List.map api_Packet.enc x2) x3 (api_Inbox.enc b0) (api_Packet.enc b1)) := by
 refine Le.trans ?_ (le_of_eq ((lab_realC Cr5).trans (T5_6 _ _ _ _ _ _ _ _ _ _  x2 x3 b0 b1)).symm)
 unfold brokerlaw15_InboundOnce_j6
 exact brokerlaw15_InboundOnce_l8_ok fuel x2 x3 0 0 b0 b1
theorem brokerlaw15_InboundOnce_ok (p0 : api_Inbox) (p1 : api_Packet) (p2 : (List api_Packet)) (p3 : Int) : Le (Option.map brokerlaw15_InboundOnce_out (brokerlaw15_InboundOnce p0 p1 p2 p3)) (callW SE 5 [api_Inbox.av p0, api_Packet.av p1, .d (.sl api_Packet.ks (List.map api_Packet.enc p2)), .d (.int .u8 p3)] [] []) := by
 refine le_bodyC Cr5 rfl ?_
 refine Le.trans ?_ (le_of_eq (T5 _ _ _ _ _ _ _ _ _ _  p0 p1 p2 p3).symm)
 unfold brokerlaw15_InboundOnce
 refine le_call (good := good) eX brokerref15_Check_inj (brokerref15_Check_ok p0) (fun r0 _ => ?_)
 refine lC ?_ ?_
 ·refine le_call (good := good) eX brokerlaw15_awake_inj (brokerlaw15_awake_ok) (fun r1 _ => ?_)
  exact le_ret (by first | rfl | simp only [EN, brokerlaw15_InboundOnce_out] <;> rfl)
 ·refine le_call (good := good) eX brokerref15_Accept_inj (brokerref15_Accept_ok p0 p1) (fun r2 _ => ?_)
  refine lC ?_ ?_
  ·refine le_call (good := good) eX brokerlaw15_awake_inj (brokerlaw15_awake_ok) (fun r3 _ => ?_)
   exact le_ret (by first | rfl | simp only [EN, brokerlaw15_InboundOnce_out] <;> rfl)
  ·refine lC ?_ ?_
   ·refine le_call (good := good) eX brokerlaw15_awake_inj (brokerlaw15_awake_ok) (fun r4 _ => ?_)
    exact le_ret (by first | rfl | simp only [EN, brokerlaw15_InboundOnce_out] <;> rfl)
   ·refine le_call (good := good) eX brokerref15_Has_inj (brokerref15_Has_ok p0 p1.ID) (fun r5 _ => ?_)
    refine lC ?_ ?_
    ·refine le_call (good := good) eX brokerlaw15_awake_inj (brokerlaw15_awake_ok) (fun r6 _ => ?_)
     exact le_ret (by first | rfl | simp only [EN, brokerlaw15_InboundOnce_out] <;> rfl)
    ·exact brokerlaw15_InboundOnce_j6_ok p2 p3 p0 p1
end Te
end PX
