import Derived.Test.YtcfpheihkbkloaaDoorTre1
set_option linter.unusedVariables false
set_option linter.unusedSimpArgs false
set_option linter.unusedVariables false
set_option linter.unusedSimpArgs false
set_option maxRecDepth 100000
noncomputable section
namespace PX
open Go
open Md
namespace Te
def C4 (Γ : Fun) (γ7 : Gm (Int)) (γ6 : Gm (Bool)) (γ10 : Gm (api_Inbox × api_Packet × Int)) (γ11 : Gm (api_Inbox × api_Packet × Int)) (γ12 : Gm (Bool)) (γ13 : Gm (Bool)) : CFun := updC (updC (updC (updC (updC (updC (bindC Γ) 7 brokerref15_Check_out γ7) 6 brokerlaw15_awake_out γ6) 10 inbound_Release_out γ10) 11 brokerref15_Release_out γ11) 12 brokerref15_Same_out γ12) 13 brokerref06_Same_out γ13
def R4_7 (C : CFun) (Λ2 J : Lam) (a0 : Int) (a1 : (List D)) (a2 : (List D)) (a3 : (List D)) (a4 : (List D)) : Res := lab SE C Λ2 J 4 0 [1, 1, 1, 1, 1, 0, 0] (stoOf [(3, .ptr 1000000000 0), (5, .ptr 1000000001 0), (6, .ptr 1000000002 0), (9, .ptr 1000000003 0), (10, .d (.int .i64 a0))] [⟨37, (List.map AV.d a1)⟩, ⟨24, (List.map AV.d a2)⟩, ⟨37, (List.map AV.d a3)⟩, ⟨37, (List.map AV.d a4)⟩] [] [] [])
theorem T4 (Γ : Fun) (γ7 : Gm (Int)) (γ6 : Gm (Bool)) (γ10 : Gm (api_Inbox × api_Packet × Int)) (γ11 : Gm (api_Inbox × api_Packet × Int)) (γ12 : Gm (Bool)) (γ13 : Gm (Bool)) (Λ2 J : Lam) (p0 : api_Inbox) (p1 : api_Packet) : bodyC SE (C4 Γ γ7 γ6 γ10 γ11 γ12 γ13) Λ2 J 4 [api_Inbox.av p0, api_Packet.av p1] [] [] =
  γ7 [api_Inbox.av p0] [] [] fun r0 =>
  cond (r0 != 0) (
   γ6 [] [] [] fun r1 =>
   (some (.ret [.d (.bool r1)] [] []))) (
  γ10 [api_Inbox.av p0, api_Packet.av p1] [] [] fun r2 =>
  γ11 [api_Inbox.av p0, api_Packet.av p1] [] [] fun r3 =>
  cond (r2.2.2 != r3.2.2) (
   (some (.ret [.d (.bool false)] [] []))) (
  γ12 [api_Inbox.av r2.1, api_Inbox.av r3.1] [] [] fun r4 =>
  cond (!r4) (
   (some (.ret [.d (.bool false)] [] []))) (
  γ13 [api_Packet.av r2.2.1, api_Packet.av r3.2.1] [] [] fun r5 =>
  cond (!r5) (
   (some (.ret [.d (.bool false)] [] []))) (
  R4_7 (C4 Γ γ7 γ6 γ10 γ11 γ12 γ13) Λ2 J r3.2.2 (api_Packet.enc p1) (api_Inbox.enc r2.1) (api_Packet.enc r2.2.1) (api_Packet.enc r3.2.1))))) := by kernel_rfl
theorem T4_7 (Γ : Fun) (γ7 : Gm (Int)) (γ6 : Gm (Bool)) (γ10 : Gm (api_Inbox × api_Packet × Int)) (γ11 : Gm (api_Inbox × api_Packet × Int)) (γ12 : Gm (Bool)) (γ13 : Gm (Bool)) (Λ2 J : Lam) (x10 : Int) (b0 : api_Packet) (b1 : api_Inbox) (b2 : api_Packet) (b3 : api_Packet) : labU SE (C4 Γ γ7 γ6 γ10 γ11 γ12 γ13) Λ2 J 4 0 [1, 1, 1, 1, 1, 0, 0] (stoOf [(3, .ptr 1000000000 0), (5, .ptr 1000000001 0), (6, .ptr 1000000002 0), (9, .ptr 1000000003 0), (10, .d (.int .i64 x10))] [⟨37, (List.map AV.d (api_Packet.enc b0))⟩, ⟨24, (List.map AV.d (api_Inbox.enc b1))⟩, ⟨37, (List.map AV.d (api_Packet.enc b2))⟩, ⟨37, (List.map AV.d (api_Packet.enc b3))⟩] [] [] []) =
  cond (x10 != 0) (
   γ6 [] [] [] fun r6 =>
   (some (.ret [.d (.bool r6)] [] []))) (
  γ10 [api_Inbox.av b1, api_Packet.av b0] [] [] fun r7 =>
  γ6 [] [] [] fun r8 =>
  cond r8 (
   cond (r7.2.2 == 0) (
    γ12 [api_Inbox.av r7.1, api_Inbox.av b1] [] [] fun r9 =>
    cond r9 (
     γ13 [api_Packet.av r7.2.1, api_Packet.av b3] [] [] fun r10 =>
     (some (.ret [.d (.bool r10)] [] []))) (
    (some (.ret [.d (.bool false)] [] [])))) (
   (some (.ret [.d (.bool false)] [] [])))) (
  (some (.ret [.d (.bool false)] [] [])))) := by kernel_rfl
abbrev X4 : CFun := C4 (callG SE good) (callT SE good 7 brokerref15_Check_out) (callT SE good 6 brokerlaw15_awake_out) (callT SE good 10 inbound_Release_out) (callT SE good 11 brokerref15_Release_out) (callT SE good 12 brokerref15_Same_out) (callT SE good 13 brokerref06_Same_out)
theorem Cr4 : C4 (callG SE good) (callT SE good 7 brokerref15_Check_out) (callT SE good 6 brokerlaw15_awake_out) (callT SE good 10 inbound_Release_out) (callT SE good 11 brokerref15_Release_out) (callT SE good 12 brokerref15_Same_out) (callT SE good 13 brokerref06_Same_out) = bindC (callG SE good) := by unfold C4; rw [updC_real (fun _ h => h), updC_real (fun _ h => h), updC_real (fun _ h => h), updC_real (fun _ h => h), updC_real (fun _ h => h), updC_real (fun _ h => h)]
noncomputable abbrev Q4_7 (a0 : Int) (a1 : (List D)) (a2 : (List D)) (a3 : (List D)) (a4 : (List D)) : Res := R4_7 X4 (lam2 SE (callG SE good) (SE.hl 4) (SE.hr 4)) (J0 SE X4) a0 a1 a2 a3 a4
theorem brokerlaw15_InboundReleases_j7_ok (x10 : Int) (b0 : api_Packet) (b1 : api_Inbox) (b2 : api_Packet) (b3 : api_Packet) : Le (Option.map brokerlaw15_InboundReleases_out (brokerlaw15_InboundReleases_j7 x10 b0 b1 b2 b3)) (Q4_7 x10 (api_Packet.enc b0) (api_Inbox.enc b1) (api_Packet.enc b2) (api_Packet.enc b3)) := by
  refine Le.trans ?_ (le_of_eq ((lab_realC Cr4).trans (T4_7 _ _ _ _ _ _ _ _ _  x10 b0 b1 b2 b3)).symm)
  unfold brokerlaw15_InboundReleases_j7
  refine le_cond rfl (fun _ => ?_) (fun _ => ?_)
  · skip
    refine le_call (good := good) (fun y => ⟨y, rfl⟩) brokerlaw15_awake_inj (brokerlaw15_awake_ok) (fun r6 _ => ?_)
    exact le_ret (by first | rfl | (simp only [EN, brokerlaw15_InboundReleases_out]; done) | (simp only [EN, brokerlaw15_InboundReleases_out]; rfl))
  · skip
    refine le_call (good := good) (fun y => ⟨y, rfl⟩) inbound_Release_inj (inbound_Release_ok b1 b0) (fun r7 _ => ?_)
    refine le_call (good := good) (fun y => ⟨y, rfl⟩) brokerlaw15_awake_inj (brokerlaw15_awake_ok) (fun r8 _ => ?_)
    refine le_cond rfl (fun _ => ?_) (fun _ => ?_)
    · skip
      refine le_cond rfl (fun _ => ?_) (fun _ => ?_)
      · skip
        refine le_call (good := good) (fun y => ⟨y, rfl⟩) brokerref15_Same_inj (brokerref15_Same_ok r7.1 b1) (fun r9 _ => ?_)
        refine le_cond rfl (fun _ => ?_) (fun _ => ?_)
        · skip
          refine le_call (good := good) (fun y => ⟨y, rfl⟩) brokerref06_Same_inj (brokerref06_Same_ok r7.2.1 b3) (fun r10 _ => ?_)
          exact le_ret (by first | rfl | (simp only [EN, brokerlaw15_InboundReleases_out]; done) | (simp only [EN, brokerlaw15_InboundReleases_out]; rfl))
        · skip
          exact le_ret (by first | rfl | (simp only [EN, brokerlaw15_InboundReleases_out]; done) | (simp only [EN, brokerlaw15_InboundReleases_out]; rfl))
      · skip
        exact le_ret (by first | rfl | (simp only [EN, brokerlaw15_InboundReleases_out]; done) | (simp only [EN, brokerlaw15_InboundReleases_out]; rfl))
    · skip
      exact le_ret (by first | rfl | (simp only [EN, brokerlaw15_InboundReleases_out]; done) | (simp only [EN, brokerlaw15_InboundReleases_out]; rfl))
theorem brokerlaw15_InboundReleases_ok (p0 : api_Inbox) (p1 : api_Packet) : Le (Option.map brokerlaw15_InboundReleases_out (brokerlaw15_InboundReleases p0 p1)) (callW SE 4 [api_Inbox.av p0, api_Packet.av p1] [] []) := by
  refine le_bodyC Cr4 rfl ?_
  refine Le.trans ?_ (le_of_eq (T4 _ _ _ _ _ _ _ _ _  p0 p1).symm)
  unfold brokerlaw15_InboundReleases
  refine le_call (good := good) (fun y => ⟨y, rfl⟩) brokerref15_Check_inj (brokerref15_Check_ok p0) (fun r0 _ => ?_)
  refine le_cond rfl (fun _ => ?_) (fun _ => ?_)
  · skip
    refine le_call (good := good) (fun y => ⟨y, rfl⟩) brokerlaw15_awake_inj (brokerlaw15_awake_ok) (fun r1 _ => ?_)
    exact le_ret (by first | rfl | (simp only [EN, brokerlaw15_InboundReleases_out]; done) | (simp only [EN, brokerlaw15_InboundReleases_out]; rfl))
  · skip
    refine le_call (good := good) (fun y => ⟨y, rfl⟩) inbound_Release_inj (inbound_Release_ok p0 p1) (fun r2 _ => ?_)
    refine le_call (good := good) (fun y => ⟨y, rfl⟩) brokerref15_Release_inj (brokerref15_Release_ok p0 p1) (fun r3 _ => ?_)
    refine le_cond rfl (fun _ => ?_) (fun _ => ?_)
    · skip
      exact le_ret (by first | rfl | (simp only [EN, brokerlaw15_InboundReleases_out]; done) | (simp only [EN, brokerlaw15_InboundReleases_out]; rfl))
    · skip
      refine le_call (good := good) (fun y => ⟨y, rfl⟩) brokerref15_Same_inj (brokerref15_Same_ok r2.1 r3.1) (fun r4 _ => ?_)
      refine le_cond rfl (fun _ => ?_) (fun _ => ?_)
      · skip
        exact le_ret (by first | rfl | (simp only [EN, brokerlaw15_InboundReleases_out]; done) | (simp only [EN, brokerlaw15_InboundReleases_out]; rfl))
      · skip
        refine le_call (good := good) (fun y => ⟨y, rfl⟩) brokerref06_Same_inj (brokerref06_Same_ok r2.2.1 r3.2.1) (fun r5 _ => ?_)
        refine le_cond rfl (fun _ => ?_) (fun _ => ?_)
        · skip
          exact le_ret (by first | rfl | (simp only [EN, brokerlaw15_InboundReleases_out]; done) | (simp only [EN, brokerlaw15_InboundReleases_out]; rfl))
        · skip
          exact brokerlaw15_InboundReleases_j7_ok r3.2.2 p1 r2.1 r2.2.1 r3.2.1
end Te
end PX
