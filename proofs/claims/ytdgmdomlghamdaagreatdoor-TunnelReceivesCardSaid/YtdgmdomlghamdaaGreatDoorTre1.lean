import Derived.Test.YtdgmdomlghamdaaGreatDoorTre0
set_option linter.unusedVariables false
set_option linter.unusedSimpArgs false
set_option maxRecDepth 100000
noncomputable section
namespace PX
open Go
open Md
namespace Te
noncomputable def aj3 (L : cD) (κ : Tau) (a0 a1 : Int) (a2 : List D) (a3 a4 : Str) (a5 : Int) (a6 : Bool) (a7 a8 : Int) (a9 : Str) (a10 : Int) (a11 : List D) (a12 : List (List D)) : Res := rl L κ 100 1 [1, 1, 1, 1, 1, 1, 1, 1, 1, 1, 0, 1, 0] (bQ [(0, .ptr 2000000000 0), (2, .ptr 1000000000 0), (3, .ptr 1000000001 0), (32, dIq a0), (33, dIq a1)] [⟨47, (List.map AV.d a2)⟩, ⟨47, [dSq a3, dSq a4, dIq a5, dBq a6, dIq a7, dIq a8, dSq a9, dIq a10, .row 50108]⟩] [⟨101, (List.map AV.d a11)⟩] [] [(50108, ⟨aE.ks, 119, 32, a12⟩)])
theorem aBl (κ : Tau) (p0 : aI) : bdy κ 100 [.ptr 2000000000 0] [⟨101, (aI.avs p0)⟩] [] =
 κ.p 122 cY [.ptr 2000000000 0, dIq 64] [⟨101, (aI.avs p0)⟩] [] (fun e1 =>
 (some (.pan (.ifc 98 (aQ.av e1))))) fun r0 =>
 κ.p 122 cY [.ptr 2000000000 0, dIq 256] [⟨101, (aI.avs r0.2)⟩] [] (fun e3 =>
 (some (.pan (.ifc 98 (aQ.av e3))))) fun r2 =>
 κ.p 72 bJ [.ptr 2000000000 0] [⟨101, (aI.avs r2.2)⟩] [] (fun e5 =>
 (some (.pan (.ifc 98 (aQ.av e5))))) fun r4 =>
 κ.p 99 eH [.ptr 2000000000 0, dIq 2] [⟨101, (aI.avs r4.2)⟩] [] (fun e7 =>
 (some (.pan (.ifc 98 (aQ.av e7))))) fun r6 =>
 κ.p 72 bJ [.ptr 2000000000 0] [⟨101, (aI.avs r6.2)⟩] [] (fun e9 =>
 (some (.pan (.ifc 98 (aQ.av e9))))) fun r8 =>
 κ.p 72 bJ [.ptr 2000000000 0] [⟨101, (aI.avs r8.2)⟩] [] (fun e11 =>
 (some (.pan (.ifc 98 (aQ.av e11))))) fun r10 =>
 κ.p 122 cY [.ptr 2000000000 0, dIq 16] [⟨101, (aI.avs r10.2)⟩] [] (fun e13 =>
 (some (.pan (.ifc 98 (aQ.av e13))))) fun r12 =>
 κ.p 72 bJ [.ptr 2000000000 0] [⟨101, (aI.avs r12.2)⟩] [] (fun e15 =>
 (some (.pan (.ifc 98 (aQ.av e15))))) fun r14 =>
 κ.p 124 iN [.ptr 2000000000 0, dIq 8] [⟨101, (aI.avs r14.2)⟩] [] (fun e17 =>
 (some (.pan (.ifc 98 (aQ.av e17))))) fun r16 =>
 aj3 lab κ r16.1 0 [D.str [], D.str [], D.int .i64 0, D.bool false, D.int .i64 0, D.int .i64 0, D.str [], D.int .i64 0, D.sl aE.ks (List.map aE.enc [])] r0.1 r2.1 r4.1 (r6.1 == 1) r8.1 r10.1 r12.1 r14.1 (aI.enc r16.2) (List.map aE.enc []) := by kernel_rfl
theorem axz (κ : Tau) (x32 x33 : Int) (b0 : aF) (b1_0 b1_1 : Str) (b1_2 : Int) (b1_3 : Bool) (b1_4 b1_5 : Int) (b1_6 : Str) (b1_7 : Int) (q0 : aI) (w50108 : List aE) : aj3 cA κ x32 x33 (aF.enc b0) b1_0 b1_1 b1_2 b1_3 b1_4 b1_5 b1_6 b1_7 (aI.enc q0) (List.map aE.enc w50108) =
 cond (decide (x33 < x32)) (
 κ.p 122 cY [.ptr 2000000000 0, dIq 16] [⟨101, (aI.avs q0)⟩] [] (fun e19 =>
  (some (.pan (.ifc 98 (aQ.av e19))))) fun r18 =>
 κ.p 122 cY [.ptr 2000000000 0, dIq 160] [⟨101, (aI.avs r18.2)⟩] [] (fun e21 =>
  (some (.pan (.ifc 98 (aQ.av e21))))) fun r20 =>
 cond (decide ((lM aE.enc w50108 + lM aE.enc [(aE.mk r18.1 r20.1)]) * 32 ≤ 140737488355328)) (
  aj3 lab κ x32 (w6 (x33 + 1)) (aF.enc b0) b1_0 b1_1 b1_2 b1_3 b1_4 b1_5 b1_6 b1_7 (aI.enc r20.2) (((List.map aE.enc w50108) ++ (List.map aE.enc [(aE.mk r18.1 r20.1)])))) none) (
 (some (jA ((aF.mk b1_0 b1_1 b1_2 b1_3 b1_4 b1_5 b1_6 b1_7 w50108), q0)))) := by kernel_rfl
theorem aa2 : ∀ (fu : Nat) (x32 x33 : Int) (b0 : aF) (b1_0 b1_1 : Str) (b1_2 : Int) (b1_3 : Bool) (b1_4 b1_5 : Int) (b1_6 : Str) (b1_7 : Int) (q0 : aI) (w50108 : List aE), Le (Option.map eL (gU fu x32 x33 b0 b1_0 b1_1 b1_2 b1_3 b1_4 b1_5 b1_6 b1_7 q0 w50108)) (aj3 lab (kF 100) x32 x33 (aF.enc b0) b1_0 b1_1 b1_2 b1_3 b1_4 b1_5 b1_6 b1_7 (aI.enc q0) (List.map aE.enc w50108)) := by
 intro fu
 induction fu with
 | zero => intros; exact le_none
 | succ fu ih =>
  intro x32 x33 b0 b1_0 b1_1 b1_2 b1_3 b1_4 b1_5 b1_6 b1_7 q0 w50108
  refine bR (axz _ x32 x33 b0 b1_0 b1_1 b1_2 b1_3 b1_4 b1_5 b1_6 b1_7 q0 w50108) ?_
  unfold gU
  repeat' first | (with_reducible first | refine lC ?_ ?_ | refine lQp eX iW ?_ (fun _ _ => ?_) (fun _ _ => ?_) | refine lG ?_ ?_ | exact jH _ _ | exact ih _ _ _ _ _ _ _ _ _ _ _ _ _ | refine aN ?_) | rfl | (simp only [EN]; done) | (simp only [EN]; exact ih _ _ _ _ _ _ _ _ _ _ _ _ _) | (simp only [EN, eL, jA] <;> rfl)
theorem wD (p0 : aI) : Le (Option.map eL (jI p0)) (aY SE 100 [.ptr 2000000000 0] [⟨101, (aI.avs p0)⟩] []) := by
 refine bD (aBl _ p0) ?_
 unfold jI
 refine lQp eX iW (jH _ _) (fun e1 _ => ?_) (fun r0 _ => ?_)
 ·exact aN rfl
 ·refine lQp eX iW (jH _ _) (fun e3 _ => ?_) (fun r2 _ => ?_)
  ·exact aN rfl
  ·refine lQp eX eD (eN _) (fun e5 _ => ?_) (fun r4 _ => ?_)
   ·exact aN rfl
   ·refine lQp eX mP (nJ _ _) (fun e7 _ => ?_) (fun r6 _ => ?_)
    ·exact aN rfl
    ·refine lQp eX eD (eN _) (fun e9 _ => ?_) (fun r8 _ => ?_)
     ·exact aN rfl
     ·refine lQp eX eD (eN _) (fun e11 _ => ?_) (fun r10 _ => ?_)
      ·exact aN rfl
      ·refine lQp eX iW (jH _ _) (fun e13 _ => ?_) (fun r12 _ => ?_)
       ·exact aN rfl
       ·refine lQp eX eD (eN _) (fun e15 _ => ?_) (fun r14 _ => ?_)
        ·exact aN rfl
        ·refine lQp eX xA (xL _ _) (fun e17 _ => ?_) (fun r16 _ => ?_)
         ·exact aN rfl
         ·(try simp only [EN]); exact aa2 fuel r16.1 0 (zMq) r0.1 r2.1 r4.1 (r6.1 == 1) r8.1 r10.1 r12.1 r14.1 r16.2 []
theorem T98 (κ : Tau) (p0 : aI) : bdy κ 98 [.ptr 2000000000 0] [⟨101, (aI.avs p0)⟩] [] =
 κ.p 122 cY [.ptr 2000000000 0, dIq 16] [⟨101, (aI.avs p0)⟩] [] (fun e1 =>
 (some (.pan (.ifc 98 (aQ.av e1))))) fun r0 =>
 κ.p 122 cY [.ptr 2000000000 0, dIq 16] [⟨101, (aI.avs r0.2)⟩] [] (fun e3 =>
 (some (.pan (.ifc 98 (aQ.av e3))))) fun r2 =>
 κ.p 99 eH [.ptr 2000000000 0, dIq 4] [⟨101, (aI.avs r2.2)⟩] [] (fun e5 =>
 (some (.pan (.ifc 98 (aQ.av e5))))) fun r4 =>
 κ.t 123 packet_is_out [dIq r4.1, dIq 0] [] [] fun r6 =>
 κ.t 123 packet_is_out [dIq r4.1, dIq 1] [] [] fun r7 =>
 κ.p 72 bJ [.ptr 2000000000 0] [⟨101, (aI.avs r4.2)⟩] [] (fun e9 =>
 (some (.pan (.ifc 98 (aQ.av e9))))) fun r8 =>
 κ.p 72 bJ [.ptr 2000000000 0] [⟨101, (aI.avs r8.2)⟩] [] (fun e11 =>
 (some (.pan (.ifc 98 (aQ.av e11))))) fun r10 =>
 κ.p 72 bJ [.ptr 2000000000 0] [⟨101, (aI.avs r10.2)⟩] [] (fun e13 =>
 (some (.pan (.ifc 98 (aQ.av e13))))) fun r12 =>
 cond r7 (
 κ.p 72 bJ [.ptr 2000000000 0] [⟨101, (aI.avs r12.2)⟩] [] (fun e15 =>
  (some (.pan (.ifc 98 (aQ.av e15))))) fun r14 =>
 κ.p 100 eL [.ptr 2000000000 0] [⟨101, (aI.avs r14.2)⟩] [] (fun e17 =>
  (some (.pan (.ifc 98 (aQ.av e17))))) fun r16 =>
 (some (gJ (((aA.mk 1 0 false zMq r0.1 r2.1 r6 r8.1 r10.1 r12.1 (aV.mk r7 r14.1 r16.1) false 0 [] [] []), r16.2))))) (
 (some (gJ (((aA.mk 1 0 false zMq r0.1 r2.1 r6 r8.1 r10.1 r12.1 (aV.mk r7 0 zMq) false 0 [] [] []), r12.2))))) := by kernel_rfl
theorem acT (p0 : aI) : Le (Option.map gT (kW p0)) (aY SE 98 [.ptr 2000000000 0] [⟨101, (aI.avs p0)⟩] []) := by
 refine bD (T98 _ p0) ?_
 unfold kW
 repeat' first | (with_reducible first | refine lC ?_ ?_ | refine lQp eX iW ?_ (fun _ _ => ?_) (fun _ _ => ?_) | refine lQp eX mP ?_ (fun _ _ => ?_) (fun _ _ => ?_) | refine lQ eX packet_is_inj ?_ fun _ _ => ?_ | refine lQp eX eD ?_ (fun _ _ => ?_) (fun _ _ => ?_) | refine lQp eX uY ?_ (fun _ _ => ?_) (fun _ _ => ?_) | exact jH _ _ | exact nJ _ _ | exact ap6 _ _ | exact eN _ | exact wD _ | refine aN ?_) | rfl | (simp only [EN, gT, gJ] <;> rfl)
noncomputable def agm (L : cD) (κ : Tau) (a0 a1 : Int) (a2 : List D) (a3 a4 : Int) (a5 : Bool) (a6 a7 : Str) (a8 : Int) (a9 : Bool) (a10 a11 : Int) (a12 : Str) (a13 : Int) (a14 : List (List D)) (a15 a16 : Str) (a17 : Bool) (a18 a19 a20 : Int) (a21 : Bool) (a22 : Int) (a23 a24 : Str) (a25 : Int) (a26 : Bool) (a27 a28 : Int) (a29 : Str) (a30 : Int) (a31 : List (List D)) (a32 : Bool) (a33 : Int) (a34 : List D) (a35 a36 a37 : List (List D)) : Res := rl L κ 101 1 [1, 1, 0, 1, 0] (bQ [(0, .ptr 2000000000 0), (4, .ptr 1000000000 0), (5, .ptr 1000000001 0), (9, dIq a0), (10, dIq a1)] [⟨53, (List.map AV.d a2)⟩, ⟨53, [dIq a3, dIq a4, dBq a5, dSq a6, dSq a7, dIq a8, dBq a9, dIq a10, dIq a11, dSq a12, dIq a13, .d (.sl aE.ks a14), dSq a15, dSq a16, dBq a17, dIq a18, dIq a19, dIq a20, dBq a21, dIq a22, dSq a23, dSq a24, dIq a25, dBq a26, dIq a27, dIq a28, dSq a29, dIq a30, .d (.sl aE.ks a31), dBq a32, dIq a33, .row 50131, .row 50132, .row 50133]⟩] [⟨101, (List.map AV.d a34)⟩] [] [(50131, ⟨aG.ks, 112, 32, a35⟩), (50132, ⟨[.str], 9, 16, a36⟩), (50133, ⟨[.int .i64], 3, 8, a37⟩)])
theorem aBc (κ : Tau) (p0 : aI) (p1 : aA) : bdy κ 101 [.ptr 2000000000 0, .agg [dIq p1.Kind, dIq p1.ID, dBq p1.Dup, dSq p1.Message.Topic, dSq p1.Message.Payload, dIq p1.Message.Level, dBq p1.Message.Retain, dIq p1.Message.Priority, dIq p1.Message.Expires, dSq p1.Message.From, dIq p1.Message.Seq, .d (.sl aE.ks (List.map aE.enc p1.Message.Props)), dSq p1.Client, dSq p1.User, dBq p1.Clean, dIq p1.Keep, dIq p1.Expiry, dIq p1.Window, dBq p1.Will.Set, dIq p1.Will.Delay, dSq p1.Will.Message.Topic, dSq p1.Will.Message.Payload, dIq p1.Will.Message.Level, dBq p1.Will.Message.Retain, dIq p1.Will.Message.Priority, dIq p1.Will.Message.Expires, dSq p1.Will.Message.From, dIq p1.Will.Message.Seq, .d (.sl aE.ks (List.map aE.enc p1.Will.Message.Props)), dBq p1.Present, dIq p1.Code, .row 2000000000, .row 2000000001, .row 2000000002]] [⟨101, (aI.avs p0)⟩] [⟨aG.ks, 112, 32, (List.map aG.enc p1.Subs)⟩, ⟨[.str], 9, 16, (List.map aZ p1.Filters)⟩, ⟨[.int .i64], 3, 8, (List.map eI p1.Codes)⟩] =
 κ.p 124 iN [.ptr 2000000000 0, dIq 32] [⟨101, (aI.avs p0)⟩] [] (fun e1 =>
 (some (.pan (.ifc 98 (aQ.av e1))))) fun r0 =>
 agm lab κ r0.1 0 [D.int .i64 0, D.int .i64 0, D.bool false, D.str [], D.str [], D.int .i64 0, D.bool false, D.int .i64 0, D.int .i64 0, D.str [], D.int .i64 0, D.sl aE.ks (List.map aE.enc []), D.str [], D.str [], D.bool false, D.int .i64 0, D.int .i64 0, D.int .i64 0, D.bool false, D.int .i64 0, D.str [], D.str [], D.int .i64 0, D.bool false, D.int .i64 0, D.int .i64 0, D.str [], D.int .i64 0, D.sl aE.ks (List.map aE.enc []), D.bool false, D.int .i64 0, D.sl aG.ks (List.map aG.enc []), D.sl [.str] (List.map aZ []), D.sl [.int .i64] (List.map eI [])] p1.Kind p1.ID p1.Dup p1.Message.Topic p1.Message.Payload p1.Message.Level p1.Message.Retain p1.Message.Priority p1.Message.Expires p1.Message.From p1.Message.Seq (List.map aE.enc p1.Message.Props) p1.Client p1.User p1.Clean p1.Keep p1.Expiry p1.Window p1.Will.Set p1.Will.Delay p1.Will.Message.Topic p1.Will.Message.Payload p1.Will.Message.Level p1.Will.Message.Retain p1.Will.Message.Priority p1.Will.Message.Expires p1.Will.Message.From p1.Will.Message.Seq (List.map aE.enc p1.Will.Message.Props) p1.Present p1.Code (aI.enc r0.2) (List.map aG.enc p1.Subs) (List.map aZ p1.Filters) (List.map eI p1.Codes) := by kernel_rfl
theorem aya (κ : Tau) (x9 x10 : Int) (b0 : aA) (b1_0 b1_1 : Int) (b1_2 : Bool) (b1_3 b1_4 : Str) (b1_5 : Int) (b1_6 : Bool) (b1_7 b1_8 : Int) (b1_9 : Str) (b1_10 : Int) (b1_11 : List aE) (b1_12 b1_13 : Str) (b1_14 : Bool) (b1_15 b1_16 b1_17 : Int) (b1_18 : Bool) (b1_19 : Int) (b1_20 b1_21 : Str) (b1_22 : Int) (b1_23 : Bool) (b1_24 b1_25 : Int) (b1_26 : Str) (b1_27 : Int) (b1_28 : List aE) (b1_29 : Bool) (b1_30 : Int) (q0 : aI) (w50131 : List aG) (w50132 : List Str) (w50133 : List Int) : agm cA κ x9 x10 (aA.enc b0) b1_0 b1_1 b1_2 b1_3 b1_4 b1_5 b1_6 b1_7 b1_8 b1_9 b1_10 (List.map aE.enc b1_11) b1_12 b1_13 b1_14 b1_15 b1_16 b1_17 b1_18 b1_19 b1_20 b1_21 b1_22 b1_23 b1_24 b1_25 b1_26 b1_27 (List.map aE.enc b1_28) b1_29 b1_30 (aI.enc q0) (List.map aG.enc w50131) (List.map aZ w50132) (List.map eI w50133) =
 cond (decide (x10 < x9)) (
 cond (b1_0 == 8) (
  κ.p 122 cY [.ptr 2000000000 0, dIq 88] [⟨101, (aI.avs q0)⟩] [] (fun e3 =>
  (some (.pan (.ifc 98 (aQ.av e3))))) fun r2 =>
  κ.p 72 bJ [.ptr 2000000000 0] [⟨101, (aI.avs r2.2)⟩] [] (fun e5 =>
  (some (.pan (.ifc 98 (aQ.av e5))))) fun r4 =>
  κ.p 99 eH [.ptr 2000000000 0, dIq 2] [⟨101, (aI.avs r4.2)⟩] [] (fun e7 =>
  (some (.pan (.ifc 98 (aQ.av e7))))) fun r6 =>
  cond (decide ((lM aG.enc w50131 + lM aG.enc [(aG.mk r2.1 r4.1 (r6.1 == 1))]) * 32 ≤ 140737488355328)) (
  agm lab κ x9 (w6 (x10 + 1)) (aA.enc b0) b1_0 b1_1 b1_2 b1_3 b1_4 b1_5 b1_6 b1_7 b1_8 b1_9 b1_10 (List.map aE.enc b1_11) b1_12 b1_13 b1_14 b1_15 b1_16 b1_17 b1_18 b1_19 b1_20 b1_21 b1_22 b1_23 b1_24 b1_25 b1_26 b1_27 (List.map aE.enc b1_28) b1_29 b1_30 (aI.enc r6.2) (((List.map aG.enc w50131) ++ (List.map aG.enc [(aG.mk r2.1 r4.1 (r6.1 == 1))]))) (List.map aZ w50132) (List.map eI w50133)) none) (
 cond (b1_0 == 10) (
  κ.p 122 cY [.ptr 2000000000 0, dIq 88] [⟨101, (aI.avs q0)⟩] [] (fun e9 =>
  (some (.pan (.ifc 98 (aQ.av e9))))) fun r8 =>
  cond (decide ((lM aZ w50132 + lM aZ [r8.1]) * 16 ≤ 140737488355328)) (
  agm lab κ x9 (w6 (x10 + 1)) (aA.enc b0) b1_0 b1_1 b1_2 b1_3 b1_4 b1_5 b1_6 b1_7 b1_8 b1_9 b1_10 (List.map aE.enc b1_11) b1_12 b1_13 b1_14 b1_15 b1_16 b1_17 b1_18 b1_19 b1_20 b1_21 b1_22 b1_23 b1_24 b1_25 b1_26 b1_27 (List.map aE.enc b1_28) b1_29 b1_30 (aI.enc r8.2) (List.map aG.enc w50131) (((List.map aZ w50132) ++ (List.map aZ [r8.1]))) (List.map eI w50133)) none) (
 κ.p 72 bJ [.ptr 2000000000 0] [⟨101, (aI.avs q0)⟩] [] (fun e11 =>
  (some (.pan (.ifc 98 (aQ.av e11))))) fun r10 =>
 cond (decide ((lM eI w50133 + lM eI [r10.1]) * 8 ≤ 140737488355328)) (
  agm lab κ x9 (w6 (x10 + 1)) (aA.enc b0) b1_0 b1_1 b1_2 b1_3 b1_4 b1_5 b1_6 b1_7 b1_8 b1_9 b1_10 (List.map aE.enc b1_11) b1_12 b1_13 b1_14 b1_15 b1_16 b1_17 b1_18 b1_19 b1_20 b1_21 b1_22 b1_23 b1_24 b1_25 b1_26 b1_27 (List.map aE.enc b1_28) b1_29 b1_30 (aI.enc r10.2) (List.map aG.enc w50131) (List.map aZ w50132) (((List.map eI w50133) ++ (List.map eI [r10.1])))) none))) (
 (some (hZ (((aA.mk b1_0 b1_1 b1_2 (aF.mk b1_3 b1_4 b1_5 b1_6 b1_7 b1_8 b1_9 b1_10 b1_11) b1_12 b1_13 b1_14 b1_15 b1_16 b1_17 (aV.mk b1_18 b1_19 (aF.mk b1_20 b1_21 b1_22 b1_23 b1_24 b1_25 b1_26 b1_27 b1_28)) b1_29 b1_30 w50131 w50132 w50133), q0))))) := by kernel_rfl
theorem vB : ∀ (fu : Nat) (x9 x10 : Int) (b0 : aA) (b1_0 b1_1 : Int) (b1_2 : Bool) (b1_3 b1_4 : Str) (b1_5 : Int) (b1_6 : Bool) (b1_7 b1_8 : Int) (b1_9 : Str) (b1_10 : Int) (b1_11 : List aE) (b1_12 b1_13 : Str) (b1_14 : Bool) (b1_15 b1_16 b1_17 : Int) (b1_18 : Bool) (b1_19 : Int) (b1_20 b1_21 : Str) (b1_22 : Int) (b1_23 : Bool) (b1_24 b1_25 : Int) (b1_26 : Str) (b1_27 : Int) (b1_28 : List aE) (b1_29 : Bool) (b1_30 : Int) (q0 : aI) (w50131 : List aG) (w50132 : List Str) (w50133 : List Int), Le (Option.map dM (cP fu x9 x10 b0 b1_0 b1_1 b1_2 b1_3 b1_4 b1_5 b1_6 b1_7 b1_8 b1_9 b1_10 b1_11 b1_12 b1_13 b1_14 b1_15 b1_16 b1_17 b1_18 b1_19 b1_20 b1_21 b1_22 b1_23 b1_24 b1_25 b1_26 b1_27 b1_28 b1_29 b1_30 q0 w50131 w50132 w50133)) (agm lab (kF 101) x9 x10 (aA.enc b0) b1_0 b1_1 b1_2 b1_3 b1_4 b1_5 b1_6 b1_7 b1_8 b1_9 b1_10 (List.map aE.enc b1_11) b1_12 b1_13 b1_14 b1_15 b1_16 b1_17 b1_18 b1_19 b1_20 b1_21 b1_22 b1_23 b1_24 b1_25 b1_26 b1_27 (List.map aE.enc b1_28) b1_29 b1_30 (aI.enc q0) (List.map aG.enc w50131) (List.map aZ w50132) (List.map eI w50133)) := by
 intro fu
 induction fu with
 | zero => intros; exact le_none
 | succ fu ih =>
  intro x9 x10 b0 b1_0 b1_1 b1_2 b1_3 b1_4 b1_5 b1_6 b1_7 b1_8 b1_9 b1_10 b1_11 b1_12 b1_13 b1_14 b1_15 b1_16 b1_17 b1_18 b1_19 b1_20 b1_21 b1_22 b1_23 b1_24 b1_25 b1_26 b1_27 b1_28 b1_29 b1_30 q0 w50131 w50132 w50133
  refine bR (aya _ x9 x10 b0 b1_0 b1_1 b1_2 b1_3 b1_4 b1_5 b1_6 b1_7 b1_8 b1_9 b1_10 b1_11 b1_12 b1_13 b1_14 b1_15 b1_16 b1_17 b1_18 b1_19 b1_20 b1_21 b1_22 b1_23 b1_24 b1_25 b1_26 b1_27 b1_28 b1_29 b1_30 q0 w50131 w50132 w50133) ?_
  unfold cP
  repeat' first | (with_reducible first | refine lC ?_ ?_ | refine lQp eX iW ?_ (fun _ _ => ?_) (fun _ _ => ?_) | refine lQp eX eD ?_ (fun _ _ => ?_) (fun _ _ => ?_) | refine lQp eX mP ?_ (fun _ _ => ?_) (fun _ _ => ?_) | refine lG ?_ ?_ | exact jH _ _ | exact eN _ | exact nJ _ _ | exact ih _ _ _ _ _ _ _ _ _ _ _ _ _ _ _ _ _ _ _ _ _ _ _ _ _ _ _ _ _ _ _ _ _ _ _ _ _ _ | refine aN ?_) | rfl | (simp only [EN]; done) | (simp only [EN]; exact ih _ _ _ _ _ _ _ _ _ _ _ _ _ _ _ _ _ _ _ _ _ _ _ _ _ _ _ _ _ _ _ _ _ _ _ _ _ _) | (simp only [EN, dM, hZ] <;> rfl)
theorem xV (p0 : aI) (p1 : aA) : Le (Option.map dM (dX p0 p1)) (aY SE 101 [.ptr 2000000000 0, .agg [dIq p1.Kind, dIq p1.ID, dBq p1.Dup, dSq p1.Message.Topic, dSq p1.Message.Payload, dIq p1.Message.Level, dBq p1.Message.Retain, dIq p1.Message.Priority, dIq p1.Message.Expires, dSq p1.Message.From, dIq p1.Message.Seq, .d (.sl aE.ks (List.map aE.enc p1.Message.Props)), dSq p1.Client, dSq p1.User, dBq p1.Clean, dIq p1.Keep, dIq p1.Expiry, dIq p1.Window, dBq p1.Will.Set, dIq p1.Will.Delay, dSq p1.Will.Message.Topic, dSq p1.Will.Message.Payload, dIq p1.Will.Message.Level, dBq p1.Will.Message.Retain, dIq p1.Will.Message.Priority, dIq p1.Will.Message.Expires, dSq p1.Will.Message.From, dIq p1.Will.Message.Seq, .d (.sl aE.ks (List.map aE.enc p1.Will.Message.Props)), dBq p1.Present, dIq p1.Code, .row 2000000000, .row 2000000001, .row 2000000002]] [⟨101, (aI.avs p0)⟩] [⟨aG.ks, 112, 32, (List.map aG.enc p1.Subs)⟩, ⟨[.str], 9, 16, (List.map aZ p1.Filters)⟩, ⟨[.int .i64], 3, 8, (List.map eI p1.Codes)⟩]) := by
 refine bD (aBc _ p0 p1) ?_
 unfold dX
 repeat' first | (with_reducible first | refine lQp eX xA ?_ (fun _ _ => ?_) (fun _ _ => ?_) | exact xL _ _ | exact vB fuel _ _ _ _ _ _ _ _ _ _ _ _ _ _ _ _ _ _ _ _ _ _ _ _ _ _ _ _ _ _ _ _ _ _ _ _ _ _ | refine aN ?_) | rfl | (simp only [EN]; exact vB fuel _ _ _ _ _ _ _ _ _ _ _ _ _ _ _ _ _ _ _ _ _ _ _ _ _ _ _ _ _ _ _ _ _ _ _ _ _ _) | (simp only [EN, dM, hZ] <;> rfl)
theorem T74 (κ : Tau) (p0 : aI) (p1 : Int) : bdy κ 74 [.ptr 2000000000 0, dIq p1] [⟨101, (aI.avs p0)⟩] [] =
 cond (p1 == 1) (
 κ.p 98 gT [.ptr 2000000000 0] [⟨101, (aI.avs p0)⟩] [] (fun e1 =>
  (some (.pan (.ifc 98 (aQ.av e1))))) fun r0 =>
 (some (bY (r0.1, r0.2)))) (
 cond (p1 == 2) (
 κ.p 99 eH [.ptr 2000000000 0, dIq 2] [⟨101, (aI.avs p0)⟩] [] (fun e3 =>
  (some (.pan (.ifc 98 (aQ.av e3))))) fun r2 =>
 κ.p 72 bJ [.ptr 2000000000 0] [⟨101, (aI.avs r2.2)⟩] [] (fun e5 =>
  (some (.pan (.ifc 98 (aQ.av e5))))) fun r4 =>
 (some (bY (((aA.mk p1 0 false zMq [] [] false 0 0 0 zWq (r2.1 == 1) r4.1 [] [] []), r4.2))))) (
 cond (p1 == 3) (
 κ.p 72 bJ [.ptr 2000000000 0] [⟨101, (aI.avs p0)⟩] [] (fun e7 =>
  (some (.pan (.ifc 98 (aQ.av e7))))) fun r6 =>
 κ.p 99 eH [.ptr 2000000000 0, dIq 2] [⟨101, (aI.avs r6.2)⟩] [] (fun e9 =>
  (some (.pan (.ifc 98 (aQ.av e9))))) fun r8 =>
 κ.p 100 eL [.ptr 2000000000 0] [⟨101, (aI.avs r8.2)⟩] [] (fun e11 =>
  (some (.pan (.ifc 98 (aQ.av e11))))) fun r10 =>
 (some (bY (((aA.mk p1 r6.1 (r8.1 == 1) r10.1 [] [] false 0 0 0 zWq false 0 [] [] []), r10.2))))) (
 cond (p1 == 4) (
 κ.p 72 bJ [.ptr 2000000000 0] [⟨101, (aI.avs p0)⟩] [] (fun e13 =>
  (some (.pan (.ifc 98 (aQ.av e13))))) fun r12 =>
 (some (bY (((aA.mk p1 r12.1 false zMq [] [] false 0 0 0 zWq false 0 [] [] []), r12.2))))) (
 cond (p1 == 5) (
 κ.p 72 bJ [.ptr 2000000000 0] [⟨101, (aI.avs p0)⟩] [] (fun e15 =>
  (some (.pan (.ifc 98 (aQ.av e15))))) fun r14 =>
 (some (bY (((aA.mk p1 r14.1 false zMq [] [] false 0 0 0 zWq false 0 [] [] []), r14.2))))) (
 cond (p1 == 6) (
 κ.p 72 bJ [.ptr 2000000000 0] [⟨101, (aI.avs p0)⟩] [] (fun e17 =>
  (some (.pan (.ifc 98 (aQ.av e17))))) fun r16 =>
 (some (bY (((aA.mk p1 r16.1 false zMq [] [] false 0 0 0 zWq false 0 [] [] []), r16.2))))) (
 cond (p1 == 7) (
 κ.p 72 bJ [.ptr 2000000000 0] [⟨101, (aI.avs p0)⟩] [] (fun e19 =>
  (some (.pan (.ifc 98 (aQ.av e19))))) fun r18 =>
 (some (bY (((aA.mk p1 r18.1 false zMq [] [] false 0 0 0 zWq false 0 [] [] []), r18.2))))) (
 cond (p1 == 8) (
 κ.p 72 bJ [.ptr 2000000000 0] [⟨101, (aI.avs p0)⟩] [] (fun e21 =>
  (some (.pan (.ifc 98 (aQ.av e21))))) fun r20 =>
 κ.p 101 dM [.ptr 2000000000 0, .agg [dIq p1, dIq r20.1, dBq false, dSq [], dSq [], dIq 0, dBq false, dIq 0, dIq 0, dSq [], dIq 0, .d (.sl aE.ks (List.map aE.enc [])), dSq [], dSq [], dBq false, dIq 0, dIq 0, dIq 0, dBq false, dIq 0, dSq [], dSq [], dIq 0, dBq false, dIq 0, dIq 0, dSq [], dIq 0, .d (.sl aE.ks (List.map aE.enc [])), dBq false, dIq 0, .row 2000000000, .row 2000000001, .row 2000000002]] [⟨101, (aI.avs r20.2)⟩] [⟨aG.ks, 112, 32, (List.map aG.enc [])⟩, ⟨[.str], 9, 16, (List.map aZ [])⟩, ⟨[.int .i64], 3, 8, (List.map eI [])⟩] (fun e23 =>
  (some (.pan (.ifc 98 (aQ.av e23))))) fun r22 =>
 (some (bY (r22.1, r22.2)))) (
 cond (p1 == 9) (
 κ.p 72 bJ [.ptr 2000000000 0] [⟨101, (aI.avs p0)⟩] [] (fun e25 =>
  (some (.pan (.ifc 98 (aQ.av e25))))) fun r24 =>
 κ.p 101 dM [.ptr 2000000000 0, .agg [dIq p1, dIq r24.1, dBq false, dSq [], dSq [], dIq 0, dBq false, dIq 0, dIq 0, dSq [], dIq 0, .d (.sl aE.ks (List.map aE.enc [])), dSq [], dSq [], dBq false, dIq 0, dIq 0, dIq 0, dBq false, dIq 0, dSq [], dSq [], dIq 0, dBq false, dIq 0, dIq 0, dSq [], dIq 0, .d (.sl aE.ks (List.map aE.enc [])), dBq false, dIq 0, .row 2000000000, .row 2000000001, .row 2000000002]] [⟨101, (aI.avs r24.2)⟩] [⟨aG.ks, 112, 32, (List.map aG.enc [])⟩, ⟨[.str], 9, 16, (List.map aZ [])⟩, ⟨[.int .i64], 3, 8, (List.map eI [])⟩] (fun e27 =>
  (some (.pan (.ifc 98 (aQ.av e27))))) fun r26 =>
 (some (bY (r26.1, r26.2)))) (
 cond (p1 == 10) (
 κ.p 72 bJ [.ptr 2000000000 0] [⟨101, (aI.avs p0)⟩] [] (fun e29 =>
  (some (.pan (.ifc 98 (aQ.av e29))))) fun r28 =>
 κ.p 101 dM [.ptr 2000000000 0, .agg [dIq p1, dIq r28.1, dBq false, dSq [], dSq [], dIq 0, dBq false, dIq 0, dIq 0, dSq [], dIq 0, .d (.sl aE.ks (List.map aE.enc [])), dSq [], dSq [], dBq false, dIq 0, dIq 0, dIq 0, dBq false, dIq 0, dSq [], dSq [], dIq 0, dBq false, dIq 0, dIq 0, dSq [], dIq 0, .d (.sl aE.ks (List.map aE.enc [])), dBq false, dIq 0, .row 2000000000, .row 2000000001, .row 2000000002]] [⟨101, (aI.avs r28.2)⟩] [⟨aG.ks, 112, 32, (List.map aG.enc [])⟩, ⟨[.str], 9, 16, (List.map aZ [])⟩, ⟨[.int .i64], 3, 8, (List.map eI [])⟩] (fun e31 =>
  (some (.pan (.ifc 98 (aQ.av e31))))) fun r30 =>
 (some (bY (r30.1, r30.2)))) (
 cond (p1 == 11) (
 κ.p 72 bJ [.ptr 2000000000 0] [⟨101, (aI.avs p0)⟩] [] (fun e33 =>
  (some (.pan (.ifc 98 (aQ.av e33))))) fun r32 =>
 κ.p 101 dM [.ptr 2000000000 0, .agg [dIq p1, dIq r32.1, dBq false, dSq [], dSq [], dIq 0, dBq false, dIq 0, dIq 0, dSq [], dIq 0, .d (.sl aE.ks (List.map aE.enc [])), dSq [], dSq [], dBq false, dIq 0, dIq 0, dIq 0, dBq false, dIq 0, dSq [], dSq [], dIq 0, dBq false, dIq 0, dIq 0, dSq [], dIq 0, .d (.sl aE.ks (List.map aE.enc [])), dBq false, dIq 0, .row 2000000000, .row 2000000001, .row 2000000002]] [⟨101, (aI.avs r32.2)⟩] [⟨aG.ks, 112, 32, (List.map aG.enc [])⟩, ⟨[.str], 9, 16, (List.map aZ [])⟩, ⟨[.int .i64], 3, 8, (List.map eI [])⟩] (fun e35 =>
  (some (.pan (.ifc 98 (aQ.av e35))))) fun r34 =>
 (some (bY (r34.1, r34.2)))) (
 cond (p1 == 14) (
 κ.p 72 bJ [.ptr 2000000000 0] [⟨101, (aI.avs p0)⟩] [] (fun e37 =>
  (some (.pan (.ifc 98 (aQ.av e37))))) fun r36 =>
 (some (bY (((aA.mk p1 0 false zMq [] [] false 0 0 0 zWq false r36.1 [] [] []), r36.2))))) (
 (some (bY (((aA.mk p1 0 false zMq [] [] false 0 0 0 zWq false 0 [] [] []), p0)))))))))))))))) := by kernel_rfl
theorem ado (p0 : aI) (p1 : Int) : Le (Option.map fR (gD p0 p1)) (aY SE 74 [.ptr 2000000000 0, dIq p1] [⟨101, (aI.avs p0)⟩] []) := by
 refine bD (T74 _ p0 p1) ?_
 unfold gD
 repeat' first | (with_reducible first | refine lC ?_ ?_ | refine lQp eX aci ?_ (fun _ _ => ?_) (fun _ _ => ?_) | refine lQp eX mP ?_ (fun _ _ => ?_) (fun _ _ => ?_) | refine lQp eX eD ?_ (fun _ _ => ?_) (fun _ _ => ?_) | refine lQp eX uY ?_ (fun _ _ => ?_) (fun _ _ => ?_) | refine lQp eX ac7 ?_ (fun _ _ => ?_) (fun _ _ => ?_) | exact acT _ | exact nJ _ _ | exact eN _ | exact wD _ | exact xV _ _ | refine aN ?_) | rfl | (simp only [EN]; exact xV _ _) | (simp only [EN, fR, bY] <;> rfl)
theorem T42 (κ : Tau) (p0 : List Int) : aez SE (K κ) 42 aqy [.d (.sl [.int .u8] (List.map (aO .u8) p0))] [] [] =
 cond (decide ((lM (aO .u8) p0 : Int) > 4096)) (
 (some (dW ((zPq, 5))))) (
 κ.p 72 bJ [.ptr 2000000000 0] [⟨101, (aI.avs (aI.mk p0 0))⟩] [] (fun e1 =>
 (some (dW ((zPq, e1.code))))) fun r0 =>
 cond (decide (r0.1 < 1)) (
 κ.p 73 fG [dBq true, dIq 10] [] [] (fun e3 =>
  (some (dW ((zPq, e3.code))))) fun r2 =>
 κ.p 74 fR [.ptr 2000000000 0, dIq r0.1] [⟨101, (aI.avs r0.2)⟩] [] (fun e5 =>
  (some (dW ((zPq, e5.code))))) fun r4 =>
 κ.p 73 fG [dBq (decide (r4.2.at_ < (lM (aO .u8) p0 : Int))), dIq 2] [] [] (fun e7 =>
  (some (dW ((zPq, e7.code))))) fun r6 =>
 κ.t 59 aH [aA.av r4.1] [] [] fun r8 =>
 κ.p 73 fG [dBq (r8 != 0), dIq r8] [] [] (fun e10 =>
  (some (dW ((zPq, e10.code))))) fun r9 =>
 (some (dW (r4.1, 0)))) (
 κ.p 73 fG [dBq (decide (r0.1 > 14)), dIq 10] [] [] (fun e12 =>
 (some (dW ((zPq, e12.code))))) fun r11 =>
 κ.p 74 fR [.ptr 2000000000 0, dIq r0.1] [⟨101, (aI.avs r0.2)⟩] [] (fun e14 =>
 (some (dW ((zPq, e14.code))))) fun r13 =>
 κ.p 73 fG [dBq (decide (r13.2.at_ < (lM (aO .u8) p0 : Int))), dIq 2] [] [] (fun e16 =>
 (some (dW ((zPq, e16.code))))) fun r15 =>
 κ.t 59 aH [aA.av r13.1] [] [] fun r17 =>
 κ.p 73 fG [dBq (r17 != 0), dIq r17] [] [] (fun e19 =>
 (some (dW ((zPq, e19.code))))) fun r18 =>
 (some (dW (r13.1, 0))))) := by kernel_rfl
theorem ahe (p0 : List Int) : Le (Option.map dW (mR p0)) (aY SE 42 [.d (.sl [.int .u8] (List.map (aO .u8) p0))] [] []) := by
 refine aAj (T42 _ p0) ?_
 unfold mR
 repeat' first | (with_reducible first | refine lC ?_ ?_ | refine lQp eX eD ?_ (fun _ _ => ?_) (fun _ _ => ?_) | refine lQp eX pY ?_ (fun _ _ => ?_) (fun _ _ => ?_) | refine lQp eX acL ?_ (fun _ _ => ?_) (fun _ _ => ?_) | refine lQ eX bA ?_ fun _ _ => ?_ | refine lD ?_ ?_ ?_ | exact eN _ | exact pC _ _ | exact ado _ _ | exact ae7 _ | refine aN ?_) | rfl | (simp only [EN]; done) | (simp only [EN]; exact pC _ _) | (simp only [EN, dW] <;> rfl)
noncomputable def ao8 (L : cD) (κ : Tau) (a0 : List (List D)) (a1 : Int) (a2 : List (List D)) : Res := rl L κ 26 0 [1, 1, 1, 0, 0] (bQ [(0, .d (.sl [.int .u8] a0)), (4, .row 3004), (5, dIq a1)] [] [] [] [(3004, ⟨aA.ks, 53, 416, a2⟩)])
theorem T26 (κ : Tau) (p0 : List Int) : bdy κ 26 [.d (.sl [.int .u8] (List.map (aO .u8) p0))] [] [] =
 ao8 lab κ (List.map (aO .u8) p0) 0 (List.map aA.enc []) := by kernel_rfl
theorem azf (κ : Tau) (x0 : List Int) (x5 : Int) (w3004 : List aA) : ao8 cA κ (List.map (aO .u8) x0) x5 (List.map aA.enc w3004) =
 cond (decide (x5 < (lM (aO .u8) x0 : Int))) (
 κ.t 41 bH [.d (.sl [.int .u8] (List.map (aO .u8) x0)), dIq x5] [] [] fun r0 =>
 cond (r0.2.2 != 0) (
  (some (cR ([], r0.2.2)))) (
 cond (decide (r0.1 < 0)) (
  (some (cR ([], 2)))) (
 cond (decide (r0.1 > 4096)) (
  (some (cR ([], 5)))) (
 cond (decide (r0.1 > (w6 ((lM (aO .u8) x0 : Int) - r0.2.1)))) (
  (some (cR ([], 3)))) (
 cond (decide (0 ≤ (w6 (r0.2.1 + r0.1))) && decide ((w6 (r0.2.1 + r0.1)) ≤ ((lM (aO .u8) x0) : Int))) (
  cond (decide (0 ≤ (w6 (r0.2.1 + r0.1))) && decide ((w6 (r0.2.1 + r0.1)) ≤ (w6 (r0.2.1 + r0.1)))) (
  cond (decide (0 ≤ r0.2.1) && decide (r0.2.1 ≤ (w6 (r0.2.1 + r0.1)))) (
   κ.t 42 dW [.d (.sl [.int .u8] (cF (List.map (aO .u8) x0) (some r0.2.1) (some (w6 (r0.2.1 + r0.1)))))] [] [] fun r1 =>
   cond (r1.2 != 0) (
   (some (cR ([], r1.2)))) (
   cond (decide ((lM aA.enc w3004 + lM aA.enc [r1.1]) * 416 ≤ 140737488355328)) (
   ao8 lab κ (List.map (aO .u8) x0) (w6 (r0.2.1 + r0.1)) (((List.map aA.enc w3004) ++ (List.map aA.enc [r1.1])))) none)) none) none) none))))) (
 (some (cR (w3004, 0)))) := by kernel_rfl
theorem ahx : ∀ (fu : Nat) (x0 : List Int) (x5 : Int) (w3004 : List aA), Le (Option.map cR (fH fu x0 x5 w3004)) (ao8 lab (kF 26) (List.map (aO .u8) x0) x5 (List.map aA.enc w3004)) := by
 intro fu
 induction fu with
 | zero => intros; exact le_none
 | succ fu ih =>
  intro x0 x5 w3004
  refine bR (azf _ x0 x5 w3004) ?_
  unfold fH
  repeat' first | (with_reducible first | refine lF ?_ | refine lC ?_ ?_ | refine lQ eX jP ?_ fun _ _ => ?_ | refine lQ eX amZ ?_ fun _ _ => ?_ | refine lG ?_ ?_ | refine lD ?_ ?_ ?_ | exact zT _ _ | exact ahe _ | exact ih _ _ _ | refine aN ?_) | rfl | (simp only [EN]; done) | (simp only [EN]; exact ahe _) | (simp only [EN]; exact ih _ _ _) | (simp only [EN, cR] <;> rfl)
theorem akt (p0 : List Int) : Le (Option.map cR (uR p0)) (aY SE 26 [.d (.sl [.int .u8] (List.map (aO .u8) p0))] [] []) := by
 refine bD (T26 _ p0) ?_
 unfold uR
 (try simp only [EN]); exact ahx fuel p0 0 []
theorem T18 (κ : Tau) (p0 : aJ) : bdy κ 18 [aJ.av p0] [] [] =
 (some (.ret [aJ.av (aJ.mk p0.Conn p0.Sent p0.Got true)] [] [])) := by kernel_rfl
theorem ae3 (p0 : aJ) : Le (Option.map fD (yE p0)) (aY SE 18 [aJ.av p0] [] []) := by
 refine bD (T18 _ p0) ?_
 unfold yE
 exact aN rfl
theorem T12 (κ : Tau) (p0 : aJ) (p1 : List Int) : bdy κ 12 [aJ.av p0, .d (.sl [.int .u8] (List.map (aO .u8) p1))] [] [] =
 κ.t 25 dO [.d (.sl [.int .u8] (List.map (aO .u8) p1))] [] [] fun r0 =>
 cond (r0.2.2.2 != 0) (
 (some (bT ([], p0, r0.2.2.2)))) (
 κ.t 26 cR [.d (.sl [.int .u8] (List.map (aO .u8) r0.2.2.1))] [] [] fun r1 =>
 cond (r1.2 != 0) (
 (some (bT ([], p0, r1.2)))) (
 cond (r0.1 != p0.Conn) (
 (some (bT ([], p0, 8)))) (
 cond p0.Broken (
 (some (bT ([], p0, 21)))) (
 cond (decide (r0.2.1 ≤ p0.Got)) (
 (some (bT ([], p0, 26)))) (
 cond (decide ((w6 (r0.2.1 - 1)) > p0.Got)) (
 κ.t 18 fD [aJ.av p0] [] [] fun r2 =>
 (some (bT ([], r2, 22)))) (
 (some (bT (r1.1, (aJ.mk p0.Conn p0.Sent (w6 (p0.Got + 1)) p0.Broken), 0))))))))) := by kernel_rfl
theorem nR (p0 : aJ) (p1 : List Int) : Le (Option.map bT (kO p0 p1)) (aY SE 12 [aJ.av p0, .d (.sl [.int .u8] (List.map (aO .u8) p1))] [] []) := by
 refine bD (T12 _ p0 p1) ?_
 unfold kO
 repeat' first | (with_reducible first | refine lC ?_ ?_ | refine lQ eX abb ?_ fun _ _ => ?_ | refine lQ eX acD ?_ fun _ _ => ?_ | refine lQ eX rJ ?_ fun _ _ => ?_ | exact agB _ | exact akt _ | exact ae3 _ | refine aN ?_) | rfl | (simp only [EN, bT] <;> rfl)
theorem T8 (κ : Tau) : bdy κ 8 [] [] [] =
 κ.t 15 fD [dIq 1] [] [] fun r0 =>
 κ.t 9 cC [aJ.av r0, .d (.sl aA.ks (List.map aA.enc []))] [] [] fun r1 =>
 κ.t 17 bH [.d (.sl [.int .u8] (List.map (aO .u8) r1.1))] [] [] fun r2 =>
 κ.t 15 fD [dIq 1] [] [] fun r3 =>
 κ.t 12 bT [aJ.av r3, .d (.sl [.int .u8] (List.map (aO .u8) r1.1))] [] [] fun r4 =>
 κ.t 12 bT [aJ.av r4.2.1, .d (.sl [.int .u8] (List.map (aO .u8) r1.1))] [] [] fun r5 =>
 cond (r1.2.2 == 0) (
 cond ((r1.2.1.Conn == 1) && ((r1.2.1.Sent == 1) && ((r1.2.1.Got == 0) && ((r1.2.1.Broken == false) && true)))) (
  cond (r2.1 == 1) (
  cond (r2.2.1 == 1) (
   cond (r2.2.2 == 0) (
   cond ((lM (aO .u8) r1.1 : Int) == 7) (
    cond (decide (0 ≤ 0) && decide (0 < (lM (aO .u8) r1.1 : Int))) (
    cond ((aX (cE (aO .u8) r1.1 0 0)) == 4) (
     cond (r4.2.2 == 0) (
     cond ((r4.2.1.Conn == 1) && ((r4.2.1.Sent == 0) && ((r4.2.1.Got == 1) && ((r4.2.1.Broken == false) && true)))) (
      cond (r5.2.2 == 26) (
      cond ((r5.2.1.Conn == r4.2.1.Conn) && ((r5.2.1.Sent == r4.2.1.Sent) && ((r5.2.1.Got == r4.2.1.Got) && ((r5.2.1.Broken == r4.2.1.Broken) && true)))) (
       κ.t 18 fD [aJ.av r4.2.1] [] [] fun r6 =>
       (rB r6.Broken)) (
      (rB false))) (
      (rB false))) (
     (rB false))) (
     (rB false))) (
    (rB false))) none) (
   (rB false))) (
   (rB false))) (
  (rB false))) (
  (rB false))) (
 (rB false))) (
 (rB false)) := by kernel_rfl
theorem eO : Le (Option.map packet_is_out (cM)) (aY SE 8 [] [] []) := by
 refine bD (T8 _) ?_
 unfold cM
 repeat' first | (with_reducible first | refine lC ?_ ?_ | refine lQ eX rJ ?_ fun _ _ => ?_ | refine lQ eX tJ ?_ fun _ _ => ?_ | refine lQ eX jP ?_ fun _ _ => ?_ | refine lQ eX pB ?_ fun _ _ => ?_ | refine lQ eX rJ ?_ fun _ _ => ?_ | refine lG ?_ ?_ | refine lD ?_ ?_ ?_ | exact acR _ | exact rK _ _ | exact anB _ | exact nR _ _ | exact ae3 _ | refine aN ?_) | rfl | (simp only [EN]; done) | (simp only [EN]; exact rK _ _) | (simp only [EN, packet_is_out] <;> rfl)
theorem T76 (κ : Tau) (p0 : Int) : bdy κ 76 [.d (.int .u64 p0)] [] [] =
 cond ((Int.tmod p0 2) == 0) (
 (rI (w6 (IntKind.wrap .u64 (Int.tdiv p0 2))))) (
 (rI (w6 ((w6 (0 - (w6 (IntKind.wrap .u64 (Int.tdiv p0 2))))) - 1)))) := by kernel_rfl
theorem agz (p0 : Int) : Le (Option.map aH (oZ p0)) (aY SE 76 [.d (.int .u64 p0)] [] []) := by
 refine bD (T76 _ p0) ?_
 unfold oZ
 refine lC ?_ ?_
 ·exact aN rfl
 ·exact aN rfl
noncomputable def agt (L : cD) (κ : Tau) (a0 : List (List D)) (a1 a2 a3 a4 a5 a6 : Int) (a7 a8 a9 : Bool) : Res := rl L κ 44 0 [1, 1, 1, 1, 0, 1, 0, 0, 1, 0, 0, 1, 1, 1, 0] (bQ [(0, .d (.sl [.int .u8] a0)), (1, dIq a1), (7, .d (.int .u64 a2)), (8, .d (.int .u64 a3)), (9, dIq a4), (10, .d (.int .u8 a5)), (42, dIq a6), (43, dBq a7), (44, dBq a8), (47, dBq a9)] [] [] [] [])
noncomputable def amT (L : cD) (κ : Tau) (a0 : List (List D)) (a1 a2 a3 a4 : Int) : Res := rl L κ 44 0 [1, 1, 1, 1, 0, 1, 0] (bQ [(0, .d (.sl [.int .u8] a0)), (1, dIq a1), (7, .d (.int .u64 a2)), (8, .d (.int .u64 a3)), (9, dIq a4)] [] [] [] [])
noncomputable def atr (L : cD) (κ : Tau) (a0 : List (List D)) (a1 : Int) : Res := rl L κ 44 0 [1, 1, 0] (bQ [(0, .d (.sl [.int .u8] a0)), (1, dIq a1)] [] [] [] [])
theorem T44 (κ : Tau) (p0 : List Int) (p1 : Int) : bdy κ 44 [.d (.sl [.int .u8] (List.map (aO .u8) p0)), dIq p1] [] [] =
 cond (decide (p1 < 0)) (
 (some (bH (0, 0, 1)))) (
 cond (decide (p1 > (lM (aO .u8) p0 : Int))) (
 (some (bH (0, 0, 1)))) (
 atr lab κ (List.map (aO .u8) p0) p1)) := by kernel_rfl
theorem ayQ (κ : Tau) (x0 : List Int) (x1 x7 x8 x9 x10 x42 : Int) (x43 x44 x47 : Bool) : agt cA κ (List.map (aO .u8) x0) x1 x7 x8 x9 x10 x42 x43 x44 x47 =
 cond (decide (x10 < 128)) (
 κ.t 76 aH [.d (.int .u64 (IntKind.wrap .u64 (x7 + (IntKind.wrap .u64 ((IntKind.wrap .u64 (Int.tmod x10 128)) * x8)))))] [] [] fun r0 =>
 (some (bH (r0, (w6 ((w6 (x1 + x9)) + 1)), 0)))) (
 amT lab κ (List.map (aO .u8) x0) x1 (IntKind.wrap .u64 (x7 + (IntKind.wrap .u64 ((IntKind.wrap .u64 (Int.tmod x10 128)) * x8)))) (IntKind.wrap .u64 (x8 * 128)) (w6 (x9 + 1))) := by kernel_rfl
theorem aAt (κ : Tau) (x0 : List Int) (x1 x7 x8 x9 : Int) : amT cA κ (List.map (aO .u8) x0) x1 x7 x8 x9 =
 cond (decide (x9 < 10)) (
 cond (decide (x9 ≥ (w6 ((lM (aO .u8) x0 : Int) - x1)))) (
  (some (bH (0, 0, 3)))) (
 cond (iB (w6 (x1 + x9)) (lM (aO .u8) x0 : Int)) (
  cond (x9 == 9) (
  cond ((aX (cE (aO .u8) x0 (w6 (x1 + x9)) 0)) != 1) (
   (some (bH (0, 0, 2)))) (
  cond (decide (x9 > 0)) (
   cond ((aX (cE (aO .u8) x0 (w6 (x1 + x9)) 0)) == 0) (
   (some (bH (0, 0, 2)))) (
   agt lab κ (List.map (aO .u8) x0) x1 x7 x8 x9 ((aX (cE (aO .u8) x0 (w6 (x1 + x9)) 0))) x9 (decide (x9 > 0)) true (((aX (cE (aO .u8) x0 (w6 (x1 + x9)) 0)) == 0)))) (
  agt lab κ (List.map (aO .u8) x0) x1 x7 x8 x9 ((aX (cE (aO .u8) x0 (w6 (x1 + x9)) 0))) x9 (decide (x9 > 0)) false false))) (
  cond (decide (x9 > 0)) (
  cond ((aX (cE (aO .u8) x0 (w6 (x1 + x9)) 0)) == 0) (
   (some (bH (0, 0, 2)))) (
  agt lab κ (List.map (aO .u8) x0) x1 x7 x8 x9 ((aX (cE (aO .u8) x0 (w6 (x1 + x9)) 0))) x9 (decide (x9 > 0)) true (((aX (cE (aO .u8) x0 (w6 (x1 + x9)) 0)) == 0)))) (
  agt lab κ (List.map (aO .u8) x0) x1 x7 x8 x9 ((aX (cE (aO .u8) x0 (w6 (x1 + x9)) 0))) x9 (decide (x9 > 0)) false false))) none)) (
 (some (bH (0, 0, 2)))) := by kernel_rfl
theorem az1 (κ : Tau) (x0 : List Int) (x1 : Int) : atr cA κ (List.map (aO .u8) x0) x1 =
 amT lab κ (List.map (aO .u8) x0) x1 0 1 0 := by kernel_rfl
theorem zS (k6 : (List Int) → Int → Int → Int → Int → Option (Int × Int × Int)) (hk6 : ∀ (x0 : List Int) (x1 x7 x8 x9 : Int), Le (Option.map bH (k6 x0 x1 x7 x8 x9)) (amT lab (kF 44) (List.map (aO .u8) x0) x1 x7 x8 x9)) (x0 : List Int) (x1 x7 x8 x9 x10 x42 : Int) (x43 x44 x47 : Bool) : Le (Option.map bH (fP k6 x0 x1 x7 x8 x9 x10 x42 x43 x44 x47)) (agt lab (kF 44) (List.map (aO .u8) x0) x1 x7 x8 x9 x10 x42 x43 x44 x47) := by
 refine bR (ayQ _ x0 x1 x7 x8 x9 x10 x42 x43 x44 x47) ?_
 unfold fP
 refine lC ?_ ?_
 ·refine lQ eX bA (agz _) fun r0 _ => ?_
  exact aN rfl
 ·exact hk6 x0 x1 (IntKind.wrap .u64 (x7 + (IntKind.wrap .u64 ((IntKind.wrap .u64 (Int.tmod x10 128)) * x8)))) (IntKind.wrap .u64 (x8 * 128)) (w6 (x9 + 1))
theorem agK : ∀ (fu : Nat) (x0 : List Int) (x1 x7 x8 x9 : Int), Le (Option.map bH (cN fu x0 x1 x7 x8 x9)) (amT lab (kF 44) (List.map (aO .u8) x0) x1 x7 x8 x9) := by
 intro fu
 induction fu with
 | zero => intros; exact le_none
 | succ fu ih =>
  intro x0 x1 x7 x8 x9
  refine bR (aAt _ x0 x1 x7 x8 x9) ?_
  unfold cN
  repeat' first | (with_reducible first | refine lC ?_ ?_ | refine lG ?_ ?_ | refine lD ?_ ?_ ?_ | exact zS _ (ih) _ _ _ _ _ _ _ _ _ _ | refine aN ?_) | rfl | (simp only [EN]; done) | (simp only [EN]; exact zS _ (ih) _ _ _ _ _ _ _ _ _ _) | (simp only [EN, bH] <;> rfl)
theorem agx (x0 : List Int) (x1 : Int) : Le (Option.map bH (tA x0 x1)) (atr lab (kF 44) (List.map (aO .u8) x0) x1) := by
 refine bR (az1 _ x0 x1) ?_
 unfold tA
 exact agK fuel x0 x1 0 1 0
theorem xK (p0 : List Int) (p1 : Int) : Le (Option.map bH (lI p0 p1)) (aY SE 44 [.d (.sl [.int .u8] (List.map (aO .u8) p0)), dIq p1] [] []) := by
 refine bD (T44 _ p0 p1) ?_
 unfold lI
 refine lC ?_ ?_
 ·exact aN rfl
 ·refine lDe ?_ ?_
  ·exact aN rfl
  ·exact agx p0 p1
theorem T75 (κ : Tau) (p0 : List Int) (p1 p2 : Int) : bdy κ 75 [.d (.sl [.int .u8] (List.map (aO .u8) p0)), dIq p1, dIq p2] [] [] =
 κ.t 44 bH [.d (.sl [.int .u8] (List.map (aO .u8) p0)), dIq p1] [] [] fun r0 =>
 cond (r0.2.2 != 0) (
 (some (bH (0, 0, r0.2.2)))) (
 cond (decide (r0.1 < 0)) (
 (some (bH (0, 0, 2)))) (
 cond (decide (r0.1 > p2)) (
 (some (bH (0, 0, 5)))) (
 (some (bH (r0.1, r0.2.1, 0)))))) := by kernel_rfl
theorem vJ (p0 : List Int) (p1 p2 : Int) : Le (Option.map bH (hJ p0 p1 p2)) (aY SE 75 [.d (.sl [.int .u8] (List.map (aO .u8) p0)), dIq p1, dIq p2] [] []) := by
 refine bD (T75 _ p0 p1 p2) ?_
 unfold hJ
 refine lQ eX jP (xK _ _) fun r0 _ => ?_
 refine lC ?_ ?_
 ·exact aN rfl
 ·refine lC ?_ ?_
  ·exact aN rfl
  ·refine lC ?_ ?_
   ·exact aN rfl
   ·exact aN rfl
noncomputable def apw (L : cD) (κ : Tau) (a0 : List (List D)) (a1 a2 : Int) : Res := rl L κ 39 0 [1, 1, 0, 1, 0] (bQ [(0, .d (.sl [.int .u8] a0)), (3, .d (.int .u64 a1)), (4, dIq a2)] [] [] [] [])
theorem T39 (κ : Tau) (p0 : List Int) : bdy κ 39 [.d (.sl [.int .u8] (List.map (aO .u8) p0))] [] [] =
 apw lab κ (List.map (aO .u8) p0) 2166136261 0 := by kernel_rfl
theorem aAe (κ : Tau) (x0 : List Int) (x3 x4 : Int) : apw cA κ (List.map (aO .u8) x0) x3 x4 =
 cond (decide (x4 < (lM (aO .u8) x0 : Int))) (
 cond (iB x4 (lM (aO .u8) x0 : Int)) (
  apw lab κ (List.map (aO .u8) x0) ((Int.tmod (IntKind.wrap .u64 ((cB .xor .u64 x3 (IntKind.wrap .u64 (aX (cE (aO .u8) x0 x4 0)))) * 16777619)) 4294967296)) (w6 (x4 + 1))) none) (
 (rI (w6 x3))) := by kernel_rfl
theorem agT : ∀ (fu : Nat) (x0 : List Int) (x3 x4 : Int), Le (Option.map aH (kL fu x0 x3 x4)) (apw lab (kF 39) (List.map (aO .u8) x0) x3 x4) := by
 intro fu
 induction fu with
 | zero => intros; exact le_none
 | succ fu ih =>
  intro x0 x3 x4
  refine bR (aAe _ x0 x3 x4) ?_
  unfold kL
  repeat' first | (with_reducible first | refine lG ?_ ?_ | refine lD ?_ ?_ ?_ | exact ih _ _ _ | refine aN ?_) | rfl | (simp only [EN]; done) | (simp only [EN]; exact ih _ _ _) | (simp only [EN, aH] <;> rfl)
theorem ajL (p0 : List Int) : Le (Option.map aH (tE p0)) (aY SE 39 [.d (.sl [.int .u8] (List.map (aO .u8) p0))] [] []) := by
 refine bD (T39 _ p0) ?_
 unfold tE
 exact agT fuel p0 2166136261 0
theorem T38 (κ : Tau) (p0 : Int) : bdy κ 38 [dIq p0] [] [] =
 cond (decide (p0 ≥ 0)) (
 (some (.ret [.d (.int .u64 (IntKind.wrap .u64 ((IntKind.wrap .u64 p0) * 2)))] [] []))) (
 (some (.ret [.d (.int .u64 (IntKind.wrap .u64 ((IntKind.wrap .u64 ((IntKind.wrap .u64 (w6 (0 - (w6 (p0 + 1))))) * 2)) + 1)))] [] []))) := by kernel_rfl
theorem aiu (p0 : Int) : Le (Option.map n5 (rV p0)) (aY SE 38 [dIq p0] [] []) := by
 refine bD (T38 _ p0) ?_
 unfold rV
 refine lC ?_ ?_
 ·exact aN rfl
 ·exact aN rfl
noncomputable def ape (L : cD) (κ : Tau) (a0 : Int) (a1 : List (List D)) : Res := rl L κ 23 0 [1, 1, 1, 0, 0] (bQ [(5, .row 3005), (6, .d (.int .u64 a0))] [] [] [] [(3005, ⟨[.int .u8], 5, 1, a1⟩)])
theorem T23 (κ : Tau) (p0 : List Int) (p1 : Int) : bdy κ 23 [.d (.sl [.int .u8] (List.map (aO .u8) p0)), dIq p1] [] [] =
 cond (decide ((lM (aO .u8) [] + lM (aO .u8) p0) * 1 ≤ 140737488355328)) (
 κ.t 38 n5 [dIq p1] [] [] fun r0 =>
 ape lab κ r0 (((List.map (aO .u8) []) ++ (List.map (aO .u8) p0)))) none := by kernel_rfl
theorem aAm (κ : Tau) (x6 : Int) (w3005 : List Int) : ape cA κ x6 (List.map (aO .u8) w3005) =
 cond (decide (x6 ≥ 128)) (
 cond (decide ((lM (aO .u8) w3005 + lM (aO .u8) [(IntKind.wrap .u8 ((IntKind.wrap .u8 (Int.tmod x6 128)) + 128))]) * 1 ≤ 140737488355328)) (
  ape lab κ (IntKind.wrap .u64 (Int.tdiv x6 128)) (((List.map (aO .u8) w3005) ++ (List.map (aO .u8) [(IntKind.wrap .u8 ((IntKind.wrap .u8 (Int.tmod x6 128)) + 128))])))) none) (
 cond (decide ((lM (aO .u8) w3005 + lM (aO .u8) [(IntKind.wrap .u8 x6)]) * 1 ≤ 140737488355328)) (
 (some (.ret [.row 0] [] [⟨[.int .u8], 5, 1, ((List.map (aO .u8) w3005) ++ (List.map (aO .u8) [(IntKind.wrap .u8 x6)]))⟩]))) none) := by kernel_rfl
theorem ad5 : ∀ (fu : Nat) (x6 : Int) (w3005 : List Int), Le (Option.map aL (gX fu x6 w3005)) (ape lab (kF 23) x6 (List.map (aO .u8) w3005)) := by
 intro fu
 induction fu with
 | zero => intros; exact le_none
 | succ fu ih =>
  intro x6 w3005
  refine bR (aAm _ x6 w3005) ?_
  unfold gX
  repeat' first | (with_reducible first | refine lC ?_ ?_ | refine lG ?_ ?_ | exact ih _ _ | refine aN ?_) | rfl | (simp only [EN]; done) | (simp only [EN]; exact ih _ _) | (simp only [EN, aL] <;> rfl)
theorem cT (p0 : List Int) (p1 : Int) : Le (Option.map aL (bL p0 p1)) (aY SE 23 [.d (.sl [.int .u8] (List.map (aO .u8) p0)), dIq p1] [] []) := by
 refine bD (T23 _ p0 p1) ?_
 unfold bL
 refine lGe ?_
 refine lQ eX ah7 (aiu _) fun r0 _ => ?_
 (try simp only [EN]); exact ad5 fuel r0 (([] : List Int) ++ p0)
theorem T24 (κ : Tau) (p0 : List Int) : bdy κ 24 [.d (.sl [.int .u8] (List.map (aO .u8) p0))] [] [] =
 cond (decide ((lM (aO .u8) p0 : Int) > 65536)) (
 (some (.ret [.row 0] [] [⟨[.int .u8], 5, 1, []⟩]))) (
 κ.t 39 aH [.d (.sl [.int .u8] (List.map (aO .u8) p0))] [] [] fun r0 =>
 κ.t 23 aL [.d (.sl [.int .u8] (List.map (aO .u8) [])), dIq (lM (aO .u8) p0 : Int)] [] [] fun r1 =>
 cond (decide ((lM (aO .u8) r1 + lM (aO .u8) [(IntKind.wrap .u8 (shr .i64 r0 24)), (IntKind.wrap .u8 (cB .and .i64 (shr .i64 r0 16) 255)), (IntKind.wrap .u8 (cB .and .i64 (shr .i64 r0 8) 255)), (IntKind.wrap .u8 (cB .and .i64 r0 255))]) * 1 ≤ 140737488355328)) (
 cond (decide ((List.length ((List.map (aO .u8) r1) ++ (List.map (aO .u8) [(IntKind.wrap .u8 (shr .i64 r0 24)), (IntKind.wrap .u8 (cB .and .i64 (shr .i64 r0 16) 255)), (IntKind.wrap .u8 (cB .and .i64 (shr .i64 r0 8) 255)), (IntKind.wrap .u8 (cB .and .i64 r0 255))])) + lM (aO .u8) p0) * 1 ≤ 140737488355328)) (
  (some (.ret [.row 0] [] [⟨[.int .u8], 5, 1, (((List.map (aO .u8) r1) ++ (List.map (aO .u8) [(IntKind.wrap .u8 (shr .i64 r0 24)), (IntKind.wrap .u8 (cB .and .i64 (shr .i64 r0 16) 255)), (IntKind.wrap .u8 (cB .and .i64 (shr .i64 r0 8) 255)), (IntKind.wrap .u8 (cB .and .i64 r0 255))])) ++ (List.map (aO .u8) p0))⟩]))) none) none) := by kernel_rfl
theorem wW (p0 : List Int) : Le (Option.map aL (oK p0)) (aY SE 24 [.d (.sl [.int .u8] (List.map (aO .u8) p0))] [] []) := by
 refine bD (T24 _ p0) ?_
 unfold oK
 repeat' first | (with_reducible first | refine lQ eX bA ?_ fun _ _ => ?_ | refine lQ eX bC ?_ fun _ _ => ?_ | refine lG ?_ ?_ | refine lD ?_ ?_ ?_ | exact ajL _ | exact cT _ _ | refine aN ?_) | rfl | (simp only [EN]; done) | (simp only [EN]; exact cT _ _) | (simp only [EN, aL] <;> rfl)
theorem T43 (κ : Tau) (p0 : List Int) (p1 : Int) : bdy κ 43 [.d (.sl [.int .u8] (List.map (aO .u8) p0)), dIq p1] [] [] =
 κ.t 75 bH [.d (.sl [.int .u8] (List.map (aO .u8) p0)), dIq p1, dIq 65536] [] [] fun r0 =>
 cond (r0.2.2 != 0) (
 (some (dZ ([], 0, r0.2.2)))) (
 cond (decide ((w6 ((lM (aO .u8) p0 : Int) - r0.2.1)) < (w6 (4 + r0.1)))) (
 (some (dZ ([], 0, 3)))) (
 cond (decide (0 ≤ (w6 ((w6 (r0.2.1 + 4)) + r0.1))) && decide ((w6 ((w6 (r0.2.1 + 4)) + r0.1)) ≤ ((lM (aO .u8) p0) : Int))) (
 cond (decide (0 ≤ (w6 (r0.2.1 + 4))) && decide ((w6 (r0.2.1 + 4)) ≤ (w6 ((w6 (r0.2.1 + 4)) + r0.1)))) (
  cond (decide ((lM (aO .u8) [] + List.length (cF (List.map (aO .u8) p0) (some (w6 (r0.2.1 + 4))) (some (w6 ((w6 (r0.2.1 + 4)) + r0.1))))) * 1 ≤ 140737488355328)) (
  κ.t 24 aL [.d (.sl [.int .u8] ((List.map (aO .u8) []) ++ (cF (List.map (aO .u8) p0) (some (w6 (r0.2.1 + 4))) (some (w6 ((w6 (r0.2.1 + 4)) + r0.1))))))] [] [] fun r1 =>
  cond (decide (0 ≤ (w6 ((w6 (r0.2.1 + 4)) + r0.1))) && decide ((w6 ((w6 (r0.2.1 + 4)) + r0.1)) ≤ ((lM (aO .u8) p0) : Int))) (
   cond (decide (0 ≤ p1) && decide (p1 ≤ (w6 ((w6 (r0.2.1 + 4)) + r0.1)))) (
   cond (!((uN (List.map (aO .u8) r1)) == (uN (cF (List.map (aO .u8) p0) (some p1) (some (w6 ((w6 (r0.2.1 + 4)) + r0.1))))))) (
    (some (dZ ([], 0, 4)))) (
   (some (.ret [.row 0, dIq (w6 ((w6 (r0.2.1 + 4)) + r0.1)), dIq 0] [] [⟨[.int .u8], 5, 1, ((List.map (aO .u8) []) ++ (cF (List.map (aO .u8) p0) (some (w6 (r0.2.1 + 4))) (some (w6 ((w6 (r0.2.1 + 4)) + r0.1)))))⟩])))) none) none) none) none) none)) := by kernel_rfl
theorem aim (p0 : List Int) (p1 : Int) : Le (Option.map dZ (rP p0 p1)) (aY SE 43 [.d (.sl [.int .u8] (List.map (aO .u8) p0)), dIq p1] [] []) := by
 refine bD (T43 _ p0 p1) ?_
 unfold rP
 repeat' first | (with_reducible first | refine lF ?_ | refine lC ?_ ?_ | refine lQ eX jP ?_ fun _ _ => ?_ | refine lQ eX bC ?_ fun _ _ => ?_ | refine lG ?_ ?_ | refine lD ?_ ?_ ?_ | exact vJ _ _ _ | exact wW _ | refine aN ?_) | rfl | (simp only [EN]; done) | (simp only [EN]; exact wW _) | (simp only [EN, dZ] <;> rfl)
theorem T27 (κ : Tau) (p0 : List Int) : bdy κ 27 [.d (.sl [.int .u8] (List.map (aO .u8) p0))] [] [] =
 κ.t 43 dZ [.d (.sl [.int .u8] (List.map (aO .u8) p0)), dIq 0] [] [] fun r0 =>
 cond (r0.2.2 != 0) (
 (some (dO (0, 0, [], r0.2.2)))) (
 cond (decide (r0.2.1 < (lM (aO .u8) p0 : Int))) (
 (some (dO (0, 0, [], 2)))) (
 κ.t 44 bH [.d (.sl [.int .u8] (List.map (aO .u8) r0.1)), dIq 0] [] [] fun r1 =>
 cond (r1.2.2 != 0) (
 (some (dO (0, 0, [], r1.2.2)))) (
 κ.t 44 bH [.d (.sl [.int .u8] (List.map (aO .u8) r0.1)), dIq r1.2.1] [] [] fun r2 =>
 cond (r2.2.2 != 0) (
 (some (dO (0, 0, [], r2.2.2)))) (
 cond (decide (0 ≤ r2.2.1) && decide (r2.2.1 ≤ ((lM (aO .u8) r0.1) : Int))) (
 (some (.ret [dIq r1.1, dIq r2.1, .d (.sl [.int .u8] (List.take ((lM (aO .u8) r0.1) - (Int.toNat r2.2.1)) (List.drop (Int.toNat r2.2.1) (List.map (aO .u8) r0.1)))), dIq 0] [] []))) none)))) := by kernel_rfl
theorem ail (p0 : List Int) : Le (Option.map dO (vH p0)) (aY SE 27 [.d (.sl [.int .u8] (List.map (aO .u8) p0))] [] []) := by
 refine bD (T27 _ p0) ?_
 unfold vH
 repeat' first | (with_reducible first | refine lC ?_ ?_ | refine lQ eX agZ ?_ fun _ _ => ?_ | refine lQ eX jP ?_ fun _ _ => ?_ | refine lG ?_ ?_ | refine lD ?_ ?_ ?_ | exact aim _ _ | exact xK _ _ | refine aN ?_) | rfl | (simp only [EN]; done) | (simp only [EN, dO] <;> rfl)
theorem T45 (κ : Tau) (p0 : List Int) (p1 p2 : Int) : bdy κ 45 [.d (.sl [.int .u8] (List.map (aO .u8) p0)), dIq p1, dIq p2] [] [] =
 κ.t 75 bH [.d (.sl [.int .u8] (List.map (aO .u8) p0)), dIq p1, dIq p2] [] [] fun r0 =>
 cond (r0.2.2 != 0) (
 (some (eU ([], 0, r0.2.2)))) (
 cond (decide (r0.1 > (w6 ((lM (aO .u8) p0 : Int) - r0.2.1)))) (
 (some (eU ([], 0, 3)))) (
 cond (decide (0 ≤ (w6 (r0.2.1 + r0.1))) && decide ((w6 (r0.2.1 + r0.1)) ≤ ((lM (aO .u8) p0) : Int))) (
 cond (decide (0 ≤ r0.2.1) && decide (r0.2.1 ≤ (w6 (r0.2.1 + r0.1)))) (
  (some (.ret [dSq (uN (cF (List.map (aO .u8) p0) (some r0.2.1) (some (w6 (r0.2.1 + r0.1))))), dIq (w6 (r0.2.1 + r0.1)), dIq 0] [] []))) none) none)) := by kernel_rfl
theorem abB (p0 : List Int) (p1 p2 : Int) : Le (Option.map eU (jL p0 p1 p2)) (aY SE 45 [.d (.sl [.int .u8] (List.map (aO .u8) p0)), dIq p1, dIq p2] [] []) := by
 refine bD (T45 _ p0 p1 p2) ?_
 unfold jL
 refine lQ eX jP (vJ _ _ _) fun r0 _ => ?_
 refine lC ?_ ?_
 ·exact aN rfl
 ·refine lDe ?_ ?_
  ·exact aN rfl
  ·refine lGe ?_
   refine lF ?_
   exact aN (by first | rfl | simp only [EN, eU] <;> rfl)
theorem T77 (κ : Tau) (p0 : aC) : bdy κ 77 [.ptr 2000000000 0] [⟨108, (aC.avs p0)⟩] [] =
 cond (p0.E != 0) (
 (some (aW (0, p0)))) (
 κ.t 44 bH [.d (.sl [.int .u8] (List.map (aO .u8) p0.B)), dIq p0.At] [] [] fun r0 =>
 cond (r0.2.2 != 0) (
 (some (aW (0, (aC.mk p0.B p0.At r0.2.2))))) (
 (some (aW (r0.1, (aC.mk p0.B r0.2.1 p0.E)))))) := by kernel_rfl
theorem dJ (p0 : aC) : Le (Option.map aW (bN p0)) (aY SE 77 [.ptr 2000000000 0] [⟨108, (aC.avs p0)⟩] []) := by
 refine bD (T77 _ p0) ?_
 unfold bN
 refine lC ?_ ?_
 ·exact aN rfl
 ·refine lQ eX jP (xK _ _) fun r0 _ => ?_
  refine lC ?_ ?_
  ·exact aN rfl
  ·exact aN rfl
theorem aA0 (κ : Tau) (p0 : aC) (p1 : Int) : bdy κ 125 [.ptr 2000000000 0, dIq p1] [⟨108, (aC.avs p0)⟩] [] =
 cond (p0.E != 0) (
 (some (.ret [dSq []] [⟨108, (aC.avs p0)⟩] []))) (
 κ.t 45 eU [.d (.sl [.int .u8] (List.map (aO .u8) p0.B)), dIq p0.At, dIq p1] [] [] fun r0 =>
 cond (r0.2.2 != 0) (
 (some (.ret [dSq []] [⟨108, (aC.avs (aC.mk p0.B p0.At r0.2.2))⟩] []))) (
 (some (.ret [dSq r0.1] [⟨108, (aC.avs (aC.mk p0.B r0.2.1 p0.E))⟩] [])))) := by kernel_rfl
theorem fZ (p0 : aC) (p1 : Int) : Le (Option.map cK (bW p0 p1)) (aY SE 125 [.ptr 2000000000 0, dIq p1] [⟨108, (aC.avs p0)⟩] []) := by
 refine bD (aA0 _ p0 p1) ?_
 unfold bW
 refine lC ?_ ?_
 ·exact aN rfl
 ·refine lQ eX acQ (abB _ _ _) fun r0 _ => ?_
  refine lC ?_ ?_
  ·exact aN rfl
  ·exact aN rfl
noncomputable def agS (L : cD) (κ : Tau) (a0 : Int) (a1 : List D) : Res := rl L κ 103 1 [1, 1, 1, 0, 0] (bQ [(0, .ptr 2000000000 0), (5, dIq a0)] [] [⟨108, (List.map AV.d a1)⟩] [] [])
theorem aBt (κ : Tau) (p0 : aC) (p1 : Int) : bdy κ 103 [.ptr 2000000000 0, dIq p1] [⟨108, (aC.avs p0)⟩] [] =
 κ.t 77 aW [.ptr 2000000000 0] [⟨108, (aC.avs p0)⟩] [] fun r0 =>
 cond (r0.2.E == 0) (
 cond (decide (r0.1 < 0)) (
  agS lab κ r0.1 (aC.enc (aC.mk r0.2.B r0.2.At 2))) (
 cond (decide (r0.1 ≥ p1)) (
  agS lab κ r0.1 (aC.enc (aC.mk r0.2.B r0.2.At 2))) (
 agS lab κ r0.1 (aC.enc r0.2)))) (
 agS lab κ r0.1 (aC.enc r0.2)) := by kernel_rfl
theorem ayK (κ : Tau) (x5 : Int) (q0 : aC) : agS cA κ x5 (aC.enc q0) =
 cond (q0.E != 0) (
 (some (aW (0, q0)))) (
 (some (aW (x5, q0)))) := by kernel_rfl
theorem aab (x5 : Int) (q0 : aC) : Le (Option.map aW (cV x5 q0)) (agS lab (kF 103) x5 (aC.enc q0)) := by
 refine bR (ayK _ x5 q0) ?_
 unfold cV
 refine lC ?_ ?_
 ·exact aN rfl
 ·exact aN rfl
theorem iA (p0 : aC) (p1 : Int) : Le (Option.map aW (dC p0 p1)) (aY SE 103 [.ptr 2000000000 0, dIq p1] [⟨108, (aC.avs p0)⟩] []) := by
 refine bD (aBt _ p0 p1) ?_
 unfold dC
 repeat' first | (with_reducible first | refine lC ?_ ?_ | refine lQ eX bU ?_ fun _ _ => ?_ | exact dJ _ | exact aab _ _)
theorem aB8 (κ : Tau) (p0 p1 : Int) : bdy κ 126 [dIq p0, dIq p1] [] [] =
 cond (decide (p1 ≥ 0)) (
 cond (decide (p1 < 32)) (
  cond (decide (0 ≤ (IntKind.wrap .u64 p1))) (
  (rB ((cB .and .i64 (shr .i64 p0 (IntKind.wrap .u64 p1)) 1) == 1))) none) (
 (rB false))) (
 (rB false)) := by kernel_rfl
theorem ait (p0 p1 : Int) : Le (Option.map packet_is_out (kG p0 p1)) (aY SE 126 [dIq p0, dIq p1] [] []) := by
 refine bD (aB8 _ p0 p1) ?_
 unfold kG
 refine lC ?_ ?_
 ·refine lC ?_ ?_
  ·refine lF ?_
   exact aN rfl
  ·exact aN rfl
 ·exact aN rfl
theorem aA4 (κ : Tau) (p0 : aC) (p1 : Int) : bdy κ 127 [.ptr 2000000000 0, dIq p1] [⟨108, (aC.avs p0)⟩] [] =
 cond (p0.E != 0) (
 (some (aW (0, p0)))) (
 κ.t 75 bH [.d (.sl [.int .u8] (List.map (aO .u8) p0.B)), dIq p0.At, dIq p1] [] [] fun r0 =>
 cond (r0.2.2 != 0) (
 (some (aW (0, (aC.mk p0.B p0.At r0.2.2))))) (
 (some (aW (r0.1, (aC.mk p0.B r0.2.1 p0.E)))))) := by kernel_rfl
theorem sT (p0 : aC) (p1 : Int) : Le (Option.map aW (dY p0 p1)) (aY SE 127 [.ptr 2000000000 0, dIq p1] [⟨108, (aC.avs p0)⟩] []) := by
 refine bD (aA4 _ p0 p1) ?_
 unfold dY
 refine lC ?_ ?_
 ·exact aN rfl
 ·refine lQ eX jP (vJ _ _ _) fun r0 _ => ?_
  refine lC ?_ ?_
  ·exact aN rfl
  ·exact aN rfl
noncomputable def anp (L : cD) (κ : Tau) (a0 a1 a2 : Int) (a3 : Bool) (a4 : List D) (a5 a6 : Str) (a7 : Int) (a8 : Bool) (a9 a10 : Int) (a11 : Str) (a12 : Int) (a13 : List D) (a14 : List (List D)) : Res := rl L κ 104 1 [1, 1, 1, 1, 1, 1, 1, 1, 1, 1, 1, 0, 1, 0, 0, 1, 0, 0, 0] (bQ [(0, .ptr 2000000000 0), (2, .ptr 1000000000 0), (3, .ptr 1000000001 0), (4, dIq a0), (5, dIq a1), (39, .ptr 2000000000 0), (40, .ptr 2000000000 0), (41, .ptr 2000000000 2), (42, dIq a2), (43, dBq a3)] [⟨47, (List.map AV.d a4)⟩, ⟨47, [dSq a5, dSq a6, dIq a7, dBq a8, dIq a9, dIq a10, dSq a11, dIq a12, .row 50108]⟩] [⟨108, (List.map AV.d a13)⟩] [] [(50108, ⟨aE.ks, 119, 32, a14⟩)])
noncomputable def agX (L : cD) (κ : Tau) (a0 a1 : Int) (a2 : List D) (a3 a4 : Str) (a5 : Int) (a6 : Bool) (a7 a8 : Int) (a9 : Str) (a10 : Int) (a11 : List D) (a12 : List (List D)) : Res := rl L κ 104 1 [1, 1, 1, 1, 1, 1, 1, 1, 1, 1, 1, 0, 1, 0] (bQ [(0, .ptr 2000000000 0), (2, .ptr 1000000000 0), (3, .ptr 1000000001 0), (4, dIq a0), (5, dIq a1)] [⟨47, (List.map AV.d a2)⟩, ⟨47, [dSq a3, dSq a4, dIq a5, dBq a6, dIq a7, dIq a8, dSq a9, dIq a10, .row 50108]⟩] [⟨108, (List.map AV.d a11)⟩] [] [(50108, ⟨aE.ks, 119, 32, a12⟩)])
theorem aBB (κ : Tau) (p0 : aC) : bdy κ 104 [.ptr 2000000000 0] [⟨108, (aC.avs p0)⟩] [] =
 κ.t 125 cK [.ptr 2000000000 0, dIq 64] [⟨108, (aC.avs p0)⟩] [] fun r0 =>
 κ.t 125 cK [.ptr 2000000000 0, dIq 256] [⟨108, (aC.avs r0.2)⟩] [] fun r1 =>
 κ.t 77 aW [.ptr 2000000000 0] [⟨108, (aC.avs r1.2)⟩] [] fun r2 =>
 κ.t 103 aW [.ptr 2000000000 0, dIq 2] [⟨108, (aC.avs r2.2)⟩] [] fun r3 =>
 κ.t 77 aW [.ptr 2000000000 0] [⟨108, (aC.avs r3.2)⟩] [] fun r4 =>
 κ.t 77 aW [.ptr 2000000000 0] [⟨108, (aC.avs r4.2)⟩] [] fun r5 =>
 κ.t 125 cK [.ptr 2000000000 0, dIq 16] [⟨108, (aC.avs r5.2)⟩] [] fun r6 =>
 κ.t 77 aW [.ptr 2000000000 0] [⟨108, (aC.avs r6.2)⟩] [] fun r7 =>
 κ.t 127 aW [.ptr 2000000000 0, dIq 8] [⟨108, (aC.avs r7.2)⟩] [] fun r8 =>
 agX lab κ r8.1 0 [D.str [], D.str [], D.int .i64 0, D.bool false, D.int .i64 0, D.int .i64 0, D.str [], D.int .i64 0, D.sl aE.ks (List.map aE.enc [])] r0.1 r1.1 r2.1 (r3.1 == 1) r4.1 r5.1 r6.1 r7.1 (aC.enc r8.2) (List.map aE.enc []) := by kernel_rfl
theorem aw0 (κ : Tau) (x4 x5 x42 : Int) (x43 : Bool) (b0 : aF) (b1_0 b1_1 : Str) (b1_2 : Int) (b1_3 : Bool) (b1_4 b1_5 : Int) (b1_6 : Str) (b1_7 : Int) (q0 : aC) (w50108 : List aE) : anp cA κ x4 x5 x42 x43 (aF.enc b0) b1_0 b1_1 b1_2 b1_3 b1_4 b1_5 b1_6 b1_7 (aC.enc q0) (List.map aE.enc w50108) =
 κ.t 125 cK [.ptr 2000000000 0, dIq 16] [⟨108, (aC.avs q0)⟩] [] fun r9 =>
 κ.t 125 cK [.ptr 2000000000 0, dIq 160] [⟨108, (aC.avs r9.2)⟩] [] fun r10 =>
 cond (decide ((lM aE.enc w50108 + lM aE.enc [(aE.mk r9.1 r10.1)]) * 32 ≤ 140737488355328)) (
 agX lab κ x4 (w6 (x5 + 1)) (aF.enc b0) b1_0 b1_1 b1_2 b1_3 b1_4 b1_5 b1_6 b1_7 (aC.enc r10.2) (((List.map aE.enc w50108) ++ (List.map aE.enc [(aE.mk r9.1 r10.1)])))) none := by kernel_rfl
theorem axj (κ : Tau) (x4 x5 : Int) (b0 : aF) (b1_0 b1_1 : Str) (b1_2 : Int) (b1_3 : Bool) (b1_4 b1_5 : Int) (b1_6 : Str) (b1_7 : Int) (q0 : aC) (w50108 : List aE) : agX cA κ x4 x5 (aF.enc b0) b1_0 b1_1 b1_2 b1_3 b1_4 b1_5 b1_6 b1_7 (aC.enc q0) (List.map aE.enc w50108) =
 cond (decide (x5 < x4)) (
 cond (q0.E == 0) (
  anp lab κ x4 x5 q0.E (q0.E == 0) (aF.enc b0) b1_0 b1_1 b1_2 b1_3 b1_4 b1_5 b1_6 b1_7 (aC.enc q0) (List.map aE.enc w50108)) (
 (some (cO ((aF.mk b1_0 b1_1 b1_2 b1_3 b1_4 b1_5 b1_6 b1_7 w50108), q0))))) (
 (some (cO ((aF.mk b1_0 b1_1 b1_2 b1_3 b1_4 b1_5 b1_6 b1_7 w50108), q0)))) := by kernel_rfl
theorem xW (k12 : Int → Int → aF → Str → Str → Int → Bool → Int → Int → Str → Int → aC → (List aE) → Option (aF × aC)) (hk12 : ∀ (x4 x5 : Int) (b0 : aF) (b1_0 b1_1 : Str) (b1_2 : Int) (b1_3 : Bool) (b1_4 b1_5 : Int) (b1_6 : Str) (b1_7 : Int) (q0 : aC) (w50108 : List aE), Le (Option.map cO (k12 x4 x5 b0 b1_0 b1_1 b1_2 b1_3 b1_4 b1_5 b1_6 b1_7 q0 w50108)) (agX lab (kF 104) x4 x5 (aF.enc b0) b1_0 b1_1 b1_2 b1_3 b1_4 b1_5 b1_6 b1_7 (aC.enc q0) (List.map aE.enc w50108))) (x4 x5 x42 : Int) (x43 : Bool) (b0 : aF) (b1_0 b1_1 : Str) (b1_2 : Int) (b1_3 : Bool) (b1_4 b1_5 : Int) (b1_6 : Str) (b1_7 : Int) (q0 : aC) (w50108 : List aE) : Le (Option.map cO (jC k12 x4 x5 x42 x43 b0 b1_0 b1_1 b1_2 b1_3 b1_4 b1_5 b1_6 b1_7 q0 w50108)) (anp lab (kF 104) x4 x5 x42 x43 (aF.enc b0) b1_0 b1_1 b1_2 b1_3 b1_4 b1_5 b1_6 b1_7 (aC.enc q0) (List.map aE.enc w50108)) := by
 refine bR (aw0 _ x4 x5 x42 x43 b0 b1_0 b1_1 b1_2 b1_3 b1_4 b1_5 b1_6 b1_7 q0 w50108) ?_
 unfold jC
 repeat' first | (with_reducible first | refine lQ eX fN ?_ fun _ _ => ?_ | refine lG ?_ ?_ | exact fZ _ _ | exact hk12 _ _ _ _ _ _ _ _ _ _ _ _ _) | (simp only [EN]; done) | (simp only [EN]; exact hk12 _ _ _ _ _ _ _ _ _ _ _ _ _)
theorem xO : ∀ (fu : Nat) (x4 x5 : Int) (b0 : aF) (b1_0 b1_1 : Str) (b1_2 : Int) (b1_3 : Bool) (b1_4 b1_5 : Int) (b1_6 : Str) (b1_7 : Int) (q0 : aC) (w50108 : List aE), Le (Option.map cO (eY fu x4 x5 b0 b1_0 b1_1 b1_2 b1_3 b1_4 b1_5 b1_6 b1_7 q0 w50108)) (agX lab (kF 104) x4 x5 (aF.enc b0) b1_0 b1_1 b1_2 b1_3 b1_4 b1_5 b1_6 b1_7 (aC.enc q0) (List.map aE.enc w50108)) := by
 intro fu
 induction fu with
 | zero => intros; exact le_none
 | succ fu ih =>
  intro x4 x5 b0 b1_0 b1_1 b1_2 b1_3 b1_4 b1_5 b1_6 b1_7 q0 w50108
  refine bR (axj _ x4 x5 b0 b1_0 b1_1 b1_2 b1_3 b1_4 b1_5 b1_6 b1_7 q0 w50108) ?_
  unfold eY
  refine lC ?_ ?_
  ·refine lC ?_ ?_
   ·exact xW _ (ih) x4 x5 q0.E (q0.E == 0) b0 b1_0 b1_1 b1_2 b1_3 b1_4 b1_5 b1_6 b1_7 q0 w50108
   ·exact aN rfl
  ·exact aN rfl
theorem rM (p0 : aC) : Le (Option.map cO (eW p0)) (aY SE 104 [.ptr 2000000000 0] [⟨108, (aC.avs p0)⟩] []) := by
 refine bD (aBB _ p0) ?_
 unfold eW
 refine lQ eX fN (fZ _ _) fun r0 _ => ?_
 refine lQ eX fN (fZ _ _) fun r1 _ => ?_
 refine lQ eX bU (dJ _) fun r2 _ => ?_
 refine lQ eX bU (iA _ _) fun r3 _ => ?_
 refine lQ eX bU (dJ _) fun r4 _ => ?_
 refine lQ eX bU (dJ _) fun r5 _ => ?_
 refine lQ eX fN (fZ _ _) fun r6 _ => ?_
 refine lQ eX bU (dJ _) fun r7 _ => ?_
 refine lQ eX bU (sT _ _) fun r8 _ => ?_
 (try simp only [EN]); exact xO fuel r8.1 0 (zMq) r0.1 r1.1 r2.1 (r3.1 == 1) r4.1 r5.1 r6.1 r7.1 r8.2 []
theorem aAT (κ : Tau) (p0 : aC) (p1 : aA) : bdy κ 102 [.ptr 2000000000 0, aA.av p1] [⟨108, (aC.avs p0)⟩] [] =
 κ.t 125 cK [.ptr 2000000000 0, dIq 16] [⟨108, (aC.avs p0)⟩] [] fun r0 =>
 κ.t 125 cK [.ptr 2000000000 0, dIq 16] [⟨108, (aC.avs r0.2)⟩] [] fun r1 =>
 κ.t 103 aW [.ptr 2000000000 0, dIq 4] [⟨108, (aC.avs r1.2)⟩] [] fun r2 =>
 κ.t 126 packet_is_out [dIq r2.1, dIq 0] [] [] fun r3 =>
 κ.t 126 packet_is_out [dIq r2.1, dIq 1] [] [] fun r4 =>
 κ.t 77 aW [.ptr 2000000000 0] [⟨108, (aC.avs r2.2)⟩] [] fun r5 =>
 κ.t 77 aW [.ptr 2000000000 0] [⟨108, (aC.avs r5.2)⟩] [] fun r6 =>
 κ.t 77 aW [.ptr 2000000000 0] [⟨108, (aC.avs r6.2)⟩] [] fun r7 =>
 cond r4 (
 cond (r7.2.E == 0) (
  κ.t 77 aW [.ptr 2000000000 0] [⟨108, (aC.avs r7.2)⟩] [] fun r8 =>
  κ.t 104 cO [.ptr 2000000000 0] [⟨108, (aC.avs r8.2)⟩] [] fun r9 =>
  (some (bK ((aA.mk p1.Kind p1.ID p1.Dup p1.Message r0.1 r1.1 r3 r5.1 r6.1 r7.1 (aV.mk r4 r8.1 r9.1) p1.Present p1.Code p1.Subs p1.Filters p1.Codes), r9.2)))) (
 (some (bK ((aA.mk p1.Kind p1.ID p1.Dup p1.Message r0.1 r1.1 r3 r5.1 r6.1 r7.1 (aV.mk r4 p1.Will.Delay p1.Will.Message) p1.Present p1.Code p1.Subs p1.Filters p1.Codes), r7.2))))) (
 (some (bK ((aA.mk p1.Kind p1.ID p1.Dup p1.Message r0.1 r1.1 r3 r5.1 r6.1 r7.1 (aV.mk r4 p1.Will.Delay p1.Will.Message) p1.Present p1.Code p1.Subs p1.Filters p1.Codes), r7.2)))) := by kernel_rfl
theorem wA (p0 : aC) (p1 : aA) : Le (Option.map bK (kX p0 p1)) (aY SE 102 [.ptr 2000000000 0, aA.av p1] [⟨108, (aC.avs p0)⟩] []) := by
 refine bD (aAT _ p0 p1) ?_
 unfold kX
 repeat' first | (with_reducible first | refine lC ?_ ?_ | refine lQ eX fN ?_ fun _ _ => ?_ | refine lQ eX bU ?_ fun _ _ => ?_ | refine lQ eX packet_is_inj ?_ fun _ _ => ?_ | refine lQ eX bU ?_ fun _ _ => ?_ | refine lQ eX rH ?_ fun _ _ => ?_ | exact fZ _ _ | exact iA _ _ | exact ait _ _ | exact dJ _ | exact rM _ | refine aN ?_) | rfl | (simp only [EN, bK] <;> rfl)
noncomputable def ark (L : cD) (κ : Tau) (a0 a1 a2 : Int) (a3 : Bool) (a4 a5 : List D) (a6 a7 : Int) (a8 : Bool) (a9 a10 : Str) (a11 : Int) (a12 : Bool) (a13 a14 : Int) (a15 : Str) (a16 : Int) (a17 : List (List D)) (a18 a19 : Str) (a20 : Bool) (a21 a22 a23 : Int) (a24 : Bool) (a25 : Int) (a26 a27 : Str) (a28 : Int) (a29 : Bool) (a30 a31 : Int) (a32 : Str) (a33 : Int) (a34 : List (List D)) (a35 : Bool) (a36 : Int) (a37 : List D) (a38 a39 a40 : List (List D)) : Res := rl L κ 105 1 [1, 1, 1, 0, 1, 0, 0, 1, 0, 0, 0] (bQ [(0, .ptr 2000000000 0), (3, .ptr 1000000000 0), (4, .ptr 1000000001 0), (5, .ptr 1000000002 0), (6, dIq a0), (7, dIq a1), (16, .ptr 2000000000 0), (17, .ptr 2000000000 0), (18, .ptr 2000000000 2), (19, dIq a2), (20, dBq a3)] [⟨53, (List.map AV.d a4)⟩, ⟨53, (List.map AV.d a5)⟩, ⟨53, [dIq a6, dIq a7, dBq a8, dSq a9, dSq a10, dIq a11, dBq a12, dIq a13, dIq a14, dSq a15, dIq a16, .d (.sl aE.ks a17), dSq a18, dSq a19, dBq a20, dIq a21, dIq a22, dIq a23, dBq a24, dIq a25, dSq a26, dSq a27, dIq a28, dBq a29, dIq a30, dIq a31, dSq a32, dIq a33, .d (.sl aE.ks a34), dBq a35, dIq a36, .row 50231, .row 50232, .row 50233]⟩] [⟨108, (List.map AV.d a37)⟩] [] [(50231, ⟨aG.ks, 112, 32, a38⟩), (50232, ⟨[.str], 9, 16, a39⟩), (50233, ⟨[.int .i64], 3, 8, a40⟩)])
noncomputable def adZ (L : cD) (κ : Tau) (a0 a1 : Int) (a2 a3 : List D) (a4 a5 : Int) (a6 : Bool) (a7 a8 : Str) (a9 : Int) (a10 : Bool) (a11 a12 : Int) (a13 : Str) (a14 : Int) (a15 : List (List D)) (a16 a17 : Str) (a18 : Bool) (a19 a20 a21 : Int) (a22 : Bool) (a23 : Int) (a24 a25 : Str) (a26 : Int) (a27 : Bool) (a28 a29 : Int) (a30 : Str) (a31 : Int) (a32 : List (List D)) (a33 : Bool) (a34 : Int) (a35 : List D) (a36 a37 a38 : List (List D)) : Res := rl L κ 105 1 [1, 1, 1, 0, 1, 0] (bQ [(0, .ptr 2000000000 0), (3, .ptr 1000000000 0), (4, .ptr 1000000001 0), (5, .ptr 1000000002 0), (6, dIq a0), (7, dIq a1)] [⟨53, (List.map AV.d a2)⟩, ⟨53, (List.map AV.d a3)⟩, ⟨53, [dIq a4, dIq a5, dBq a6, dSq a7, dSq a8, dIq a9, dBq a10, dIq a11, dIq a12, dSq a13, dIq a14, .d (.sl aE.ks a15), dSq a16, dSq a17, dBq a18, dIq a19, dIq a20, dIq a21, dBq a22, dIq a23, dSq a24, dSq a25, dIq a26, dBq a27, dIq a28, dIq a29, dSq a30, dIq a31, .d (.sl aE.ks a32), dBq a33, dIq a34, .row 50231, .row 50232, .row 50233]⟩] [⟨108, (List.map AV.d a35)⟩] [] [(50231, ⟨aG.ks, 112, 32, a36⟩), (50232, ⟨[.str], 9, 16, a37⟩), (50233, ⟨[.int .i64], 3, 8, a38⟩)])
theorem aB2 (κ : Tau) (p0 : aC) (p1 : aA) : bdy κ 105 [.ptr 2000000000 0, .agg [dIq p1.Kind, dIq p1.ID, dBq p1.Dup, dSq p1.Message.Topic, dSq p1.Message.Payload, dIq p1.Message.Level, dBq p1.Message.Retain, dIq p1.Message.Priority, dIq p1.Message.Expires, dSq p1.Message.From, dIq p1.Message.Seq, .nil, dSq p1.Client, dSq p1.User, dBq p1.Clean, dIq p1.Keep, dIq p1.Expiry, dIq p1.Window, dBq p1.Will.Set, dIq p1.Will.Delay, dSq p1.Will.Message.Topic, dSq p1.Will.Message.Payload, dIq p1.Will.Message.Level, dBq p1.Will.Message.Retain, dIq p1.Will.Message.Priority, dIq p1.Will.Message.Expires, dSq p1.Will.Message.From, dIq p1.Will.Message.Seq, .nil, dBq p1.Present, dIq p1.Code, .nil, .nil, .nil]] [⟨108, (aC.avs p0)⟩] [] =
 κ.t 127 aW [.ptr 2000000000 0, dIq 32] [⟨108, (aC.avs p0)⟩] [] fun r0 =>
 adZ lab κ r0.1 0 [D.int .i64 p1.Kind, D.int .i64 p1.ID, D.bool p1.Dup, D.str p1.Message.Topic, D.str p1.Message.Payload, D.int .i64 p1.Message.Level, D.bool p1.Message.Retain, D.int .i64 p1.Message.Priority, D.int .i64 p1.Message.Expires, D.str p1.Message.From, D.int .i64 p1.Message.Seq, D.sl aE.ks (List.map aE.enc []), D.str p1.Client, D.str p1.User, D.bool p1.Clean, D.int .i64 p1.Keep, D.int .i64 p1.Expiry, D.int .i64 p1.Window, D.bool p1.Will.Set, D.int .i64 p1.Will.Delay, D.str p1.Will.Message.Topic, D.str p1.Will.Message.Payload, D.int .i64 p1.Will.Message.Level, D.bool p1.Will.Message.Retain, D.int .i64 p1.Will.Message.Priority, D.int .i64 p1.Will.Message.Expires, D.str p1.Will.Message.From, D.int .i64 p1.Will.Message.Seq, D.sl aE.ks (List.map aE.enc []), D.bool p1.Present, D.int .i64 p1.Code, D.sl aG.ks (List.map aG.enc []), D.sl [.str] (List.map aZ []), D.sl [.int .i64] (List.map eI [])] [D.int .i64 0, D.int .i64 0, D.bool false, D.str [], D.str [], D.int .i64 0, D.bool false, D.int .i64 0, D.int .i64 0, D.str [], D.int .i64 0, D.sl aE.ks (List.map aE.enc []), D.str [], D.str [], D.bool false, D.int .i64 0, D.int .i64 0, D.int .i64 0, D.bool false, D.int .i64 0, D.str [], D.str [], D.int .i64 0, D.bool false, D.int .i64 0, D.int .i64 0, D.str [], D.int .i64 0, D.sl aE.ks (List.map aE.enc []), D.bool false, D.int .i64 0, D.sl aG.ks (List.map aG.enc []), D.sl [.str] (List.map aZ []), D.sl [.int .i64] (List.map eI [])] p1.Kind p1.ID p1.Dup p1.Message.Topic p1.Message.Payload p1.Message.Level p1.Message.Retain p1.Message.Priority p1.Message.Expires p1.Message.From p1.Message.Seq (List.map aE.enc []) p1.Client p1.User p1.Clean p1.Keep p1.Expiry p1.Window p1.Will.Set p1.Will.Delay p1.Will.Message.Topic p1.Will.Message.Payload p1.Will.Message.Level p1.Will.Message.Retain p1.Will.Message.Priority p1.Will.Message.Expires p1.Will.Message.From p1.Will.Message.Seq (List.map aE.enc []) p1.Present p1.Code (aC.enc r0.2) (List.map aG.enc []) (List.map aZ []) (List.map eI []) := by kernel_rfl
theorem axH (κ : Tau) (x6 x7 x19 : Int) (x20 : Bool) (b0 b1 : aA) (b2_0 b2_1 : Int) (b2_2 : Bool) (b2_3 b2_4 : Str) (b2_5 : Int) (b2_6 : Bool) (b2_7 b2_8 : Int) (b2_9 : Str) (b2_10 : Int) (b2_11 : List aE) (b2_12 b2_13 : Str) (b2_14 : Bool) (b2_15 b2_16 b2_17 : Int) (b2_18 : Bool) (b2_19 : Int) (b2_20 b2_21 : Str) (b2_22 : Int) (b2_23 : Bool) (b2_24 b2_25 : Int) (b2_26 : Str) (b2_27 : Int) (b2_28 : List aE) (b2_29 : Bool) (b2_30 : Int) (q0 : aC) (w50231 : List aG) (w50232 : List Str) (w50233 : List Int) : ark cA κ x6 x7 x19 x20 (aA.enc b0) (aA.enc b1) b2_0 b2_1 b2_2 b2_3 b2_4 b2_5 b2_6 b2_7 b2_8 b2_9 b2_10 (List.map aE.enc b2_11) b2_12 b2_13 b2_14 b2_15 b2_16 b2_17 b2_18 b2_19 b2_20 b2_21 b2_22 b2_23 b2_24 b2_25 b2_26 b2_27 (List.map aE.enc b2_28) b2_29 b2_30 (aC.enc q0) (List.map aG.enc w50231) (List.map aZ w50232) (List.map eI w50233) =
 cond (b0.Kind == 10) (
 κ.t 125 cK [.ptr 2000000000 0, dIq 88] [⟨108, (aC.avs q0)⟩] [] fun r1 =>
 cond (decide ((lM aZ w50232 + lM aZ [r1.1]) * 16 ≤ 140737488355328)) (
  adZ lab κ x6 (w6 (x7 + 1)) (aA.enc b0) (aA.enc b1) b2_0 b2_1 b2_2 b2_3 b2_4 b2_5 b2_6 b2_7 b2_8 b2_9 b2_10 (List.map aE.enc b2_11) b2_12 b2_13 b2_14 b2_15 b2_16 b2_17 b2_18 b2_19 b2_20 b2_21 b2_22 b2_23 b2_24 b2_25 b2_26 b2_27 (List.map aE.enc b2_28) b2_29 b2_30 (aC.enc r1.2) (List.map aG.enc w50231) (((List.map aZ w50232) ++ (List.map aZ [r1.1]))) (List.map eI w50233)) none) (
 cond (b0.Kind == 8) (
 κ.t 125 cK [.ptr 2000000000 0, dIq 88] [⟨108, (aC.avs q0)⟩] [] fun r2 =>
 κ.t 77 aW [.ptr 2000000000 0] [⟨108, (aC.avs r2.2)⟩] [] fun r3 =>
 κ.t 103 aW [.ptr 2000000000 0, dIq 2] [⟨108, (aC.avs r3.2)⟩] [] fun r4 =>
 cond (decide ((lM aG.enc w50231 + lM aG.enc [(aG.mk r2.1 r3.1 (r4.1 == 1))]) * 32 ≤ 140737488355328)) (
  adZ lab κ x6 (w6 (x7 + 1)) (aA.enc b0) (aA.enc b1) b2_0 b2_1 b2_2 b2_3 b2_4 b2_5 b2_6 b2_7 b2_8 b2_9 b2_10 (List.map aE.enc b2_11) b2_12 b2_13 b2_14 b2_15 b2_16 b2_17 b2_18 b2_19 b2_20 b2_21 b2_22 b2_23 b2_24 b2_25 b2_26 b2_27 (List.map aE.enc b2_28) b2_29 b2_30 (aC.enc r4.2) (((List.map aG.enc w50231) ++ (List.map aG.enc [(aG.mk r2.1 r3.1 (r4.1 == 1))]))) (List.map aZ w50232) (List.map eI w50233)) none) (
 κ.t 77 aW [.ptr 2000000000 0] [⟨108, (aC.avs q0)⟩] [] fun r5 =>
 cond (decide ((lM eI w50233 + lM eI [r5.1]) * 8 ≤ 140737488355328)) (
 adZ lab κ x6 (w6 (x7 + 1)) (aA.enc b0) (aA.enc b1) b2_0 b2_1 b2_2 b2_3 b2_4 b2_5 b2_6 b2_7 b2_8 b2_9 b2_10 (List.map aE.enc b2_11) b2_12 b2_13 b2_14 b2_15 b2_16 b2_17 b2_18 b2_19 b2_20 b2_21 b2_22 b2_23 b2_24 b2_25 b2_26 b2_27 (List.map aE.enc b2_28) b2_29 b2_30 (aC.enc r5.2) (List.map aG.enc w50231) (List.map aZ w50232) (((List.map eI w50233) ++ (List.map eI [r5.1])))) none)) := by kernel_rfl
theorem ayI (κ : Tau) (x6 x7 : Int) (b0 b1 : aA) (b2_0 b2_1 : Int) (b2_2 : Bool) (b2_3 b2_4 : Str) (b2_5 : Int) (b2_6 : Bool) (b2_7 b2_8 : Int) (b2_9 : Str) (b2_10 : Int) (b2_11 : List aE) (b2_12 b2_13 : Str) (b2_14 : Bool) (b2_15 b2_16 b2_17 : Int) (b2_18 : Bool) (b2_19 : Int) (b2_20 b2_21 : Str) (b2_22 : Int) (b2_23 : Bool) (b2_24 b2_25 : Int) (b2_26 : Str) (b2_27 : Int) (b2_28 : List aE) (b2_29 : Bool) (b2_30 : Int) (q0 : aC) (w50231 : List aG) (w50232 : List Str) (w50233 : List Int) : adZ cA κ x6 x7 (aA.enc b0) (aA.enc b1) b2_0 b2_1 b2_2 b2_3 b2_4 b2_5 b2_6 b2_7 b2_8 b2_9 b2_10 (List.map aE.enc b2_11) b2_12 b2_13 b2_14 b2_15 b2_16 b2_17 b2_18 b2_19 b2_20 b2_21 b2_22 b2_23 b2_24 b2_25 b2_26 b2_27 (List.map aE.enc b2_28) b2_29 b2_30 (aC.enc q0) (List.map aG.enc w50231) (List.map aZ w50232) (List.map eI w50233) =
 cond (decide (x7 < x6)) (
 cond (q0.E == 0) (
  ark lab κ x6 x7 q0.E (q0.E == 0) (aA.enc b0) (aA.enc b1) b2_0 b2_1 b2_2 b2_3 b2_4 b2_5 b2_6 b2_7 b2_8 b2_9 b2_10 (List.map aE.enc b2_11) b2_12 b2_13 b2_14 b2_15 b2_16 b2_17 b2_18 b2_19 b2_20 b2_21 b2_22 b2_23 b2_24 b2_25 b2_26 b2_27 (List.map aE.enc b2_28) b2_29 b2_30 (aC.enc q0) (List.map aG.enc w50231) (List.map aZ w50232) (List.map eI w50233)) (
 (some (dN (((aA.mk b2_0 b2_1 b2_2 (aF.mk b2_3 b2_4 b2_5 b2_6 b2_7 b2_8 b2_9 b2_10 b2_11) b2_12 b2_13 b2_14 b2_15 b2_16 b2_17 (aV.mk b2_18 b2_19 (aF.mk b2_20 b2_21 b2_22 b2_23 b2_24 b2_25 b2_26 b2_27 b2_28)) b2_29 b2_30 w50231 w50232 w50233), q0)))))) (
 (some (dN (((aA.mk b2_0 b2_1 b2_2 (aF.mk b2_3 b2_4 b2_5 b2_6 b2_7 b2_8 b2_9 b2_10 b2_11) b2_12 b2_13 b2_14 b2_15 b2_16 b2_17 (aV.mk b2_18 b2_19 (aF.mk b2_20 b2_21 b2_22 b2_23 b2_24 b2_25 b2_26 b2_27 b2_28)) b2_29 b2_30 w50231 w50232 w50233), q0))))) := by kernel_rfl
theorem ace (k4 : Int → Int → aA → aA → Int → Int → Bool → Str → Str → Int → Bool → Int → Int → Str → Int → (List aE) → Str → Str → Bool → Int → Int → Int → Bool → Int → Str → Str → Int → Bool → Int → Int → Str → Int → (List aE) → Bool → Int → aC → (List aG) → (List Str) → (List Int) → Option (aA × aC)) (hk4 : ∀ (x6 x7 : Int) (b0 b1 : aA) (b2_0 b2_1 : Int) (b2_2 : Bool) (b2_3 b2_4 : Str) (b2_5 : Int) (b2_6 : Bool) (b2_7 b2_8 : Int) (b2_9 : Str) (b2_10 : Int) (b2_11 : List aE) (b2_12 b2_13 : Str) (b2_14 : Bool) (b2_15 b2_16 b2_17 : Int) (b2_18 : Bool) (b2_19 : Int) (b2_20 b2_21 : Str) (b2_22 : Int) (b2_23 : Bool) (b2_24 b2_25 : Int) (b2_26 : Str) (b2_27 : Int) (b2_28 : List aE) (b2_29 : Bool) (b2_30 : Int) (q0 : aC) (w50231 : List aG) (w50232 : List Str) (w50233 : List Int), Le (Option.map dN (k4 x6 x7 b0 b1 b2_0 b2_1 b2_2 b2_3 b2_4 b2_5 b2_6 b2_7 b2_8 b2_9 b2_10 b2_11 b2_12 b2_13 b2_14 b2_15 b2_16 b2_17 b2_18 b2_19 b2_20 b2_21 b2_22 b2_23 b2_24 b2_25 b2_26 b2_27 b2_28 b2_29 b2_30 q0 w50231 w50232 w50233)) (adZ lab (kF 105) x6 x7 (aA.enc b0) (aA.enc b1) b2_0 b2_1 b2_2 b2_3 b2_4 b2_5 b2_6 b2_7 b2_8 b2_9 b2_10 (List.map aE.enc b2_11) b2_12 b2_13 b2_14 b2_15 b2_16 b2_17 b2_18 b2_19 b2_20 b2_21 b2_22 b2_23 b2_24 b2_25 b2_26 b2_27 (List.map aE.enc b2_28) b2_29 b2_30 (aC.enc q0) (List.map aG.enc w50231) (List.map aZ w50232) (List.map eI w50233))) (x6 x7 x19 : Int) (x20 : Bool) (b0 b1 : aA) (b2_0 b2_1 : Int) (b2_2 : Bool) (b2_3 b2_4 : Str) (b2_5 : Int) (b2_6 : Bool) (b2_7 b2_8 : Int) (b2_9 : Str) (b2_10 : Int) (b2_11 : List aE) (b2_12 b2_13 : Str) (b2_14 : Bool) (b2_15 b2_16 b2_17 : Int) (b2_18 : Bool) (b2_19 : Int) (b2_20 b2_21 : Str) (b2_22 : Int) (b2_23 : Bool) (b2_24 b2_25 : Int) (b2_26 : Str) (b2_27 : Int) (b2_28 : List aE) (b2_29 : Bool) (b2_30 : Int) (q0 : aC) (w50231 : List aG) (w50232 : List Str) (w50233 : List Int) : Le (Option.map dN (iY k4 x6 x7 x19 x20 b0 b1 b2_0 b2_1 b2_2 b2_3 b2_4 b2_5 b2_6 b2_7 b2_8 b2_9 b2_10 b2_11 b2_12 b2_13 b2_14 b2_15 b2_16 b2_17 b2_18 b2_19 b2_20 b2_21 b2_22 b2_23 b2_24 b2_25 b2_26 b2_27 b2_28 b2_29 b2_30 q0 w50231 w50232 w50233)) (ark lab (kF 105) x6 x7 x19 x20 (aA.enc b0) (aA.enc b1) b2_0 b2_1 b2_2 b2_3 b2_4 b2_5 b2_6 b2_7 b2_8 b2_9 b2_10 (List.map aE.enc b2_11) b2_12 b2_13 b2_14 b2_15 b2_16 b2_17 b2_18 b2_19 b2_20 b2_21 b2_22 b2_23 b2_24 b2_25 b2_26 b2_27 (List.map aE.enc b2_28) b2_29 b2_30 (aC.enc q0) (List.map aG.enc w50231) (List.map aZ w50232) (List.map eI w50233)) := by
 refine bR (axH _ x6 x7 x19 x20 b0 b1 b2_0 b2_1 b2_2 b2_3 b2_4 b2_5 b2_6 b2_7 b2_8 b2_9 b2_10 b2_11 b2_12 b2_13 b2_14 b2_15 b2_16 b2_17 b2_18 b2_19 b2_20 b2_21 b2_22 b2_23 b2_24 b2_25 b2_26 b2_27 b2_28 b2_29 b2_30 q0 w50231 w50232 w50233) ?_
 unfold iY
 repeat' first | (with_reducible first | refine lC ?_ ?_ | refine lQ eX fN ?_ fun _ _ => ?_ | refine lQ eX bU ?_ fun _ _ => ?_ | refine lQ eX bU ?_ fun _ _ => ?_ | refine lG ?_ ?_ | exact fZ _ _ | exact hk4 _ _ _ _ _ _ _ _ _ _ _ _ _ _ _ _ _ _ _ _ _ _ _ _ _ _ _ _ _ _ _ _ _ _ _ _ _ _ _ | exact dJ _ | exact iA _ _) | (simp only [EN]; done) | (simp only [EN]; exact hk4 _ _ _ _ _ _ _ _ _ _ _ _ _ _ _ _ _ _ _ _ _ _ _ _ _ _ _ _ _ _ _ _ _ _ _ _ _ _ _)
theorem vC : ∀ (fu : Nat) (x6 x7 : Int) (b0 b1 : aA) (b2_0 b2_1 : Int) (b2_2 : Bool) (b2_3 b2_4 : Str) (b2_5 : Int) (b2_6 : Bool) (b2_7 b2_8 : Int) (b2_9 : Str) (b2_10 : Int) (b2_11 : List aE) (b2_12 b2_13 : Str) (b2_14 : Bool) (b2_15 b2_16 b2_17 : Int) (b2_18 : Bool) (b2_19 : Int) (b2_20 b2_21 : Str) (b2_22 : Int) (b2_23 : Bool) (b2_24 b2_25 : Int) (b2_26 : Str) (b2_27 : Int) (b2_28 : List aE) (b2_29 : Bool) (b2_30 : Int) (q0 : aC) (w50231 : List aG) (w50232 : List Str) (w50233 : List Int), Le (Option.map dN (cX fu x6 x7 b0 b1 b2_0 b2_1 b2_2 b2_3 b2_4 b2_5 b2_6 b2_7 b2_8 b2_9 b2_10 b2_11 b2_12 b2_13 b2_14 b2_15 b2_16 b2_17 b2_18 b2_19 b2_20 b2_21 b2_22 b2_23 b2_24 b2_25 b2_26 b2_27 b2_28 b2_29 b2_30 q0 w50231 w50232 w50233)) (adZ lab (kF 105) x6 x7 (aA.enc b0) (aA.enc b1) b2_0 b2_1 b2_2 b2_3 b2_4 b2_5 b2_6 b2_7 b2_8 b2_9 b2_10 (List.map aE.enc b2_11) b2_12 b2_13 b2_14 b2_15 b2_16 b2_17 b2_18 b2_19 b2_20 b2_21 b2_22 b2_23 b2_24 b2_25 b2_26 b2_27 (List.map aE.enc b2_28) b2_29 b2_30 (aC.enc q0) (List.map aG.enc w50231) (List.map aZ w50232) (List.map eI w50233)) := by
 intro fu
 induction fu with
 | zero => intros; exact le_none
 | succ fu ih =>
  intro x6 x7 b0 b1 b2_0 b2_1 b2_2 b2_3 b2_4 b2_5 b2_6 b2_7 b2_8 b2_9 b2_10 b2_11 b2_12 b2_13 b2_14 b2_15 b2_16 b2_17 b2_18 b2_19 b2_20 b2_21 b2_22 b2_23 b2_24 b2_25 b2_26 b2_27 b2_28 b2_29 b2_30 q0 w50231 w50232 w50233
  refine bR (ayI _ x6 x7 b0 b1 b2_0 b2_1 b2_2 b2_3 b2_4 b2_5 b2_6 b2_7 b2_8 b2_9 b2_10 b2_11 b2_12 b2_13 b2_14 b2_15 b2_16 b2_17 b2_18 b2_19 b2_20 b2_21 b2_22 b2_23 b2_24 b2_25 b2_26 b2_27 b2_28 b2_29 b2_30 q0 w50231 w50232 w50233) ?_
  unfold cX
  repeat' first | (with_reducible first | refine lC ?_ ?_ | exact ace _ (ih) _ _ _ _ _ _ _ _ _ _ _ _ _ _ _ _ _ _ _ _ _ _ _ _ _ _ _ _ _ _ _ _ _ _ _ _ _ _ _ _ _ | refine aN ?_) | rfl | (simp only [EN, dN] <;> rfl)
theorem yF (p0 : aC) (p1 : aA) : Le (Option.map dN (fO p0 p1)) (aY SE 105 [.ptr 2000000000 0, .agg [dIq p1.Kind, dIq p1.ID, dBq p1.Dup, dSq p1.Message.Topic, dSq p1.Message.Payload, dIq p1.Message.Level, dBq p1.Message.Retain, dIq p1.Message.Priority, dIq p1.Message.Expires, dSq p1.Message.From, dIq p1.Message.Seq, .nil, dSq p1.Client, dSq p1.User, dBq p1.Clean, dIq p1.Keep, dIq p1.Expiry, dIq p1.Window, dBq p1.Will.Set, dIq p1.Will.Delay, dSq p1.Will.Message.Topic, dSq p1.Will.Message.Payload, dIq p1.Will.Message.Level, dBq p1.Will.Message.Retain, dIq p1.Will.Message.Priority, dIq p1.Will.Message.Expires, dSq p1.Will.Message.From, dIq p1.Will.Message.Seq, .nil, dBq p1.Present, dIq p1.Code, .nil, .nil, .nil]] [⟨108, (aC.avs p0)⟩] []) := by
 refine bD (aB2 _ p0 p1) ?_
 unfold fO
 repeat' first | (with_reducible first | refine lQ eX bU ?_ fun _ _ => ?_ | exact sT _ _ | exact vC fuel _ _ _ _ _ _ _ _ _ _ _ _ _ _ _ _ _ _ _ _ _ _ _ _ _ _ _ _ _ _ _ _ _ _ _ _ _ _ _) | (simp only [EN]; exact vC fuel _ _ _ _ _ _ _ _ _ _ _ _ _ _ _ _ _ _ _ _ _ _ _ _ _ _ _ _ _ _ _ _ _ _ _ _ _ _ _)
noncomputable def arb (L : cD) (κ : Tau) (a0 a1 a2 : Int) (a3 : Bool) (a4 a5 : Str) (a6 : Int) (a7 : Bool) (a8 a9 : Int) (a10 : Str) (a11 : Int) (a12 a13 : Str) (a14 : Bool) (a15 a16 a17 : Int) (a18 : Bool) (a19 : Int) (a20 a21 : Str) (a22 : Int) (a23 : Bool) (a24 a25 : Int) (a26 : Str) (a27 : Int) (a28 : Bool) (a29 a30 a31 : Int) (a32 : Bool) (a33 a34 : Str) (a35 : Int) (a36 : Bool) (a37 a38 : Int) (a39 : Str) (a40 : Int) (a41 a42 : Str) (a43 : Bool) (a44 a45 a46 : Int) (a47 : Bool) (a48 : Int) (a49 a50 : Str) (a51 : Int) (a52 : Bool) (a53 a54 : Int) (a55 : Str) (a56 : Int) (a57 : Bool) (a58 : Int) (a59 : List D) : Res := rl L κ 78 1 [1, 1, 1, 1, 1, 1, 0] (bQ [(0, .ptr 2000000000 0), (1, dIq a0), (4, .ptr 1000000000 0), (5, .ptr 1000000001 0)] [⟨53, [dIq a1, dIq a2, dBq a3, dSq a4, dSq a5, dIq a6, dBq a7, dIq a8, dIq a9, dSq a10, dIq a11, .nil, dSq a12, dSq a13, dBq a14, dIq a15, dIq a16, dIq a17, dBq a18, dIq a19, dSq a20, dSq a21, dIq a22, dBq a23, dIq a24, dIq a25, dSq a26, dIq a27, .nil, dBq a28, dIq a29, .nil, .nil, .nil]⟩, ⟨53, [dIq a30, dIq a31, dBq a32, dSq a33, dSq a34, dIq a35, dBq a36, dIq a37, dIq a38, dSq a39, dIq a40, .nil, dSq a41, dSq a42, dBq a43, dIq a44, dIq a45, dIq a46, dBq a47, dIq a48, dSq a49, dSq a50, dIq a51, dBq a52, dIq a53, dIq a54, dSq a55, dIq a56, .nil, dBq a57, dIq a58, .nil, .nil, .nil]⟩] [⟨108, (List.map AV.d a59)⟩] [] [])
theorem T78 (κ : Tau) (p0 : aC) (p1 : Int) : bdy κ 78 [.ptr 2000000000 0, dIq p1] [⟨108, (aC.avs p0)⟩] [] =
 cond (p1 == 1) (
 κ.t 102 bK [.ptr 2000000000 0, .agg [dIq p1, dIq 0, dBq false, dSq [], dSq [], dIq 0, dBq false, dIq 0, dIq 0, dSq [], dIq 0, .d (.sl aE.ks (List.map aE.enc [])), dSq [], dSq [], dBq false, dIq 0, dIq 0, dIq 0, dBq false, dIq 0, dSq [], dSq [], dIq 0, dBq false, dIq 0, dIq 0, dSq [], dIq 0, .d (.sl aE.ks (List.map aE.enc [])), dBq false, dIq 0, .d (.sl aG.ks (List.map aG.enc [])), .d (.sl [.str] (List.map aZ [])), .d (.sl [.int .i64] (List.map eI []))]] [⟨108, (aC.avs p0)⟩] [] fun r0 =>
 (some (bK (r0.1, r0.2)))) (
 cond (p1 == 2) (
 κ.t 103 aW [.ptr 2000000000 0, dIq 2] [⟨108, (aC.avs p0)⟩] [] fun r1 =>
 κ.t 77 aW [.ptr 2000000000 0] [⟨108, (aC.avs r1.2)⟩] [] fun r2 =>
 (some (bK (((aA.mk p1 0 false zMq [] [] false 0 0 0 zWq (r1.1 == 1) r2.1 [] [] []), r2.2))))) (
 cond (p1 == 14) (
 κ.t 77 aW [.ptr 2000000000 0] [⟨108, (aC.avs p0)⟩] [] fun r3 =>
 (some (bK (((aA.mk p1 0 false zMq [] [] false 0 0 0 zWq false r3.1 [] [] []), r3.2))))) (
 cond (p1 == 12) (
 (some (bK (((aA.mk p1 0 false zMq [] [] false 0 0 0 zWq false 0 [] [] []), p0))))) (
 cond (p1 == 13) (
 (some (bK (((aA.mk p1 0 false zMq [] [] false 0 0 0 zWq false 0 [] [] []), p0))))) (
 arb lab κ p1 0 0 false [] [] 0 false 0 0 [] 0 [] [] false 0 0 0 false 0 [] [] 0 false 0 0 [] 0 false 0 p1 0 false [] [] 0 false 0 0 [] 0 [] [] false 0 0 0 false 0 [] [] 0 false 0 0 [] 0 false 0 (aC.enc p0)))))) := by kernel_rfl
theorem axE (κ : Tau) (x1 b0_0 b0_1 : Int) (b0_2 : Bool) (b0_3 b0_4 : Str) (b0_5 : Int) (b0_6 : Bool) (b0_7 b0_8 : Int) (b0_9 : Str) (b0_10 : Int) (b0_12 b0_13 : Str) (b0_14 : Bool) (b0_15 b0_16 b0_17 : Int) (b0_18 : Bool) (b0_19 : Int) (b0_20 b0_21 : Str) (b0_22 : Int) (b0_23 : Bool) (b0_24 b0_25 : Int) (b0_26 : Str) (b0_27 : Int) (b0_29 : Bool) (b0_30 b1_0 b1_1 : Int) (b1_2 : Bool) (b1_3 b1_4 : Str) (b1_5 : Int) (b1_6 : Bool) (b1_7 b1_8 : Int) (b1_9 : Str) (b1_10 : Int) (b1_12 b1_13 : Str) (b1_14 : Bool) (b1_15 b1_16 b1_17 : Int) (b1_18 : Bool) (b1_19 : Int) (b1_20 b1_21 : Str) (b1_22 : Int) (b1_23 : Bool) (b1_24 b1_25 : Int) (b1_26 : Str) (b1_27 : Int) (b1_29 : Bool) (b1_30 : Int) (q0 : aC) : arb cA κ x1 b0_0 b0_1 b0_2 b0_3 b0_4 b0_5 b0_6 b0_7 b0_8 b0_9 b0_10 b0_12 b0_13 b0_14 b0_15 b0_16 b0_17 b0_18 b0_19 b0_20 b0_21 b0_22 b0_23 b0_24 b0_25 b0_26 b0_27 b0_29 b0_30 b1_0 b1_1 b1_2 b1_3 b1_4 b1_5 b1_6 b1_7 b1_8 b1_9 b1_10 b1_12 b1_13 b1_14 b1_15 b1_16 b1_17 b1_18 b1_19 b1_20 b1_21 b1_22 b1_23 b1_24 b1_25 b1_26 b1_27 b1_29 b1_30 (aC.enc q0) =
 κ.t 77 aW [.ptr 2000000000 0] [⟨108, (aC.avs q0)⟩] [] fun r4 =>
 cond (x1 == 3) (
 κ.t 103 aW [.ptr 2000000000 0, dIq 2] [⟨108, (aC.avs r4.2)⟩] [] fun r5 =>
 κ.t 104 cO [.ptr 2000000000 0] [⟨108, (aC.avs r5.2)⟩] [] fun r6 =>
 (some (bK (((aA.mk b1_0 r4.1 (r5.1 == 1) r6.1 b1_12 b1_13 b1_14 b1_15 b1_16 b1_17 (aV.mk b1_18 b1_19 (aF.mk b1_20 b1_21 b1_22 b1_23 b1_24 b1_25 b1_26 b1_27 [])) b1_29 b1_30 [] [] []), r6.2))))) (
 cond (decide (x1 ≤ 7)) (
 (some (bK (((aA.mk b1_0 r4.1 b1_2 (aF.mk b1_3 b1_4 b1_5 b1_6 b1_7 b1_8 b1_9 b1_10 []) b1_12 b1_13 b1_14 b1_15 b1_16 b1_17 (aV.mk b1_18 b1_19 (aF.mk b1_20 b1_21 b1_22 b1_23 b1_24 b1_25 b1_26 b1_27 [])) b1_29 b1_30 [] [] []), r4.2))))) (
 κ.t 105 dN [.ptr 2000000000 0, .agg [dIq b1_0, dIq r4.1, dBq b1_2, dSq b1_3, dSq b1_4, dIq b1_5, dBq b1_6, dIq b1_7, dIq b1_8, dSq b1_9, dIq b1_10, .nil, dSq b1_12, dSq b1_13, dBq b1_14, dIq b1_15, dIq b1_16, dIq b1_17, dBq b1_18, dIq b1_19, dSq b1_20, dSq b1_21, dIq b1_22, dBq b1_23, dIq b1_24, dIq b1_25, dSq b1_26, dIq b1_27, .nil, dBq b1_29, dIq b1_30, .nil, .nil, .nil]] [⟨108, (aC.avs r4.2)⟩] [] fun r7 =>
 (some (bK (r7.1, r7.2))))) := by kernel_rfl
theorem aeH (x1 b0_0 b0_1 : Int) (b0_2 : Bool) (b0_3 b0_4 : Str) (b0_5 : Int) (b0_6 : Bool) (b0_7 b0_8 : Int) (b0_9 : Str) (b0_10 : Int) (b0_12 b0_13 : Str) (b0_14 : Bool) (b0_15 b0_16 b0_17 : Int) (b0_18 : Bool) (b0_19 : Int) (b0_20 b0_21 : Str) (b0_22 : Int) (b0_23 : Bool) (b0_24 b0_25 : Int) (b0_26 : Str) (b0_27 : Int) (b0_29 : Bool) (b0_30 b1_0 b1_1 : Int) (b1_2 : Bool) (b1_3 b1_4 : Str) (b1_5 : Int) (b1_6 : Bool) (b1_7 b1_8 : Int) (b1_9 : Str) (b1_10 : Int) (b1_12 b1_13 : Str) (b1_14 : Bool) (b1_15 b1_16 b1_17 : Int) (b1_18 : Bool) (b1_19 : Int) (b1_20 b1_21 : Str) (b1_22 : Int) (b1_23 : Bool) (b1_24 b1_25 : Int) (b1_26 : Str) (b1_27 : Int) (b1_29 : Bool) (b1_30 : Int) (q0 : aC) : Le (Option.map bK (rC x1 b0_0 b0_1 b0_2 b0_3 b0_4 b0_5 b0_6 b0_7 b0_8 b0_9 b0_10 b0_12 b0_13 b0_14 b0_15 b0_16 b0_17 b0_18 b0_19 b0_20 b0_21 b0_22 b0_23 b0_24 b0_25 b0_26 b0_27 b0_29 b0_30 b1_0 b1_1 b1_2 b1_3 b1_4 b1_5 b1_6 b1_7 b1_8 b1_9 b1_10 b1_12 b1_13 b1_14 b1_15 b1_16 b1_17 b1_18 b1_19 b1_20 b1_21 b1_22 b1_23 b1_24 b1_25 b1_26 b1_27 b1_29 b1_30 q0)) (arb lab (kF 78) x1 b0_0 b0_1 b0_2 b0_3 b0_4 b0_5 b0_6 b0_7 b0_8 b0_9 b0_10 b0_12 b0_13 b0_14 b0_15 b0_16 b0_17 b0_18 b0_19 b0_20 b0_21 b0_22 b0_23 b0_24 b0_25 b0_26 b0_27 b0_29 b0_30 b1_0 b1_1 b1_2 b1_3 b1_4 b1_5 b1_6 b1_7 b1_8 b1_9 b1_10 b1_12 b1_13 b1_14 b1_15 b1_16 b1_17 b1_18 b1_19 b1_20 b1_21 b1_22 b1_23 b1_24 b1_25 b1_26 b1_27 b1_29 b1_30 (aC.enc q0)) := by
 refine bR (axE _ x1 b0_0 b0_1 b0_2 b0_3 b0_4 b0_5 b0_6 b0_7 b0_8 b0_9 b0_10 b0_12 b0_13 b0_14 b0_15 b0_16 b0_17 b0_18 b0_19 b0_20 b0_21 b0_22 b0_23 b0_24 b0_25 b0_26 b0_27 b0_29 b0_30 b1_0 b1_1 b1_2 b1_3 b1_4 b1_5 b1_6 b1_7 b1_8 b1_9 b1_10 b1_12 b1_13 b1_14 b1_15 b1_16 b1_17 b1_18 b1_19 b1_20 b1_21 b1_22 b1_23 b1_24 b1_25 b1_26 b1_27 b1_29 b1_30 q0) ?_
 unfold rC
 repeat' first | (with_reducible first | refine lC ?_ ?_ | refine lQ eX bU ?_ fun _ _ => ?_ | refine lQ eX bU ?_ fun _ _ => ?_ | refine lQ eX rH ?_ fun _ _ => ?_ | refine lQ eX acZ ?_ fun _ _ => ?_ | exact dJ _ | exact iA _ _ | exact rM _ | exact yF _ _ | refine aN ?_) | rfl | (simp only [EN]; exact yF _ _) | (simp only [EN, bK] <;> rfl)
theorem aiw (p0 : aC) (p1 : Int) : Le (Option.map bK (rT p0 p1)) (aY SE 78 [.ptr 2000000000 0, dIq p1] [⟨108, (aC.avs p0)⟩] []) := by
 refine bD (T78 _ p0 p1) ?_
 unfold rT
 repeat' first | (with_reducible first | refine lC ?_ ?_ | refine lQ eX vA ?_ fun _ _ => ?_ | refine lQ eX bU ?_ fun _ _ => ?_ | refine lQ eX bU ?_ fun _ _ => ?_ | exact wA _ _ | exact iA _ _ | exact dJ _ | exact aeH _ _ _ _ _ _ _ _ _ _ _ _ _ _ _ _ _ _ _ _ _ _ _ _ _ _ _ _ _ _ _ _ _ _ _ _ _ _ _ _ _ _ _ _ _ _ _ _ _ _ _ _ _ _ _ _ _ _ _ _ | refine aN ?_) | rfl | (simp only [EN]; exact wA _ _) | (simp only [EN, bK] <;> rfl)
noncomputable def amh (L : cD) (κ : Tau) (a0 a1 a2 : List D) : Res := rl L κ 52 0 [1, 1, 1, 1, 1, 1, 1, 1, 1, 0, 0] (bQ [(1, .ptr 1000000000 0), (2, .ptr 1000000001 0), (3, .ptr 1000000002 0)] [⟨53, (List.map AV.d a0)⟩, ⟨53, (List.map AV.d a1)⟩, ⟨53, (List.map AV.d a2)⟩] [] [] [])
noncomputable def amH (L : cD) (κ : Tau) (a0 a1 a2 : List D) : Res := rl L κ 52 0 [1, 1, 1, 1, 1, 1, 1, 1, 0, 0] (bQ [(1, .ptr 1000000000 0), (2, .ptr 1000000001 0), (3, .ptr 1000000002 0)] [⟨53, (List.map AV.d a0)⟩, ⟨53, (List.map AV.d a1)⟩, ⟨53, (List.map AV.d a2)⟩] [] [] [])
noncomputable def amz (L : cD) (κ : Tau) (a0 a1 a2 : List D) : Res := rl L κ 52 0 [1, 1, 1, 1, 1, 1, 1, 0, 0] (bQ [(1, .ptr 1000000000 0), (2, .ptr 1000000001 0), (3, .ptr 1000000002 0)] [⟨53, (List.map AV.d a0)⟩, ⟨53, (List.map AV.d a1)⟩, ⟨53, (List.map AV.d a2)⟩] [] [] [])
noncomputable def ai6 (L : cD) (κ : Tau) (a0 a1 a2 : List D) : Res := rl L κ 52 0 [1, 1, 1, 1, 1, 1, 0, 0] (bQ [(1, .ptr 1000000000 0), (2, .ptr 1000000001 0), (3, .ptr 1000000002 0)] [⟨53, (List.map AV.d a0)⟩, ⟨53, (List.map AV.d a1)⟩, ⟨53, (List.map AV.d a2)⟩] [] [] [])
noncomputable def amu (L : cD) (κ : Tau) (a0 a1 a2 : List D) : Res := rl L κ 52 0 [1, 1, 1, 1, 1, 0, 0] (bQ [(1, .ptr 1000000000 0), (2, .ptr 1000000001 0), (3, .ptr 1000000002 0)] [⟨53, (List.map AV.d a0)⟩, ⟨53, (List.map AV.d a1)⟩, ⟨53, (List.map AV.d a2)⟩] [] [] [])
noncomputable def am8 (L : cD) (κ : Tau) (a0 a1 a2 : List D) : Res := rl L κ 52 0 [1, 1, 1, 1, 0, 0] (bQ [(1, .ptr 1000000000 0), (2, .ptr 1000000001 0), (3, .ptr 1000000002 0)] [⟨53, (List.map AV.d a0)⟩, ⟨53, (List.map AV.d a1)⟩, ⟨53, (List.map AV.d a2)⟩] [] [] [])
noncomputable def akl (L : cD) (κ : Tau) (a0 a1 a2 : List D) : Res := rl L κ 52 0 [1, 1, 1, 0, 0] (bQ [(1, .ptr 1000000000 0), (2, .ptr 1000000001 0), (3, .ptr 1000000002 0)] [⟨53, (List.map AV.d a0)⟩, ⟨53, (List.map AV.d a1)⟩, ⟨53, (List.map AV.d a2)⟩] [] [] [])
theorem T52 (κ : Tau) (p0 : aA) : bdy κ 52 [aA.av p0] [] [] =
 cond (p0.Kind == 3) (
 akl lab κ (aA.enc p0) [D.int .i64 0, D.int .i64 0, D.bool false, D.str [], D.str [], D.int .i64 0, D.bool false, D.int .i64 0, D.int .i64 0, D.str [], D.int .i64 0, D.sl aE.ks (List.map aE.enc []), D.str [], D.str [], D.bool false, D.int .i64 0, D.int .i64 0, D.int .i64 0, D.bool false, D.int .i64 0, D.str [], D.str [], D.int .i64 0, D.bool false, D.int .i64 0, D.int .i64 0, D.str [], D.int .i64 0, D.sl aE.ks (List.map aE.enc []), D.bool false, D.int .i64 0, D.sl aG.ks (List.map aG.enc []), D.sl [.str] (List.map aZ []), D.sl [.int .i64] (List.map eI [])] [D.int .i64 p0.Kind, D.int .i64 p0.ID, D.bool false, D.str [], D.str [], D.int .i64 0, D.bool false, D.int .i64 0, D.int .i64 0, D.str [], D.int .i64 0, D.sl aE.ks (List.map aE.enc []), D.str [], D.str [], D.bool false, D.int .i64 0, D.int .i64 0, D.int .i64 0, D.bool false, D.int .i64 0, D.str [], D.str [], D.int .i64 0, D.bool false, D.int .i64 0, D.int .i64 0, D.str [], D.int .i64 0, D.sl aE.ks (List.map aE.enc []), D.bool false, D.int .i64 0, D.sl aG.ks (List.map aG.enc []), D.sl [.str] (List.map aZ []), D.sl [.int .i64] (List.map eI [])]) (
 cond (decide (p0.Kind ≥ 4)) (
 cond (decide (p0.Kind ≤ 11)) (
  akl lab κ (aA.enc p0) [D.int .i64 0, D.int .i64 0, D.bool false, D.str [], D.str [], D.int .i64 0, D.bool false, D.int .i64 0, D.int .i64 0, D.str [], D.int .i64 0, D.sl aE.ks (List.map aE.enc []), D.str [], D.str [], D.bool false, D.int .i64 0, D.int .i64 0, D.int .i64 0, D.bool false, D.int .i64 0, D.str [], D.str [], D.int .i64 0, D.bool false, D.int .i64 0, D.int .i64 0, D.str [], D.int .i64 0, D.sl aE.ks (List.map aE.enc []), D.bool false, D.int .i64 0, D.sl aG.ks (List.map aG.enc []), D.sl [.str] (List.map aZ []), D.sl [.int .i64] (List.map eI [])] [D.int .i64 p0.Kind, D.int .i64 p0.ID, D.bool false, D.str [], D.str [], D.int .i64 0, D.bool false, D.int .i64 0, D.int .i64 0, D.str [], D.int .i64 0, D.sl aE.ks (List.map aE.enc []), D.str [], D.str [], D.bool false, D.int .i64 0, D.int .i64 0, D.int .i64 0, D.bool false, D.int .i64 0, D.str [], D.str [], D.int .i64 0, D.bool false, D.int .i64 0, D.int .i64 0, D.str [], D.int .i64 0, D.sl aE.ks (List.map aE.enc []), D.bool false, D.int .i64 0, D.sl aG.ks (List.map aG.enc []), D.sl [.str] (List.map aZ []), D.sl [.int .i64] (List.map eI [])]) (
 akl lab κ (aA.enc p0) [D.int .i64 0, D.int .i64 0, D.bool false, D.str [], D.str [], D.int .i64 0, D.bool false, D.int .i64 0, D.int .i64 0, D.str [], D.int .i64 0, D.sl aE.ks (List.map aE.enc []), D.str [], D.str [], D.bool false, D.int .i64 0, D.int .i64 0, D.int .i64 0, D.bool false, D.int .i64 0, D.str [], D.str [], D.int .i64 0, D.bool false, D.int .i64 0, D.int .i64 0, D.str [], D.int .i64 0, D.sl aE.ks (List.map aE.enc []), D.bool false, D.int .i64 0, D.sl aG.ks (List.map aG.enc []), D.sl [.str] (List.map aZ []), D.sl [.int .i64] (List.map eI [])] [D.int .i64 p0.Kind, D.int .i64 0, D.bool false, D.str [], D.str [], D.int .i64 0, D.bool false, D.int .i64 0, D.int .i64 0, D.str [], D.int .i64 0, D.sl aE.ks (List.map aE.enc []), D.str [], D.str [], D.bool false, D.int .i64 0, D.int .i64 0, D.int .i64 0, D.bool false, D.int .i64 0, D.str [], D.str [], D.int .i64 0, D.bool false, D.int .i64 0, D.int .i64 0, D.str [], D.int .i64 0, D.sl aE.ks (List.map aE.enc []), D.bool false, D.int .i64 0, D.sl aG.ks (List.map aG.enc []), D.sl [.str] (List.map aZ []), D.sl [.int .i64] (List.map eI [])])) (
 akl lab κ (aA.enc p0) [D.int .i64 0, D.int .i64 0, D.bool false, D.str [], D.str [], D.int .i64 0, D.bool false, D.int .i64 0, D.int .i64 0, D.str [], D.int .i64 0, D.sl aE.ks (List.map aE.enc []), D.str [], D.str [], D.bool false, D.int .i64 0, D.int .i64 0, D.int .i64 0, D.bool false, D.int .i64 0, D.str [], D.str [], D.int .i64 0, D.bool false, D.int .i64 0, D.int .i64 0, D.str [], D.int .i64 0, D.sl aE.ks (List.map aE.enc []), D.bool false, D.int .i64 0, D.sl aG.ks (List.map aG.enc []), D.sl [.str] (List.map aZ []), D.sl [.int .i64] (List.map eI [])] [D.int .i64 p0.Kind, D.int .i64 0, D.bool false, D.str [], D.str [], D.int .i64 0, D.bool false, D.int .i64 0, D.int .i64 0, D.str [], D.int .i64 0, D.sl aE.ks (List.map aE.enc []), D.str [], D.str [], D.bool false, D.int .i64 0, D.int .i64 0, D.int .i64 0, D.bool false, D.int .i64 0, D.str [], D.str [], D.int .i64 0, D.bool false, D.int .i64 0, D.int .i64 0, D.str [], D.int .i64 0, D.sl aE.ks (List.map aE.enc []), D.bool false, D.int .i64 0, D.sl aG.ks (List.map aG.enc []), D.sl [.str] (List.map aZ []), D.sl [.int .i64] (List.map eI [])])) := by kernel_rfl
theorem axN (κ : Tau) (b0 b1 b2 : aA) : amh cA κ (aA.enc b0) (aA.enc b1) (aA.enc b2) =
 cond (b0.Kind == 9) (
 (some (.ret [aA.av (aA.mk b2.Kind b2.ID b2.Dup b2.Message b2.Client b2.User b2.Clean b2.Keep b2.Expiry b2.Window b2.Will b2.Present b2.Code b2.Subs b2.Filters b0.Codes)] [] []))) (
 cond (b0.Kind == 11) (
 (some (.ret [aA.av (aA.mk b2.Kind b2.ID b2.Dup b2.Message b2.Client b2.User b2.Clean b2.Keep b2.Expiry b2.Window b2.Will b2.Present b2.Code b2.Subs b2.Filters b0.Codes)] [] []))) (
 (some (.ret [aA.av b2] [] [])))) := by kernel_rfl
theorem ayz (κ : Tau) (b0 b1 b2 : aA) : amH cA κ (aA.enc b0) (aA.enc b1) (aA.enc b2) =
 cond (b0.Kind == 10) (
 amh lab κ (aA.enc b0) (aA.enc b1) (aA.enc (aA.mk b2.Kind b2.ID b2.Dup b2.Message b2.Client b2.User b2.Clean b2.Keep b2.Expiry b2.Window b2.Will b2.Present b2.Code b2.Subs b0.Filters b2.Codes))) (
 amh lab κ (aA.enc b0) (aA.enc b1) (aA.enc b2)) := by kernel_rfl
theorem ay0 (κ : Tau) (b0 b1 b2 : aA) : amz cA κ (aA.enc b0) (aA.enc b1) (aA.enc b2) =
 cond (b0.Kind == 8) (
 amH lab κ (aA.enc b0) (aA.enc b1) (aA.enc (aA.mk b2.Kind b2.ID b2.Dup b2.Message b2.Client b2.User b2.Clean b2.Keep b2.Expiry b2.Window b2.Will b2.Present b2.Code b0.Subs b2.Filters b2.Codes))) (
 amH lab κ (aA.enc b0) (aA.enc b1) (aA.enc b2)) := by kernel_rfl
theorem ayj (κ : Tau) (b0 b1 b2 : aA) : ai6 cA κ (aA.enc b0) (aA.enc b1) (aA.enc b2) =
 cond (b0.Kind == 3) (
 amz lab κ (aA.enc b0) (aA.enc b1) (aA.enc (aA.mk b2.Kind b2.ID b0.Dup b0.Message b2.Client b2.User b2.Clean b2.Keep b2.Expiry b2.Window b2.Will b2.Present b2.Code b2.Subs b2.Filters b2.Codes))) (
 amz lab κ (aA.enc b0) (aA.enc b1) (aA.enc b2)) := by kernel_rfl
theorem ayo (κ : Tau) (b0 b1 b2 : aA) : amu cA κ (aA.enc b0) (aA.enc b1) (aA.enc b2) =
 cond (b0.Kind == 2) (
 ai6 lab κ (aA.enc b0) (aA.enc b1) (aA.enc (aA.mk b2.Kind b2.ID b2.Dup b2.Message b2.Client b2.User b2.Clean b2.Keep b2.Expiry b2.Window b2.Will b2.Present b0.Code b2.Subs b2.Filters b2.Codes))) (
 cond (b0.Kind == 14) (
 ai6 lab κ (aA.enc b0) (aA.enc b1) (aA.enc (aA.mk b2.Kind b2.ID b2.Dup b2.Message b2.Client b2.User b2.Clean b2.Keep b2.Expiry b2.Window b2.Will b2.Present b0.Code b2.Subs b2.Filters b2.Codes))) (
 ai6 lab κ (aA.enc b0) (aA.enc b1) (aA.enc b2))) := by kernel_rfl
theorem axF (κ : Tau) (b0 b1 b2 : aA) : am8 cA κ (aA.enc b0) (aA.enc b1) (aA.enc b2) =
 cond (b0.Kind == 2) (
 amu lab κ (aA.enc b0) (aA.enc b1) (aA.enc (aA.mk b2.Kind b2.ID b2.Dup b2.Message b2.Client b2.User b2.Clean b2.Keep b2.Expiry b2.Window b2.Will b0.Present b2.Code b2.Subs b2.Filters b2.Codes))) (
 amu lab κ (aA.enc b0) (aA.enc b1) (aA.enc b2)) := by kernel_rfl
theorem azU (κ : Tau) (b0 b1 b2 : aA) : akl cA κ (aA.enc b0) (aA.enc b1) (aA.enc b2) =
 cond (b0.Kind == 1) (
 am8 lab κ (aA.enc b0) (aA.enc b1) (aA.enc (aA.mk b2.Kind b2.ID b2.Dup b2.Message b0.Client b0.User b0.Clean b0.Keep b0.Expiry b0.Window b0.Will b2.Present b2.Code b2.Subs b2.Filters b2.Codes))) (
 am8 lab κ (aA.enc b0) (aA.enc b1) (aA.enc b2)) := by kernel_rfl
theorem aeP (b0 b1 b2 : aA) : Le (Option.map cH (qM b0 b1 b2)) (amh lab (kF 52) (aA.enc b0) (aA.enc b1) (aA.enc b2)) := by
 refine bR (axN _ b0 b1 b2) ?_
 unfold qM
 refine lC ?_ ?_
 ·exact aN rfl
 ·refine lC ?_ ?_
  ·exact aN rfl
  ·exact aN rfl
theorem ae1 (b0 b1 b2 : aA) : Le (Option.map cH (rA b0 b1 b2)) (amH lab (kF 52) (aA.enc b0) (aA.enc b1) (aA.enc b2)) := by
 refine bR (ayz _ b0 b1 b2) ?_
 unfold rA
 repeat' first | (with_reducible first | refine lC ?_ ?_ | exact aeP _ _ _)
theorem aeN (b0 b1 b2 : aA) : Le (Option.map cH (qL b0 b1 b2)) (amz lab (kF 52) (aA.enc b0) (aA.enc b1) (aA.enc b2)) := by
 refine bR (ay0 _ b0 b1 b2) ?_
 unfold qL
 repeat' first | (with_reducible first | refine lC ?_ ?_ | exact ae1 _ _ _)
theorem aeY (b0 b1 b2 : aA) : Le (Option.map cH (nK b0 b1 b2)) (ai6 lab (kF 52) (aA.enc b0) (aA.enc b1) (aA.enc b2)) := by
 refine bR (ayj _ b0 b1 b2) ?_
 unfold nK
 repeat' first | (with_reducible first | refine lC ?_ ?_ | exact aeN _ _ _)
theorem aeS (b0 b1 b2 : aA) : Le (Option.map cH (qY b0 b1 b2)) (amu lab (kF 52) (aA.enc b0) (aA.enc b1) (aA.enc b2)) := by
 refine bR (ayo _ b0 b1 b2) ?_
 unfold qY
 repeat' first | (with_reducible first | refine lC ?_ ?_ | exact aeY _ _ _)
theorem aeO (b0 b1 b2 : aA) : Le (Option.map cH (qV b0 b1 b2)) (am8 lab (kF 52) (aA.enc b0) (aA.enc b1) (aA.enc b2)) := by
 refine bR (axF _ b0 b1 b2) ?_
 unfold qV
 repeat' first | (with_reducible first | refine lC ?_ ?_ | exact aeS _ _ _)
theorem aae (b0 b1 b2 : aA) : Le (Option.map cH (lK b0 b1 b2)) (akl lab (kF 52) (aA.enc b0) (aA.enc b1) (aA.enc b2)) := by
 refine bR (azU _ b0 b1 b2) ?_
 unfold lK
 repeat' first | (with_reducible first | refine lC ?_ ?_ | exact aeO _ _ _)
theorem aiy (p0 : aA) : Le (Option.map cH (vI p0)) (aY SE 52 [aA.av p0] [] []) := by
 refine bD (T52 _ p0) ?_
 unfold vI
 repeat' first | (with_reducible first | refine lC ?_ ?_ | exact aae _ _ _) | (simp only [EN]; exact aae _ _ _)
noncomputable def api (L : cD) (κ : Tau) (a0 a1 : List (List D)) (a2 : Int) : Res := rl L κ 79 0 [1, 1, 0, 1, 0] (bQ [(0, .d (.sl aE.ks a0)), (1, .d (.sl aE.ks a1)), (5, dIq a2)] [] [] [] [])
theorem T79 (κ : Tau) (p0 p1 : List aE) : bdy κ 79 [.d (.sl aE.ks (List.map aE.enc p0)), .d (.sl aE.ks (List.map aE.enc p1))] [] [] =
 cond ((lM aE.enc p0 : Int) != (lM aE.enc p1 : Int)) (
 (rB false)) (
 api lab κ (List.map aE.enc p0) (List.map aE.enc p1) 0) := by kernel_rfl
theorem aAi (κ : Tau) (x0 x1 : List aE) (x5 : Int) : api cA κ (List.map aE.enc x0) (List.map aE.enc x1) x5 =
 cond (decide (x5 < (lM aE.enc x0 : Int))) (
 cond (iB x5 (lM aE.enc x0 : Int)) (
  cond (iB x5 (lM aE.enc x1 : Int)) (
  cond (!(((bM (cE aE.enc x0 x5 0)) == (bM (cE aE.enc x1 x5 0))) && (((bM (cE aE.enc x0 x5 1)) == (bM (cE aE.enc x1 x5 1))) && true))) (
   (rB false)) (
  api lab κ (List.map aE.enc x0) (List.map aE.enc x1) (w6 (x5 + 1)))) none) none) (
 (rB true)) := by kernel_rfl
theorem acs : ∀ (fu : Nat) (x0 x1 : List aE) (x5 : Int), Le (Option.map packet_is_out (gL fu x0 x1 x5)) (api lab (kF 79) (List.map aE.enc x0) (List.map aE.enc x1) x5) := by
 intro fu
 induction fu with
 | zero => intros; exact le_none
 | succ fu ih =>
  intro x0 x1 x5
  refine bR (aAi _ x0 x1 x5) ?_
  unfold gL
  refine lDe ?_ ?_
  ·refine lGe ?_
   refine lGe ?_
   refine lDe ?_ ?_
   ·exact aN rfl
   ·exact ih x0 x1 (w6 (x5 + 1))
  ·exact aN rfl
theorem adH (p0 p1 : List aE) : Le (Option.map packet_is_out (mJ p0 p1)) (aY SE 79 [.d (.sl aE.ks (List.map aE.enc p0)), .d (.sl aE.ks (List.map aE.enc p1))] [] []) := by
 refine bD (T79 _ p0 p1) ?_
 unfold mJ
 refine lDe ?_ ?_
 ·exact aN rfl
 ·exact acs fuel p0 p1 0
theorem T47 (κ : Tau) (p0 p1 : aF) : bdy κ 47 [aF.av p0, aF.av p1] [] [] =
 cond (p0.Topic == p1.Topic) (
 cond (p0.Payload == p1.Payload) (
  cond (p0.Level == p1.Level) (
  cond (p0.Retain == p1.Retain) (
   cond (p0.Priority == p1.Priority) (
   cond (p0.Expires == p1.Expires) (
    cond (p0.From == p1.From) (
    cond (p0.Seq == p1.Seq) (
     κ.t 79 packet_is_out [.d (.sl aE.ks (List.map aE.enc p0.Props)), .d (.sl aE.ks (List.map aE.enc p1.Props))] [] [] fun r0 =>
     (rB r0)) (
    (rB false))) (
    (rB false))) (
   (rB false))) (
   (rB false))) (
  (rB false))) (
  (rB false))) (
 (rB false))) (
 (rB false)) := by kernel_rfl
theorem wR (p0 p1 : aF) : Le (Option.map packet_is_out (lY p0 p1)) (aY SE 47 [aF.av p0, aF.av p1] [] []) := by
 refine bD (T47 _ p0 p1) ?_
 unfold lY
 repeat' first | (with_reducible first | refine lC ?_ ?_ | refine lQ eX packet_is_inj ?_ fun _ _ => ?_ | exact adH _ _ | refine aN ?_) | rfl | (simp only [EN, packet_is_out] <;> rfl)
theorem T48 (κ : Tau) (p0 p1 : aV) : bdy κ 48 [aV.av p0, aV.av p1] [] [] =
 cond (p0.Set == p1.Set) (
 cond (p0.Delay == p1.Delay) (
  κ.t 47 packet_is_out [aF.av p0.Message, aF.av p1.Message] [] [] fun r0 =>
  (rB r0)) (
 (rB false))) (
 (rB false)) := by kernel_rfl
theorem aeW (p0 p1 : aV) : Le (Option.map packet_is_out (qQ p0 p1)) (aY SE 48 [aV.av p0, aV.av p1] [] []) := by
 refine bD (T48 _ p0 p1) ?_
 unfold qQ
 refine lC ?_ ?_
 ·refine lC ?_ ?_
  ·refine lQ eX packet_is_inj (wR _ _) fun r0 _ => ?_
   exact aN rfl
  ·exact aN rfl
 ·exact aN rfl
noncomputable def apx (L : cD) (κ : Tau) (a0 a1 : List (List D)) (a2 : Int) : Res := rl L κ 49 0 [1, 1, 0, 1, 0] (bQ [(0, .d (.sl aG.ks a0)), (1, .d (.sl aG.ks a1)), (5, dIq a2)] [] [] [] [])
theorem T49 (κ : Tau) (p0 p1 : List aG) : bdy κ 49 [.d (.sl aG.ks (List.map aG.enc p0)), .d (.sl aG.ks (List.map aG.enc p1))] [] [] =
 cond ((lM aG.enc p0 : Int) != (lM aG.enc p1 : Int)) (
 (rB false)) (
 apx lab κ (List.map aG.enc p0) (List.map aG.enc p1) 0) := by kernel_rfl
theorem azw (κ : Tau) (x0 x1 : List aG) (x5 : Int) : apx cA κ (List.map aG.enc x0) (List.map aG.enc x1) x5 =
 cond (decide (x5 < (lM aG.enc x0 : Int))) (
 cond (iB x5 (lM aG.enc x0 : Int)) (
  cond (iB x5 (lM aG.enc x1 : Int)) (
  cond (!(((bM (cE aG.enc x0 x5 0)) == (bM (cE aG.enc x1 x5 0))) && (((aX (cE aG.enc x0 x5 1)) == (aX (cE aG.enc x1 x5 1))) && (((bX (cE aG.enc x0 x5 2)) == (bX (cE aG.enc x1 x5 2))) && true)))) (
   (rB false)) (
  apx lab κ (List.map aG.enc x0) (List.map aG.enc x1) (w6 (x5 + 1)))) none) none) (
 (rB true)) := by kernel_rfl
theorem acN : ∀ (fu : Nat) (x0 x1 : List aG) (x5 : Int), Le (Option.map packet_is_out (hY fu x0 x1 x5)) (apx lab (kF 49) (List.map aG.enc x0) (List.map aG.enc x1) x5) := by
 intro fu
 induction fu with
 | zero => intros; exact le_none
 | succ fu ih =>
  intro x0 x1 x5
  refine bR (azw _ x0 x1 x5) ?_
  unfold hY
  refine lDe ?_ ?_
  ·refine lGe ?_
   refine lGe ?_
   refine lDe ?_ ?_
   ·exact aN rfl
   ·exact ih x0 x1 (w6 (x5 + 1))
  ·exact aN rfl
theorem aeR (p0 p1 : List aG) : Le (Option.map packet_is_out (nA p0 p1)) (aY SE 49 [.d (.sl aG.ks (List.map aG.enc p0)), .d (.sl aG.ks (List.map aG.enc p1))] [] []) := by
 refine bD (T49 _ p0 p1) ?_
 unfold nA
 refine lDe ?_ ?_
 ·exact aN rfl
 ·exact acN fuel p0 p1 0
noncomputable def ao6 (L : cD) (κ : Tau) (a0 a1 : List (List D)) (a2 : Int) : Res := rl L κ 50 0 [1, 1, 0, 1, 0] (bQ [(0, .d (.sl [.str] a0)), (1, .d (.sl [.str] a1)), (5, dIq a2)] [] [] [] [])
theorem T50 (κ : Tau) (p0 p1 : List Str) : bdy κ 50 [.d (.sl [.str] (List.map aZ p0)), .d (.sl [.str] (List.map aZ p1))] [] [] =
 cond ((lM aZ p0 : Int) != (lM aZ p1 : Int)) (
 (rB false)) (
 ao6 lab κ (List.map aZ p0) (List.map aZ p1) 0) := by kernel_rfl
theorem az2 (κ : Tau) (x0 x1 : List Str) (x5 : Int) : ao6 cA κ (List.map aZ x0) (List.map aZ x1) x5 =
 cond (decide (x5 < (lM aZ x0 : Int))) (
 cond (iB x5 (lM aZ x0 : Int)) (
  cond (iB x5 (lM aZ x1 : Int)) (
  cond (!((bM (cE aZ x0 x5 0)) == (bM (cE aZ x1 x5 0)))) (
   (rB false)) (
  ao6 lab κ (List.map aZ x0) (List.map aZ x1) (w6 (x5 + 1)))) none) none) (
 (rB true)) := by kernel_rfl
theorem afN : ∀ (fu : Nat) (x0 x1 : List Str) (x5 : Int), Le (Option.map packet_is_out (jV fu x0 x1 x5)) (ao6 lab (kF 50) (List.map aZ x0) (List.map aZ x1) x5) := by
 intro fu
 induction fu with
 | zero => intros; exact le_none
 | succ fu ih =>
  intro x0 x1 x5
  refine bR (az2 _ x0 x1 x5) ?_
  unfold jV
  repeat' first | (with_reducible first | refine lG ?_ ?_ | refine lD ?_ ?_ ?_ | exact ih _ _ _ | refine aN ?_) | rfl | (simp only [EN]; done) | (simp only [EN, packet_is_out] <;> rfl)
theorem ais (p0 p1 : List Str) : Le (Option.map packet_is_out (rS p0 p1)) (aY SE 50 [.d (.sl [.str] (List.map aZ p0)), .d (.sl [.str] (List.map aZ p1))] [] []) := by
 refine bD (T50 _ p0 p1) ?_
 unfold rS
 refine lDe ?_ ?_
 ·exact aN rfl
 ·exact afN fuel p0 p1 0
noncomputable def apq (L : cD) (κ : Tau) (a0 a1 : List (List D)) (a2 : Int) : Res := rl L κ 51 0 [1, 1, 0, 1, 0] (bQ [(0, .d (.sl [.int .i64] a0)), (1, .d (.sl [.int .i64] a1)), (5, dIq a2)] [] [] [] [])
theorem T51 (κ : Tau) (p0 p1 : List Int) : bdy κ 51 [.d (.sl [.int .i64] (List.map eI p0)), .d (.sl [.int .i64] (List.map eI p1))] [] [] =
 cond ((lM eI p0 : Int) != (lM eI p1 : Int)) (
 (rB false)) (
 apq lab κ (List.map eI p0) (List.map eI p1) 0) := by kernel_rfl
theorem aAs (κ : Tau) (x0 x1 : List Int) (x5 : Int) : apq cA κ (List.map eI x0) (List.map eI x1) x5 =
 cond (decide (x5 < (lM eI x0 : Int))) (
 cond (iB x5 (lM eI x0 : Int)) (
  cond (iB x5 (lM eI x1 : Int)) (
  cond ((aX (cE eI x0 x5 0)) != (aX (cE eI x1 x5 0))) (
   (rB false)) (
  apq lab κ (List.map eI x0) (List.map eI x1) (w6 (x5 + 1)))) none) none) (
 (rB true)) := by kernel_rfl
theorem abA : ∀ (fu : Nat) (x0 x1 : List Int) (x5 : Int), Le (Option.map packet_is_out (fS fu x0 x1 x5)) (apq lab (kF 51) (List.map eI x0) (List.map eI x1) x5) := by
 intro fu
 induction fu with
 | zero => intros; exact le_none
 | succ fu ih =>
  intro x0 x1 x5
  refine bR (aAs _ x0 x1 x5) ?_
  unfold fS
  refine lDe ?_ ?_
  ·refine lGe ?_
   refine lGe ?_
   refine lDe ?_ ?_
   ·exact aN rfl
   ·exact ih x0 x1 (w6 (x5 + 1))
  ·exact aN rfl
theorem acV (p0 p1 : List Int) : Le (Option.map packet_is_out (kV p0 p1)) (aY SE 51 [.d (.sl [.int .i64] (List.map eI p0)), .d (.sl [.int .i64] (List.map eI p1))] [] []) := by
 refine bD (T51 _ p0 p1) ?_
 unfold kV
 refine lDe ?_ ?_
 ·exact aN rfl
 ·exact abA fuel p0 p1 0
end Te
end PX
