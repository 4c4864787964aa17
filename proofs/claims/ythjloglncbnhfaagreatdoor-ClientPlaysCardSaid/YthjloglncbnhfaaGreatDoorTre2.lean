import Derived.Test.YthjloglncbnhfaaGreatDoorTre1
set_option linter.unusedVariables false
set_option linter.unusedSimpArgs false
set_option maxRecDepth 100000
noncomputable section
namespace PX
open Go
open Md
namespace Te
noncomputable def ann (L : bP) (κ : Tau) (a0 : Int) (a1 a2 : List D) : Res := L SE (K κ) κ.Λ κ.J 152 0 [1, 1, 1, 1, 0] (bE [(1, .ptr 1000000000 0), (3, .ptr 1000000001 0), (5, dIq a0)] [⟨29, (List.map AV.d a1)⟩, ⟨29, (List.map AV.d a2)⟩] [] [] [])
noncomputable def anj (L : bP) (κ : Tau) (a0 a1 : Int) (a2 a3 : List D) : Res := L SE (K κ) κ.Λ κ.J 152 0 [1, 1, 1, 0, 1, 0] (bE [(1, .ptr 1000000000 0), (3, .ptr 1000000001 0), (5, dIq a0), (6, dIq a1)] [⟨29, (List.map AV.d a2)⟩, ⟨29, (List.map AV.d a3)⟩] [] [] [])
theorem aeQ (x5 : Int) (b0 b1 : aK) : Le (Option.map dL (kN x5 b0 b1)) (ann lab (kF 152) x5 (aK.enc b0) (aK.enc b1)) := by
 refine bF (t := fun κ =>
  κ.t 169 aR [.d (.sl [.int .i64] (List.map eI b0.Used)), dIq x5] [] [] fun r3 =>
  (some (dL (x5, (aK.mk r3 x5), 0)))) (fun _ => by kernel_rfl) ?_
 unfold kN
 refine lQ eX bU (agV _ _) fun r3 _ => ?_
 exact aI rfl
theorem aeO : ∀ (fu : Nat) (x5 x6 : Int) (b0 b1 : aK), Le (Option.map dL (iT fu x5 x6 b0 b1)) (anj lab (kF 152) x5 x6 (aK.enc b0) (aK.enc b1)) := by
 intro fu
 induction fu with
 | zero => intros; exact le_none
 | succ fu ih =>
  intro x5 x6 b0 b1
  refine bF (t := fun κ =>
  cond (decide (x6 < 32)) (
  κ.t 154 aD [aK.av b0, dIq x5] [] [] fun r1 =>
  cond r1 (
   κ.t 168 aH [dIq x5] [] [] fun r2 =>
   anj lab κ r2 (w6 (x6 + 1)) (aK.enc b0) (aK.enc b1)) (
  ann lab κ x5 (aK.enc b0) (aK.enc b1))) (
  ann lab κ x5 (aK.enc b0) (aK.enc b1))) (fun _ => by kernel_rfl) ?_
  unfold iT
  repeat' first | (with_reducible first | refine lC ?_ ?_ | refine lQ eX aP ?_ fun _ _ => ?_ | refine lQ eX aX ?_ fun _ _ => ?_ | exact abJ _ _ | exact aan _ | exact ih _ _ _ _ | exact aeQ _ _ _)
theorem agR (p0 : aK) : Le (Option.map dL (qL p0)) (aW SE 152 [aK.av p0] [] []) := by
 refine aZ (t := fun κ =>
  cond (decide ((lM eI p0.Used : Int) ≥ 32)) (
  (some (dL (0, (aK.mk [] 0), 6)))) (
  κ.t 168 aH [dIq p0.Last] [] [] fun r0 =>
  anj lab κ r0 0 (aK.enc p0) [D.sl [.int .i64] (List.map eI []), D.int .i64 0])) (fun _ => by kernel_rfl) ?_
 unfold qL
 refine lDe ?_ ?_
 ·exact aI rfl
 ·refine lQ eX aX (aan _) fun r0 _ => ?_
  (try simp only [EN]); exact aeO fuel r0 0 p0 (aK.mk [] 0)
theorem sV (p0 : aC) (p1 : Bool) : Le (Option.map gF (nT p0 p1)) (aW SE 153 [aC.av p0, dBq p1] [] []) := by
 refine aZ (t := fun κ =>
  (some (gF ((aA.mk 3 p0.ID p1 p0.Message [] [] false 0 0 0 zWq false 0 [] [] []))))) (fun _ => by kernel_rfl) ?_
 unfold nT
 exact aI rfl
theorem aal (p0 : aG) (p1 : aB) : Le (Option.map eT (pQ p0 p1)) (aW SE 123 [aG.av p0, aB.av p1] [] []) := by
 refine aZ (t := fun κ =>
  cond (p1.Level == 0) (
  (some (eT (((aG.mk 0 [] (aK.mk [] 0)), zPq, 14))))) (
  κ.t 122 aH [aG.av p0] [] [] fun r0 =>
  cond (r0 == 0) (
  (some (eT (((aG.mk 0 [] (aK.mk [] 0)), zPq, 6))))) (
  κ.t 18 aH [aB.av p1] [] [] fun r1 =>
  cond (r1 != 0) (
  (some (eT (((aG.mk 0 [] (aK.mk [] 0)), zPq, r1))))) (
  κ.t 152 dL [aK.av p0.Pool] [] [] fun r2 =>
  cond (decide ((lM aC.enc [] + lM aC.enc p0.Items) * 128 ≤ 140737488355328)) (
  cond (decide ((List.length ((List.map aC.enc []) ++ (List.map aC.enc p0.Items)) + lM aC.enc [(aC.mk r2.1 1 p1)]) * 128 ≤ 140737488355328)) (
   κ.t 153 gF [aC.av (aC.mk r2.1 1 p1), dBq false] [] [] fun r3 =>
   (some (.ret [.agg [dIq p0.Limit, .row 0, .row 1, dIq r2.2.1.Last], .agg [dIq r3.Kind, dIq r3.ID, dBq r3.Dup, dSq r3.Message.Topic, dSq r3.Message.Payload, dIq r3.Message.Level, dBq r3.Message.Retain, dIq r3.Message.Priority, dIq r3.Message.Expires, dSq r3.Message.From, dIq r3.Message.Seq, .d (.sl aE.ks (List.map aE.enc r3.Message.Props)), dSq r3.Client, dSq r3.User, dBq r3.Clean, dIq r3.Keep, dIq r3.Expiry, dIq r3.Window, dBq r3.Will.Set, dIq r3.Will.Delay, dSq r3.Will.Message.Topic, dSq r3.Will.Message.Payload, dIq r3.Will.Message.Level, dBq r3.Will.Message.Retain, dIq r3.Will.Message.Priority, dIq r3.Will.Message.Expires, dSq r3.Will.Message.From, dIq r3.Will.Message.Seq, .row 2, dBq r3.Present, dIq r3.Code, .row 3, .row 4, .row 5], dIq 0] [] [⟨aC.ks, 139, 128, (((List.map aC.enc []) ++ (List.map aC.enc p0.Items)) ++ (List.map aC.enc [(aC.mk r2.1 1 p1)]))⟩, ⟨[.int .i64], 3, 8, (List.map eI r2.2.1.Used)⟩, ⟨aE.ks, 92, 32, (List.map aE.enc r3.Will.Message.Props)⟩, ⟨aN.ks, 75, 32, (List.map aN.enc r3.Subs)⟩, ⟨[.str], 9, 16, (List.map bD r3.Filters)⟩, ⟨[.int .i64], 3, 8, (List.map eI r3.Codes)⟩]))) none) none)))) (fun _ => by kernel_rfl) ?_
 unfold pQ
 repeat' first | (with_reducible first | refine lC ?_ ?_ | refine lQ eX aX ?_ fun _ _ => ?_ | refine lQ eX aX ?_ fun _ _ => ?_ | refine lQ eX afC ?_ fun _ _ => ?_ | refine lQ eX xJ ?_ fun _ _ => ?_ | refine lG ?_ ?_ | exact aaU _ | exact j1 _ | exact agR _ | exact sV _ _ | refine aI ?_) | rfl | (simp only [EN]; done) | (simp only [EN, eT] <;> rfl)
noncomputable def atb (L : bP) (κ : Tau) (a0 : List (List D)) (a1 : Int) (a2 : Bool) (a3 a4 : List D) (a5 : List (List D)) : Res := L SE (K κ) κ.Λ κ.J 86 0 [1, 1, 0, 0, 0, 1, 0, 0] (bE [(1, .ptr 1000000000 0), (2, .ptr 1000000001 0), (4, .row 3004), (13, .ptr 1000000000 8), (14, .d (.sl aB.ks a0)), (15, dIq a1), (16, dBq a2)] [⟨36, (List.map AV.d a3)⟩, ⟨36, (List.map AV.d a4)⟩] [] [] [(3004, ⟨aA.ks, 67, 416, a5⟩)])
noncomputable def aks (L : bP) (κ : Tau) (a0 a1 : List D) (a2 : List (List D)) : Res := L SE (K κ) κ.Λ κ.J 86 0 [1, 1, 0, 0] (bE [(1, .ptr 1000000000 0), (2, .ptr 1000000001 0), (4, .row 3004)] [⟨36, (List.map AV.d a0)⟩, ⟨36, (List.map AV.d a1)⟩] [] [] [(3004, ⟨aA.ks, 67, 416, a2⟩)])
theorem xN (k2 : brokerref51_State → brokerref51_State → (List aA) → Option (brokerref51_State × (List aA))) (hk2 : ∀ (b0 b1 : brokerref51_State) (w3004 : List aA), Le (Option.map bL (k2 b0 b1 w3004)) (aks lab (kF 86) (brokerref51_State.enc b0) (brokerref51_State.enc b1) (List.map aA.enc w3004))) (x14 : List aB) (x15 : Int) (x16 : Bool) (b0 b1 : brokerref51_State) (w3004 : List aA) : Le (Option.map bL (rJ k2 x14 x15 x16 b0 b1 w3004)) (atb lab (kF 86) (List.map aB.enc x14) x15 x16 (brokerref51_State.enc b0) (brokerref51_State.enc b1) (List.map aA.enc w3004)) := by
 refine bF (t := fun κ =>
  cond (decide (0 ≤ 0) && decide (0 < (lM aB.enc b0.Waiting : Int))) (
  cond ((aL (cE aB.enc b0.Waiting 0 2)) == 0) (
   cond (decide ((lM aA.enc w3004 + List.length [[D.int .i64 3, D.int .i64 0, D.bool false, D.str (aU (cE aB.enc b0.Waiting 0 0)), D.str (aU (cE aB.enc b0.Waiting 0 1)), D.int .i64 (aL (cE aB.enc b0.Waiting 0 2)), D.bool (bA (cE aB.enc b0.Waiting 0 3)), D.int .i64 (aL (cE aB.enc b0.Waiting 0 4)), D.int .i64 (aL (cE aB.enc b0.Waiting 0 5)), D.str (aU (cE aB.enc b0.Waiting 0 6)), D.int .i64 (aL (cE aB.enc b0.Waiting 0 7)), D.sl aE.ks (dSl (cE aB.enc b0.Waiting 0 8)), D.str [], D.str [], D.bool false, D.int .i64 0, D.int .i64 0, D.int .i64 0, D.bool false, D.int .i64 0, D.str [], D.str [], D.int .i64 0, D.bool false, D.int .i64 0, D.int .i64 0, D.str [], D.int .i64 0, D.sl aE.ks (List.map aE.enc []), D.bool false, D.int .i64 0, D.sl aN.ks (List.map aN.enc []), D.sl [.str] (List.map bD []), D.sl [.int .i64] (List.map eI [])]]) * 416 ≤ 140737488355328)) (
   cond (decide (0 ≤ 1) && decide (1 ≤ ((lM aB.enc b0.Waiting) : Int))) (
    aks lab κ [D.str b0.Name, D.int .i64 b0.Limit, D.int .i64 b0.Phase, D.int .i64 b0.Out.Limit, D.sl aC.ks (List.map aC.enc b0.Out.Items), D.sl [.int .i64] (List.map eI b0.Out.Pool.Used), D.int .i64 b0.Out.Pool.Last, D.sl [.int .i64] (List.map eI b0.In.IDs), D.sl aB.ks (bQ (List.map aB.enc b0.Waiting) (some 1) none), D.int .i64 b0.Seq, D.int .i64 b0.Last] (brokerref51_State.enc b1) (((List.map aA.enc w3004) ++ [[D.int .i64 3, D.int .i64 0, D.bool false, D.str (aU (cE aB.enc b0.Waiting 0 0)), D.str (aU (cE aB.enc b0.Waiting 0 1)), D.int .i64 (aL (cE aB.enc b0.Waiting 0 2)), D.bool (bA (cE aB.enc b0.Waiting 0 3)), D.int .i64 (aL (cE aB.enc b0.Waiting 0 4)), D.int .i64 (aL (cE aB.enc b0.Waiting 0 5)), D.str (aU (cE aB.enc b0.Waiting 0 6)), D.int .i64 (aL (cE aB.enc b0.Waiting 0 7)), D.sl aE.ks (dSl (cE aB.enc b0.Waiting 0 8)), D.str [], D.str [], D.bool false, D.int .i64 0, D.int .i64 0, D.int .i64 0, D.bool false, D.int .i64 0, D.str [], D.str [], D.int .i64 0, D.bool false, D.int .i64 0, D.int .i64 0, D.str [], D.int .i64 0, D.sl aE.ks (List.map aE.enc []), D.bool false, D.int .i64 0, D.sl aN.ks (List.map aN.enc []), D.sl [.str] (List.map bD []), D.sl [.int .i64] (List.map eI [])]]))) none) none) (
  κ.t 122 aH [aG.av b0.Out] [] [] fun r0 =>
  cond (r0 == 0) (
   (some (bL (b0, w3004)))) (
  κ.t 123 eT [aG.av b0.Out, .agg [dSq (aU (cE aB.enc b0.Waiting 0 0)), dSq (aU (cE aB.enc b0.Waiting 0 1)), dIq (aL (cE aB.enc b0.Waiting 0 2)), dBq (bA (cE aB.enc b0.Waiting 0 3)), dIq (aL (cE aB.enc b0.Waiting 0 4)), dIq (aL (cE aB.enc b0.Waiting 0 5)), dSq (aU (cE aB.enc b0.Waiting 0 6)), dIq (aL (cE aB.enc b0.Waiting 0 7)), .d (.sl aE.ks (dSl (cE aB.enc b0.Waiting 0 8)))]] [] [] fun r1 =>
  cond (r1.2.2 != 0) (
   (some (bL (b0, w3004)))) (
  cond (decide ((lM aA.enc w3004 + lM aA.enc [r1.2.1]) * 416 ≤ 140737488355328)) (
   cond (decide (0 ≤ 1) && decide (1 ≤ ((lM aB.enc b0.Waiting) : Int))) (
   aks lab κ [D.str b0.Name, D.int .i64 b0.Limit, D.int .i64 b0.Phase, D.int .i64 r1.1.Limit, D.sl aC.ks (List.map aC.enc r1.1.Items), D.sl [.int .i64] (List.map eI r1.1.Pool.Used), D.int .i64 r1.1.Pool.Last, D.sl [.int .i64] (List.map eI b0.In.IDs), D.sl aB.ks (bQ (List.map aB.enc b0.Waiting) (some 1) none), D.int .i64 b0.Seq, D.int .i64 b0.Last] (brokerref51_State.enc b1) (((List.map aA.enc w3004) ++ (List.map aA.enc [r1.2.1])))) none) none)))) none) (fun _ => by kernel_rfl) ?_
 unfold rJ
 repeat' first | (with_reducible first | refine lC ?_ ?_ | refine lQ eX aX ?_ fun _ _ => ?_ | refine lQ eX afG ?_ fun _ _ => ?_ | refine lG ?_ ?_ | refine lD ?_ ?_ ?_ | exact hk2 _ _ _ | exact aaU _ | exact aal _ _ | refine aI ?_) | rfl | (simp only [EN]; done) | (simp only [EN]; exact hk2 _ _ _) | (simp only [EN]; exact aal _ _) | (simp only [EN, bL] <;> rfl)
theorem aeY : ∀ (fu : Nat) (b0 b1 : brokerref51_State) (w3004 : List aA), Le (Option.map bL (jC fu b0 b1 w3004)) (aks lab (kF 86) (brokerref51_State.enc b0) (brokerref51_State.enc b1) (List.map aA.enc w3004)) := by
 intro fu
 induction fu with
 | zero => intros; exact le_none
 | succ fu ih =>
  intro b0 b1 w3004
  refine bF (t := fun κ =>
  cond (b0.Phase == 2) (
  cond (decide ((lM aB.enc b0.Waiting : Int) > 0)) (
   atb lab κ (List.map aB.enc b0.Waiting) (lM aB.enc b0.Waiting : Int) (decide ((lM aB.enc b0.Waiting : Int) > 0)) (brokerref51_State.enc b0) (brokerref51_State.enc b1) (List.map aA.enc w3004)) (
  (some (bL (b0, w3004))))) (
  (some (bL (b0, w3004))))) (fun _ => by kernel_rfl) ?_
  unfold jC
  repeat' first | (with_reducible first | refine lC ?_ ?_ | refine lD ?_ ?_ ?_ | exact xN _ (ih) _ _ _ _ _ _ | refine aI ?_) | rfl | (simp only [EN]; done) | (simp only [EN]; exact xN _ (ih) _ _ _ _ _ _) | (simp only [EN, bL] <;> rfl)
theorem rH (p0 : brokerref51_State) : Le (Option.map bL (eY p0)) (aW SE 86 [brokerref51_State.av p0] [] []) := by
 refine aZ (t := fun κ =>
  aks lab κ (brokerref51_State.enc p0) [D.str [], D.int .i64 0, D.int .i64 0, D.int .i64 0, D.sl aC.ks (List.map aC.enc []), D.sl [.int .i64] (List.map eI []), D.int .i64 0, D.sl [.int .i64] (List.map eI []), D.sl aB.ks (List.map aB.enc []), D.int .i64 0, D.int .i64 0] (List.map aA.enc [])) (fun _ => by kernel_rfl) ?_
 unfold eY
 (try simp only [EN]); exact aeY fuel p0 ((brokerref51_State.mk [] 0 0 (aG.mk 0 [] (aK.mk [] 0)) (aJ.mk []) [] 0 0)) []
theorem aeS (p0 : brokerref51_State) (p1 : aB) : Le (Option.map bB (nP p0 p1)) (aW SE 43 [brokerref51_State.av p0, aB.av p1] [] []) := by
 refine aZ (t := fun κ =>
  κ.t 18 aH [aB.av (aB.mk p1.Topic p1.Payload p1.Level p1.Retain p1.Priority p1.Expires p0.Name (w6 (p0.Seq + 1)) p1.Props)] [] [] fun r0 =>
  cond (r0 != 0) (
  (some (bB (p0, [], r0)))) (
  cond (decide ((lM aB.enc p0.Waiting : Int) ≥ 256)) (
  (some (bB (p0, [], 6)))) (
  cond (decide (lM aB.enc p0.Waiting * 112 ≤ 140737488355328)) (
  cond (decide ((lM aB.enc p0.Waiting + lM aB.enc [(aB.mk p1.Topic p1.Payload p1.Level p1.Retain p1.Priority p1.Expires p0.Name (w6 (p0.Seq + 1)) p1.Props)]) * 112 ≤ 140737488355328)) (
   κ.t 86 bL [.agg [dSq p0.Name, dIq p0.Limit, dIq p0.Phase, dIq p0.Out.Limit, .d (.sl aC.ks (List.map aC.enc p0.Out.Items)), .d (.sl [.int .i64] (List.map eI p0.Out.Pool.Used)), dIq p0.Out.Pool.Last, .d (.sl [.int .i64] (List.map eI p0.In.IDs)), .d (.sl aB.ks ((List.map aB.enc p0.Waiting) ++ (List.map aB.enc [(aB.mk p1.Topic p1.Payload p1.Level p1.Retain p1.Priority p1.Expires p0.Name (w6 (p0.Seq + 1)) p1.Props)]))), dIq (w6 (p0.Seq + 1)), dIq p0.Last]] [] [] fun r1 =>
   (some (bB (r1.1, r1.2, 0)))) none) none))) (fun _ => by kernel_rfl) ?_
 unfold nP
 repeat' first | (with_reducible first | refine lC ?_ ?_ | refine lQ eX aX ?_ fun _ _ => ?_ | refine lQ eX pY ?_ fun _ _ => ?_ | refine lG ?_ ?_ | refine lD ?_ ?_ ?_ | exact j1 _ | exact rH _ | refine aI ?_) | rfl | (simp only [EN]; done) | (simp only [EN]; exact rH _) | (simp only [EN, bB] <;> rfl)
theorem kE (p0 : client_Client) (p1 : aA) : Le (Option.map aV (hZ p0 p1)) (aW SE 87 [.ptr 2000000000 0, aA.av p1] [⟨83, (client_Client.avs p0)⟩] []) := by
 refine aZ (t := fun κ =>
  cond (p0.state != 2) (
  (some (aV ([], 9, p0)))) (
  κ.t 38 aH [aA.av (aA.mk p1.Kind (w6 ((Int.tmod p0.last 65535) + 1)) p1.Dup p1.Message p1.Client p1.User p1.Clean p1.Keep p1.Expiry p1.Window p1.Will p1.Present p1.Code p1.Subs p1.Filters p1.Codes)] [] [] fun r0 =>
  cond (r0 != 0) (
  (some (aV ([], r0, p0)))) (
  (some (aV (([(aA.mk p1.Kind (w6 ((Int.tmod p0.last 65535) + 1)) p1.Dup p1.Message p1.Client p1.User p1.Clean p1.Keep p1.Expiry p1.Window p1.Will p1.Present p1.Code p1.Subs p1.Filters p1.Codes)], 0, (client_Client.mk p0.name p0.state p0.out p0.in_ p0.waiting p0.count (w6 ((Int.tmod p0.last 65535) + 1)))))))))) (fun _ => by kernel_rfl) ?_
 unfold hZ
 refine lC ?_ ?_
 ·exact aI rfl
 ·refine lQ eX aX (rR _) fun r0 _ => ?_
  refine lC ?_ ?_
  ·exact aI rfl
  ·exact aI rfl
theorem aaP (p0 : client_Client) (p1 : aN) : Le (Option.map aV (kX p0 p1)) (aW SE 44 [.ptr 2000000000 0, aN.av p1] [⟨83, (client_Client.avs p0)⟩] []) := by
 refine aZ (t := fun κ =>
  κ.t 87 aV [.ptr 2000000000 0, .agg [dIq 8, dIq 0, dBq false, dSq [], dSq [], dIq 0, dBq false, dIq 0, dIq 0, dSq [], dIq 0, .d (.sl aE.ks (List.map aE.enc [])), dSq [], dSq [], dBq false, dIq 0, dIq 0, dIq 0, dBq false, dIq 0, dSq [], dSq [], dIq 0, dBq false, dIq 0, dIq 0, dSq [], dIq 0, .d (.sl aE.ks (List.map aE.enc [])), dBq false, dIq 0, .d (.sl aN.ks (List.map aN.enc [p1])), .d (.sl [.str] (List.map bD [])), .d (.sl [.int .i64] (List.map eI []))]] [⟨83, (client_Client.avs p0)⟩] [] fun r0 =>
  (some (aV (r0.1, r0.2.1, r0.2.2)))) (fun _ => by kernel_rfl) ?_
 unfold kX
 repeat' first | (with_reducible first | refine lQ eX cI ?_ fun _ _ => ?_ | exact kE _ _ | refine aI ?_) | rfl | (simp only [EN]; exact kE _ _) | (simp only [EN, aV] <;> rfl)
theorem oA (p0 : brokerref51_State) (p1 : aA) : Le (Option.map bB (kK p0 p1)) (aW SE 88 [brokerref51_State.av p0, aA.av p1] [] []) := by
 refine aZ (t := fun κ =>
  cond (p0.Phase != 2) (
  (some (bB (p0, [], 9)))) (
  κ.t 85 aH [aA.av (aA.mk p1.Kind (w6 ((Int.tmod p0.Last 65535) + 1)) p1.Dup p1.Message p1.Client p1.User p1.Clean p1.Keep p1.Expiry p1.Window p1.Will p1.Present p1.Code p1.Subs p1.Filters p1.Codes)] [] [] fun r0 =>
  cond (r0 != 0) (
  (some (bB (p0, [], r0)))) (
  (some (bB (((brokerref51_State.mk p0.Name p0.Limit p0.Phase p0.Out p0.In p0.Waiting p0.Seq (w6 ((Int.tmod p0.Last 65535) + 1))), [(aA.mk p1.Kind (w6 ((Int.tmod p0.Last 65535) + 1)) p1.Dup p1.Message p1.Client p1.User p1.Clean p1.Keep p1.Expiry p1.Window p1.Will p1.Present p1.Code p1.Subs p1.Filters p1.Codes)], 0))))))) (fun _ => by kernel_rfl) ?_
 unfold kK
 refine lC ?_ ?_
 ·exact aI rfl
 ·refine lQ eX aX (mM _) fun r0 _ => ?_
  refine lC ?_ ?_
  ·exact aI rfl
  ·exact aI rfl
theorem adg (p0 : brokerref51_State) (p1 : aN) : Le (Option.map bB (oU p0 p1)) (aW SE 45 [brokerref51_State.av p0, aN.av p1] [] []) := by
 refine aZ (t := fun κ =>
  κ.t 88 bB [brokerref51_State.av p0, .agg [dIq 8, dIq 0, dBq false, dSq [], dSq [], dIq 0, dBq false, dIq 0, dIq 0, dSq [], dIq 0, .d (.sl aE.ks (List.map aE.enc [])), dSq [], dSq [], dBq false, dIq 0, dIq 0, dIq 0, dBq false, dIq 0, dSq [], dSq [], dIq 0, dBq false, dIq 0, dIq 0, dSq [], dIq 0, .d (.sl aE.ks (List.map aE.enc [])), dBq false, dIq 0, .d (.sl aN.ks (List.map aN.enc [p1])), .d (.sl [.str] (List.map bD [])), .d (.sl [.int .i64] (List.map eI []))]] [] [] fun r0 =>
  (some (bB (r0.1, r0.2.1, r0.2.2)))) (fun _ => by kernel_rfl) ?_
 unfold oU
 repeat' first | (with_reducible first | refine lQ eX iE ?_ fun _ _ => ?_ | exact oA _ _ | refine aI ?_) | rfl | (simp only [EN]; exact oA _ _) | (simp only [EN, bB] <;> rfl)
theorem zP (p0 : client_Client) (p1 : Str) : Le (Option.map aV (j3 p0 p1)) (aW SE 46 [.ptr 2000000000 0, dSq p1] [⟨83, (client_Client.avs p0)⟩] []) := by
 refine aZ (t := fun κ =>
  κ.t 87 aV [.ptr 2000000000 0, .agg [dIq 10, dIq 0, dBq false, dSq [], dSq [], dIq 0, dBq false, dIq 0, dIq 0, dSq [], dIq 0, .d (.sl aE.ks (List.map aE.enc [])), dSq [], dSq [], dBq false, dIq 0, dIq 0, dIq 0, dBq false, dIq 0, dSq [], dSq [], dIq 0, dBq false, dIq 0, dIq 0, dSq [], dIq 0, .d (.sl aE.ks (List.map aE.enc [])), dBq false, dIq 0, .d (.sl aN.ks (List.map aN.enc [])), .d (.sl [.str] (List.map bD [p1])), .d (.sl [.int .i64] (List.map eI []))]] [⟨83, (client_Client.avs p0)⟩] [] fun r0 =>
  (some (aV (r0.1, r0.2.1, r0.2.2)))) (fun _ => by kernel_rfl) ?_
 unfold j3
 repeat' first | (with_reducible first | refine lQ eX cI ?_ fun _ _ => ?_ | exact kE _ _ | refine aI ?_) | rfl | (simp only [EN]; exact kE _ _) | (simp only [EN, aV] <;> rfl)
theorem ab1 (p0 : brokerref51_State) (p1 : Str) : Le (Option.map bB (nE p0 p1)) (aW SE 47 [brokerref51_State.av p0, dSq p1] [] []) := by
 refine aZ (t := fun κ =>
  κ.t 88 bB [brokerref51_State.av p0, .agg [dIq 10, dIq 0, dBq false, dSq [], dSq [], dIq 0, dBq false, dIq 0, dIq 0, dSq [], dIq 0, .d (.sl aE.ks (List.map aE.enc [])), dSq [], dSq [], dBq false, dIq 0, dIq 0, dIq 0, dBq false, dIq 0, dSq [], dSq [], dIq 0, dBq false, dIq 0, dIq 0, dSq [], dIq 0, .d (.sl aE.ks (List.map aE.enc [])), dBq false, dIq 0, .d (.sl aN.ks (List.map aN.enc [])), .d (.sl [.str] (List.map bD [p1])), .d (.sl [.int .i64] (List.map eI []))]] [] [] fun r0 =>
  (some (bB (r0.1, r0.2.1, r0.2.2)))) (fun _ => by kernel_rfl) ?_
 unfold nE
 repeat' first | (with_reducible first | refine lQ eX iE ?_ fun _ _ => ?_ | exact oA _ _ | refine aI ?_) | rfl | (simp only [EN]; exact oA _ _) | (simp only [EN, bB] <;> rfl)
theorem wC (p0 : client_Client) : Le (Option.map gT (o7 p0)) (aW SE 19 [.ptr 2000000000 0] [⟨83, (client_Client.avs p0)⟩] []) := by
 refine aZ (t := fun κ =>
  (some (.ret [] [⟨83, (client_Client.avs (client_Client.mk p0.name 0 p0.out p0.in_ p0.waiting p0.count p0.last))⟩] []))) (fun _ => by kernel_rfl) ?_
 unfold o7
 exact aI rfl
theorem agS (p0 : brokerref51_State) : Le (Option.map mO (yM p0)) (aW SE 50 [brokerref51_State.av p0] [] []) := by
 refine aZ (t := fun κ =>
  (some (.ret [brokerref51_State.av (brokerref51_State.mk p0.Name p0.Limit 0 p0.Out p0.In p0.Waiting p0.Seq p0.Last)] [] []))) (fun _ => by kernel_rfl) ?_
 unfold yM
 exact aI rfl
noncomputable def apK (L : bP) (κ : Tau) (a0 a1 : List (List D)) (a2 : Int) : Res := L SE (K κ) κ.Λ κ.J 51 0 [1, 1, 0, 1, 0] (bE [(0, .d (.sl aB.ks a0)), (1, .d (.sl aB.ks a1)), (5, dIq a2)] [] [] [] [])
theorem aaw : ∀ (fu : Nat) (x0 x1 : List aB) (x5 : Int), Le (Option.map aD (eL fu x0 x1 x5)) (apK lab (kF 51) (List.map aB.enc x0) (List.map aB.enc x1) x5) := by
 intro fu
 induction fu with
 | zero => intros; exact le_none
 | succ fu ih =>
  intro x0 x1 x5
  refine bF (t := fun κ =>
  cond (decide (x5 < (lM aB.enc x0 : Int))) (
  cond (iB x5 (lM aB.enc x0 : Int)) (
   cond (iB x5 (lM aB.enc x1 : Int)) (
   κ.t 22 aD [.agg [dSq (aU (cE aB.enc x0 x5 0)), dSq (aU (cE aB.enc x0 x5 1)), dIq (aL (cE aB.enc x0 x5 2)), dBq (bA (cE aB.enc x0 x5 3)), dIq (aL (cE aB.enc x0 x5 4)), dIq (aL (cE aB.enc x0 x5 5)), dSq (aU (cE aB.enc x0 x5 6)), dIq (aL (cE aB.enc x0 x5 7)), .d (.sl aE.ks (dSl (cE aB.enc x0 x5 8)))], .agg [dSq (aU (cE aB.enc x1 x5 0)), dSq (aU (cE aB.enc x1 x5 1)), dIq (aL (cE aB.enc x1 x5 2)), dBq (bA (cE aB.enc x1 x5 3)), dIq (aL (cE aB.enc x1 x5 4)), dIq (aL (cE aB.enc x1 x5 5)), dSq (aU (cE aB.enc x1 x5 6)), dIq (aL (cE aB.enc x1 x5 7)), .d (.sl aE.ks (dSl (cE aB.enc x1 x5 8)))]] [] [] fun r0 =>
   cond (!r0) (
    (rB false)) (
   apK lab κ (List.map aB.enc x0) (List.map aB.enc x1) (w6 (x5 + 1)))) none) none) (
  (rB true))) (fun _ => by kernel_rfl) ?_
  unfold eL
  repeat' first | (with_reducible first | refine lC ?_ ?_ | refine lQ eX aP ?_ fun _ _ => ?_ | refine lG ?_ ?_ | refine lD ?_ ?_ ?_ | exact iS _ _ | exact ih _ _ _ | refine aI ?_) | rfl | (simp only [EN]; done) | (simp only [EN]; exact iS _ _) | (simp only [EN, aD] <;> rfl)
theorem abA (p0 p1 : List aB) : Le (Option.map aD (g7 p0 p1)) (aW SE 51 [.d (.sl aB.ks (List.map aB.enc p0)), .d (.sl aB.ks (List.map aB.enc p1))] [] []) := by
 refine aZ (t := fun κ =>
  cond ((lM aB.enc p0 : Int) != (lM aB.enc p1 : Int)) (
  (rB false)) (
  apK lab κ (List.map aB.enc p0) (List.map aB.enc p1) 0)) (fun _ => by kernel_rfl) ?_
 unfold g7
 refine lDe ?_ ?_
 ·exact aI rfl
 ·exact aaw fuel p0 p1 0
noncomputable def apV (L : bP) (κ : Tau) (a0 a1 : List (List D)) (a2 : Int) : Res := L SE (K κ) κ.Λ κ.J 52 0 [1, 1, 0, 1, 0] (bE [(0, .d (.sl aA.ks a0)), (1, .d (.sl aA.ks a1)), (5, dIq a2)] [] [] [] [])
theorem aaL : ∀ (fu : Nat) (x0 x1 : List aA) (x5 : Int), Le (Option.map aD (eU fu x0 x1 x5)) (apV lab (kF 52) (List.map aA.enc x0) (List.map aA.enc x1) x5) := by
 intro fu
 induction fu with
 | zero => intros; exact le_none
 | succ fu ih =>
  intro x0 x1 x5
  refine bF (t := fun κ =>
  cond (decide (x5 < (lM aA.enc x0 : Int))) (
  cond (iB x5 (lM aA.enc x0 : Int)) (
   cond (iB x5 (lM aA.enc x1 : Int)) (
   κ.t 94 aD [.agg [dIq (aL (cE aA.enc x0 x5 0)), dIq (aL (cE aA.enc x0 x5 1)), dBq (bA (cE aA.enc x0 x5 2)), dSq (aU (cE aA.enc x0 x5 3)), dSq (aU (cE aA.enc x0 x5 4)), dIq (aL (cE aA.enc x0 x5 5)), dBq (bA (cE aA.enc x0 x5 6)), dIq (aL (cE aA.enc x0 x5 7)), dIq (aL (cE aA.enc x0 x5 8)), dSq (aU (cE aA.enc x0 x5 9)), dIq (aL (cE aA.enc x0 x5 10)), .d (.sl aE.ks (dSl (cE aA.enc x0 x5 11))), dSq (aU (cE aA.enc x0 x5 12)), dSq (aU (cE aA.enc x0 x5 13)), dBq (bA (cE aA.enc x0 x5 14)), dIq (aL (cE aA.enc x0 x5 15)), dIq (aL (cE aA.enc x0 x5 16)), dIq (aL (cE aA.enc x0 x5 17)), dBq (bA (cE aA.enc x0 x5 18)), dIq (aL (cE aA.enc x0 x5 19)), dSq (aU (cE aA.enc x0 x5 20)), dSq (aU (cE aA.enc x0 x5 21)), dIq (aL (cE aA.enc x0 x5 22)), dBq (bA (cE aA.enc x0 x5 23)), dIq (aL (cE aA.enc x0 x5 24)), dIq (aL (cE aA.enc x0 x5 25)), dSq (aU (cE aA.enc x0 x5 26)), dIq (aL (cE aA.enc x0 x5 27)), .d (.sl aE.ks (dSl (cE aA.enc x0 x5 28))), dBq (bA (cE aA.enc x0 x5 29)), dIq (aL (cE aA.enc x0 x5 30)), .d (.sl aN.ks (dSl (cE aA.enc x0 x5 31))), .d (.sl [.str] (dSl (cE aA.enc x0 x5 32))), .d (.sl [.int .i64] (dSl (cE aA.enc x0 x5 33)))], .agg [dIq (aL (cE aA.enc x1 x5 0)), dIq (aL (cE aA.enc x1 x5 1)), dBq (bA (cE aA.enc x1 x5 2)), dSq (aU (cE aA.enc x1 x5 3)), dSq (aU (cE aA.enc x1 x5 4)), dIq (aL (cE aA.enc x1 x5 5)), dBq (bA (cE aA.enc x1 x5 6)), dIq (aL (cE aA.enc x1 x5 7)), dIq (aL (cE aA.enc x1 x5 8)), dSq (aU (cE aA.enc x1 x5 9)), dIq (aL (cE aA.enc x1 x5 10)), .d (.sl aE.ks (dSl (cE aA.enc x1 x5 11))), dSq (aU (cE aA.enc x1 x5 12)), dSq (aU (cE aA.enc x1 x5 13)), dBq (bA (cE aA.enc x1 x5 14)), dIq (aL (cE aA.enc x1 x5 15)), dIq (aL (cE aA.enc x1 x5 16)), dIq (aL (cE aA.enc x1 x5 17)), dBq (bA (cE aA.enc x1 x5 18)), dIq (aL (cE aA.enc x1 x5 19)), dSq (aU (cE aA.enc x1 x5 20)), dSq (aU (cE aA.enc x1 x5 21)), dIq (aL (cE aA.enc x1 x5 22)), dBq (bA (cE aA.enc x1 x5 23)), dIq (aL (cE aA.enc x1 x5 24)), dIq (aL (cE aA.enc x1 x5 25)), dSq (aU (cE aA.enc x1 x5 26)), dIq (aL (cE aA.enc x1 x5 27)), .d (.sl aE.ks (dSl (cE aA.enc x1 x5 28))), dBq (bA (cE aA.enc x1 x5 29)), dIq (aL (cE aA.enc x1 x5 30)), .d (.sl aN.ks (dSl (cE aA.enc x1 x5 31))), .d (.sl [.str] (dSl (cE aA.enc x1 x5 32))), .d (.sl [.int .i64] (dSl (cE aA.enc x1 x5 33)))]] [] [] fun r0 =>
   cond (!r0) (
    (rB false)) (
   apV lab κ (List.map aA.enc x0) (List.map aA.enc x1) (w6 (x5 + 1)))) none) none) (
  (rB true))) (fun _ => by kernel_rfl) ?_
  unfold eU
  repeat' first | (with_reducible first | refine lC ?_ ?_ | refine lQ eX aP ?_ fun _ _ => ?_ | refine lG ?_ ?_ | refine lD ?_ ?_ ?_ | exact vT _ _ | exact ih _ _ _ | refine aI ?_) | rfl | (simp only [EN]; done) | (simp only [EN]; exact vT _ _) | (simp only [EN, aD] <;> rfl)
theorem abV (p0 p1 : List aA) : Le (Option.map aD (j5 p0 p1)) (aW SE 52 [.d (.sl aA.ks (List.map aA.enc p0)), .d (.sl aA.ks (List.map aA.enc p1))] [] []) := by
 refine aZ (t := fun κ =>
  cond ((lM aA.enc p0 : Int) != (lM aA.enc p1 : Int)) (
  (rB false)) (
  apV lab κ (List.map aA.enc p0) (List.map aA.enc p1) 0)) (fun _ => by kernel_rfl) ?_
 unfold j5
 refine lDe ?_ ?_
 ·exact aI rfl
 ·exact aaL fuel p0 p1 0
theorem agf (p0 : aA) (p1 : Bool) : Le (Option.map bI (pK p0 p1)) (aW SE 48 [aA.av p0, dBq p1] [] []) := by
 refine aZ (t := fun κ =>
  cond (p0.Kind == 1) (
  (some (bI ((aA.mk 2 0 false zMq [] [] false 0 0 0 zWq p1 0 [] [] []))))) (
  cond (p0.Kind == 3) (
  cond (p0.Message.Level == 1) (
   (some (bI ((aA.mk 4 p0.ID false zMq [] [] false 0 0 0 zWq false 0 [] [] []))))) (
  (some (bI ((aA.mk 5 p0.ID false zMq [] [] false 0 0 0 zWq false 0 [] [] [])))))) (
  cond (p0.Kind == 6) (
  (some (bI ((aA.mk 7 p0.ID false zMq [] [] false 0 0 0 zWq false 0 [] [] []))))) (
  cond (p0.Kind == 8) (
  (some (bI ((aA.mk 9 p0.ID false zMq [] [] false 0 0 0 zWq false 0 [] [] [0]))))) (
  (some (bI ((aA.mk 13 0 false zMq [] [] false 0 0 0 zWq false 0 [] [] []))))))))) (fun _ => by kernel_rfl) ?_
 unfold pK
 repeat' first | (with_reducible first | refine lC ?_ ?_ | refine aI ?_) | rfl | (simp only [EN, bI] <;> rfl)
theorem agY (p0 : Int) : Le (Option.map aD (qO p0)) (aW SE 124 [dIq p0] [] []) := by
 refine aZ (t := fun κ =>
  cond (decide (p0 ≥ 3)) (
  cond (decide (p0 ≤ 7)) (
   (rB true)) (
  (rB (p0 == 14)))) (
  (rB (p0 == 14)))) (fun _ => by kernel_rfl) ?_
 unfold qO
 refine lC ?_ ?_
 ·refine lC ?_ ?_
  ·exact aI rfl
  ·exact aI rfl
 ·exact aI rfl
theorem afB (p0 : Int) : Le (Option.map aD (oH p0)) (aW SE 89 [dIq p0] [] []) := by
 refine aZ (t := fun κ =>
  κ.t 124 aD [dIq p0] [] [] fun r0 =>
  cond r0 (
  (rB true)) (
  cond (p0 == 2) (
  (rB true)) (
  cond (p0 == 9) (
  (rB true)) (
  cond (p0 == 11) (
  (rB true)) (
  (rB (p0 == 13))))))) (fun _ => by kernel_rfl) ?_
 unfold oH
 repeat' first | (with_reducible first | refine lC ?_ ?_ | refine lQ eX aP ?_ fun _ _ => ?_ | exact agY _ | refine aI ?_) | rfl | (simp only [EN, aD] <;> rfl)
theorem oQ (p0 : Int) : Le (Option.map bI (lB p0)) (aW SE 131 [dIq p0] [] []) := by
 refine aZ (t := fun κ =>
  (some (bI ((aA.mk 6 p0 false zMq [] [] false 0 0 0 zWq false 0 [] [] []))))) (fun _ => by kernel_rfl) ?_
 unfold lB
 exact aI rfl
noncomputable def akv (L : bP) (κ : Tau) (a0 : Int) (a1 : List D) (a2 : List (List D)) : Res := L SE (K κ) κ.Λ κ.J 125 0 [1, 1, 0, 1, 0] (bE [(1, .ptr 1000000000 0), (3, .row 3003), (4, dIq a0)] [⟨31, (List.map AV.d a1)⟩] [] [] [(3003, ⟨aA.ks, 67, 416, a2⟩)])
theorem ac2 : ∀ (fu : Nat) (x4 : Int) (b0 : aG) (w3003 : List aA), Le (Option.map bZ (fT fu x4 b0 w3003)) (akv lab (kF 125) x4 (aG.enc b0) (List.map aA.enc w3003)) := by
 intro fu
 induction fu with
 | zero => intros; exact le_none
 | succ fu ih =>
  intro x4 b0 w3003
  refine bF (t := fun κ =>
  cond (decide (x4 < (lM aC.enc b0.Items : Int))) (
  cond (iB x4 (lM aC.enc b0.Items : Int)) (
   cond ((aL (cE aC.enc b0.Items x4 1)) == 2) (
   cond (iB x4 (lM aC.enc b0.Items : Int)) (
    κ.t 131 bI [dIq (aL (cE aC.enc b0.Items x4 0))] [] [] fun r0 =>
    cond (decide ((lM aA.enc w3003 + lM aA.enc [r0]) * 416 ≤ 140737488355328)) (
    akv lab κ (w6 (x4 + 1)) (aG.enc b0) (((List.map aA.enc w3003) ++ (List.map aA.enc [r0])))) none) none) (
   cond (iB x4 (lM aC.enc b0.Items : Int)) (
   κ.t 153 gF [.agg [dIq (aL (cE aC.enc b0.Items x4 0)), dIq (aL (cE aC.enc b0.Items x4 1)), dSq (aU (cE aC.enc b0.Items x4 2)), dSq (aU (cE aC.enc b0.Items x4 3)), dIq (aL (cE aC.enc b0.Items x4 4)), dBq (bA (cE aC.enc b0.Items x4 5)), dIq (aL (cE aC.enc b0.Items x4 6)), dIq (aL (cE aC.enc b0.Items x4 7)), dSq (aU (cE aC.enc b0.Items x4 8)), dIq (aL (cE aC.enc b0.Items x4 9)), .d (.sl aE.ks (dSl (cE aC.enc b0.Items x4 10)))], dBq true] [] [] fun r1 =>
   cond (decide ((lM aA.enc w3003 + lM aA.enc [r1]) * 416 ≤ 140737488355328)) (
    akv lab κ (w6 (x4 + 1)) (aG.enc b0) (((List.map aA.enc w3003) ++ (List.map aA.enc [r1])))) none) none)) none) (
  (some (bZ w3003)))) (fun _ => by kernel_rfl) ?_
  unfold fT
  repeat' first | (with_reducible first | refine lQ eX gY ?_ fun _ _ => ?_ | refine lQ eX xJ ?_ fun _ _ => ?_ | refine lG ?_ ?_ | refine lD ?_ ?_ ?_ | exact oQ _ | exact ih _ _ _ | exact sV _ _ | refine aI ?_) | rfl | (simp only [EN]; done) | (simp only [EN]; exact oQ _) | (simp only [EN]; exact ih _ _ _) | (simp only [EN]; exact sV _ _) | (simp only [EN, bZ] <;> rfl)
theorem afz (p0 : aG) : Le (Option.map bZ (lL p0)) (aW SE 125 [aG.av p0] [] []) := by
 refine aZ (t := fun κ =>
  akv lab κ 0 (aG.enc p0) (List.map aA.enc [])) (fun _ => by kernel_rfl) ?_
 unfold lL
 (try simp only [EN]); exact ac2 fuel 0 p0 []
noncomputable def anU (L : bP) (κ : Tau) (a0 a1 : List D) (a2 : List (List D)) : Res := L SE (K κ) κ.Λ κ.J 90 0 [1, 1, 1, 1, 1, 0] (bE [(2, .ptr 1000000000 0), (4, .ptr 1000000001 0), (6, .row 3006)] [⟨36, (List.map AV.d a0)⟩, ⟨36, (List.map AV.d a1)⟩] [] [] [(3006, ⟨aA.ks, 67, 416, a2⟩)])
noncomputable def akM (L : bP) (κ : Tau) (a0 : Int) (a1 a2 : List D) (a3 : List (List D)) : Res := L SE (K κ) κ.Λ κ.J 90 0 [1, 1, 1, 1, 0, 1, 1, 1, 0, 1, 0] (bE [(2, .ptr 1000000000 0), (4, .ptr 1000000001 0), (6, .nil), (7, .row 3007), (8, dIq a0)] [⟨36, (List.map AV.d a1)⟩, ⟨36, (List.map AV.d a2)⟩] [] [] [(3007, ⟨aB.ks, 54, 112, a3⟩)])
theorem nW (b0 b1 : brokerref51_State) (w3006 : List aA) : Le (Option.map bL (eD b0 b1 w3006)) (anU lab (kF 90) (brokerref51_State.enc b0) (brokerref51_State.enc b1) (List.map aA.enc w3006)) := by
 refine bF (t := fun κ =>
  κ.t 86 bL [brokerref51_State.av b0] [] [] fun r1 =>
  cond (decide ((lM aA.enc w3006 + lM aA.enc r1.2) * 416 ≤ 140737488355328)) (
  (some (.ret [brokerref51_State.av r1.1, .row 0] [] [⟨aA.ks, 67, 416, ((List.map aA.enc w3006) ++ (List.map aA.enc r1.2))⟩]))) none) (fun _ => by kernel_rfl) ?_
 unfold eD
 refine lQ eX pY (rH _) fun r1 _ => ?_
 refine lGe ?_
 exact aI (by first | rfl | simp only [EN, bL] <;> rfl)
theorem abd : ∀ (fu : Nat) (x8 : Int) (b0 b1 : brokerref51_State) (w3007 : List aB), Le (Option.map bL (dP fu x8 b0 b1 w3007)) (akM lab (kF 90) x8 (brokerref51_State.enc b0) (brokerref51_State.enc b1) (List.map aB.enc w3007)) := by
 intro fu
 induction fu with
 | zero => intros; exact le_none
 | succ fu ih =>
  intro x8 b0 b1 w3007
  refine bF (t := fun κ =>
  cond (decide (x8 < (lM aC.enc b0.Out.Items : Int))) (
  cond (iB x8 (lM aC.enc b0.Out.Items : Int)) (
   cond ((aL (cE aC.enc b0.Out.Items x8 1)) == 1) (
   cond (iB x8 (lM aC.enc b0.Out.Items : Int)) (
    cond (decide ((lM aB.enc w3007 + List.length [[D.str (aU (cE aC.enc b0.Out.Items x8 2)), D.str (aU (cE aC.enc b0.Out.Items x8 3)), D.int .i64 (aL (cE aC.enc b0.Out.Items x8 4)), D.bool (bA (cE aC.enc b0.Out.Items x8 5)), D.int .i64 (aL (cE aC.enc b0.Out.Items x8 6)), D.int .i64 (aL (cE aC.enc b0.Out.Items x8 7)), D.str (aU (cE aC.enc b0.Out.Items x8 8)), D.int .i64 (aL (cE aC.enc b0.Out.Items x8 9)), D.sl aE.ks (dSl (cE aC.enc b0.Out.Items x8 10))]]) * 112 ≤ 140737488355328)) (
    akM lab κ (w6 (x8 + 1)) (brokerref51_State.enc b0) (brokerref51_State.enc b1) (((List.map aB.enc w3007) ++ [[D.str (aU (cE aC.enc b0.Out.Items x8 2)), D.str (aU (cE aC.enc b0.Out.Items x8 3)), D.int .i64 (aL (cE aC.enc b0.Out.Items x8 4)), D.bool (bA (cE aC.enc b0.Out.Items x8 5)), D.int .i64 (aL (cE aC.enc b0.Out.Items x8 6)), D.int .i64 (aL (cE aC.enc b0.Out.Items x8 7)), D.str (aU (cE aC.enc b0.Out.Items x8 8)), D.int .i64 (aL (cE aC.enc b0.Out.Items x8 9)), D.sl aE.ks (dSl (cE aC.enc b0.Out.Items x8 10))]]))) none) none) (
   akM lab κ (w6 (x8 + 1)) (brokerref51_State.enc b0) (brokerref51_State.enc b1) (List.map aB.enc w3007))) none) (
  cond (decide ((lM aB.enc w3007 + lM aB.enc b0.Waiting) * 112 ≤ 140737488355328)) (
  κ.t 29 bH [dIq b0.Limit] [] [] fun r2 =>
  anU lab κ [D.str b0.Name, D.int .i64 b0.Limit, D.int .i64 b0.Phase, D.int .i64 r2.Limit, D.sl aC.ks (List.map aC.enc r2.Items), D.sl [.int .i64] (List.map eI r2.Pool.Used), D.int .i64 r2.Pool.Last, D.sl [.int .i64] (List.map eI []), D.sl aB.ks ((List.map aB.enc w3007) ++ (List.map aB.enc b0.Waiting)), D.int .i64 b0.Seq, D.int .i64 b0.Last] (brokerref51_State.enc b1) (List.map aA.enc [])) none)) (fun _ => by kernel_rfl) ?_
  unfold dP
  repeat' first | (with_reducible first | refine lQ eX iF ?_ fun _ _ => ?_ | refine lG ?_ ?_ | refine lD ?_ ?_ ?_ | exact ih _ _ _ _ | exact abL _ | exact nW _ _ _) | (simp only [EN]; done) | (simp only [EN]; exact ih _ _ _ _) | (simp only [EN]; exact nW _ _ _)
theorem acU (p0 : brokerref51_State) (p1 : aA) : Le (Option.map bL (lA p0 p1)) (aW SE 90 [brokerref51_State.av p0, aA.av p1] [] []) := by
 refine aZ (t := fun κ =>
  cond (p1.Code != 0) (
  (some (bL ((brokerref51_State.mk p0.Name p0.Limit 0 p0.Out p0.In p0.Waiting p0.Seq p0.Last), [])))) (
  cond p1.Present (
  κ.t 125 bZ [aG.av p0.Out] [] [] fun r0 =>
  anU lab κ (brokerref51_State.enc (brokerref51_State.mk p0.Name p0.Limit 2 p0.Out p0.In p0.Waiting p0.Seq p0.Last)) [D.str [], D.int .i64 0, D.int .i64 0, D.int .i64 0, D.sl aC.ks (List.map aC.enc []), D.sl [.int .i64] (List.map eI []), D.int .i64 0, D.sl [.int .i64] (List.map eI []), D.sl aB.ks (List.map aB.enc []), D.int .i64 0, D.int .i64 0] (List.map aA.enc r0)) (
  akM lab κ 0 (brokerref51_State.enc (brokerref51_State.mk p0.Name p0.Limit 2 p0.Out p0.In p0.Waiting p0.Seq p0.Last)) [D.str [], D.int .i64 0, D.int .i64 0, D.int .i64 0, D.sl aC.ks (List.map aC.enc []), D.sl [.int .i64] (List.map eI []), D.int .i64 0, D.sl [.int .i64] (List.map eI []), D.sl aB.ks (List.map aB.enc []), D.int .i64 0, D.int .i64 0] (List.map aB.enc [])))) (fun _ => by kernel_rfl) ?_
 unfold lA
 refine lC ?_ ?_
 ·exact aI rfl
 ·refine lC ?_ ?_
  ·refine lQ eX vQ (afz _) fun r0 _ => ?_
   (try simp only [EN]); exact nW (brokerref51_State.mk p0.Name p0.Limit 2 p0.Out p0.In p0.Waiting p0.Seq p0.Last) ((brokerref51_State.mk [] 0 0 (aG.mk 0 [] (aK.mk [] 0)) (aJ.mk []) [] 0 0)) r0
  ·(try simp only [EN]); exact abd fuel 0 (brokerref51_State.mk p0.Name p0.Limit 2 p0.Out p0.In p0.Waiting p0.Seq p0.Last) ((brokerref51_State.mk [] 0 0 (aG.mk 0 [] (aK.mk [] 0)) (aJ.mk []) [] 0 0)) []
theorem afE (p0 p1 : Int) : Le (Option.map bZ (lN p0 p1)) (aW SE 126 [dIq p0, dIq p1] [] []) := by
 refine aZ (t := fun κ =>
  (some (bZ [(aA.mk p0 p1 false zMq [] [] false 0 0 0 zWq false 0 [] [] [])]))) (fun _ => by kernel_rfl) ?_
 unfold lN
 exact aI rfl
theorem ahC (p0 : aJ) (p1 : Int) : Le (Option.map aD (sA p0 p1)) (aW SE 127 [aJ.av p0, dIq p1] [] []) := by
 refine aZ (t := fun κ =>
  κ.t 154 aD [aK.av (aK.mk p0.IDs 0), dIq p1] [] [] fun r0 =>
  (rB r0)) (fun _ => by kernel_rfl) ?_
 unfold sA
 refine lQ eX aP (abJ _ _) fun r0 _ => ?_
 exact aI rfl
noncomputable def aqZ (L : bP) (κ : Tau) (a0 : List (List D)) (a1 a2 : Int) (a3 : List (List D)) (a4 a5 a6 : Int) (a7 : Bool) (a8 : List (List D)) : Res := L SE (K κ) κ.Λ κ.J 128 0 [1, 1, 1, 0, 0, 0, 1, 0, 0] (bE [(0, .d (.sl [.int .i64] a0)), (1, dIq a1), (5, .row 3005), (6, dIq a2), (12, .d (.sl [.int .i64] a3)), (13, dIq a4), (15, dIq a5), (16, dIq a6), (17, dBq a7)] [] [] [] [(3005, ⟨[.int .i64], 3, 8, a8⟩)])
noncomputable def anG (L : bP) (κ : Tau) (a0 : List (List D)) (a1 a2 : Int) (a3 : List (List D)) : Res := L SE (K κ) κ.Λ κ.J 128 0 [1, 1, 1, 1, 0] (bE [(0, .d (.sl [.int .i64] a0)), (1, dIq a1), (5, .row 3005), (6, dIq a2)] [] [] [] [(3005, ⟨[.int .i64], 3, 8, a3⟩)])
noncomputable def aka (L : bP) (κ : Tau) (a0 : List (List D)) (a1 a2 : Int) (a3 : List (List D)) : Res := L SE (K κ) κ.Λ κ.J 128 0 [1, 1, 1, 0, 0] (bE [(0, .d (.sl [.int .i64] a0)), (1, dIq a1), (5, .row 3005), (6, dIq a2)] [] [] [] [(3005, ⟨[.int .i64], 3, 8, a3⟩)])
theorem xR (k3 : (List Int) → Int → Int → (List Int) → Option ((List Int))) (hk3 : ∀ (x0 : List Int) (x1 x6 : Int) (w3005 : List Int), Le (Option.map aR (k3 x0 x1 x6 w3005)) (aka lab (kF 128) (List.map eI x0) x1 x6 (List.map eI w3005))) (x0 : List Int) (x1 x6 : Int) (x12 : List Int) (x13 x15 x16 : Int) (x17 : Bool) (w3005 : List Int) : Le (Option.map aR (rC k3 x0 x1 x6 x12 x13 x15 x16 x17 w3005)) (aqZ lab (kF 128) (List.map eI x0) x1 x6 (List.map eI x12) x13 x15 x16 x17 (List.map eI w3005)) := by
 refine bF (t := fun κ =>
  cond (iB x6 (lM eI x0 : Int)) (
  cond (decide ((lM eI w3005 + List.length [[D.int .i64 (aL (cE eI x0 x6 0))]]) * 8 ≤ 140737488355328)) (
   aka lab κ (List.map eI x0) x1 (w6 (x6 + 1)) (((List.map eI w3005) ++ [[D.int .i64 (aL (cE eI x0 x6 0))]]))) none) none) (fun _ => by kernel_rfl) ?_
 unfold rC
 repeat' first | (with_reducible first | refine lG ?_ ?_ | exact hk3 _ _ _ _) | (simp only [EN]; done) | (simp only [EN]; exact hk3 _ _ _ _)
theorem aeK (x0 : List Int) (x1 x6 : Int) (w3005 : List Int) : Le (Option.map aR (kL x0 x1 x6 w3005)) (anG lab (kF 128) (List.map eI x0) x1 x6 (List.map eI w3005)) := by
 refine bF (t := fun κ =>
  cond (decide ((lM eI w3005 + lM eI [x1]) * 8 ≤ 140737488355328)) (
  cond (decide (0 ≤ x6) && decide (x6 ≤ ((lM eI x0) : Int))) (
   cond (decide ((List.length ((List.map eI w3005) ++ (List.map eI [x1])) + List.length (bQ (List.map eI x0) (some x6) none)) * 8 ≤ 140737488355328)) (
   (some (.ret [.row 0] [] [⟨[.int .i64], 3, 8, (((List.map eI w3005) ++ (List.map eI [x1])) ++ (bQ (List.map eI x0) (some x6) none))⟩]))) none) none) none) (fun _ => by kernel_rfl) ?_
 unfold kL
 refine lGe ?_
 refine lGe ?_
 refine lGe ?_
 exact aI (by first | rfl | simp only [EN, aR] <;> rfl)
theorem ae0 : ∀ (fu : Nat) (x0 : List Int) (x1 x6 : Int) (w3005 : List Int), Le (Option.map aR (jA fu x0 x1 x6 w3005)) (aka lab (kF 128) (List.map eI x0) x1 x6 (List.map eI w3005)) := by
 intro fu
 induction fu with
 | zero => intros; exact le_none
 | succ fu ih =>
  intro x0 x1 x6 w3005
  refine bF (t := fun κ =>
  cond (decide (x6 < (lM eI x0 : Int))) (
  cond (iB x6 (lM eI x0 : Int)) (
   cond (decide ((aL (cE eI x0 x6 0)) < x1)) (
   aqZ lab κ (List.map eI x0) x1 x6 (List.map eI x0) x6 ((aL (cE eI x0 x6 0))) x1 ((decide ((aL (cE eI x0 x6 0)) < x1))) (List.map eI w3005)) (
   anG lab κ (List.map eI x0) x1 x6 (List.map eI w3005))) none) (
  anG lab κ (List.map eI x0) x1 x6 (List.map eI w3005))) (fun _ => by kernel_rfl) ?_
  unfold jA
  repeat' first | (with_reducible first | refine lG ?_ ?_ | refine lD ?_ ?_ ?_ | exact xR _ (ih) _ _ _ _ _ _ _ _ _ | exact aeK _ _ _ _) | (simp only [EN]; done) | (simp only [EN]; exact xR _ (ih) _ _ _ _ _ _ _ _ _)
theorem agN (p0 : List Int) (p1 : Int) : Le (Option.map aR (qZ p0 p1)) (aW SE 128 [.d (.sl [.int .i64] (List.map eI p0)), dIq p1] [] []) := by
 refine aZ (t := fun κ =>
  aka lab κ (List.map eI p0) p1 0 (List.map eI [])) (fun _ => by kernel_rfl) ?_
 unfold qZ
 (try simp only [EN]); exact ae0 fuel p0 p1 0 []
theorem aff (p0 : aJ) (p1 : aA) : Le (Option.map cR (jS p0 p1)) (aW SE 91 [aJ.av p0, aA.av p1] [] []) := by
 refine aZ (t := fun κ =>
  cond (p1.Kind != 3) (
  (some (cR ((aJ.mk []), false, [], 10)))) (
  κ.t 85 aH [aA.av p1] [] [] fun r0 =>
  cond (r0 != 0) (
  (some (cR ((aJ.mk []), false, [], r0)))) (
  cond (p1.Message.Level == 0) (
  (some (cR (p0, true, [], 0)))) (
  cond (p1.Message.Level == 1) (
  κ.t 126 bZ [dIq 4, dIq p1.ID] [] [] fun r1 =>
  (some (cR (p0, true, r1, 0)))) (
  κ.t 127 aD [aJ.av p0, dIq p1.ID] [] [] fun r2 =>
  cond r2 (
  κ.t 126 bZ [dIq 5, dIq p1.ID] [] [] fun r3 =>
  (some (cR (p0, false, r3, 0)))) (
  cond (decide ((lM eI p0.IDs : Int) ≥ 32)) (
  (some (cR ((aJ.mk []), false, [], 6)))) (
  κ.t 128 aR [.d (.sl [.int .i64] (List.map eI p0.IDs)), dIq p1.ID] [] [] fun r4 =>
  κ.t 126 bZ [dIq 5, dIq p1.ID] [] [] fun r5 =>
  (some (cR ((aJ.mk r4), true, r5, 0)))))))))) (fun _ => by kernel_rfl) ?_
 unfold jS
 repeat' first | (with_reducible first | refine lC ?_ ?_ | refine lQ eX aX ?_ fun _ _ => ?_ | refine lQ eX vQ ?_ fun _ _ => ?_ | refine lQ eX aP ?_ fun _ _ => ?_ | refine lQ eX bU ?_ fun _ _ => ?_ | refine lD ?_ ?_ ?_ | exact mM _ | exact afE _ _ | exact ahC _ _ | exact agN _ _ | refine aI ?_) | rfl | (simp only [EN]; done) | (simp only [EN, cR] <;> rfl)
noncomputable def aj2 (L : bP) (κ : Tau) (a0 a1 : Int) (a2 a3 : List D) (a4 : List (List D)) : Res := L SE (K κ) κ.Λ κ.J 129 0 [1, 1, 0, 1, 0] (bE [(1, dIq a0), (2, .ptr 1000000000 0), (4, .ptr 1000000001 0), (6, .row 3006), (7, dIq a1)] [⟨29, (List.map AV.d a2)⟩, ⟨29, (List.map AV.d a3)⟩] [] [] [(3006, ⟨[.int .i64], 3, 8, a4⟩)])
theorem aeC : ∀ (fu : Nat) (x1 x7 : Int) (b0 b1 : aK) (w3006 : List Int), Le (Option.map fK (gZ fu x1 x7 b0 b1 w3006)) (aj2 lab (kF 129) x1 x7 (aK.enc b0) (aK.enc b1) (List.map eI w3006)) := by
 intro fu
 induction fu with
 | zero => intros; exact le_none
 | succ fu ih =>
  intro x1 x7 b0 b1 w3006
  refine bF (t := fun κ =>
  cond (decide (x7 < (lM eI b0.Used : Int))) (
  cond (iB x7 (lM eI b0.Used : Int)) (
   cond ((aL (cE eI b0.Used x7 0)) != x1) (
   cond (iB x7 (lM eI b0.Used : Int)) (
    cond (decide ((lM eI w3006 + List.length [[D.int .i64 (aL (cE eI b0.Used x7 0))]]) * 8 ≤ 140737488355328)) (
    aj2 lab κ x1 (w6 (x7 + 1)) (aK.enc b0) (aK.enc b1) (((List.map eI w3006) ++ [[D.int .i64 (aL (cE eI b0.Used x7 0))]]))) none) none) (
   aj2 lab κ x1 (w6 (x7 + 1)) (aK.enc b0) (aK.enc b1) (List.map eI w3006))) none) (
  (some (.ret [.agg [.row 0, dIq b0.Last], dBq (decide ((lM eI w3006 : Int) < (lM eI b0.Used : Int)))] [] [⟨[.int .i64], 3, 8, (List.map eI w3006)⟩])))) (fun _ => by kernel_rfl) ?_
  unfold gZ
  repeat' first | (with_reducible first | refine lG ?_ ?_ | refine lD ?_ ?_ ?_ | exact ih _ _ _ _ _ | refine aI ?_) | rfl | (simp only [EN]; done) | (simp only [EN]; exact ih _ _ _ _ _) | (simp only [EN, fK] <;> rfl)
theorem vR (p0 : aK) (p1 : Int) : Le (Option.map fK (nZ p0 p1)) (aW SE 129 [aK.av p0, dIq p1] [] []) := by
 refine aZ (t := fun κ =>
  aj2 lab κ p1 0 (aK.enc p0) [D.sl [.int .i64] (List.map eI []), D.int .i64 0] (List.map eI [])) (fun _ => by kernel_rfl) ?_
 unfold nZ
 (try simp only [EN]); exact aeC fuel p1 0 p0 (aK.mk [] 0) []
noncomputable def atd (L : bP) (κ : Tau) (a0 a1 a2 a3 : List D) : Res := L SE (K κ) κ.Λ κ.J 92 0 [1, 1, 1, 0] (bE [(2, .ptr 1000000000 0), (3, .ptr 1000000001 0), (4, .ptr 1000000002 0), (5, .ptr 1000000003 0)] [⟨33, (List.map AV.d a0)⟩, ⟨67, (List.map AV.d a1)⟩, ⟨33, (List.map AV.d a2)⟩, ⟨67, (List.map AV.d a3)⟩] [] [] [])
theorem vW (b0 : aJ) (b1 : aA) (b2 : aJ) (b3 : aA) : Le (Option.map bY (oC b0 b1 b2 b3)) (atd lab (kF 92) (aJ.enc b0) (aA.enc b1) (aJ.enc b2) (aA.enc b3)) := by
 refine bF (t := fun κ =>
  κ.t 129 fK [aK.av (aK.mk b0.IDs 0), dIq b1.ID] [] [] fun r0 =>
  (some (bY (((aJ.mk r0.1.Used), (aA.mk 7 b1.ID false zMq [] [] false 0 0 0 zWq false 0 [] [] []), 0))))) (fun _ => by kernel_rfl) ?_
 unfold oC
 refine lQ eX aa5 (vR _ _) fun r0 _ => ?_
 exact aI rfl
theorem ae5 (p0 : aJ) (p1 : aA) : Le (Option.map bY (iV p0 p1)) (aW SE 92 [aJ.av p0, aA.av p1] [] []) := by
 refine aZ (t := fun κ =>
  cond (p1.Kind != 6) (
  (some (bY (((aJ.mk []), zPq, 10))))) (
  cond (decide (p1.ID < 1)) (
  (some (bY (((aJ.mk []), zPq, 15))))) (
  cond (decide (p1.ID > 65535)) (
  (some (bY (((aJ.mk []), zPq, 15))))) (
  atd lab κ (aJ.enc p0) (aA.enc p1) [D.sl [.int .i64] (List.map eI [])] [D.int .i64 0, D.int .i64 0, D.bool false, D.str [], D.str [], D.int .i64 0, D.bool false, D.int .i64 0, D.int .i64 0, D.str [], D.int .i64 0, D.sl aE.ks (List.map aE.enc []), D.str [], D.str [], D.bool false, D.int .i64 0, D.int .i64 0, D.int .i64 0, D.bool false, D.int .i64 0, D.str [], D.str [], D.int .i64 0, D.bool false, D.int .i64 0, D.int .i64 0, D.str [], D.int .i64 0, D.sl aE.ks (List.map aE.enc []), D.bool false, D.int .i64 0, D.sl aN.ks (List.map aN.enc []), D.sl [.str] (List.map bD []), D.sl [.int .i64] (List.map eI [])])))) (fun _ => by kernel_rfl) ?_
 unfold iV
 repeat' first | (with_reducible first | refine lC ?_ ?_ | exact vW _ _ _ _ | refine aI ?_) | rfl | (simp only [EN]; exact vW _ _ _ _) | (simp only [EN, bY] <;> rfl)
noncomputable def anI (L : bP) (κ : Tau) (a0 : List (List D)) (a1 a2 : Int) : Res := L SE (K κ) κ.Λ κ.J 130 0 [1, 0, 1, 0] (bE [(0, .d (.sl aC.ks a0)), (1, dIq a1), (5, dIq a2)] [] [] [] [])
theorem agi : ∀ (fu : Nat) (x0 : List aC) (x1 x5 : Int), Le (Option.map aH (j9 fu x0 x1 x5)) (anI lab (kF 130) (List.map aC.enc x0) x1 x5) := by
 intro fu
 induction fu with
 | zero => intros; exact le_none
 | succ fu ih =>
  intro x0 x1 x5
  refine bF (t := fun κ =>
  cond (decide (x5 < (lM aC.enc x0 : Int))) (
  cond (iB x5 (lM aC.enc x0 : Int)) (
   cond ((aL (cE aC.enc x0 x5 0)) == x1) (
   (rI x5)) (
   anI lab κ (List.map aC.enc x0) x1 (w6 (x5 + 1)))) none) (
  (rI (-1)))) (fun _ => by kernel_rfl) ?_
  unfold j9
  refine lDe ?_ ?_
  ·refine lGe ?_
   refine lDe ?_ ?_
   ·exact aI rfl
   ·exact ih x0 x1 (w6 (x5 + 1))
  ·exact aI rfl
theorem aiQ (p0 : List aC) (p1 : Int) : Le (Option.map aH (tL p0 p1)) (aW SE 130 [.d (.sl aC.ks (List.map aC.enc p0)), dIq p1] [] []) := by
 refine aZ (t := fun κ =>
  anI lab κ (List.map aC.enc p0) p1 0) (fun _ => by kernel_rfl) ?_
 unfold tL
 exact agi fuel p0 p1 0
theorem adI (p0 : aG) (p1 : Int) : Le (Option.map hJ (l9 p0 p1)) (aW SE 132 [aG.av p0, dIq p1] [] []) := by
 refine aZ (t := fun κ =>
  cond (decide (0 ≤ p1) && decide (p1 ≤ ((lM aC.enc p0.Items) : Int))) (
  cond (decide ((lM aC.enc [] + List.length (bQ (List.map aC.enc p0.Items) none (some p1))) * 128 ≤ 140737488355328)) (
   cond (iB p1 (lM aC.enc p0.Items : Int)) (
   cond (iB p1 (lM aC.enc p0.Items : Int)) (
    cond (decide ((List.length ((List.map aC.enc []) ++ (bQ (List.map aC.enc p0.Items) none (some p1))) + List.length [[D.int .i64 (aL (cE aC.enc p0.Items p1 0)), D.int .i64 2, D.str (aU (cE aC.enc p0.Items p1 2)), D.str (aU (cE aC.enc p0.Items p1 3)), D.int .i64 (aL (cE aC.enc p0.Items p1 4)), D.bool (bA (cE aC.enc p0.Items p1 5)), D.int .i64 (aL (cE aC.enc p0.Items p1 6)), D.int .i64 (aL (cE aC.enc p0.Items p1 7)), D.str (aU (cE aC.enc p0.Items p1 8)), D.int .i64 (aL (cE aC.enc p0.Items p1 9)), D.sl aE.ks (dSl (cE aC.enc p0.Items p1 10))]]) * 128 ≤ 140737488355328)) (
    cond (decide (0 ≤ (w6 (p1 + 1))) && decide ((w6 (p1 + 1)) ≤ ((lM aC.enc p0.Items) : Int))) (
     cond (decide ((List.length (((List.map aC.enc []) ++ (bQ (List.map aC.enc p0.Items) none (some p1))) ++ [[D.int .i64 (aL (cE aC.enc p0.Items p1 0)), D.int .i64 2, D.str (aU (cE aC.enc p0.Items p1 2)), D.str (aU (cE aC.enc p0.Items p1 3)), D.int .i64 (aL (cE aC.enc p0.Items p1 4)), D.bool (bA (cE aC.enc p0.Items p1 5)), D.int .i64 (aL (cE aC.enc p0.Items p1 6)), D.int .i64 (aL (cE aC.enc p0.Items p1 7)), D.str (aU (cE aC.enc p0.Items p1 8)), D.int .i64 (aL (cE aC.enc p0.Items p1 9)), D.sl aE.ks (dSl (cE aC.enc p0.Items p1 10))]]) + List.length (bQ (List.map aC.enc p0.Items) (some (w6 (p1 + 1))) none)) * 128 ≤ 140737488355328)) (
     (some (.ret [.agg [dIq p0.Limit, .row 0, .d (.sl [.int .i64] (List.map eI p0.Pool.Used)), dIq p0.Pool.Last]] [] [⟨aC.ks, 139, 128, ((((List.map aC.enc []) ++ (bQ (List.map aC.enc p0.Items) none (some p1))) ++ [[D.int .i64 (aL (cE aC.enc p0.Items p1 0)), D.int .i64 2, D.str (aU (cE aC.enc p0.Items p1 2)), D.str (aU (cE aC.enc p0.Items p1 3)), D.int .i64 (aL (cE aC.enc p0.Items p1 4)), D.bool (bA (cE aC.enc p0.Items p1 5)), D.int .i64 (aL (cE aC.enc p0.Items p1 6)), D.int .i64 (aL (cE aC.enc p0.Items p1 7)), D.str (aU (cE aC.enc p0.Items p1 8)), D.int .i64 (aL (cE aC.enc p0.Items p1 9)), D.sl aE.ks (dSl (cE aC.enc p0.Items p1 10))]]) ++ (bQ (List.map aC.enc p0.Items) (some (w6 (p1 + 1))) none))⟩]))) none) none) none) none) none) none) none) (fun _ => by kernel_rfl) ?_
 unfold l9
 repeat' first | (with_reducible first | refine lG ?_ ?_ | refine aI ?_) | rfl | (simp only [EN]; done) | (simp only [EN, hJ] <;> rfl)
theorem aeP (p0 : aG) (p1 : Int) : Le (Option.map bH (nO p0 p1)) (aW SE 133 [aG.av p0, dIq p1] [] []) := by
 refine aZ (t := fun κ =>
  cond (iB p1 (lM aC.enc p0.Items : Int)) (
  κ.t 129 fK [aK.av p0.Pool, dIq (aL (cE aC.enc p0.Items p1 0))] [] [] fun r0 =>
  cond (decide (0 ≤ p1) && decide (p1 ≤ ((lM aC.enc p0.Items) : Int))) (
   cond (decide ((lM aC.enc [] + List.length (bQ (List.map aC.enc p0.Items) none (some p1))) * 128 ≤ 140737488355328)) (
   cond (decide (0 ≤ (w6 (p1 + 1))) && decide ((w6 (p1 + 1)) ≤ ((lM aC.enc p0.Items) : Int))) (
    cond (decide ((List.length ((List.map aC.enc []) ++ (bQ (List.map aC.enc p0.Items) none (some p1))) + List.length (bQ (List.map aC.enc p0.Items) (some (w6 (p1 + 1))) none)) * 128 ≤ 140737488355328)) (
    (some (.ret [.agg [dIq p0.Limit, .row 0, .row 1, dIq r0.1.Last]] [] [⟨aC.ks, 139, 128, (((List.map aC.enc []) ++ (bQ (List.map aC.enc p0.Items) none (some p1))) ++ (bQ (List.map aC.enc p0.Items) (some (w6 (p1 + 1))) none))⟩, ⟨[.int .i64], 3, 8, (List.map eI r0.1.Used)⟩]))) none) none) none) none) none) (fun _ => by kernel_rfl) ?_
 unfold nO
 repeat' first | (with_reducible first | refine lQ eX aa5 ?_ fun _ _ => ?_ | refine lG ?_ ?_ | exact vR _ _ | refine aI ?_) | rfl | (simp only [EN]; done) | (simp only [EN]; exact vR _ _) | (simp only [EN, bH] <;> rfl)
noncomputable def aoi (L : bP) (κ : Tau) (a0 : Int) (a1 a2 a3 a4 : List D) : Res := L SE (K κ) κ.Λ κ.J 93 0 [1, 1, 1, 1, 1, 1, 0, 0] (bE [(2, .ptr 1000000000 0), (3, .ptr 1000000001 0), (4, .ptr 1000000002 0), (7, dIq a0), (8, .ptr 1000000003 0)] [⟨31, (List.map AV.d a1)⟩, ⟨67, (List.map AV.d a2)⟩, ⟨31, (List.map AV.d a3)⟩, ⟨139, (List.map AV.d a4)⟩] [] [] [])
noncomputable def amU (L : bP) (κ : Tau) (a0 a1 a2 : List D) : Res := L SE (K κ) κ.Λ κ.J 93 0 [1, 1, 0] (bE [(2, .ptr 1000000000 0), (3, .ptr 1000000001 0), (4, .ptr 1000000002 0)] [⟨31, (List.map AV.d a0)⟩, ⟨67, (List.map AV.d a1)⟩, ⟨31, (List.map AV.d a2)⟩] [] [] [])
theorem vX (x7 : Int) (b0 : aG) (b1 : aA) (b2 : aG) (b3 : aC) : Le (Option.map cA (iO x7 b0 b1 b2 b3)) (aoi lab (kF 93) x7 (aG.enc b0) (aA.enc b1) (aG.enc b2) (aC.enc b3)) := by
 refine bF (t := fun κ =>
  cond (b1.Kind == 5) (
  κ.t 132 hJ [aG.av b0, dIq x7] [] [] fun r2 =>
  κ.t 131 bI [dIq b3.ID] [] [] fun r3 =>
  (some (cA (r2, [r3], 0)))) (
  κ.t 133 bH [aG.av b0, dIq x7] [] [] fun r4 =>
  (some (cA (r4, [], 0))))) (fun _ => by kernel_rfl) ?_
 unfold iO
 refine lC ?_ ?_
 ·refine lQ eX adA (adI _ _) fun r2 _ => ?_
  refine lQ eX gY (oQ _) fun r3 _ => ?_
  exact aI rfl
 ·refine lQ eX iF (aeP _ _) fun r4 _ => ?_
  exact aI rfl
theorem qV (b0 : aG) (b1 : aA) (b2 : aG) : Le (Option.map cA (g6 b0 b1 b2)) (amU lab (kF 93) (aG.enc b0) (aA.enc b1) (aG.enc b2)) := by
 refine bF (t := fun κ =>
  κ.t 130 aH [.d (.sl aC.ks (List.map aC.enc b0.Items)), dIq b1.ID] [] [] fun r0 =>
  cond (decide (r0 < 0)) (
  cond (b1.Kind == 5) (
   κ.t 131 bI [dIq b1.ID] [] [] fun r1 =>
   (some (cA (b0, [r1], 0)))) (
  (some (cA (b0, [], 0))))) (
  cond (iB r0 (lM aC.enc b0.Items : Int)) (
  cond ((b1.Kind == 4) != ((aL (cE aC.enc b0.Items r0 4)) == 1)) (
   (some (cA (((aG.mk 0 [] (aK.mk [] 0)), [], 23))))) (
  cond (b1.Kind == 7) (
   cond ((aL (cE aC.enc b0.Items r0 1)) == 1) (
   (some (cA (((aG.mk 0 [] (aK.mk [] 0)), [], 23))))) (
   aoi lab κ r0 (aG.enc b0) (aA.enc b1) (aG.enc b2) [D.int .i64 (aL (cE aC.enc b0.Items r0 0)), D.int .i64 (aL (cE aC.enc b0.Items r0 1)), D.str (aU (cE aC.enc b0.Items r0 2)), D.str (aU (cE aC.enc b0.Items r0 3)), D.int .i64 (aL (cE aC.enc b0.Items r0 4)), D.bool (bA (cE aC.enc b0.Items r0 5)), D.int .i64 (aL (cE aC.enc b0.Items r0 6)), D.int .i64 (aL (cE aC.enc b0.Items r0 7)), D.str (aU (cE aC.enc b0.Items r0 8)), D.int .i64 (aL (cE aC.enc b0.Items r0 9)), D.sl aE.ks (dSl (cE aC.enc b0.Items r0 10))])) (
  aoi lab κ r0 (aG.enc b0) (aA.enc b1) (aG.enc b2) [D.int .i64 (aL (cE aC.enc b0.Items r0 0)), D.int .i64 (aL (cE aC.enc b0.Items r0 1)), D.str (aU (cE aC.enc b0.Items r0 2)), D.str (aU (cE aC.enc b0.Items r0 3)), D.int .i64 (aL (cE aC.enc b0.Items r0 4)), D.bool (bA (cE aC.enc b0.Items r0 5)), D.int .i64 (aL (cE aC.enc b0.Items r0 6)), D.int .i64 (aL (cE aC.enc b0.Items r0 7)), D.str (aU (cE aC.enc b0.Items r0 8)), D.int .i64 (aL (cE aC.enc b0.Items r0 9)), D.sl aE.ks (dSl (cE aC.enc b0.Items r0 10))]))) none)) (fun _ => by kernel_rfl) ?_
 unfold g6
 repeat' first | (with_reducible first | refine lC ?_ ?_ | refine lQ eX aX ?_ fun _ _ => ?_ | refine lQ eX gY ?_ fun _ _ => ?_ | refine lG ?_ ?_ | refine lD ?_ ?_ ?_ | exact aiQ _ _ | exact oQ _ | exact vX _ _ _ _ _ | refine aI ?_) | rfl | (simp only [EN]; done) | (simp only [EN]; exact vX _ _ _ _ _) | (simp only [EN, cA] <;> rfl)
theorem afv (p0 : aG) (p1 : aA) : Le (Option.map cA (eN p0 p1)) (aW SE 93 [aG.av p0, aA.av p1] [] []) := by
 refine aZ (t := fun κ =>
  cond (p1.Kind != 4) (
  cond (p1.Kind != 5) (
   cond (p1.Kind != 7) (
   (some (cA (((aG.mk 0 [] (aK.mk [] 0)), [], 10))))) (
   amU lab κ (aG.enc p0) (aA.enc p1) [D.int .i64 0, D.sl aC.ks (List.map aC.enc []), D.sl [.int .i64] (List.map eI []), D.int .i64 0])) (
  amU lab κ (aG.enc p0) (aA.enc p1) [D.int .i64 0, D.sl aC.ks (List.map aC.enc []), D.sl [.int .i64] (List.map eI []), D.int .i64 0])) (
  amU lab κ (aG.enc p0) (aA.enc p1) [D.int .i64 0, D.sl aC.ks (List.map aC.enc []), D.sl [.int .i64] (List.map eI []), D.int .i64 0])) (fun _ => by kernel_rfl) ?_
 unfold eN
 refine lC ?_ ?_
 ·refine lC ?_ ?_
  ·refine lC ?_ ?_
   ·exact aI rfl
   ·(try simp only [EN]); exact qV p0 p1 ((aG.mk 0 [] (aK.mk [] 0)))
  ·(try simp only [EN]); exact qV p0 p1 ((aG.mk 0 [] (aK.mk [] 0)))
 ·(try simp only [EN]); exact qV p0 p1 ((aG.mk 0 [] (aK.mk [] 0)))
noncomputable def ac1 (L : bP) (κ : Tau) (a0 a1 a2 : List D) : Res := L SE (K κ) κ.Λ κ.J 49 0 [1, 1, 1, 1, 1, 1, 0, 0] (bE [(2, .ptr 1000000000 0), (3, .ptr 1000000001 0), (4, .ptr 1000000002 0)] [⟨36, (List.map AV.d a0)⟩, ⟨67, (List.map AV.d a1)⟩, ⟨36, (List.map AV.d a2)⟩] [] [] [])
theorem gJ (b0 : brokerref51_State) (b1 : aA) (b2 : brokerref51_State) : Le (Option.map cG (dK b0 b1 b2)) (ac1 lab (kF 49) (brokerref51_State.enc b0) (aA.enc b1) (brokerref51_State.enc b2)) := by
 refine bF (t := fun κ =>
  cond (b1.Kind == 2) (
  κ.t 90 bL [brokerref51_State.av b0, aA.av b1] [] [] fun r2 =>
  (some (.ret [brokerref51_State.av r2.1, .row 0, .row 1, dIq 0] [] [⟨aA.ks, 67, 416, (List.map aA.enc r2.2)⟩, ⟨aB.ks, 54, 112, []⟩]))) (
  cond (b1.Kind == 3) (
  κ.t 91 cR [aJ.av b0.In, aA.av b1] [] [] fun r3 =>
  cond (r3.2.2.2 != 0) (
   (some (.ret [brokerref51_State.av b0, .row 0, .row 1, dIq r3.2.2.2] [] [⟨aA.ks, 67, 416, []⟩, ⟨aB.ks, 54, 112, []⟩]))) (
  cond r3.2.1 (
   (some (.ret [brokerref51_State.av (brokerref51_State.mk b0.Name b0.Limit b0.Phase b0.Out r3.1 b0.Waiting b0.Seq b0.Last), .row 0, .row 1, dIq 0] [] [⟨aA.ks, 67, 416, (List.map aA.enc r3.2.2.1)⟩, ⟨aB.ks, 54, 112, (List.map aB.enc [b1.Message])⟩]))) (
  (some (.ret [brokerref51_State.av (brokerref51_State.mk b0.Name b0.Limit b0.Phase b0.Out r3.1 b0.Waiting b0.Seq b0.Last), .row 0, .row 1, dIq 0] [] [⟨aA.ks, 67, 416, (List.map aA.enc r3.2.2.1)⟩, ⟨aB.ks, 54, 112, []⟩]))))) (
  cond (b1.Kind == 6) (
  κ.t 92 bY [aJ.av b0.In, aA.av b1] [] [] fun r4 =>
  cond (r4.2.2 != 0) (
   (some (.ret [brokerref51_State.av b0, .row 0, .row 1, dIq r4.2.2] [] [⟨aA.ks, 67, 416, []⟩, ⟨aB.ks, 54, 112, []⟩]))) (
  (some (.ret [brokerref51_State.av (brokerref51_State.mk b0.Name b0.Limit b0.Phase b0.Out r4.1 b0.Waiting b0.Seq b0.Last), .row 0, .row 1, dIq 0] [] [⟨aA.ks, 67, 416, (List.map aA.enc [r4.2.1])⟩, ⟨aB.ks, 54, 112, []⟩])))) (
  cond (b1.Kind == 4) (
  κ.t 93 cA [aG.av b0.Out, aA.av b1] [] [] fun r5 =>
  cond (r5.2.2 != 0) (
   (some (.ret [brokerref51_State.av b0, .row 0, .row 1, dIq r5.2.2] [] [⟨aA.ks, 67, 416, []⟩, ⟨aB.ks, 54, 112, []⟩]))) (
  κ.t 86 bL [brokerref51_State.av (brokerref51_State.mk b0.Name b0.Limit b0.Phase r5.1 b0.In b0.Waiting b0.Seq b0.Last)] [] [] fun r6 =>
  cond (decide (lM aA.enc r5.2.1 * 416 ≤ 140737488355328)) (
   cond (decide ((lM aA.enc r5.2.1 + lM aA.enc r6.2) * 416 ≤ 140737488355328)) (
   (some (.ret [brokerref51_State.av r6.1, .row 0, .row 1, dIq 0] [] [⟨aA.ks, 67, 416, ((List.map aA.enc r5.2.1) ++ (List.map aA.enc r6.2))⟩, ⟨aB.ks, 54, 112, []⟩]))) none) none)) (
  cond (b1.Kind == 5) (
  κ.t 93 cA [aG.av b0.Out, aA.av b1] [] [] fun r7 =>
  cond (r7.2.2 != 0) (
   (some (.ret [brokerref51_State.av b0, .row 0, .row 1, dIq r7.2.2] [] [⟨aA.ks, 67, 416, []⟩, ⟨aB.ks, 54, 112, []⟩]))) (
  κ.t 86 bL [brokerref51_State.av (brokerref51_State.mk b0.Name b0.Limit b0.Phase r7.1 b0.In b0.Waiting b0.Seq b0.Last)] [] [] fun r8 =>
  cond (decide (lM aA.enc r7.2.1 * 416 ≤ 140737488355328)) (
   cond (decide ((lM aA.enc r7.2.1 + lM aA.enc r8.2) * 416 ≤ 140737488355328)) (
   (some (.ret [brokerref51_State.av r8.1, .row 0, .row 1, dIq 0] [] [⟨aA.ks, 67, 416, ((List.map aA.enc r7.2.1) ++ (List.map aA.enc r8.2))⟩, ⟨aB.ks, 54, 112, []⟩]))) none) none)) (
  cond (b1.Kind == 7) (
  κ.t 93 cA [aG.av b0.Out, aA.av b1] [] [] fun r9 =>
  cond (r9.2.2 != 0) (
   (some (.ret [brokerref51_State.av b0, .row 0, .row 1, dIq r9.2.2] [] [⟨aA.ks, 67, 416, []⟩, ⟨aB.ks, 54, 112, []⟩]))) (
  κ.t 86 bL [brokerref51_State.av (brokerref51_State.mk b0.Name b0.Limit b0.Phase r9.1 b0.In b0.Waiting b0.Seq b0.Last)] [] [] fun r10 =>
  cond (decide (lM aA.enc r9.2.1 * 416 ≤ 140737488355328)) (
   cond (decide ((lM aA.enc r9.2.1 + lM aA.enc r10.2) * 416 ≤ 140737488355328)) (
   (some (.ret [brokerref51_State.av r10.1, .row 0, .row 1, dIq 0] [] [⟨aA.ks, 67, 416, ((List.map aA.enc r9.2.1) ++ (List.map aA.enc r10.2))⟩, ⟨aB.ks, 54, 112, []⟩]))) none) none)) (
  cond (b1.Kind == 14) (
  (some (.ret [brokerref51_State.av (brokerref51_State.mk b0.Name b0.Limit 0 b0.Out b0.In b0.Waiting b0.Seq b0.Last), .row 0, .row 1, dIq 0] [] [⟨aA.ks, 67, 416, []⟩, ⟨aB.ks, 54, 112, []⟩]))) (
  (some (.ret [brokerref51_State.av b0, .row 0, .row 1, dIq 0] [] [⟨aA.ks, 67, 416, []⟩, ⟨aB.ks, 54, 112, []⟩])))))))))) (fun _ => by kernel_rfl) ?_
 unfold dK
 repeat' first | (with_reducible first | refine lC ?_ ?_ | refine lQ eX pY ?_ fun _ _ => ?_ | refine lQ eX aes ?_ fun _ _ => ?_ | refine lQ eX aaT ?_ fun _ _ => ?_ | refine lQ eX aeF ?_ fun _ _ => ?_ | refine lQ eX pY ?_ fun _ _ => ?_ | refine lG ?_ ?_ | exact acU _ _ | exact aff _ _ | exact ae5 _ _ | exact afv _ _ | exact rH _ | refine aI ?_) | rfl | (simp only [EN]; done) | (simp only [EN, cG] <;> rfl)
theorem aeV (p0 : brokerref51_State) (p1 : aA) : Le (Option.map cG (nN p0 p1)) (aW SE 49 [brokerref51_State.av p0, aA.av p1] [] []) := by
 refine aZ (t := fun κ =>
  cond (p0.Phase == 0) (
  (some (cG (p0, [], [], 9)))) (
  κ.t 85 aH [aA.av p1] [] [] fun r0 =>
  cond (r0 != 0) (
  (some (cG (p0, [], [], r0)))) (
  κ.t 89 aD [dIq p1.Kind] [] [] fun r1 =>
  cond (!r1) (
  (some (cG (p0, [], [], 23)))) (
  cond (p0.Phase == 1) (
  cond (p1.Kind != 2) (
   cond (p1.Kind != 14) (
   (some (cG (p0, [], [], 23)))) (
   cond (p0.Phase == 2) (
   cond (p1.Kind == 2) (
    (some (cG (p0, [], [], 23)))) (
   ac1 lab κ (brokerref51_State.enc p0) (aA.enc p1) [D.str [], D.int .i64 0, D.int .i64 0, D.int .i64 0, D.sl aC.ks (List.map aC.enc []), D.sl [.int .i64] (List.map eI []), D.int .i64 0, D.sl [.int .i64] (List.map eI []), D.sl aB.ks (List.map aB.enc []), D.int .i64 0, D.int .i64 0])) (
   ac1 lab κ (brokerref51_State.enc p0) (aA.enc p1) [D.str [], D.int .i64 0, D.int .i64 0, D.int .i64 0, D.sl aC.ks (List.map aC.enc []), D.sl [.int .i64] (List.map eI []), D.int .i64 0, D.sl [.int .i64] (List.map eI []), D.sl aB.ks (List.map aB.enc []), D.int .i64 0, D.int .i64 0]))) (
  cond (p0.Phase == 2) (
   cond (p1.Kind == 2) (
   (some (cG (p0, [], [], 23)))) (
   ac1 lab κ (brokerref51_State.enc p0) (aA.enc p1) [D.str [], D.int .i64 0, D.int .i64 0, D.int .i64 0, D.sl aC.ks (List.map aC.enc []), D.sl [.int .i64] (List.map eI []), D.int .i64 0, D.sl [.int .i64] (List.map eI []), D.sl aB.ks (List.map aB.enc []), D.int .i64 0, D.int .i64 0])) (
  ac1 lab κ (brokerref51_State.enc p0) (aA.enc p1) [D.str [], D.int .i64 0, D.int .i64 0, D.int .i64 0, D.sl aC.ks (List.map aC.enc []), D.sl [.int .i64] (List.map eI []), D.int .i64 0, D.sl [.int .i64] (List.map eI []), D.sl aB.ks (List.map aB.enc []), D.int .i64 0, D.int .i64 0]))) (
  cond (p0.Phase == 2) (
  cond (p1.Kind == 2) (
   (some (cG (p0, [], [], 23)))) (
  ac1 lab κ (brokerref51_State.enc p0) (aA.enc p1) [D.str [], D.int .i64 0, D.int .i64 0, D.int .i64 0, D.sl aC.ks (List.map aC.enc []), D.sl [.int .i64] (List.map eI []), D.int .i64 0, D.sl [.int .i64] (List.map eI []), D.sl aB.ks (List.map aB.enc []), D.int .i64 0, D.int .i64 0])) (
  ac1 lab κ (brokerref51_State.enc p0) (aA.enc p1) [D.str [], D.int .i64 0, D.int .i64 0, D.int .i64 0, D.sl aC.ks (List.map aC.enc []), D.sl [.int .i64] (List.map eI []), D.int .i64 0, D.sl [.int .i64] (List.map eI []), D.sl aB.ks (List.map aB.enc []), D.int .i64 0, D.int .i64 0])))))) (fun _ => by kernel_rfl) ?_
 unfold nN
 refine lC ?_ ?_
 ·exact aI rfl
 ·refine lQ eX aX (mM _) fun r0 _ => ?_
  refine lC ?_ ?_
  ·exact aI rfl
  ·refine lQ eX aP (afB _) fun r1 _ => ?_
   refine lC ?_ ?_
   ·exact aI rfl
   ·refine lC ?_ ?_
    ·refine lC ?_ ?_
     ·refine lC ?_ ?_
      ·exact aI rfl
      ·refine lC ?_ ?_
       ·refine lC ?_ ?_
        ·exact aI rfl
        ·(try simp only [EN]); exact gJ p0 p1 ((brokerref51_State.mk [] 0 0 (aG.mk 0 [] (aK.mk [] 0)) (aJ.mk []) [] 0 0))
       ·(try simp only [EN]); exact gJ p0 p1 ((brokerref51_State.mk [] 0 0 (aG.mk 0 [] (aK.mk [] 0)) (aJ.mk []) [] 0 0))
     ·refine lC ?_ ?_
      ·refine lC ?_ ?_
       ·exact aI rfl
       ·(try simp only [EN]); exact gJ p0 p1 ((brokerref51_State.mk [] 0 0 (aG.mk 0 [] (aK.mk [] 0)) (aJ.mk []) [] 0 0))
      ·(try simp only [EN]); exact gJ p0 p1 ((brokerref51_State.mk [] 0 0 (aG.mk 0 [] (aK.mk [] 0)) (aJ.mk []) [] 0 0))
    ·refine lC ?_ ?_
     ·refine lC ?_ ?_
      ·exact aI rfl
      ·(try simp only [EN]); exact gJ p0 p1 ((brokerref51_State.mk [] 0 0 (aG.mk 0 [] (aK.mk [] 0)) (aJ.mk []) [] 0 0))
     ·(try simp only [EN]); exact gJ p0 p1 ((brokerref51_State.mk [] 0 0 (aG.mk 0 [] (aK.mk [] 0)) (aJ.mk []) [] 0 0))
noncomputable def abM (L : bP) (κ : Tau) (a0 : List (List D)) (a1 a2 : Int) (a3 a4 a5 : List D) (a6 a7 a8 a9 : List (List D)) : Res := L SE (K κ) κ.Λ κ.J 24 1 [1, 1, 1, 1, 1, 1, 0, 0] (bE [(3, .d (.sl aA.ks a0)), (5, .ptr 1000000000 0), (8, .ptr 1000000001 0), (11, .row 3011), (12, .row 3012), (13, .row 3013), (14, .row 3014), (15, dIq a1), (16, dIq a2)] [⟨36, (List.map AV.d a3)⟩, ⟨36, (List.map AV.d a4)⟩] [⟨83, (List.map AV.d a5)⟩] [] [(3011, ⟨aA.ks, 67, 416, a6⟩), (3012, ⟨aA.ks, 67, 416, a7⟩), (3013, ⟨aB.ks, 54, 112, a8⟩), (3014, ⟨aB.ks, 54, 112, a9⟩)])
noncomputable def aj6 (L : bP) (κ : Tau) (a0 : List (List D)) (a1 a2 a3 a4 : List D) : Res := L SE (K κ) κ.Λ κ.J 24 1 [1, 1, 1, 1, 1, 0, 1, 0, 1, 1, 1, 1, 1, 1, 1, 1, 1, 0, 1, 1, 0] (bE [(0, .ptr 2000000000 0), (3, .d (.sl aA.ks a0)), (5, .ptr 1000000000 0), (8, .ptr 1000000001 0), (17, .ptr 1000000002 0)] [⟨36, (List.map AV.d a1)⟩, ⟨36, (List.map AV.d a2)⟩, ⟨67, (List.map AV.d a3)⟩] [⟨83, (List.map AV.d a4)⟩] [] [])
noncomputable def aox (L : bP) (κ : Tau) (a0 : List (List D)) (a1 a2 a3 a4 a5 : List D) : Res := L SE (K κ) κ.Λ κ.J 24 1 [1, 1, 1, 1, 1, 0, 1, 0, 1, 1, 1, 1, 1, 1, 1, 1, 1, 0, 1, 0, 1, 0, 1] (bE [(0, .ptr 2000000000 0), (3, .d (.sl aA.ks a0)), (5, .ptr 1000000000 0), (6, .ptr 1000000001 0), (8, .ptr 1000000002 0), (17, .ptr 1000000003 0)] [⟨36, (List.map AV.d a1)⟩, ⟨77, (List.map AV.d a2)⟩, ⟨36, (List.map AV.d a3)⟩, ⟨67, (List.map AV.d a4)⟩] [⟨83, (List.map AV.d a5)⟩] [] [])
theorem gH (x3 : List aA) (x15 x16 : Int) (b0 b1 : brokerref51_State) (q0 : client_Client) (w3011 w3012 : List aA) (w3013 w3014 : List aB) : Le (Option.map bX (dH x3 x15 x16 b0 b1 q0 w3011 w3012 w3013 w3014)) (abM lab (kF 24) (List.map aA.enc x3) x15 x16 (brokerref51_State.enc b0) (brokerref51_State.enc b1) (client_Client.enc q0) (List.map aA.enc w3011) (List.map aA.enc w3012) (List.map aB.enc w3013) (List.map aB.enc w3014)) := by
 refine bF (t := fun κ =>
  cond ((lM aA.enc w3012 : Int) == 0) (
  cond (x15 == x16) (
   cond ((lM aA.enc w3011 : Int) == 0) (
   κ.t 51 aD [.d (.sl aB.ks (List.map aB.enc w3013)), .d (.sl aB.ks (List.map aB.enc w3014))] [] [] fun r10 =>
   (some (bX (b0, x3, r10, q0)))) (
   (some (bX (b0, x3, false, q0))))) (
  (some (bX (b0, x3, false, q0))))) (
  cond (x15 == x16) (
  κ.t 52 aD [.d (.sl aA.ks (List.map aA.enc w3011)), .d (.sl aA.ks (List.map aA.enc w3012))] [] [] fun r11 =>
  cond r11 (
   κ.t 51 aD [.d (.sl aB.ks (List.map aB.enc w3013)), .d (.sl aB.ks (List.map aB.enc w3014))] [] [] fun r12 =>
   (some (bX (b0, w3012, r12, q0)))) (
  (some (bX (b0, w3012, false, q0))))) (
  (some (bX (b0, w3012, false, q0)))))) (fun _ => by kernel_rfl) ?_
 unfold dH
 repeat' first | (with_reducible first | refine lC ?_ ?_ | refine lQ eX aP ?_ fun _ _ => ?_ | refine lQ eX aP ?_ fun _ _ => ?_ | refine lD ?_ ?_ ?_ | exact abA _ _ | exact abV _ _ | refine aI ?_) | rfl | (simp only [EN]; done) | (simp only [EN, bX] <;> rfl)
theorem rL (x3 : List aA) (b0 b1 : brokerref51_State) (b2 : aA) (q0 : client_Client) : Le (Option.map bX (gM x3 b0 b1 b2 q0)) (aj6 lab (kF 24) (List.map aA.enc x3) (brokerref51_State.enc b0) (brokerref51_State.enc b1) (aA.enc b2) (client_Client.enc q0)) := by
 refine bF (t := fun κ =>
  κ.t 21 aO [.ptr 2000000000 0, aA.av b2] [⟨83, (client_Client.avs q0)⟩] [] fun r14 =>
  κ.t 49 cG [brokerref51_State.av b0, aA.av b2] [] [] fun r15 =>
  abM lab κ (List.map aA.enc x3) r14.2.2.1 r15.2.2.2 (brokerref51_State.enc r15.1) (brokerref51_State.enc b1) (client_Client.enc r14.2.2.2) (List.map aA.enc r14.1) (List.map aA.enc r15.2.1) (List.map aB.enc r14.2.1) (List.map aB.enc r15.2.2.1)) (fun _ => by kernel_rfl) ?_
 unfold gM
 refine lQ eX cQ (fX _ _) fun r14 _ => ?_
 refine lQ eX adY (aeV _ _) fun r15 _ => ?_
 exact gH x3 r14.2.2.1 r15.2.2.2 r15.1 b1 r14.2.2.2 r14.1 r15.2.1 r14.2.1 r15.2.2.1
theorem xI (x3 : List aA) (b0 : brokerref51_State) (b1 : aF) (b2 : brokerref51_State) (b3 : aA) (q0 : client_Client) : Le (Option.map bX (jX x3 b0 b1 b2 b3 q0)) (aox lab (kF 24) (List.map aA.enc x3) (brokerref51_State.enc b0) (aF.enc b1) (brokerref51_State.enc b2) (aA.enc b3) (client_Client.enc q0)) := by
 refine bF (t := fun κ =>
  cond (iB b1.N (lM aA.enc x3 : Int)) (
  κ.t 48 bI [.agg [dIq (aL (cE aA.enc x3 b1.N 0)), dIq (aL (cE aA.enc x3 b1.N 1)), dBq (bA (cE aA.enc x3 b1.N 2)), dSq (aU (cE aA.enc x3 b1.N 3)), dSq (aU (cE aA.enc x3 b1.N 4)), dIq (aL (cE aA.enc x3 b1.N 5)), dBq (bA (cE aA.enc x3 b1.N 6)), dIq (aL (cE aA.enc x3 b1.N 7)), dIq (aL (cE aA.enc x3 b1.N 8)), dSq (aU (cE aA.enc x3 b1.N 9)), dIq (aL (cE aA.enc x3 b1.N 10)), .d (.sl aE.ks (dSl (cE aA.enc x3 b1.N 11))), dSq (aU (cE aA.enc x3 b1.N 12)), dSq (aU (cE aA.enc x3 b1.N 13)), dBq (bA (cE aA.enc x3 b1.N 14)), dIq (aL (cE aA.enc x3 b1.N 15)), dIq (aL (cE aA.enc x3 b1.N 16)), dIq (aL (cE aA.enc x3 b1.N 17)), dBq (bA (cE aA.enc x3 b1.N 18)), dIq (aL (cE aA.enc x3 b1.N 19)), dSq (aU (cE aA.enc x3 b1.N 20)), dSq (aU (cE aA.enc x3 b1.N 21)), dIq (aL (cE aA.enc x3 b1.N 22)), dBq (bA (cE aA.enc x3 b1.N 23)), dIq (aL (cE aA.enc x3 b1.N 24)), dIq (aL (cE aA.enc x3 b1.N 25)), dSq (aU (cE aA.enc x3 b1.N 26)), dIq (aL (cE aA.enc x3 b1.N 27)), .d (.sl aE.ks (dSl (cE aA.enc x3 b1.N 28))), dBq (bA (cE aA.enc x3 b1.N 29)), dIq (aL (cE aA.enc x3 b1.N 30)), .d (.sl aN.ks (dSl (cE aA.enc x3 b1.N 31))), .d (.sl [.str] (dSl (cE aA.enc x3 b1.N 32))), .d (.sl [.int .i64] (dSl (cE aA.enc x3 b1.N 33)))], dBq b1.Flag] [] [] fun r13 =>
  aj6 lab κ (List.map aA.enc x3) (brokerref51_State.enc b0) (brokerref51_State.enc b2) (aA.enc r13) (client_Client.enc q0)) none) (fun _ => by kernel_rfl) ?_
 unfold jX
 refine lGe ?_
 refine lQ eX gY (by (try simp only [EN]); exact agf (List.getD x3 (Int.toNat b1.N) default) b1.Flag) fun r13 _ => ?_
 exact rL x3 b0 b2 r13 q0
theorem aaS (p0 : client_Client) (p1 : brokerref51_State) (p2 : aF) (p3 : List aA) : Le (Option.map bX (qX p0 p1 p2 p3)) (aW SE 24 [.ptr 2000000000 0, brokerref51_State.av p1, aF.av p2, .d (.sl aA.ks (List.map aA.enc p3))] [⟨83, (client_Client.avs p0)⟩] []) := by
 refine aZ (t := fun κ =>
  cond (p2.Kind == 1) (
  κ.t 20 aV [.ptr 2000000000 0, dBq p2.Flag, aT.av p2.Will] [⟨83, (client_Client.avs p0)⟩] [] fun r0 =>
  κ.t 42 bB [brokerref51_State.av p1, dBq p2.Flag, aT.av p2.Will] [] [] fun r1 =>
  abM lab κ (List.map aA.enc p3) r0.2.1 r1.2.2 (brokerref51_State.enc r1.1) [D.str [], D.int .i64 0, D.int .i64 0, D.int .i64 0, D.sl aC.ks (List.map aC.enc []), D.sl [.int .i64] (List.map eI []), D.int .i64 0, D.sl [.int .i64] (List.map eI []), D.sl aB.ks (List.map aB.enc []), D.int .i64 0, D.int .i64 0] (client_Client.enc r0.2.2) (List.map aA.enc r0.1) (List.map aA.enc r1.2.1) (List.map aB.enc []) (List.map aB.enc [])) (
  cond (p2.Kind == 2) (
  κ.t 13 aV [.ptr 2000000000 0, aB.av p2.Message] [⟨83, (client_Client.avs p0)⟩] [] fun r2 =>
  κ.t 43 bB [brokerref51_State.av p1, aB.av p2.Message] [] [] fun r3 =>
  abM lab κ (List.map aA.enc p3) r2.2.1 r3.2.2 (brokerref51_State.enc r3.1) [D.str [], D.int .i64 0, D.int .i64 0, D.int .i64 0, D.sl aC.ks (List.map aC.enc []), D.sl [.int .i64] (List.map eI []), D.int .i64 0, D.sl [.int .i64] (List.map eI []), D.sl aB.ks (List.map aB.enc []), D.int .i64 0, D.int .i64 0] (client_Client.enc r2.2.2) (List.map aA.enc r2.1) (List.map aA.enc r3.2.1) (List.map aB.enc []) (List.map aB.enc [])) (
  cond (p2.Kind == 3) (
  κ.t 44 aV [.ptr 2000000000 0, aN.av p2.Sub] [⟨83, (client_Client.avs p0)⟩] [] fun r4 =>
  κ.t 45 bB [brokerref51_State.av p1, aN.av p2.Sub] [] [] fun r5 =>
  abM lab κ (List.map aA.enc p3) r4.2.1 r5.2.2 (brokerref51_State.enc r5.1) [D.str [], D.int .i64 0, D.int .i64 0, D.int .i64 0, D.sl aC.ks (List.map aC.enc []), D.sl [.int .i64] (List.map eI []), D.int .i64 0, D.sl [.int .i64] (List.map eI []), D.sl aB.ks (List.map aB.enc []), D.int .i64 0, D.int .i64 0] (client_Client.enc r4.2.2) (List.map aA.enc r4.1) (List.map aA.enc r5.2.1) (List.map aB.enc []) (List.map aB.enc [])) (
  cond (p2.Kind == 4) (
  κ.t 46 aV [.ptr 2000000000 0, dSq p2.Sub.Filter] [⟨83, (client_Client.avs p0)⟩] [] fun r6 =>
  κ.t 47 bB [brokerref51_State.av p1, dSq p2.Sub.Filter] [] [] fun r7 =>
  abM lab κ (List.map aA.enc p3) r6.2.1 r7.2.2 (brokerref51_State.enc r7.1) [D.str [], D.int .i64 0, D.int .i64 0, D.int .i64 0, D.sl aC.ks (List.map aC.enc []), D.sl [.int .i64] (List.map eI []), D.int .i64 0, D.sl [.int .i64] (List.map eI []), D.sl aB.ks (List.map aB.enc []), D.int .i64 0, D.int .i64 0] (client_Client.enc r6.2.2) (List.map aA.enc r6.1) (List.map aA.enc r7.2.1) (List.map aB.enc []) (List.map aB.enc [])) (
  cond (p2.Kind == 5) (
  cond (p2.Kind == 7) (
   cond (decide (p2.N < 0)) (
   (some (bX (p1, p3, true, p0)))) (
   cond (decide (p2.N ≥ (lM aA.enc p3 : Int))) (
   (some (bX (p1, p3, true, p0)))) (
   aox lab κ (List.map aA.enc p3) (brokerref51_State.enc p1) (aF.enc p2) [D.str [], D.int .i64 0, D.int .i64 0, D.int .i64 0, D.sl aC.ks (List.map aC.enc []), D.sl [.int .i64] (List.map eI []), D.int .i64 0, D.sl [.int .i64] (List.map eI []), D.sl aB.ks (List.map aB.enc []), D.int .i64 0, D.int .i64 0] (aA.enc p2.Packet) (client_Client.enc p0)))) (
  aj6 lab κ (List.map aA.enc p3) (brokerref51_State.enc p1) [D.str [], D.int .i64 0, D.int .i64 0, D.int .i64 0, D.sl aC.ks (List.map aC.enc []), D.sl [.int .i64] (List.map eI []), D.int .i64 0, D.sl [.int .i64] (List.map eI []), D.sl aB.ks (List.map aB.enc []), D.int .i64 0, D.int .i64 0] (aA.enc p2.Packet) (client_Client.enc p0))) (
  cond (p2.Kind == 7) (
  cond (p2.Kind == 7) (
   cond (decide (p2.N < 0)) (
   (some (bX (p1, p3, true, p0)))) (
   cond (decide (p2.N ≥ (lM aA.enc p3 : Int))) (
   (some (bX (p1, p3, true, p0)))) (
   aox lab κ (List.map aA.enc p3) (brokerref51_State.enc p1) (aF.enc p2) [D.str [], D.int .i64 0, D.int .i64 0, D.int .i64 0, D.sl aC.ks (List.map aC.enc []), D.sl [.int .i64] (List.map eI []), D.int .i64 0, D.sl [.int .i64] (List.map eI []), D.sl aB.ks (List.map aB.enc []), D.int .i64 0, D.int .i64 0] (aA.enc p2.Packet) (client_Client.enc p0)))) (
  aj6 lab κ (List.map aA.enc p3) (brokerref51_State.enc p1) [D.str [], D.int .i64 0, D.int .i64 0, D.int .i64 0, D.sl aC.ks (List.map aC.enc []), D.sl [.int .i64] (List.map eI []), D.int .i64 0, D.sl [.int .i64] (List.map eI []), D.sl aB.ks (List.map aB.enc []), D.int .i64 0, D.int .i64 0] (aA.enc p2.Packet) (client_Client.enc p0))) (
  cond (p2.Kind == 6) (
  κ.t 19 gT [.ptr 2000000000 0] [⟨83, (client_Client.avs p0)⟩] [] fun r8 =>
  κ.t 50 mO [brokerref51_State.av p1] [] [] fun r9 =>
  abM lab κ (List.map aA.enc p3) 0 0 (brokerref51_State.enc r9) [D.str [], D.int .i64 0, D.int .i64 0, D.int .i64 0, D.sl aC.ks (List.map aC.enc []), D.sl [.int .i64] (List.map eI []), D.int .i64 0, D.sl [.int .i64] (List.map eI []), D.sl aB.ks (List.map aB.enc []), D.int .i64 0, D.int .i64 0] (client_Client.enc r8) (List.map aA.enc []) (List.map aA.enc []) (List.map aB.enc []) (List.map aB.enc [])) (
  abM lab κ (List.map aA.enc p3) 0 0 (brokerref51_State.enc p1) [D.str [], D.int .i64 0, D.int .i64 0, D.int .i64 0, D.sl aC.ks (List.map aC.enc []), D.sl [.int .i64] (List.map eI []), D.int .i64 0, D.sl [.int .i64] (List.map eI []), D.sl aB.ks (List.map aB.enc []), D.int .i64 0, D.int .i64 0] (client_Client.enc p0) (List.map aA.enc []) (List.map aA.enc []) (List.map aB.enc []) (List.map aB.enc []))))))))) (fun _ => by kernel_rfl) ?_
 unfold qX
 refine lC ?_ ?_
 ·refine lQ eX cI (oD _ _ _) fun r0 _ => ?_
  refine lQ eX iE (aeX _ _ _) fun r1 _ => ?_
  (try simp only [EN]); exact gH p3 r0.2.1 r1.2.2 r1.1 ((brokerref51_State.mk [] 0 0 (aG.mk 0 [] (aK.mk [] 0)) (aJ.mk []) [] 0 0)) r0.2.2 r0.1 r1.2.1 [] []
 ·refine lC ?_ ?_
  ·refine lQ eX cI (iC _ _) fun r2 _ => ?_
   refine lQ eX iE (aeS _ _) fun r3 _ => ?_
   (try simp only [EN]); exact gH p3 r2.2.1 r3.2.2 r3.1 ((brokerref51_State.mk [] 0 0 (aG.mk 0 [] (aK.mk [] 0)) (aJ.mk []) [] 0 0)) r2.2.2 r2.1 r3.2.1 [] []
  ·refine lC ?_ ?_
   ·refine lQ eX cI (aaP _ _) fun r4 _ => ?_
    refine lQ eX iE (adg _ _) fun r5 _ => ?_
    (try simp only [EN]); exact gH p3 r4.2.1 r5.2.2 r5.1 ((brokerref51_State.mk [] 0 0 (aG.mk 0 [] (aK.mk [] 0)) (aJ.mk []) [] 0 0)) r4.2.2 r4.1 r5.2.1 [] []
   ·refine lC ?_ ?_
    ·refine lQ eX cI (zP _ _) fun r6 _ => ?_
     refine lQ eX iE (ab1 _ _) fun r7 _ => ?_
     (try simp only [EN]); exact gH p3 r6.2.1 r7.2.2 r7.1 ((brokerref51_State.mk [] 0 0 (aG.mk 0 [] (aK.mk [] 0)) (aJ.mk []) [] 0 0)) r6.2.2 r6.1 r7.2.1 [] []
    ·refine lC ?_ ?_
     ·refine lC ?_ ?_
      ·refine lC ?_ ?_
       ·exact aI rfl
       ·refine lDe ?_ ?_
        ·exact aI rfl
        ·(try simp only [EN]); exact xI p3 p1 p2 ((brokerref51_State.mk [] 0 0 (aG.mk 0 [] (aK.mk [] 0)) (aJ.mk []) [] 0 0)) p2.Packet p0
      ·(try simp only [EN]); exact rL p3 p1 ((brokerref51_State.mk [] 0 0 (aG.mk 0 [] (aK.mk [] 0)) (aJ.mk []) [] 0 0)) p2.Packet p0
     ·refine lC ?_ ?_
      ·refine lC ?_ ?_
       ·refine lC ?_ ?_
        ·exact aI rfl
        ·refine lDe ?_ ?_
         ·exact aI rfl
         ·(try simp only [EN]); exact xI p3 p1 p2 ((brokerref51_State.mk [] 0 0 (aG.mk 0 [] (aK.mk [] 0)) (aJ.mk []) [] 0 0)) p2.Packet p0
       ·(try simp only [EN]); exact rL p3 p1 ((brokerref51_State.mk [] 0 0 (aG.mk 0 [] (aK.mk [] 0)) (aJ.mk []) [] 0 0)) p2.Packet p0
      ·refine lC ?_ ?_
       ·refine lQ eX vV (wC _) fun r8 _ => ?_
        refine lQ eX af1 (agS _) fun r9 _ => ?_
        (try simp only [EN]); exact gH p3 0 0 r9 ((brokerref51_State.mk [] 0 0 (aG.mk 0 [] (aK.mk [] 0)) (aJ.mk []) [] 0 0)) r8 [] [] [] []
       ·(try simp only [EN]); exact gH p3 0 0 p1 ((brokerref51_State.mk [] 0 0 (aG.mk 0 [] (aK.mk [] 0)) (aJ.mk []) [] 0 0)) p0 [] [] [] []
theorem agW (p0 : brokerref51_State) : Le (Option.map aH (uL p0)) (aW SE 25 [brokerref51_State.av p0] [] []) := by
 refine aZ (t := fun κ =>
  (rI (w6 ((lM aC.enc p0.Out.Items : Int) + (lM aB.enc p0.Waiting : Int))))) (fun _ => by kernel_rfl) ?_
 unfold uL
 exact aI (by first | rfl | simp only [EN, aH] <;> rfl)
noncomputable def aqu (L : bP) (κ : Tau) (a0 a1 : List (List D)) (a2 : Int) (a3 a4 : List D) : Res := L SE (K κ) κ.Λ κ.J 6 0 [1, 1, 1, 1, 1, 1, 1, 0, 1, 0] (bE [(2, .d (.sl aF.ks a0)), (7, .ptr 1000000000 0), (9, .ptr 1000000001 0), (11, .d (.sl aA.ks a1)), (12, dIq a2)] [⟨83, (List.map AV.d a3)⟩, ⟨36, (List.map AV.d a4)⟩] [] [] [])
theorem rX : ∀ (fu : Nat) (x2 : List aF) (x11 : List aA) (x12 : Int) (b0 : client_Client) (b1 : brokerref51_State), Le (Option.map aD (eM fu x2 x11 x12 b0 b1)) (aqu lab (kF 6) (List.map aF.enc x2) (List.map aA.enc x11) x12 (client_Client.enc b0) (brokerref51_State.enc b1)) := by
 intro fu
 induction fu with
 | zero => intros; exact le_none
 | succ fu ih =>
  intro x2 x11 x12 b0 b1
  refine bF (t := fun κ =>
  cond (decide (x12 < (lM aF.enc x2 : Int))) (
  cond (iB x12 (lM aF.enc x2 : Int)) (
   κ.t 24 bX [.ptr 2000000000 0, brokerref51_State.av b1, .agg [dIq (aL (cE aF.enc x2 x12 0)), dIq (aL (cE aF.enc x2 x12 1)), dBq (bA (cE aF.enc x2 x12 2)), dBq (bA (cE aF.enc x2 x12 3)), dIq (aL (cE aF.enc x2 x12 4)), dSq (aU (cE aF.enc x2 x12 5)), dSq (aU (cE aF.enc x2 x12 6)), dIq (aL (cE aF.enc x2 x12 7)), dBq (bA (cE aF.enc x2 x12 8)), dIq (aL (cE aF.enc x2 x12 9)), dIq (aL (cE aF.enc x2 x12 10)), dSq (aU (cE aF.enc x2 x12 11)), dIq (aL (cE aF.enc x2 x12 12)), .d (.sl aE.ks (dSl (cE aF.enc x2 x12 13))), dSq (aU (cE aF.enc x2 x12 14)), dIq (aL (cE aF.enc x2 x12 15)), dBq (bA (cE aF.enc x2 x12 16)), dSq (aU (cE aF.enc x2 x12 17)), dSq (aU (cE aF.enc x2 x12 18)), dIq (aL (cE aF.enc x2 x12 19)), dBq (bA (cE aF.enc x2 x12 20)), dIq (aL (cE aF.enc x2 x12 21)), dIq (aL (cE aF.enc x2 x12 22)), dSq (aU (cE aF.enc x2 x12 23)), dIq (aL (cE aF.enc x2 x12 24)), .d (.sl aE.ks (dSl (cE aF.enc x2 x12 25))), dIq (aL (cE aF.enc x2 x12 26)), dIq (aL (cE aF.enc x2 x12 27)), dBq (bA (cE aF.enc x2 x12 28)), dSq (aU (cE aF.enc x2 x12 29)), dSq (aU (cE aF.enc x2 x12 30)), dIq (aL (cE aF.enc x2 x12 31)), dBq (bA (cE aF.enc x2 x12 32)), dIq (aL (cE aF.enc x2 x12 33)), dIq (aL (cE aF.enc x2 x12 34)), dSq (aU (cE aF.enc x2 x12 35)), dIq (aL (cE aF.enc x2 x12 36)), .d (.sl aE.ks (dSl (cE aF.enc x2 x12 37))), dSq (aU (cE aF.enc x2 x12 38)), dSq (aU (cE aF.enc x2 x12 39)), dBq (bA (cE aF.enc x2 x12 40)), dIq (aL (cE aF.enc x2 x12 41)), dIq (aL (cE aF.enc x2 x12 42)), dIq (aL (cE aF.enc x2 x12 43)), dBq (bA (cE aF.enc x2 x12 44)), dIq (aL (cE aF.enc x2 x12 45)), dSq (aU (cE aF.enc x2 x12 46)), dSq (aU (cE aF.enc x2 x12 47)), dIq (aL (cE aF.enc x2 x12 48)), dBq (bA (cE aF.enc x2 x12 49)), dIq (aL (cE aF.enc x2 x12 50)), dIq (aL (cE aF.enc x2 x12 51)), dSq (aU (cE aF.enc x2 x12 52)), dIq (aL (cE aF.enc x2 x12 53)), .d (.sl aE.ks (dSl (cE aF.enc x2 x12 54))), dBq (bA (cE aF.enc x2 x12 55)), dIq (aL (cE aF.enc x2 x12 56)), .d (.sl aN.ks (dSl (cE aF.enc x2 x12 57))), .d (.sl [.str] (dSl (cE aF.enc x2 x12 58))), .d (.sl [.int .i64] (dSl (cE aF.enc x2 x12 59)))], .d (.sl aA.ks (List.map aA.enc x11))] [⟨83, (client_Client.avs b0)⟩] [] fun r11 =>
   cond (!r11.2.2.1) (
   (rB false)) (
   κ.t 10 dV [.ptr 2000000000 0] [⟨83, (client_Client.avs r11.2.2.2)⟩] [] fun r12 =>
   cond (r12.1 != (r11.1.Phase == 2)) (
   (rB false)) (
   κ.t 11 cU [.ptr 2000000000 0] [⟨83, (client_Client.avs r12.2)⟩] [] fun r13 =>
   κ.t 25 aH [brokerref51_State.av r11.1] [] [] fun r14 =>
   cond (r13.1 != r14) (
   (rB false)) (
   aqu lab κ (List.map aF.enc x2) (List.map aA.enc r11.2.1) (w6 (x12 + 1)) (client_Client.enc r13.2) (brokerref51_State.enc r11.1))))) none) (
  κ.t 9 aD [] [] [] fun r15 =>
  (rB r15))) (fun _ => by kernel_rfl) ?_
  unfold eM
  repeat' first | (with_reducible first | refine lC ?_ ?_ | refine lQ eX agw ?_ fun _ _ => ?_ | refine lQ eX kD ?_ fun _ _ => ?_ | refine lQ eX gS ?_ fun _ _ => ?_ | refine lQ eX aX ?_ fun _ _ => ?_ | refine lQ eX aP ?_ fun _ _ => ?_ | refine lG ?_ ?_ | refine lD ?_ ?_ ?_ | exact aaS _ _ _ _ | exact kW _ | exact hI _ | exact agW _ | exact ih _ _ _ _ _ | exact j0 | refine aI ?_) | rfl | (simp only [EN]; done) | (simp only [EN]; exact aaS _ _ _ _) | (simp only [EN, aD] <;> rfl)
theorem ab4 (p0 : Str) (p1 : Int) (p2 : List aF) : Le (Option.map aD (nF p0 p1 p2)) (aW SE 6 [dSq p0, dIq p1, .d (.sl aF.ks (List.map aF.enc p2))] [] []) := by
 refine aZ (t := fun κ =>
  κ.p 7 lS [dSq p0, dIq p1] [] [] (fun e1 =>
  κ.t 8 dQ [dSq p0, dIq p1] [] [] fun r3 =>
  cond (e1 != r3.2) (
   (rB false)) (
  cond (e1 != 0) (
   κ.t 9 aD [] [] [] fun r4 =>
   (rB r4)) (
  κ.t 23 aD [.d (.sl aF.ks (List.map aF.enc p2))] [] [] fun r5 =>
  cond (!r5) (
   κ.t 9 aD [] [] [] fun r6 =>
   (rB r6)) (
  (rB false))))) fun e2 =>
  κ.t 8 dQ [dSq p0, dIq p1] [] [] fun r7 =>
  cond (e2.1 != r7.2) (
  (rB false)) (
  cond (e2.1 != 0) (
  κ.t 9 aD [] [] [] fun r8 =>
  (rB r8)) (
  κ.t 23 aD [.d (.sl aF.ks (List.map aF.enc p2))] [] [] fun r9 =>
  cond (!r9) (
  κ.t 9 aD [] [] [] fun r10 =>
  (rB r10)) (
  aqu lab κ (List.map aF.enc p2) (List.map aA.enc []) 0 (client_Client.enc e2.2) (brokerref51_State.enc r7.1))))) (fun _ => by kernel_rfl) ?_
 unfold nF
 repeat' first | (with_reducible first | refine lC ?_ ?_ | refine lQp eX w3 ?_ (fun _ _ => ?_) (fun _ _ => ?_) | refine lQ eX aaR ?_ fun _ _ => ?_ | refine lQ eX aP ?_ fun _ _ => ?_ | refine lQ eX aP ?_ fun _ _ => ?_ | exact abO _ _ | exact j0 | exact ago _ | exact yJ _ _ | exact rX fuel _ _ _ _ _ | refine aI ?_) | rfl | (simp only [EN]; exact rX fuel _ _ _ _ _) | (simp only [EN, aD] <;> rfl)
end Te
end PX
