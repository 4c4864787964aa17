import Derived.Test.YthjloglncbnhfaaGreatDoorTre0
set_option linter.unusedVariables false
set_option linter.unusedSimpArgs false
set_option maxRecDepth 100000
noncomputable section
namespace PX
open Go
open Md
namespace Te
noncomputable def amB (L : dK) (κ : Tau) (a0 a1 a2 a3 : List D) : Res := L SE (K κ) κ.Λ κ.J 34 0 [1, 1, 1, 0] (cL [(2, .ptr 1000000000 0), (3, .ptr 1000000001 0), (4, .ptr 1000000002 0), (5, .ptr 1000000003 0)] [⟨33, (List.map AV.d a0)⟩, ⟨67, (List.map AV.d a1)⟩, ⟨33, (List.map AV.d a2)⟩, ⟨67, (List.map AV.d a3)⟩] [] [] [])
theorem rZ (b0 : aH) (b1 : aA) (b2 : aH) (b3 : aA) : Le (Option.map cW (mP b0 b1 b2 b3)) (amB lab (kF 34) (aH.enc b0) (aA.enc b1) (aH.enc b2) (aA.enc b3)) := by
 refine cK (t := fun κ =>
  κ.t 60 aR [.d (.sl [.int .i64] (List.map eI b0.IDs)), dIq b1.ID] [] [] fun r0 =>
  (some (cW (((aH.mk r0), (aA.mk 7 b1.ID false zMq [] [] false 0 0 0 zWq false 0 [] [] []), 0))))) (fun _ => by kernel_rfl) ?_
 unfold mP
 refine lQ eX bN (yZ _ _) fun r0 _ => ?_
 exact aK rfl
theorem qG (p0 : aH) (p1 : aA) : Le (Option.map cW (kR p0 p1)) (aV SE 34 [aH.av p0, aA.av p1] [] []) := by
 refine bD (t := fun κ =>
  cond (p1.Kind != 6) (
  (some (cW (((aH.mk []), zPq, 10))))) (
  cond (decide (p1.ID < 1)) (
  (some (cW (((aH.mk []), zPq, 15))))) (
  cond (decide (p1.ID > 65535)) (
  (some (cW (((aH.mk []), zPq, 15))))) (
  amB lab κ (aH.enc p0) (aA.enc p1) [D.sl [.int .i64] (List.map eI [])] [D.int .i64 0, D.int .i64 0, D.bool false, D.str [], D.str [], D.int .i64 0, D.bool false, D.int .i64 0, D.int .i64 0, D.str [], D.int .i64 0, D.sl aE.ks (List.map aE.enc []), D.str [], D.str [], D.bool false, D.int .i64 0, D.int .i64 0, D.int .i64 0, D.bool false, D.int .i64 0, D.str [], D.str [], D.int .i64 0, D.bool false, D.int .i64 0, D.int .i64 0, D.str [], D.int .i64 0, D.sl aE.ks (List.map aE.enc []), D.bool false, D.int .i64 0, D.sl aN.ks (List.map aN.enc []), D.sl [.str] (List.map bM []), D.sl [.int .i64] (List.map eI [])])))) (fun _ => by kernel_rfl) ?_
 unfold kR
 repeat' first | (with_reducible first | refine lC ?_ ?_ | exact rZ _ _ _ _ | refine aK ?_) | rfl | (simp only [EN]; exact rZ _ _ _ _) | (simp only [EN, cW] <;> rfl)
theorem vM (p0 : client_Client) (p1 : aA) : Le (Option.map aI (l5 p0 p1)) (aV SE 81 [.ptr 2000000000 0, aA.av p1] [⟨83, (client_Client.avs p0)⟩] []) := by
 refine bD (t := fun κ =>
  κ.t 34 cW [aH.av p0.in_, aA.av p1] [] [] fun r0 =>
  cond (r0.2.2 != 0) (
  (some (aI ([], [], r0.2.2, p0)))) (
  (some (aI ([r0.2.1], [], 0, (client_Client.mk p0.name p0.state p0.out r0.1 p0.waiting p0.count p0.last)))))) (fun _ => by kernel_rfl) ?_
 unfold l5
 refine lQ eX uC (qG _ _) fun r0 _ => ?_
 refine lC ?_ ?_
 ·exact aK rfl
 ·exact aK rfl
theorem aca (p0 : aC) (p1 : Int) : Le (Option.map gY (pB p0 p1)) (aV SE 162 [aC.av p0, .ptr 2000000000 0] [⟨3, [dIq p1]⟩] []) := by
 refine bD (t := fun κ =>
  (some (gY ((p0.ID == p1), p1)))) (fun _ => by kernel_rfl) ?_
 unfold pB
 exact aK rfl
noncomputable def aip (L : dK) (κ : Tau) (a0 : List (List D)) (a1 a2 a3 : Int) : Res := L SE (K κ) κ.Λ κ.J 161 1 [1, 0, 1, 0] (cL [(0, .d (.sl aC.ks a0)), (1, .fn 162 [] [.ptr 2000000000 0]), (7, dIq a1), (8, dIq a2)] [] [⟨3, [dIq a3]⟩] [] [])
theorem mA : ∀ (fu : Nat) (x0 : List aC) (x7 x8 q0_0 : Int), Le (Option.map bZ (bQ fu x0 x7 x8 q0_0)) (aip lab (kF 161) (List.map aC.enc x0) x7 x8 q0_0) := by
 intro fu
 induction fu with
 | zero => intros; exact le_none
 | succ fu ih =>
  intro x0 x7 x8 q0_0
  refine cK (t := fun κ =>
  cond (decide (x8 < x7)) (
  cond (iB x8 (lM aC.enc x0 : Int)) (
   κ.t 162 gY [.agg [dIq (aM (cE aC.enc x0 x8 0)), dIq (aM (cE aC.enc x0 x8 1)), dSq (aX (cE aC.enc x0 x8 2)), dSq (aX (cE aC.enc x0 x8 3)), dIq (aM (cE aC.enc x0 x8 4)), dBq (bC (cE aC.enc x0 x8 5)), dIq (aM (cE aC.enc x0 x8 6)), dIq (aM (cE aC.enc x0 x8 7)), dSq (aX (cE aC.enc x0 x8 8)), dIq (aM (cE aC.enc x0 x8 9)), .d (.sl aE.ks (dSl (cE aC.enc x0 x8 10)))], .ptr 2000000000 0] [⟨3, [dIq q0_0]⟩] [] fun r0 =>
   cond r0.1 (
   (some (.ret [dIq x8] [⟨3, [dIq r0.2]⟩] []))) (
   aip lab κ (List.map aC.enc x0) x7 (w6 (x8 + 1)) r0.2)) none) (
  (some (.ret [dIq (-1)] [⟨3, [dIq q0_0]⟩] [])))) (fun _ => by kernel_rfl) ?_
  unfold bQ
  refine lC ?_ ?_
  ·refine lGe ?_
   refine lQ eX abA (by (try simp only [EN]); exact aca (List.getD x0 (Int.toNat x8) default) q0_0) fun r0 _ => ?_
   refine lC ?_ ?_
   ·exact aK rfl
   ·exact ih x0 x7 (w6 (x8 + 1)) r0.2
  ·exact aK rfl
theorem mU (p0 : List aC) (p1_0 : Int) : Le (Option.map bZ (dU p0 p1_0)) (aV SE 161 [.d (.sl aC.ks (List.map aC.enc p0)), .fn 162 [] [.ptr 2000000000 0]] [⟨3, [dIq p1_0]⟩] []) := by
 refine bD (t := fun κ =>
  aip lab κ (List.map aC.enc p0) (lM aC.enc p0 : Int) 0 p1_0) (fun _ => by kernel_rfl) ?_
 unfold dU
 (try simp only [EN]); exact mA fuel p0 (List.length p0 : Int) 0 p1_0
theorem adZ (p0 : List aC) (p1 : Int) : Le (Option.map aJ (oP p0 p1)) (aV SE 147 [.d (.sl aC.ks (List.map aC.enc p0)), dIq p1] [] []) := by
 refine bD (t := fun κ =>
  κ.t 161 bZ [.d (.sl aC.ks (List.map aC.enc p0)), .fn 162 [] [.ptr 2000000000 0]] [⟨3, [dIq p1]⟩] [] fun r0 =>
  (rI r0.1)) (fun _ => by kernel_rfl) ?_
 unfold oP
 refine lQ eX mR (mU _ _) fun r0 _ => ?_
 exact aK rfl
theorem agV (p0 : aQ) (p1 : Int) : Le (Option.map j4 (tL p0 p1)) (aV SE 163 [aQ.av p0, dIq p1] [] []) := by
 refine bD (t := fun κ =>
  κ.t 62 aR [.d (.sl [.int .i64] (List.map eI p0.Used))] [] [] fun r0 =>
  κ.t 102 bI [.d (.sl [.int .i64] (List.map eI r0)), dIq p1] [] [] fun r1 =>
  cond r1.2 (
  κ.t 103 aR [.row 2000000000, dIq r1.1, dIq (w6 (r1.1 + 1))] [] [⟨[.int .i64], 3, 8, (List.map eI r0)⟩] fun r2 =>
  (some (j4 ((aQ.mk r2 p0.Last), r1.2)))) (
  (some (j4 ((aQ.mk r0 p0.Last), r1.2))))) (fun _ => by kernel_rfl) ?_
 unfold tL
 refine lQ eX bN (dO _) fun r0 _ => ?_
 refine lQ eX dV (eA _ _) fun r1 _ => ?_
 refine lC ?_ ?_
 ·refine lQ eX bN (nZ _ _ _) fun r2 _ => ?_
  exact aK rfl
 ·exact aK rfl
theorem nV (p0 : List aC) (p1 p2 : Int) : Le (Option.map cT (fW p0 p1 p2)) (aV SE 164 [.row 2000000000, dIq p1, dIq p2] [] [⟨aC.ks, 139, 128, (List.map aC.enc p0)⟩]) := agi (f := 164) (enc := aC.enc) rfl rfl p0 p1 p2
theorem ab1 (p0 : aG) (p1 : Int) : Le (Option.map bK (kV p0 p1)) (aV SE 148 [aG.av p0, dIq p1] [] []) := by
 refine bD (t := fun κ =>
  cond (iB p1 (lM aC.enc p0.Items : Int)) (
  κ.t 163 j4 [aQ.av p0.Pool, dIq (aM (cE aC.enc p0.Items p1 0))] [] [] fun r0 =>
  κ.t 99 bK [aG.av p0] [] [] fun r1 =>
  κ.t 164 cT [.row 2000000000, dIq p1, dIq (w6 (p1 + 1))] [] [⟨aC.ks, 139, 128, (List.map aC.enc r1.Items)⟩] fun r2 =>
  (some (bK (aG.mk r1.Limit r2 r0.1)))) none) (fun _ => by kernel_rfl) ?_
 unfold kV
 refine lGe ?_
 refine lQ eX afw (by (try simp only [EN]); exact agV p0.Pool ((List.getD p0.Items (Int.toNat p1) default).ID)) fun r0 _ => ?_
 refine lQ eX j5 (qV _) fun r1 _ => ?_
 refine lQ eX nI (nV _ _ _) fun r2 _ => ?_
 exact aK rfl
noncomputable def ahW (L : dK) (κ : Tau) (a0 : Int) (a1 a2 a3 a4 : List D) : Res := L SE (K κ) κ.Λ κ.J 114 0 [1, 1, 1, 1, 0, 0] (cL [(2, .ptr 1000000000 0), (3, .ptr 1000000001 0), (4, .ptr 1000000002 0), (7, dIq a0), (8, .ptr 1000000003 0)] [⟨31, (List.map AV.d a1)⟩, ⟨67, (List.map AV.d a2)⟩, ⟨31, (List.map AV.d a3)⟩, ⟨139, (List.map AV.d a4)⟩] [] [] [])
theorem sE (x7 : Int) (b0 : aG) (b1 : aA) (b2 : aG) (b3 : aC) : Le (Option.map bY (iK x7 b0 b1 b2 b3)) (ahW lab (kF 114) x7 (aG.enc b0) (aA.enc b1) (aG.enc b2) (aC.enc b3)) := by
 refine cK (t := fun κ =>
  cond (b1.Kind == 4) (
  cond (decide (x7 < 0)) (
   κ.t 99 bK [aG.av b0] [] [] fun r1 =>
   (some (bY (r1, [], 0)))) (
  cond (b3.Message.Level == 1) (
   κ.t 148 bK [aG.av b0, dIq x7] [] [] fun r2 =>
   (some (bY (r2, [], 0)))) (
  (some (bY (((aG.mk 0 [] (aQ.mk [] 0)), [], 23))))))) (
  cond (b1.Kind == 5) (
  cond (decide (x7 < 0)) (
   κ.t 99 bK [aG.av b0] [] [] fun r3 =>
   κ.t 146 cP [dIq b1.ID] [] [] fun r4 =>
   (some (bY (r3, [r4], 0)))) (
  cond (b3.Message.Level == 2) (
   κ.t 99 bK [aG.av b0] [] [] fun r5 =>
   cond (iB x7 (lM aC.enc r5.Items : Int)) (
   κ.t 146 cP [dIq b1.ID] [] [] fun r6 =>
   (some (.ret [.agg [dIq r5.Limit, .row 0, .row 1, dIq r5.Pool.Last], .row 2, dIq 0] [] [⟨aC.ks, 139, 128, (uT (List.map aC.enc r5.Items) (Int.toNat x7) 1 [D.int .i64 2])⟩, ⟨[.int .i64], 3, 8, (List.map eI r5.Pool.Used)⟩, ⟨aA.ks, 67, 416, (List.map aA.enc [r6])⟩]))) none) (
  (some (bY (((aG.mk 0 [] (aQ.mk [] 0)), [], 23))))))) (
  cond (b1.Kind == 7) (
  cond (decide (x7 < 0)) (
   κ.t 99 bK [aG.av b0] [] [] fun r7 =>
   (some (bY (r7, [], 0)))) (
  cond (b3.State == 2) (
   κ.t 148 bK [aG.av b0, dIq x7] [] [] fun r8 =>
   (some (bY (r8, [], 0)))) (
  (some (bY (((aG.mk 0 [] (aQ.mk [] 0)), [], 23))))))) (
  (some (bY (((aG.mk 0 [] (aQ.mk [] 0)), [], 10)))))))) (fun _ => by kernel_rfl) ?_
 unfold iK
 repeat' first | (with_reducible first | refine lC ?_ ?_ | refine lQ eX j5 ?_ fun _ _ => ?_ | refine lQ eX j5 ?_ fun _ _ => ?_ | refine lQ eX l7 ?_ fun _ _ => ?_ | refine lG ?_ ?_ | exact qV _ | exact ab1 _ _ | exact qA _ | refine aK ?_) | rfl | (simp only [EN]; done) | (simp only [EN, bY] <;> rfl)
theorem acu (p0 : aG) (p1 : aA) : Le (Option.map bY (iZ p0 p1)) (aV SE 114 [aG.av p0, aA.av p1] [] []) := by
 refine bD (t := fun κ =>
  κ.t 147 aJ [.d (.sl aC.ks (List.map aC.enc p0.Items)), dIq p1.ID] [] [] fun r0 =>
  cond (decide (r0 ≥ 0)) (
  cond (iB r0 (lM aC.enc p0.Items : Int)) (
   ahW lab κ r0 (aG.enc p0) (aA.enc p1) [D.int .i64 0, D.sl aC.ks (List.map aC.enc []), D.sl [.int .i64] (List.map eI []), D.int .i64 0] [D.int .i64 (aM (cE aC.enc p0.Items r0 0)), D.int .i64 (aM (cE aC.enc p0.Items r0 1)), D.str (aX (cE aC.enc p0.Items r0 2)), D.str (aX (cE aC.enc p0.Items r0 3)), D.int .i64 (aM (cE aC.enc p0.Items r0 4)), D.bool (bC (cE aC.enc p0.Items r0 5)), D.int .i64 (aM (cE aC.enc p0.Items r0 6)), D.int .i64 (aM (cE aC.enc p0.Items r0 7)), D.str (aX (cE aC.enc p0.Items r0 8)), D.int .i64 (aM (cE aC.enc p0.Items r0 9)), D.sl aE.ks (dSl (cE aC.enc p0.Items r0 10))]) none) (
  ahW lab κ r0 (aG.enc p0) (aA.enc p1) [D.int .i64 0, D.sl aC.ks (List.map aC.enc []), D.sl [.int .i64] (List.map eI []), D.int .i64 0] [D.int .i64 0, D.int .i64 0, D.str [], D.str [], D.int .i64 0, D.bool false, D.int .i64 0, D.int .i64 0, D.str [], D.int .i64 0, D.sl aE.ks (List.map aE.enc [])])) (fun _ => by kernel_rfl) ?_
 unfold iZ
 refine lQ eX bA (adZ _ _) fun r0 _ => ?_
 refine lC ?_ ?_
 ·refine lGe ?_
  (try simp only [EN]); exact sE r0 p0 p1 ((aG.mk 0 [] (aQ.mk [] 0))) (List.getD p0.Items (Int.toNat r0) default)
 ·(try simp only [EN]); exact sE r0 p0 p1 ((aG.mk 0 [] (aQ.mk [] 0))) ((aC.mk 0 0 zMq))
theorem sS (p0 : client_Client) (p1 : aA) : Le (Option.map aI (dH p0 p1)) (aV SE 82 [.ptr 2000000000 0, aA.av p1] [⟨83, (client_Client.avs p0)⟩] []) := by
 refine bD (t := fun κ =>
  κ.t 114 bY [aG.av p0.out, aA.av p1] [] [] fun r0 =>
  cond (r0.2.2 != 0) (
  (some (aI ([], [], r0.2.2, p0)))) (
  κ.t 33 bB [.ptr 2000000000 0, .row 2000000000] [⟨83, (client_Client.avs (client_Client.mk p0.name p0.state r0.1 p0.in_ p0.waiting p0.count p0.last))⟩] [⟨aA.ks, 67, 416, (List.map aA.enc r0.2.1)⟩] fun r1 =>
  (some (aI (r1.1, [], 0, r1.2))))) (fun _ => by kernel_rfl) ?_
 unfold dH
 refine lQ eX aby (acu _ _) fun r0 _ => ?_
 refine lC ?_ ?_
 ·exact aK rfl
 ·refine lQ eX g7 (eV _ _) fun r1 _ => ?_
  exact aK rfl
theorem tT (p0 : client_Client) (p1 : aA) : Le (Option.map aI (kI p0 p1)) (aV SE 83 [.ptr 2000000000 0, aA.av p1] [⟨83, (client_Client.avs p0)⟩] []) := by
 refine bD (t := fun κ =>
  (some (aI ([], [], 0, (client_Client.mk p0.name 0 p0.out p0.in_ p0.waiting p0.count p0.last))))) (fun _ => by kernel_rfl) ?_
 unfold kI
 exact aK rfl
theorem wE (p0 : client_Client) (p1 : aA) : Le (Option.map aI (mB p0 p1)) (aV SE 84 [.ptr 2000000000 0, aA.av p1] [⟨83, (client_Client.avs p0)⟩] []) := by
 refine bD (t := fun κ =>
  (some (aI ([], [], 0, p0)))) (fun _ => by kernel_rfl) ?_
 unfold mB
 exact aK rfl
noncomputable def ajU (L : dK) (κ : Tau) (a0 a1 : List D) : Res := L SE (K κ) κ.Λ κ.J 21 1 [1, 1, 1, 1, 1, 0] (cL [(0, .ptr 2000000000 0), (3, .ptr 1000000000 0)] [⟨67, (List.map AV.d a0)⟩] [⟨83, (List.map AV.d a1)⟩] [] [])
noncomputable def ahd (L : dK) (κ : Tau) (a0 : Bool) (a1 a2 : List D) : Res := L SE (K κ) κ.Λ κ.J 21 1 [1, 1, 1, 1, 0, 0] (cL [(0, .ptr 2000000000 0), (3, .ptr 1000000000 0), (8, dBq a0)] [⟨67, (List.map AV.d a1)⟩] [⟨83, (List.map AV.d a2)⟩] [] [])
theorem sW (b0 : aA) (q0 : client_Client) : Le (Option.map aI (eK b0 q0)) (ajU lab (kF 21) (aA.enc b0) (client_Client.enc q0)) := by
 refine cK (t := fun κ =>
  κ.s 40 dN [.ptr 2000000000 0, dIq b0.Kind] [⟨83, (client_Client.avs q0)⟩] [] (fun e3 =>
  κ.t 79 aI [.ptr 2000000000 0, aA.av b0] [⟨83, (client_Client.avs e3)⟩] [] fun r9 =>
  (some (aI (r9.1, r9.2.1, r9.2.2.1, r9.2.2.2)))) (fun e4 =>
  κ.t 80 aI [.ptr 2000000000 0, aA.av b0] [⟨83, (client_Client.avs e4)⟩] [] fun r10 =>
  (some (aI (r10.1, r10.2.1, r10.2.2.1, r10.2.2.2)))) (fun e5 =>
  κ.t 81 aI [.ptr 2000000000 0, aA.av b0] [⟨83, (client_Client.avs e5)⟩] [] fun r11 =>
  (some (aI (r11.1, r11.2.1, r11.2.2.1, r11.2.2.2)))) (fun e6 =>
  κ.t 82 aI [.ptr 2000000000 0, aA.av b0] [⟨83, (client_Client.avs e6)⟩] [] fun r12 =>
  (some (aI (r12.1, r12.2.1, r12.2.2.1, r12.2.2.2)))) (fun e7 =>
  κ.t 83 aI [.ptr 2000000000 0, aA.av b0] [⟨83, (client_Client.avs e7)⟩] [] fun r13 =>
  (some (aI (r13.1, r13.2.1, r13.2.2.1, r13.2.2.2)))) fun e8 =>
  κ.t 84 aI [.ptr 2000000000 0, aA.av b0] [⟨83, (client_Client.avs e8)⟩] [] fun r14 =>
  (some (aI (r14.1, r14.2.1, r14.2.2.1, r14.2.2.2)))) (fun _ => by kernel_rfl) ?_
 unfold eK
 refine lQ6 eX tO (tY _ _) (fun e3 _ => ?_) (fun e4 _ => ?_) (fun e5 _ => ?_) (fun e6 _ => ?_) (fun e7 _ => ?_) (fun e8 _ => ?_)
 ·refine lQ eX cB (vZ _ _) fun r9 _ => ?_
  exact aK rfl
 ·refine lQ eX cB (vR _ _) fun r10 _ => ?_
  exact aK rfl
 ·refine lQ eX cB (vM _ _) fun r11 _ => ?_
  exact aK rfl
 ·refine lQ eX cB (sS _ _) fun r12 _ => ?_
  exact aK rfl
 ·refine lQ eX cB (tT _ _) fun r13 _ => ?_
  exact aK rfl
 ·refine lQ eX cB (wE _ _) fun r14 _ => ?_
  exact aK rfl
theorem tV (x8 : Bool) (b0 : aA) (q0 : client_Client) : Le (Option.map aI (dL x8 b0 q0)) (ahd lab (kF 21) x8 (aA.enc b0) (client_Client.enc q0)) := by
 refine cK (t := fun κ =>
  κ.t 39 aF [dIq b0.Kind] [] [] fun r1 =>
  cond (!r1) (
  (some (aI ([], [], 23, q0)))) (
  cond x8 (
  (some (aI ([], [], 23, q0)))) (
  cond (q0.state == 2) (
  cond (b0.Kind == 2) (
   (some (aI ([], [], 23, q0)))) (
  ajU lab κ (aA.enc b0) (client_Client.enc q0))) (
  ajU lab κ (aA.enc b0) (client_Client.enc q0))))) (fun _ => by kernel_rfl) ?_
 unfold dL
 repeat' first | (with_reducible first | refine lC ?_ ?_ | refine lQ eX aU ?_ fun _ _ => ?_ | exact adL _ | exact sW _ _ | refine aK ?_) | rfl | (simp only [EN, aI] <;> rfl)
theorem cY (p0 : client_Client) (p1 : aA) : Le (Option.map aI (bJ p0 p1)) (aV SE 21 [.ptr 2000000000 0, aA.av p1] [⟨83, (client_Client.avs p0)⟩] []) := by
 refine bD (t := fun κ =>
  cond (p0.state == 0) (
  (some (aI ([], [], 9, p0)))) (
  κ.t 38 aJ [aA.av p1] [] [] fun r0 =>
  cond (r0 != 0) (
  (some (aI ([], [], r0, p0)))) (
  cond (p0.state == 1) (
  cond (p1.Kind != 2) (
   ahd lab κ (p1.Kind != 14) (aA.enc p1) (client_Client.enc p0)) (
  ahd lab κ false (aA.enc p1) (client_Client.enc p0))) (
  ahd lab κ false (aA.enc p1) (client_Client.enc p0))))) (fun _ => by kernel_rfl) ?_
 unfold bJ
 repeat' first | (with_reducible first | refine lC ?_ ?_ | refine lQ eX bA ?_ fun _ _ => ?_ | exact pI _ | exact tV _ _ _ | refine aK ?_) | rfl | (simp only [EN, aI] <;> rfl)
theorem nL (p0 : List aB) : Le (Option.map bT (dA p0)) (aV SE 32 [.d (.sl aB.ks (List.map aB.enc p0))] [] []) := by
 refine bD (t := fun κ =>
  cond (List.isEmpty (List.map aB.enc p0)) (
  vA (
   (some (.ret [.row 0] [] [⟨aB.ks, 54, 112, []⟩]))) (
   cond (decide ((lM aB.enc [] + lM aB.enc p0) * 112 ≤ 140737488355328)) (
   (some (bT (([] : List aB) ++ p0)))) none)) (
  cond (decide ((lM aB.enc [] + lM aB.enc p0) * 112 ≤ 140737488355328)) (
  (some (bT (([] : List aB) ++ p0)))) none)) (fun _ => by kernel_rfl) ?_
 unfold dA
 refine lDe ?_ ?_
 ·refine afy ?_ ?_
  ·exact aK rfl
  ·refine lGe ?_
   exact aK rfl
 ·refine lGe ?_
  exact aK rfl
theorem gW (p0 : client_Client) (p1 : aB) : Le (Option.map aZ (cQ p0 p1)) (aV SE 13 [.ptr 2000000000 0, aB.av p1] [⟨83, (client_Client.avs p0)⟩] []) := by
 refine bD (t := fun κ =>
  κ.t 30 cH [aB.av p1] [] [] fun r0 =>
  κ.t 31 aJ [aB.av (aB.mk r0.Topic r0.Payload r0.Level r0.Retain r0.Priority r0.Expires p0.name (w6 (p0.count + 1)) r0.Props)] [] [] fun r1 =>
  cond (r1 != 0) (
  (some (aZ ([], r1, p0)))) (
  cond (decide ((lM aB.enc p0.waiting : Int) ≥ 256)) (
  (some (aZ ([], 6, p0)))) (
  κ.t 32 bT [.d (.sl aB.ks (List.map aB.enc p0.waiting))] [] [] fun r2 =>
  cond (decide ((lM aB.enc r2 + lM aB.enc [(aB.mk r0.Topic r0.Payload r0.Level r0.Retain r0.Priority r0.Expires p0.name (w6 (p0.count + 1)) r0.Props)]) * 112 ≤ 140737488355328)) (
  κ.t 33 bB [.ptr 2000000000 0, .row 2000000000] [⟨83, [dSq p0.name, dIq p0.state, dIq p0.out.Limit, .d (.sl aC.ks (List.map aC.enc p0.out.Items)), .d (.sl [.int .i64] (List.map eI p0.out.Pool.Used)), dIq p0.out.Pool.Last, .d (.sl [.int .i64] (List.map eI p0.in_.IDs)), .d (.sl aB.ks ((List.map aB.enc r2) ++ (List.map aB.enc [(aB.mk r0.Topic r0.Payload r0.Level r0.Retain r0.Priority r0.Expires p0.name (w6 (p0.count + 1)) r0.Props)]))), dIq (w6 (p0.count + 1)), dIq p0.last]⟩] [⟨aA.ks, 67, 416, (List.map aA.enc [])⟩] fun r3 =>
  (some (aZ (r3.1, 0, r3.2)))) none))) (fun _ => by kernel_rfl) ?_
 unfold cQ
 repeat' first | (with_reducible first | refine lC ?_ ?_ | refine lQ eX fS ?_ fun _ _ => ?_ | refine lQ eX bA ?_ fun _ _ => ?_ | refine lQ eX m8 ?_ fun _ _ => ?_ | refine lQ eX g7 ?_ fun _ _ => ?_ | refine lG ?_ ?_ | refine lD ?_ ?_ ?_ | exact iC _ | exact iA _ | exact nL _ | exact eV _ _ | refine aK ?_) | rfl | (simp only [EN]; done) | (simp only [EN]; exact eV _ _) | (simp only [EN, aZ] <;> rfl)
noncomputable def amz (L : dK) (κ : Tau) (a0 : List D) : Res := L SE (K κ) κ.Λ κ.J 9 0 [1, 1, 1, 1, 1, 1, 1, 1, 1, 1, 1, 0] (cL [(1, .ptr 1000000000 0)] [⟨83, (List.map AV.d a0)⟩] [] [] [])
noncomputable def amL (L : dK) (κ : Tau) (a0 : List D) : Res := L SE (K κ) κ.Λ κ.J 9 0 [1, 1, 1, 1, 1, 1, 1, 0] (cL [(1, .ptr 1000000000 0)] [⟨83, (List.map AV.d a0)⟩] [] [] [])
noncomputable def aol (L : dK) (κ : Tau) (a0 : List D) : Res := L SE (K κ) κ.Λ κ.J 9 0 [1, 1, 1, 1, 1, 0] (cL [(1, .ptr 1000000000 0)] [⟨83, (List.map AV.d a0)⟩] [] [] [])
noncomputable def anP (L : dK) (κ : Tau) (a0 : List D) : Res := L SE (K κ) κ.Λ κ.J 9 0 [1, 1, 1, 0] (cL [(1, .ptr 1000000000 0)] [⟨83, (List.map AV.d a0)⟩] [] [] [])
theorem xI (b0 : client_Client) : Le (Option.map aF (nJ b0)) (amz lab (kF 9) (client_Client.enc b0)) := by
 refine cK (t := fun κ =>
  κ.t 21 aI [.ptr 2000000000 0, .agg [dIq 5, dIq 1, dBq false, dSq [], dSq [], dIq 0, dBq false, dIq 0, dIq 0, dSq [], dIq 0, .d (.sl aE.ks (List.map aE.enc [])), dSq [], dSq [], dBq false, dIq 0, dIq 0, dIq 0, dBq false, dIq 0, dSq [], dSq [], dIq 0, dBq false, dIq 0, dIq 0, dSq [], dIq 0, .d (.sl aE.ks (List.map aE.enc [])), dBq false, dIq 0, .d (.sl aN.ks (List.map aN.enc [])), .d (.sl [.str] (List.map bM [])), .d (.sl [.int .i64] (List.map eI []))]] [⟨83, (client_Client.avs b0)⟩] [] fun r11 =>
  κ.t 21 aI [.ptr 2000000000 0, .agg [dIq 7, dIq 1, dBq false, dSq [], dSq [], dIq 0, dBq false, dIq 0, dIq 0, dSq [], dIq 0, .d (.sl aE.ks (List.map aE.enc [])), dSq [], dSq [], dBq false, dIq 0, dIq 0, dIq 0, dBq false, dIq 0, dSq [], dSq [], dIq 0, dBq false, dIq 0, dIq 0, dSq [], dIq 0, .d (.sl aE.ks (List.map aE.enc [])), dBq false, dIq 0, .d (.sl aN.ks (List.map aN.enc [])), .d (.sl [.str] (List.map bM [])), .d (.sl [.int .i64] (List.map eI []))]] [⟨83, (client_Client.avs r11.2.2.2)⟩] [] fun r12 =>
  cond (r11.2.2.1 == 0) (
  cond (r12.2.2.1 == 0) (
   cond ((lM aA.enc r11.1 : Int) == 1) (
   cond (decide (0 ≤ 0) && decide (0 < (lM aA.enc r11.1 : Int))) (
    cond ((aM (cE aA.enc r11.1 0 0)) == 6) (
    cond ((lM aA.enc r12.1 : Int) == 1) (
     cond (decide (0 ≤ 0) && decide (0 < (lM aA.enc r12.1 : Int))) (
     cond ((aM (cE aA.enc r12.1 0 0)) == 3) (
      cond (decide (0 ≤ 0) && decide (0 < (lM aA.enc r12.1 : Int))) (
      cond ((aM (cE aA.enc r12.1 0 10)) == 2) (
       κ.t 11 cM [.ptr 2000000000 0] [⟨83, (client_Client.avs r12.2.2.2)⟩] [] fun r13 =>
       (rB (r13.1 == 1))) (
      (rB false))) none) (
     (rB false))) none) (
    (rB false))) (
    (rB false))) none) (
   (rB false))) (
  (rB false))) (
  (rB false))) (fun _ => by kernel_rfl) ?_
 unfold nJ
 repeat' first | (with_reducible first | refine lC ?_ ?_ | refine lQ eX cB ?_ fun _ _ => ?_ | refine lQ eX fZ ?_ fun _ _ => ?_ | refine lG ?_ ?_ | refine lD ?_ ?_ ?_ | exact cY _ _ | exact gD _ | refine aK ?_) | rfl | (simp only [EN]; done) | (simp only [EN]; exact cY _ _) | (simp only [EN, aF] <;> rfl)
theorem yE (b0 : client_Client) : Le (Option.map aF (nR b0)) (amL lab (kF 9) (client_Client.enc b0)) := by
 refine cK (t := fun κ =>
  κ.t 13 aZ [.ptr 2000000000 0, .agg [dSq ([116] : Str), dSq [], dIq 2, dBq false, dIq 0, dIq 0, dSq [], dIq 0, .d (.sl aE.ks (List.map aE.enc []))]] [⟨83, (client_Client.avs b0)⟩] [] fun r8 =>
  κ.t 13 aZ [.ptr 2000000000 0, .agg [dSq ([116] : Str), dSq [], dIq 2, dBq false, dIq 0, dIq 0, dSq [], dIq 0, .d (.sl aE.ks (List.map aE.enc []))]] [⟨83, (client_Client.avs r8.2.2)⟩] [] fun r9 =>
  cond (r8.2.1 != 0) (
  (rB false)) (
  cond (r9.2.1 != 0) (
  (rB false)) (
  cond ((lM aA.enc r8.1 : Int) != 1) (
  (rB false)) (
  cond (decide (0 ≤ 0) && decide (0 < (lM aA.enc r8.1 : Int))) (
  cond ((aM (cE aA.enc r8.1 0 1)) != 1) (
   (rB false)) (
  cond (decide (0 ≤ 0) && decide (0 < (lM aA.enc r8.1 : Int))) (
   cond (!((aX (cE aA.enc r8.1 0 9)) == ([97] : Str))) (
   (rB false)) (
   cond (decide (0 ≤ 0) && decide (0 < (lM aA.enc r8.1 : Int))) (
   cond ((aM (cE aA.enc r8.1 0 10)) != 1) (
    (rB false)) (
   cond ((lM aA.enc r9.1 : Int) != 0) (
    (rB false)) (
   κ.t 11 cM [.ptr 2000000000 0] [⟨83, (client_Client.avs r9.2.2)⟩] [] fun r10 =>
   cond (r10.1 != 2) (
    (rB false)) (
   amz lab κ (client_Client.enc r10.2))))) none)) none)) none)))) (fun _ => by kernel_rfl) ?_
 unfold nR
 refine lQ eX eZ (by (try simp only [EN]); exact gW b0 ((aB.mk ([116] : Str) [] 2 false 0 0 [] 0 []))) fun r8 _ => ?_
 refine lQ eX eZ (by (try simp only [EN]); exact gW r8.2.2 ((aB.mk ([116] : Str) [] 2 false 0 0 [] 0 []))) fun r9 _ => ?_
 refine lC ?_ ?_
 ·exact aK rfl
 ·refine lC ?_ ?_
  ·exact aK rfl
  ·refine lDe ?_ ?_
   ·exact aK rfl
   ·refine lGe ?_
    refine lDe ?_ ?_
    ·exact aK rfl
    ·refine lGe ?_
     refine lDe ?_ ?_
     ·exact aK rfl
     ·refine lGe ?_
      refine lDe ?_ ?_
      ·exact aK rfl
      ·refine lDe ?_ ?_
       ·exact aK rfl
       ·refine lQ eX fZ (gD _) fun r10 _ => ?_
        refine lC ?_ ?_
        ·exact aK rfl
        ·exact xI r10.2
theorem yX (b0 : client_Client) : Le (Option.map aF (oE b0)) (aol lab (kF 9) (client_Client.enc b0)) := by
 refine cK (t := fun κ =>
  κ.t 21 aI [.ptr 2000000000 0, .agg [dIq 2, dIq 0, dBq false, dSq [], dSq [], dIq 0, dBq false, dIq 0, dIq 0, dSq [], dIq 0, .d (.sl aE.ks (List.map aE.enc [])), dSq [], dSq [], dBq false, dIq 0, dIq 0, dIq 0, dBq false, dIq 0, dSq [], dSq [], dIq 0, dBq false, dIq 0, dIq 0, dSq [], dIq 0, .d (.sl aE.ks (List.map aE.enc [])), dBq false, dIq 0, .d (.sl aN.ks (List.map aN.enc [])), .d (.sl [.str] (List.map bM [])), .d (.sl [.int .i64] (List.map eI []))]] [⟨83, (client_Client.avs b0)⟩] [] fun r6 =>
  cond (r6.2.2.1 != 0) (
  (rB false)) (
  κ.t 10 eJ [.ptr 2000000000 0] [⟨83, (client_Client.avs r6.2.2.2)⟩] [] fun r7 =>
  cond (!r7.1) (
  (rB false)) (
  amL lab κ (client_Client.enc r7.2)))) (fun _ => by kernel_rfl) ?_
 unfold oE
 repeat' first | (with_reducible first | refine lC ?_ ?_ | refine lQ eX cB ?_ fun _ _ => ?_ | refine lQ eX n5 ?_ fun _ _ => ?_ | exact cY _ _ | exact oM _ | exact yE _ | refine aK ?_) | rfl | (simp only [EN]; exact cY _ _) | (simp only [EN, aF] <;> rfl)
theorem yY (b0 : client_Client) : Le (Option.map aF (oA b0)) (anP lab (kF 9) (client_Client.enc b0)) := by
 refine cK (t := fun κ =>
  κ.t 20 aZ [.ptr 2000000000 0, dBq false, .agg [dBq false, dIq 0, dSq [], dSq [], dIq 0, dBq false, dIq 0, dIq 0, dSq [], dIq 0, .d (.sl aE.ks (List.map aE.enc []))]] [⟨83, (client_Client.avs b0)⟩] [] fun r5 =>
  cond (r5.2.1 != 0) (
  (rB false)) (
  cond ((lM aA.enc r5.1 : Int) != 1) (
  (rB false)) (
  cond (decide (0 ≤ 0) && decide (0 < (lM aA.enc r5.1 : Int))) (
  cond ((aM (cE aA.enc r5.1 0 0)) != 1) (
   (rB false)) (
  cond (decide (0 ≤ 0) && decide (0 < (lM aA.enc r5.1 : Int))) (
   cond (!((aX (cE aA.enc r5.1 0 12)) == ([97] : Str))) (
   (rB false)) (
   cond (decide (0 ≤ 0) && decide (0 < (lM aA.enc r5.1 : Int))) (
   cond ((aM (cE aA.enc r5.1 0 17)) != 1) (
    (rB false)) (
   aol lab κ (client_Client.enc r5.2.2))) none)) none)) none))) (fun _ => by kernel_rfl) ?_
 unfold oA
 refine lQ eX eZ (by (try simp only [EN]); exact nX b0 false (zWq)) fun r5 _ => ?_
 refine lC ?_ ?_
 ·exact aK rfl
 ·refine lDe ?_ ?_
  ·exact aK rfl
  ·refine lGe ?_
   refine lDe ?_ ?_
   ·exact aK rfl
   ·refine lGe ?_
    refine lDe ?_ ?_
    ·exact aK rfl
    ·refine lGe ?_
     refine lDe ?_ ?_
     ·exact aK rfl
     ·exact yX r5.2.2
theorem tJ : Le (Option.map aF (gR)) (aV SE 9 [] [] []) := by
 refine bD (t := fun κ =>
  κ.p 7 lO [dSq ([97] : Str), dIq 1] [] [] (fun e1 =>
  cond (e1 != 0) (
   (rB false)) (
  (rB false))) fun e2 =>
  cond (e2.1 != 0) (
  (rB false)) (
  κ.t 10 eJ [.ptr 2000000000 0] [⟨83, (client_Client.avs e2.2)⟩] [] fun r3 =>
  cond r3.1 (
  (rB false)) (
  κ.t 11 cM [.ptr 2000000000 0] [⟨83, (client_Client.avs r3.2)⟩] [] fun r4 =>
  cond (r4.1 != 0) (
  (rB false)) (
  anP lab κ (client_Client.enc r4.2))))) (fun _ => by kernel_rfl) ?_
 unfold gR
 repeat' first | (with_reducible first | refine lC ?_ ?_ | refine lQp eX aaH ?_ (fun _ _ => ?_) (fun _ _ => ?_) | refine lQ eX n5 ?_ fun _ _ => ?_ | refine lQ eX fZ ?_ fun _ _ => ?_ | exact abn _ _ | exact oM _ | exact gD _ | exact yY _ | refine aK ?_) | rfl | (simp only [EN, aF] <;> rfl)
theorem yA (p0 : client_Client) : Le (Option.map fY (kW p0)) (aV SE 19 [.ptr 2000000000 0] [⟨83, (client_Client.avs p0)⟩] []) := by
 refine bD (t := fun κ =>
  (some (.ret [] [⟨83, (client_Client.avs (client_Client.mk p0.name 0 p0.out p0.in_ p0.waiting p0.count p0.last))⟩] []))) (fun _ => by kernel_rfl) ?_
 unfold kW
 exact aK rfl
noncomputable def amR (L : dK) (κ : Tau) (a0 : List (List D)) (a1 : Int) (a2 a3 a4 : List (List D)) (a5 : Int) (a6 : List (List D)) (a7 : List D) (a8 a9 a10 : List (List D)) : Res := L SE (K κ) κ.Λ κ.J 12 1 [1, 1, 1, 1, 0] (cL [(1, .ptr 1000000000 0), (2, .ptr 1000000001 0)] [⟨45, [.ptr 2000000000 0, .d (.sl [.int .i64] a0), .row 50002, .row 50003, dIq a1, .row 50005]⟩, ⟨45, [.nilp, .d (.sl [.int .i64] a2), .d (.sl aA.ks a3), .d (.sl aA.ks a4), dIq a5, .d (.sl aB.ks a6)]⟩] [⟨83, (List.map AV.d a7)⟩] [] [(50002, ⟨aA.ks, 1000000000067, 416, a8⟩), (50003, ⟨aA.ks, 1000000000067, 416, a9⟩), (50005, ⟨aB.ks, 54, 112, a10⟩)])
theorem aai (b0_1 : List Int) (b0_4 : Int) (b1_1 : List Int) (b1_2 b1_3 : List aA) (b1_4 : Int) (b1_5 : List aB) (q0 : client_Client) (w50002 w50003 : List aA) (w50005 : List aB) : Le (Option.map bG (l8 b0_1 b0_4 b1_1 b1_2 b1_3 b1_4 b1_5 q0 w50002 w50003 w50005)) (amR lab (kF 12) (List.map eI b0_1) b0_4 (List.map eI b1_1) (List.map aA.enc b1_2) (List.map aA.enc b1_3) b1_4 (List.map aB.enc b1_5) (client_Client.enc q0) (List.map aA.enc w50002) (List.map aA.enc w50003) (List.map aB.enc w50005)) := by
 refine cK (t := fun κ =>
  κ.t 21 aI [.ptr 2000000000 0, .agg [dIq 2, dIq 0, dBq false, dSq [], dSq [], dIq 0, dBq false, dIq 0, dIq 0, dSq [], dIq 0, .d (.sl aE.ks (List.map aE.enc [])), dSq [], dSq [], dBq false, dIq 0, dIq 0, dIq 0, dBq false, dIq 0, dSq [], dSq [], dIq 0, dBq false, dIq 0, dIq 0, dSq [], dIq 0, .d (.sl aE.ks (List.map aE.enc [])), dBq true, dIq 0, .d (.sl aN.ks (List.map aN.enc [])), .d (.sl [.str] (List.map bM [])), .d (.sl [.int .i64] (List.map eI []))]] [⟨83, (client_Client.avs q0)⟩] [] fun r2 =>
  cond (decide (lM aA.enc r2.1 * 416 ≤ 140737488355328)) (
  (some (bG (((aH.mk b0_1), r2.1, [], b0_4, w50005, (r2.2.2.1 == 0), r2.2.2.2))))) none) (fun _ => by kernel_rfl) ?_
 unfold l8
 repeat' first | (with_reducible first | refine lQ eX cB ?_ fun _ _ => ?_ | refine lG ?_ ?_ | exact cY _ _ | refine aK ?_) | rfl | (simp only [EN]; done) | (simp only [EN]; exact cY _ _) | (simp only [EN, bG] <;> rfl)
theorem l9 (p0_Client : client_Client) (p0_In : aH) (p0_Up p0_Down : List aA) (p0_Published : Int) (p0_Seen : List aB) : Le (Option.map bG (iD p0_Client p0_In p0_Up p0_Down p0_Published p0_Seen)) (aV SE 12 [.agg [.ptr 2000000000 0, .d (.sl [.int .i64] (List.map eI p0_In.IDs)), .row 2000000000, .row 2000000001, dIq p0_Published, .row 2000000002]] [⟨83, (client_Client.avs p0_Client)⟩] [⟨aA.ks, 1000000000067, 416, (List.map aA.enc p0_Up)⟩, ⟨aA.ks, 1000000000067, 416, (List.map aA.enc p0_Down)⟩, ⟨aB.ks, 54, 112, (List.map aB.enc p0_Seen)⟩]) := by
 refine bD (t := fun κ =>
  κ.t 19 fY [.ptr 2000000000 0] [⟨83, (client_Client.avs p0_Client)⟩] [] fun r0 =>
  κ.t 20 aZ [.ptr 2000000000 0, dBq false, .agg [dBq false, dIq 0, dSq [], dSq [], dIq 0, dBq false, dIq 0, dIq 0, dSq [], dIq 0, .d (.sl aE.ks (List.map aE.enc []))]] [⟨83, (client_Client.avs r0)⟩] [] fun r1 =>
  cond (r1.2.1 != 0) (
  (some (bG (p0_In, p0_Up, p0_Down, p0_Published, p0_Seen, false, r1.2.2)))) (
  cond ((lM aA.enc r1.1 : Int) != 1) (
  (some (bG (p0_In, p0_Up, p0_Down, p0_Published, p0_Seen, false, r1.2.2)))) (
  amR lab κ (List.map eI p0_In.IDs) p0_Published (List.map eI []) (List.map aA.enc []) (List.map aA.enc []) 0 (List.map aB.enc []) (client_Client.enc r1.2.2) (List.map aA.enc p0_Up) (List.map aA.enc p0_Down) (List.map aB.enc p0_Seen)))) (fun _ => by kernel_rfl) ?_
 unfold iD
 refine lQ eX wS (yA _) fun r0 _ => ?_
 refine lQ eX eZ (by (try simp only [EN]); exact nX r0 false (zWq)) fun r1 _ => ?_
 refine lC ?_ ?_
 ·exact aK rfl
 ·refine lDe ?_ ?_
  ·exact aK rfl
  ·(try simp only [EN]); exact aai p0_In.IDs p0_Published [] [] [] 0 [] r1.2.2 p0_Up p0_Down p0_Seen
theorem nB (p0_Client : client_Client) (p0_In : aH) (p0_Up p0_Down : List aA) (p0_Published : Int) (p0_Seen : List aB) : Le (Option.map bG (lR p0_Client p0_In p0_Up p0_Down p0_Published p0_Seen)) (aV SE 14 [.agg [.ptr 2000000000 0, .d (.sl [.int .i64] (List.map eI p0_In.IDs)), .row 2000000000, .row 2000000001, dIq p0_Published, .row 2000000002]] [⟨83, (client_Client.avs p0_Client)⟩] [⟨aA.ks, 1000000000067, 416, (List.map aA.enc p0_Up)⟩, ⟨aA.ks, 1000000000067, 416, (List.map aA.enc p0_Down)⟩, ⟨aB.ks, 54, 112, (List.map aB.enc p0_Seen)⟩]) := by
 refine bD (t := fun κ =>
  cond ((lM aA.enc p0_Up : Int) == 0) (
  (some (.ret [.agg [.ptr 0 0, .d (.sl [.int .i64] (List.map eI p0_In.IDs)), .row 0, .row 1, dIq p0_Published, .row 2], dBq true] [⟨83, (client_Client.avs p0_Client)⟩] [⟨aA.ks, 1000000000067, 416, (List.map aA.enc p0_Up)⟩, ⟨aA.ks, 1000000000067, 416, (List.map aA.enc p0_Down)⟩, ⟨aB.ks, 54, 112, (List.map aB.enc p0_Seen)⟩]))) (
  cond (decide (0 ≤ 0) && decide (0 < (lM aA.enc p0_Up : Int))) (
  cond (decide (0 ≤ 1) && decide (1 ≤ (lM aA.enc p0_Up : Int))) (
   cond ((aM (cE aA.enc p0_Up 0 0)) == 6) (
   κ.t 34 cW [aH.av p0_In, .agg [dIq (aM (cE aA.enc p0_Up 0 0)), dIq (aM (cE aA.enc p0_Up 0 1)), dBq (bC (cE aA.enc p0_Up 0 2)), dSq (aX (cE aA.enc p0_Up 0 3)), dSq (aX (cE aA.enc p0_Up 0 4)), dIq (aM (cE aA.enc p0_Up 0 5)), dBq (bC (cE aA.enc p0_Up 0 6)), dIq (aM (cE aA.enc p0_Up 0 7)), dIq (aM (cE aA.enc p0_Up 0 8)), dSq (aX (cE aA.enc p0_Up 0 9)), dIq (aM (cE aA.enc p0_Up 0 10)), .d (.sl aE.ks (dSl (cE aA.enc p0_Up 0 11))), dSq (aX (cE aA.enc p0_Up 0 12)), dSq (aX (cE aA.enc p0_Up 0 13)), dBq (bC (cE aA.enc p0_Up 0 14)), dIq (aM (cE aA.enc p0_Up 0 15)), dIq (aM (cE aA.enc p0_Up 0 16)), dIq (aM (cE aA.enc p0_Up 0 17)), dBq (bC (cE aA.enc p0_Up 0 18)), dIq (aM (cE aA.enc p0_Up 0 19)), dSq (aX (cE aA.enc p0_Up 0 20)), dSq (aX (cE aA.enc p0_Up 0 21)), dIq (aM (cE aA.enc p0_Up 0 22)), dBq (bC (cE aA.enc p0_Up 0 23)), dIq (aM (cE aA.enc p0_Up 0 24)), dIq (aM (cE aA.enc p0_Up 0 25)), dSq (aX (cE aA.enc p0_Up 0 26)), dIq (aM (cE aA.enc p0_Up 0 27)), .d (.sl aE.ks (dSl (cE aA.enc p0_Up 0 28))), dBq (bC (cE aA.enc p0_Up 0 29)), dIq (aM (cE aA.enc p0_Up 0 30)), .d (.sl aN.ks (dSl (cE aA.enc p0_Up 0 31))), .d (.sl [.str] (dSl (cE aA.enc p0_Up 0 32))), .d (.sl [.int .i64] (dSl (cE aA.enc p0_Up 0 33)))]] [] [] fun r0 =>
   cond (decide ((lM aA.enc p0_Down + lM aA.enc [r0.2.1]) * 416 ≤ 140737488355328)) (
    (some (.ret [.agg [.ptr 0 0, .d (.sl [.int .i64] (List.map eI r0.1.IDs)), .row 0, .row 1, dIq p0_Published, .row 2], dBq (r0.2.2 == 0)] [⟨83, (client_Client.avs p0_Client)⟩] [⟨aA.ks, 1000000000067, 416, (List.drop (Int.toNat 1) (List.map aA.enc p0_Up))⟩, ⟨aA.ks, 1000000000067, 416, ((List.map aA.enc p0_Down) ++ (List.map aA.enc [r0.2.1]))⟩, ⟨aB.ks, 54, 112, (List.map aB.enc p0_Seen)⟩]))) none) (
   κ.t 35 cN [aH.av p0_In, .agg [dIq (aM (cE aA.enc p0_Up 0 0)), dIq (aM (cE aA.enc p0_Up 0 1)), dBq (bC (cE aA.enc p0_Up 0 2)), dSq (aX (cE aA.enc p0_Up 0 3)), dSq (aX (cE aA.enc p0_Up 0 4)), dIq (aM (cE aA.enc p0_Up 0 5)), dBq (bC (cE aA.enc p0_Up 0 6)), dIq (aM (cE aA.enc p0_Up 0 7)), dIq (aM (cE aA.enc p0_Up 0 8)), dSq (aX (cE aA.enc p0_Up 0 9)), dIq (aM (cE aA.enc p0_Up 0 10)), .d (.sl aE.ks (dSl (cE aA.enc p0_Up 0 11))), dSq (aX (cE aA.enc p0_Up 0 12)), dSq (aX (cE aA.enc p0_Up 0 13)), dBq (bC (cE aA.enc p0_Up 0 14)), dIq (aM (cE aA.enc p0_Up 0 15)), dIq (aM (cE aA.enc p0_Up 0 16)), dIq (aM (cE aA.enc p0_Up 0 17)), dBq (bC (cE aA.enc p0_Up 0 18)), dIq (aM (cE aA.enc p0_Up 0 19)), dSq (aX (cE aA.enc p0_Up 0 20)), dSq (aX (cE aA.enc p0_Up 0 21)), dIq (aM (cE aA.enc p0_Up 0 22)), dBq (bC (cE aA.enc p0_Up 0 23)), dIq (aM (cE aA.enc p0_Up 0 24)), dIq (aM (cE aA.enc p0_Up 0 25)), dSq (aX (cE aA.enc p0_Up 0 26)), dIq (aM (cE aA.enc p0_Up 0 27)), .d (.sl aE.ks (dSl (cE aA.enc p0_Up 0 28))), dBq (bC (cE aA.enc p0_Up 0 29)), dIq (aM (cE aA.enc p0_Up 0 30)), .d (.sl aN.ks (dSl (cE aA.enc p0_Up 0 31))), .d (.sl [.str] (dSl (cE aA.enc p0_Up 0 32))), .d (.sl [.int .i64] (dSl (cE aA.enc p0_Up 0 33)))]] [] [] fun r1 =>
   cond (r1.2.2.2 != 0) (
   (some (.ret [.agg [.ptr 0 0, .d (.sl [.int .i64] (List.map eI p0_In.IDs)), .row 0, .row 1, dIq p0_Published, .row 2], dBq false] [⟨83, (client_Client.avs p0_Client)⟩] [⟨aA.ks, 1000000000067, 416, (List.drop (Int.toNat 1) (List.map aA.enc p0_Up))⟩, ⟨aA.ks, 1000000000067, 416, (List.map aA.enc p0_Down)⟩, ⟨aB.ks, 54, 112, (List.map aB.enc p0_Seen)⟩]))) (
   cond (decide ((lM aA.enc p0_Down + lM aA.enc r1.2.2.1) * 416 ≤ 140737488355328)) (
   cond r1.2.1 (
    cond (decide ((lM aB.enc p0_Seen + List.length [[D.str (aX (cE aA.enc p0_Up 0 3)), D.str (aX (cE aA.enc p0_Up 0 4)), D.int .i64 (aM (cE aA.enc p0_Up 0 5)), D.bool (bC (cE aA.enc p0_Up 0 6)), D.int .i64 (aM (cE aA.enc p0_Up 0 7)), D.int .i64 (aM (cE aA.enc p0_Up 0 8)), D.str (aX (cE aA.enc p0_Up 0 9)), D.int .i64 (aM (cE aA.enc p0_Up 0 10)), D.sl aE.ks (dSl (cE aA.enc p0_Up 0 11))]]) * 112 ≤ 140737488355328)) (
    (some (.ret [.agg [.ptr 0 0, .d (.sl [.int .i64] (List.map eI r1.1.IDs)), .row 0, .row 1, dIq p0_Published, .row 2], dBq true] [⟨83, (client_Client.avs p0_Client)⟩] [⟨aA.ks, 1000000000067, 416, (List.drop (Int.toNat 1) (List.map aA.enc p0_Up))⟩, ⟨aA.ks, 1000000000067, 416, ((List.map aA.enc p0_Down) ++ (List.map aA.enc r1.2.2.1))⟩, ⟨aB.ks, 54, 112, ((List.map aB.enc p0_Seen) ++ [[D.str (aX (cE aA.enc p0_Up 0 3)), D.str (aX (cE aA.enc p0_Up 0 4)), D.int .i64 (aM (cE aA.enc p0_Up 0 5)), D.bool (bC (cE aA.enc p0_Up 0 6)), D.int .i64 (aM (cE aA.enc p0_Up 0 7)), D.int .i64 (aM (cE aA.enc p0_Up 0 8)), D.str (aX (cE aA.enc p0_Up 0 9)), D.int .i64 (aM (cE aA.enc p0_Up 0 10)), D.sl aE.ks (dSl (cE aA.enc p0_Up 0 11))]])⟩]))) none) (
   (some (.ret [.agg [.ptr 0 0, .d (.sl [.int .i64] (List.map eI r1.1.IDs)), .row 0, .row 1, dIq p0_Published, .row 2], dBq true] [⟨83, (client_Client.avs p0_Client)⟩] [⟨aA.ks, 1000000000067, 416, (List.drop (Int.toNat 1) (List.map aA.enc p0_Up))⟩, ⟨aA.ks, 1000000000067, 416, ((List.map aA.enc p0_Down) ++ (List.map aA.enc r1.2.2.1))⟩, ⟨aB.ks, 54, 112, (List.map aB.enc p0_Seen)⟩])))) none))) none) none)) (fun _ => by kernel_rfl) ?_
 unfold lR
 repeat' first | (with_reducible first | refine lC ?_ ?_ | refine lQ eX uC ?_ fun _ _ => ?_ | refine lQ eX vW ?_ fun _ _ => ?_ | refine lG ?_ ?_ | refine lD ?_ ?_ ?_ | exact qG _ _ | exact qW _ _ | refine aK ?_) | rfl | (simp only [EN]; done) | (simp only [EN]; exact qG _ _) | (simp only [EN]; exact qW _ _) | (simp only [EN, bG] <;> rfl)
theorem o7 (p0_Client : client_Client) (p0_In : aH) (p0_Up p0_Down : List aA) (p0_Published : Int) (p0_Seen : List aB) : Le (Option.map bG (iE p0_Client p0_In p0_Up p0_Down p0_Published p0_Seen)) (aV SE 15 [.agg [.ptr 2000000000 0, .d (.sl [.int .i64] (List.map eI p0_In.IDs)), .row 2000000000, .row 2000000001, dIq p0_Published, .row 2000000002]] [⟨83, (client_Client.avs p0_Client)⟩] [⟨aA.ks, 1000000000067, 416, (List.map aA.enc p0_Up)⟩, ⟨aA.ks, 1000000000067, 416, (List.map aA.enc p0_Down)⟩, ⟨aB.ks, 54, 112, (List.map aB.enc p0_Seen)⟩]) := by
 refine bD (t := fun κ =>
  cond ((lM aA.enc p0_Down : Int) == 0) (
  (some (.ret [.agg [.ptr 0 0, .d (.sl [.int .i64] (List.map eI p0_In.IDs)), .row 0, .row 1, dIq p0_Published, .row 2], dBq true] [⟨83, (client_Client.avs p0_Client)⟩] [⟨aA.ks, 1000000000067, 416, (List.map aA.enc p0_Up)⟩, ⟨aA.ks, 1000000000067, 416, (List.map aA.enc p0_Down)⟩, ⟨aB.ks, 54, 112, (List.map aB.enc p0_Seen)⟩]))) (
  cond (decide (0 ≤ 0) && decide (0 < (lM aA.enc p0_Down : Int))) (
  cond (decide (0 ≤ 1) && decide (1 ≤ (lM aA.enc p0_Down : Int))) (
   κ.t 21 aI [.ptr 2000000000 0, .agg [dIq (aM (cE aA.enc p0_Down 0 0)), dIq (aM (cE aA.enc p0_Down 0 1)), dBq (bC (cE aA.enc p0_Down 0 2)), dSq (aX (cE aA.enc p0_Down 0 3)), dSq (aX (cE aA.enc p0_Down 0 4)), dIq (aM (cE aA.enc p0_Down 0 5)), dBq (bC (cE aA.enc p0_Down 0 6)), dIq (aM (cE aA.enc p0_Down 0 7)), dIq (aM (cE aA.enc p0_Down 0 8)), dSq (aX (cE aA.enc p0_Down 0 9)), dIq (aM (cE aA.enc p0_Down 0 10)), .d (.sl aE.ks (dSl (cE aA.enc p0_Down 0 11))), dSq (aX (cE aA.enc p0_Down 0 12)), dSq (aX (cE aA.enc p0_Down 0 13)), dBq (bC (cE aA.enc p0_Down 0 14)), dIq (aM (cE aA.enc p0_Down 0 15)), dIq (aM (cE aA.enc p0_Down 0 16)), dIq (aM (cE aA.enc p0_Down 0 17)), dBq (bC (cE aA.enc p0_Down 0 18)), dIq (aM (cE aA.enc p0_Down 0 19)), dSq (aX (cE aA.enc p0_Down 0 20)), dSq (aX (cE aA.enc p0_Down 0 21)), dIq (aM (cE aA.enc p0_Down 0 22)), dBq (bC (cE aA.enc p0_Down 0 23)), dIq (aM (cE aA.enc p0_Down 0 24)), dIq (aM (cE aA.enc p0_Down 0 25)), dSq (aX (cE aA.enc p0_Down 0 26)), dIq (aM (cE aA.enc p0_Down 0 27)), .d (.sl aE.ks (dSl (cE aA.enc p0_Down 0 28))), dBq (bC (cE aA.enc p0_Down 0 29)), dIq (aM (cE aA.enc p0_Down 0 30)), .d (.sl aN.ks (dSl (cE aA.enc p0_Down 0 31))), .d (.sl [.str] (dSl (cE aA.enc p0_Down 0 32))), .d (.sl [.int .i64] (dSl (cE aA.enc p0_Down 0 33)))]] [⟨83, (client_Client.avs p0_Client)⟩] [] fun r0 =>
   cond (decide ((lM aA.enc p0_Up + lM aA.enc r0.1) * 416 ≤ 140737488355328)) (
   cond (r0.2.2.1 == 0) (
    (some (.ret [.agg [.ptr 0 0, .d (.sl [.int .i64] (List.map eI p0_In.IDs)), .row 0, .row 1, dIq p0_Published, .row 2], dBq ((lM aB.enc r0.2.1 : Int) == 0)] [⟨83, (client_Client.avs r0.2.2.2)⟩] [⟨aA.ks, 1000000000067, 416, ((List.map aA.enc p0_Up) ++ (List.map aA.enc r0.1))⟩, ⟨aA.ks, 1000000000067, 416, (List.drop (Int.toNat 1) (List.map aA.enc p0_Down))⟩, ⟨aB.ks, 54, 112, (List.map aB.enc p0_Seen)⟩]))) (
   (some (.ret [.agg [.ptr 0 0, .d (.sl [.int .i64] (List.map eI p0_In.IDs)), .row 0, .row 1, dIq p0_Published, .row 2], dBq false] [⟨83, (client_Client.avs r0.2.2.2)⟩] [⟨aA.ks, 1000000000067, 416, ((List.map aA.enc p0_Up) ++ (List.map aA.enc r0.1))⟩, ⟨aA.ks, 1000000000067, 416, (List.drop (Int.toNat 1) (List.map aA.enc p0_Down))⟩, ⟨aB.ks, 54, 112, (List.map aB.enc p0_Seen)⟩])))) none) none) none)) (fun _ => by kernel_rfl) ?_
 unfold iE
 repeat' first | (with_reducible first | refine lC ?_ ?_ | refine lQ eX cB ?_ fun _ _ => ?_ | refine lG ?_ ?_ | refine lD ?_ ?_ ?_ | exact cY _ _ | refine aK ?_) | rfl | (simp only [EN]; done) | (simp only [EN]; exact cY _ _) | (simp only [EN, bG] <;> rfl)
noncomputable def ajI (L : dK) (κ : Tau) (a0 : List (List D)) (a1 : Int) : Res := L SE (K κ) κ.Λ κ.J 16 0 [1, 0, 1, 0] (cL [(0, .d (.sl aB.ks a0)), (3, dIq a1)] [] [] [] [])
theorem wV : ∀ (fu : Nat) (x0 : List aB) (x3 : Int), Le (Option.map aF (eS fu x0 x3)) (ajI lab (kF 16) (List.map aB.enc x0) x3) := by
 intro fu
 induction fu with
 | zero => intros; exact le_none
 | succ fu ih =>
  intro x0 x3
  refine cK (t := fun κ =>
  cond (decide (x3 < (lM aB.enc x0 : Int))) (
  cond (iB x3 (lM aB.enc x0 : Int)) (
   cond ((aM (cE aB.enc x0 x3 7)) != (w6 (x3 + 1))) (
   (rB false)) (
   cond (iB x3 (lM aB.enc x0 : Int)) (
   cond (!((aX (cE aB.enc x0 x3 6)) == ([97] : Str))) (
    (rB false)) (
   ajI lab κ (List.map aB.enc x0) (w6 (x3 + 1)))) none)) none) (
  (rB true))) (fun _ => by kernel_rfl) ?_
  unfold eS
  repeat' first | (with_reducible first | refine lG ?_ ?_ | refine lD ?_ ?_ ?_ | exact ih _ _ | refine aK ?_) | rfl | (simp only [EN]; done) | (simp only [EN, aF] <;> rfl)
theorem rG (p0 : List aB) : Le (Option.map aF (gZ p0)) (aV SE 16 [.d (.sl aB.ks (List.map aB.enc p0))] [] []) := by
 refine bD (t := fun κ =>
  ajI lab κ (List.map aB.enc p0) 0) (fun _ => by kernel_rfl) ?_
 unfold gZ
 exact wV fuel p0 0
noncomputable def abj (L : dK) (κ : Tau) (a0 : List (List D)) (a1 : Bool) (a2 a3 : Int) (a4 : List (List D)) (a5 : Int) (a6 : Bool) (a7 : List D) (a8 : List (List D)) (a9 : Int) (a10 a11 a12 : List (List D)) : Res := L SE (K κ) κ.Λ κ.J 4 0 [1, 1, 1, 1, 1, 0, 1, 0, 0, 1, 0, 0, 1] (cL [(1, .d (.sl aD.ks a0)), (5, .ptr 1000000000 0), (7, .ptr 1000000001 0), (8, dBq a1), (9, dIq a2), (44, dIq a3), (45, .d (.sl aD.ks a4)), (46, dIq a5), (47, dBq a6)] [⟨83, (List.map AV.d a7)⟩, ⟨45, [.ptr 1000000000 0, .d (.sl [.int .i64] a8), .row 50102, .row 50103, dIq a9, .row 50105]⟩] [] [] [(50102, ⟨aA.ks, 1000000000067, 416, a10⟩), (50103, ⟨aA.ks, 1000000000067, 416, a11⟩), (50105, ⟨aB.ks, 54, 112, a12⟩)])
noncomputable def amI (L : dK) (κ : Tau) (a0 : List (List D)) (a1 : Bool) (a2 a3 : Int) (a4 : List (List D)) (a5 : Int) (a6 : Bool) (a7 : List D) (a8 : List (List D)) (a9 : Int) (a10 a11 a12 : List (List D)) : Res := L SE (K κ) κ.Λ κ.J 4 0 [1, 1, 1, 1, 1, 0, 1, 0, 0, 1, 0, 0, 0, 0] (cL [(1, .d (.sl aD.ks a0)), (5, .ptr 1000000000 0), (7, .ptr 1000000001 0), (8, dBq a1), (9, dIq a2), (44, dIq a3), (45, .d (.sl aD.ks a4)), (46, dIq a5), (47, dBq a6)] [⟨83, (List.map AV.d a7)⟩, ⟨45, [.ptr 1000000000 0, .d (.sl [.int .i64] a8), .row 50102, .row 50103, dIq a9, .row 50105]⟩] [] [] [(50102, ⟨aA.ks, 1000000000067, 416, a10⟩), (50103, ⟨aA.ks, 1000000000067, 416, a11⟩), (50105, ⟨aB.ks, 54, 112, a12⟩)])
noncomputable def amE (L : dK) (κ : Tau) (a0 : List (List D)) (a1 a2 : Int) (a3 : List (List D)) (a4 a5 a6 : Int) (a7 : Bool) (a8 : List D) (a9 : List (List D)) (a10 : Int) (a11 a12 a13 : List (List D)) : Res := L SE (K κ) κ.Λ κ.J 4 0 [1, 1, 1, 1, 1, 1, 0, 1, 0, 0, 1, 0, 0, 0] (cL [(1, .d (.sl aD.ks a0)), (5, .ptr 1000000000 0), (7, .ptr 1000000001 0), (12, dIq a1), (137, dIq a2), (138, .d (.sl aD.ks a3)), (139, dIq a4), (140, dIq a5), (141, dIq a6), (142, dBq a7)] [⟨83, (List.map AV.d a8)⟩, ⟨45, [.ptr 1000000000 0, .d (.sl [.int .i64] a9), .row 50102, .row 50103, dIq a10, .row 50105]⟩] [] [] [(50102, ⟨aA.ks, 1000000000067, 416, a11⟩), (50103, ⟨aA.ks, 1000000000067, 416, a12⟩), (50105, ⟨aB.ks, 54, 112, a13⟩)])
noncomputable def aji (L : dK) (κ : Tau) (a0 : Bool) (a1 : List D) (a2 : List (List D)) (a3 : Int) (a4 a5 a6 : List (List D)) : Res := L SE (K κ) κ.Λ κ.J 4 0 [1, 1, 1, 1, 1, 1, 1, 0] (cL [(5, .ptr 1000000000 0), (7, .ptr 1000000001 0), (8, dBq a0)] [⟨83, (List.map AV.d a1)⟩, ⟨45, [.ptr 1000000000 0, .d (.sl [.int .i64] a2), .row 50102, .row 50103, dIq a3, .row 50105]⟩] [] [] [(50102, ⟨aA.ks, 1000000000067, 416, a4⟩), (50103, ⟨aA.ks, 1000000000067, 416, a5⟩), (50105, ⟨aB.ks, 54, 112, a6⟩)])
noncomputable def aeG (L : dK) (κ : Tau) (a0 : List (List D)) (a1 : Bool) (a2 : Int) (a3 : List D) (a4 : List (List D)) (a5 : Int) (a6 a7 a8 : List (List D)) : Res := L SE (K κ) κ.Λ κ.J 4 0 [1, 1, 1, 1, 1, 1, 0, 1, 0] (cL [(1, .d (.sl aD.ks a0)), (5, .ptr 1000000000 0), (7, .ptr 1000000001 0), (8, dBq a1), (12, dIq a2)] [⟨83, (List.map AV.d a3)⟩, ⟨45, [.ptr 1000000000 0, .d (.sl [.int .i64] a4), .row 50102, .row 50103, dIq a5, .row 50105]⟩] [] [] [(50102, ⟨aA.ks, 1000000000067, 416, a6⟩), (50103, ⟨aA.ks, 1000000000067, 416, a7⟩), (50105, ⟨aB.ks, 54, 112, a8⟩)])
noncomputable def ajh (L : dK) (κ : Tau) (a0 : List (List D)) (a1 : Bool) (a2 : List D) (a3 : List (List D)) (a4 : Int) (a5 a6 a7 : List (List D)) : Res := L SE (K κ) κ.Λ κ.J 4 0 [1, 1, 1, 1, 1, 1, 0, 0] (cL [(1, .d (.sl aD.ks a0)), (5, .ptr 1000000000 0), (7, .ptr 1000000001 0), (8, dBq a1)] [⟨83, (List.map AV.d a2)⟩, ⟨45, [.ptr 1000000000 0, .d (.sl [.int .i64] a3), .row 50102, .row 50103, dIq a4, .row 50105]⟩] [] [] [(50102, ⟨aA.ks, 1000000000067, 416, a5⟩), (50103, ⟨aA.ks, 1000000000067, 416, a6⟩), (50105, ⟨aB.ks, 54, 112, a7⟩)])
noncomputable def aaX (L : dK) (κ : Tau) (a0 : List (List D)) (a1 : Bool) (a2 : Int) (a3 : List D) (a4 : List (List D)) (a5 : Int) (a6 a7 a8 : List (List D)) : Res := L SE (K κ) κ.Λ κ.J 4 0 [1, 1, 1, 1, 1, 0, 1, 0] (cL [(1, .d (.sl aD.ks a0)), (5, .ptr 1000000000 0), (7, .ptr 1000000001 0), (8, dBq a1), (9, dIq a2)] [⟨83, (List.map AV.d a3)⟩, ⟨45, [.ptr 1000000000 0, .d (.sl [.int .i64] a4), .row 50102, .row 50103, dIq a5, .row 50105]⟩] [] [] [(50102, ⟨aA.ks, 1000000000067, 416, a6⟩), (50103, ⟨aA.ks, 1000000000067, 416, a7⟩), (50105, ⟨aB.ks, 54, 112, a8⟩)])
noncomputable def anY (L : dK) (κ : Tau) (a0 : List (List D)) (a1 : List D) : Res := L SE (K κ) κ.Λ κ.J 4 0 [1, 1, 1, 1, 0] (cL [(1, .d (.sl aD.ks a0)), (5, .ptr 1000000000 0)] [⟨83, (List.map AV.d a1)⟩] [] [] [])
noncomputable def anI (L : dK) (κ : Tau) (a0 : Int) (a1 : List (List D)) : Res := L SE (K κ) κ.Λ κ.J 4 0 [1, 1, 0] (cL [(0, dIq a0), (1, .d (.sl aD.ks a1))] [] [] [] [])
theorem m7 (k8 : (List aD) → Bool → Int → client_Client → (List Int) → Int → (List aA) → (List aA) → (List aB) → Option (Bool)) (hk8 : ∀ (x1 : List aD) (x8 : Bool) (x9 : Int) (b0 : client_Client) (b1_1 : List Int) (b1_4 : Int) (w50102 w50103 : List aA) (w50105 : List aB), Le (Option.map aF (k8 x1 x8 x9 b0 b1_1 b1_4 w50102 w50103 w50105)) (aaX lab (kF 4) (List.map aD.enc x1) x8 x9 (client_Client.enc b0) (List.map eI b1_1) b1_4 (List.map aA.enc w50102) (List.map aA.enc w50103) (List.map aB.enc w50105))) (x1 : List aD) (x8 : Bool) (x9 x44 : Int) (x45 : List aD) (x46 : Int) (x47 : Bool) (b0 : client_Client) (b1_1 : List Int) (b1_4 : Int) (w50102 w50103 : List aA) (w50105 : List aB) : Le (Option.map aF (cA k8 x1 x8 x9 x44 x45 x46 x47 b0 b1_1 b1_4 w50102 w50103 w50105)) (abj lab (kF 4) (List.map aD.enc x1) x8 x9 x44 (List.map aD.enc x45) x46 x47 (client_Client.enc b0) (List.map eI b1_1) b1_4 (List.map aA.enc w50102) (List.map aA.enc w50103) (List.map aB.enc w50105)) := by
 refine cK (t := fun κ =>
  cond x8 (
  κ.t 16 aF [.d (.sl aB.ks (List.map aB.enc w50105))] [] [] fun r11 =>
  cond r11 (
   cond (decide ((lM aB.enc w50105 : Int) ≤ b1_4)) (
   κ.t 11 cM [.ptr 2000000000 0] [⟨83, (client_Client.avs b0)⟩] [] fun r12 =>
   cond (decide (r12.1 > 0)) (
    aaX lab κ (List.map aD.enc x1) true (w6 (x9 + 1)) (client_Client.enc r12.2) (List.map eI b1_1) b1_4 (List.map aA.enc w50102) (List.map aA.enc w50103) (List.map aB.enc w50105)) (
   aaX lab κ (List.map aD.enc x1) ((lM aB.enc w50105 : Int) == b1_4) (w6 (x9 + 1)) (client_Client.enc r12.2) (List.map eI b1_1) b1_4 (List.map aA.enc w50102) (List.map aA.enc w50103) (List.map aB.enc w50105))) (
   aaX lab κ (List.map aD.enc x1) false (w6 (x9 + 1)) (client_Client.enc b0) (List.map eI b1_1) b1_4 (List.map aA.enc w50102) (List.map aA.enc w50103) (List.map aB.enc w50105))) (
  aaX lab κ (List.map aD.enc x1) false (w6 (x9 + 1)) (client_Client.enc b0) (List.map eI b1_1) b1_4 (List.map aA.enc w50102) (List.map aA.enc w50103) (List.map aB.enc w50105))) (
  aaX lab κ (List.map aD.enc x1) false (w6 (x9 + 1)) (client_Client.enc b0) (List.map eI b1_1) b1_4 (List.map aA.enc w50102) (List.map aA.enc w50103) (List.map aB.enc w50105))) (fun _ => by kernel_rfl) ?_
 unfold cA
 repeat' first | (with_reducible first | refine lC ?_ ?_ | refine lQ eX aU ?_ fun _ _ => ?_ | refine lQ eX fZ ?_ fun _ _ => ?_ | refine lD ?_ ?_ ?_ | exact rG _ | exact gD _ | exact hk8 _ _ _ _ _ _ _ _ _) | (simp only [EN]; done) | (simp only [EN]; exact hk8 _ _ _ _ _ _ _ _ _)
theorem mY (k8 : (List aD) → Bool → Int → client_Client → (List Int) → Int → (List aA) → (List aA) → (List aB) → Option (Bool)) (hk8 : ∀ (x1 : List aD) (x8 : Bool) (x9 : Int) (b0 : client_Client) (b1_1 : List Int) (b1_4 : Int) (w50102 w50103 : List aA) (w50105 : List aB), Le (Option.map aF (k8 x1 x8 x9 b0 b1_1 b1_4 w50102 w50103 w50105)) (aaX lab (kF 4) (List.map aD.enc x1) x8 x9 (client_Client.enc b0) (List.map eI b1_1) b1_4 (List.map aA.enc w50102) (List.map aA.enc w50103) (List.map aB.enc w50105))) (x1 : List aD) (x8 : Bool) (x9 x44 : Int) (x45 : List aD) (x46 : Int) (x47 : Bool) (b0 : client_Client) (b1_1 : List Int) (b1_4 : Int) (w50102 w50103 : List aA) (w50105 : List aB) : Le (Option.map aF (hJ k8 x1 x8 x9 x44 x45 x46 x47 b0 b1_1 b1_4 w50102 w50103 w50105)) (amI lab (kF 4) (List.map aD.enc x1) x8 x9 x44 (List.map aD.enc x45) x46 x47 (client_Client.enc b0) (List.map eI b1_1) b1_4 (List.map aA.enc w50102) (List.map aA.enc w50103) (List.map aB.enc w50105)) := by
 refine cK (t := fun κ =>
  cond (iB x9 (lM aD.enc x1 : Int)) (
  cond ((aM (cE aD.enc x1 x9 0)) == 0) (
   cond (iB x9 (lM aD.enc x1 : Int)) (
   cond (decide ((List.length (aX (cE aD.enc x1 x9 1)) : Int) ≤ 256)) (
    cond (iB x9 (lM aD.enc x1 : Int)) (
    κ.t 13 aZ [.ptr 2000000000 0, .agg [dSq ([116] : Str), dSq (aX (cE aD.enc x1 x9 1)), dIq 2, dBq false, dIq 0, dIq 0, dSq [], dIq 0, .d (.sl aE.ks (List.map aE.enc []))]] [⟨83, (client_Client.avs b0)⟩] [] fun r7 =>
    cond (decide ((lM aA.enc w50102 + lM aA.enc r7.1) * 416 ≤ 140737488355328)) (
     abj lab κ (List.map aD.enc x1) (r7.2.1 == 0) x9 x44 (List.map aD.enc x45) x46 x47 (client_Client.enc r7.2.2) (List.map eI b1_1) (w6 (b1_4 + 1)) (((List.map aA.enc w50102) ++ (List.map aA.enc r7.1))) (List.map aA.enc w50103) (List.map aB.enc w50105)) none) none) (
   abj lab κ (List.map aD.enc x1) x8 x9 x44 (List.map aD.enc x45) x46 x47 (client_Client.enc b0) (List.map eI b1_1) b1_4 (List.map aA.enc w50102) (List.map aA.enc w50103) (List.map aB.enc w50105))) none) (
  cond ((aM (cE aD.enc x1 x9 0)) == 1) (
   κ.t 14 bG [.agg [.ptr 2000000000 0, .d (.sl [.int .i64] (List.map eI b1_1)), .row 2000000000, .row 2000000001, dIq b1_4, .row 2000000002]] [⟨83, (client_Client.avs b0)⟩] [⟨aA.ks, 1000000000067, 416, (List.map aA.enc w50102)⟩, ⟨aA.ks, 1000000000067, 416, (List.map aA.enc w50103)⟩, ⟨aB.ks, 54, 112, (List.map aB.enc w50105)⟩] fun r8 =>
   abj lab κ (List.map aD.enc x1) r8.2.2.2.2.2.1 x9 x44 (List.map aD.enc x45) x46 x47 (client_Client.enc r8.2.2.2.2.2.2) (List.map eI r8.1.IDs) r8.2.2.2.1 (List.map aA.enc r8.2.1) (List.map aA.enc r8.2.2.1) (List.map aB.enc r8.2.2.2.2.1)) (
  cond ((aM (cE aD.enc x1 x9 0)) == 2) (
   κ.t 15 bG [.agg [.ptr 2000000000 0, .d (.sl [.int .i64] (List.map eI b1_1)), .row 2000000000, .row 2000000001, dIq b1_4, .row 2000000002]] [⟨83, (client_Client.avs b0)⟩] [⟨aA.ks, 1000000000067, 416, (List.map aA.enc w50102)⟩, ⟨aA.ks, 1000000000067, 416, (List.map aA.enc w50103)⟩, ⟨aB.ks, 54, 112, (List.map aB.enc w50105)⟩] fun r9 =>
   abj lab κ (List.map aD.enc x1) r9.2.2.2.2.2.1 x9 x44 (List.map aD.enc x45) x46 x47 (client_Client.enc r9.2.2.2.2.2.2) (List.map eI r9.1.IDs) r9.2.2.2.1 (List.map aA.enc r9.2.1) (List.map aA.enc r9.2.2.1) (List.map aB.enc r9.2.2.2.2.1)) (
  cond ((aM (cE aD.enc x1 x9 0)) == 3) (
   κ.t 12 bG [.agg [.ptr 2000000000 0, .d (.sl [.int .i64] (List.map eI b1_1)), .row 2000000000, .row 2000000001, dIq b1_4, .row 2000000002]] [⟨83, (client_Client.avs b0)⟩] [⟨aA.ks, 1000000000067, 416, (List.map aA.enc w50102)⟩, ⟨aA.ks, 1000000000067, 416, (List.map aA.enc w50103)⟩, ⟨aB.ks, 54, 112, (List.map aB.enc w50105)⟩] fun r10 =>
   abj lab κ (List.map aD.enc x1) r10.2.2.2.2.2.1 x9 x44 (List.map aD.enc x45) x46 x47 (client_Client.enc r10.2.2.2.2.2.2) (List.map eI r10.1.IDs) r10.2.2.2.1 (List.map aA.enc r10.2.1) (List.map aA.enc r10.2.2.1) (List.map aB.enc r10.2.2.2.2.1)) (
  abj lab κ (List.map aD.enc x1) x8 x9 x44 (List.map aD.enc x45) x46 x47 (client_Client.enc b0) (List.map eI b1_1) b1_4 (List.map aA.enc w50102) (List.map aA.enc w50103) (List.map aB.enc w50105)))))) none) (fun _ => by kernel_rfl) ?_
 unfold hJ
 repeat' first | (with_reducible first | refine lQ eX eZ ?_ fun _ _ => ?_ | refine lQ eX gK ?_ fun _ _ => ?_ | refine lQ eX gK ?_ fun _ _ => ?_ | refine lQ eX gK ?_ fun _ _ => ?_ | refine lG ?_ ?_ | refine lD ?_ ?_ ?_ | exact gW _ _ | exact m7 _ hk8 _ _ _ _ _ _ _ _ _ _ _ _ _ | exact nB _ _ _ _ _ _ | exact o7 _ _ _ _ _ _ | exact l9 _ _ _ _ _ _) | (simp only [EN]; done) | (simp only [EN]; exact gW _ _) | (simp only [EN]; exact m7 _ hk8 _ _ _ _ _ _ _ _ _ _ _ _ _) | (simp only [EN]; exact nB _ _ _ _ _ _) | (simp only [EN]; exact o7 _ _ _ _ _ _) | (simp only [EN]; exact l9 _ _ _ _ _ _)
theorem mZ (k25 : (List aD) → Bool → Int → client_Client → (List Int) → Int → (List aA) → (List aA) → (List aB) → Option (Bool)) (hk25 : ∀ (x1 : List aD) (x8 : Bool) (x12 : Int) (b0 : client_Client) (b1_1 : List Int) (b1_4 : Int) (w50102 w50103 : List aA) (w50105 : List aB), Le (Option.map aF (k25 x1 x8 x12 b0 b1_1 b1_4 w50102 w50103 w50105)) (aeG lab (kF 4) (List.map aD.enc x1) x8 x12 (client_Client.enc b0) (List.map eI b1_1) b1_4 (List.map aA.enc w50102) (List.map aA.enc w50103) (List.map aB.enc w50105))) (x1 : List aD) (x12 x137 : Int) (x138 : List aD) (x139 x140 x141 : Int) (x142 : Bool) (b0 : client_Client) (b1_1 : List Int) (b1_4 : Int) (w50102 w50103 : List aA) (w50105 : List aB) : Le (Option.map aF (g9 k25 x1 x12 x137 x138 x139 x140 x141 x142 b0 b1_1 b1_4 w50102 w50103 w50105)) (amE lab (kF 4) (List.map aD.enc x1) x12 x137 (List.map aD.enc x138) x139 x140 x141 x142 (client_Client.enc b0) (List.map eI b1_1) b1_4 (List.map aA.enc w50102) (List.map aA.enc w50103) (List.map aB.enc w50105)) := by
 refine cK (t := fun κ =>
  κ.t 14 bG [.agg [.ptr 2000000000 0, .d (.sl [.int .i64] (List.map eI b1_1)), .row 2000000000, .row 2000000001, dIq b1_4, .row 2000000002]] [⟨83, (client_Client.avs b0)⟩] [⟨aA.ks, 1000000000067, 416, (List.map aA.enc w50102)⟩, ⟨aA.ks, 1000000000067, 416, (List.map aA.enc w50103)⟩, ⟨aB.ks, 54, 112, (List.map aB.enc w50105)⟩] fun r13 =>
  cond r13.2.2.2.2.2.1 (
  κ.t 15 bG [.agg [.ptr 2000000000 0, .d (.sl [.int .i64] (List.map eI r13.1.IDs)), .row 2000000000, .row 2000000001, dIq r13.2.2.2.1, .row 2000000002]] [⟨83, (client_Client.avs r13.2.2.2.2.2.2)⟩] [⟨aA.ks, 1000000000067, 416, (List.map aA.enc r13.2.1)⟩, ⟨aA.ks, 1000000000067, 416, (List.map aA.enc r13.2.2.1)⟩, ⟨aB.ks, 54, 112, (List.map aB.enc r13.2.2.2.2.1)⟩] fun r14 =>
  aeG lab κ (List.map aD.enc x1) r14.2.2.2.2.2.1 (w6 (x12 + 1)) (client_Client.enc r14.2.2.2.2.2.2) (List.map eI r14.1.IDs) r14.2.2.2.1 (List.map aA.enc r14.2.1) (List.map aA.enc r14.2.2.1) (List.map aB.enc r14.2.2.2.2.1)) (
  aeG lab κ (List.map aD.enc x1) r13.2.2.2.2.2.1 (w6 (x12 + 1)) (client_Client.enc r13.2.2.2.2.2.2) (List.map eI r13.1.IDs) r13.2.2.2.1 (List.map aA.enc r13.2.1) (List.map aA.enc r13.2.2.1) (List.map aB.enc r13.2.2.2.2.1))) (fun _ => by kernel_rfl) ?_
 unfold g9
 repeat' first | (with_reducible first | refine lC ?_ ?_ | refine lQ eX gK ?_ fun _ _ => ?_ | refine lQ eX gK ?_ fun _ _ => ?_ | exact nB _ _ _ _ _ _ | exact o7 _ _ _ _ _ _ | exact hk25 _ _ _ _ _ _ _ _ _) | (simp only [EN]; exact nB _ _ _ _ _ _)
theorem tZ (x8 : Bool) (b0 : client_Client) (b1_1 : List Int) (b1_4 : Int) (w50102 w50103 : List aA) (w50105 : List aB) : Le (Option.map aF (fJ x8 b0 b1_1 b1_4 w50102 w50103 w50105)) (aji lab (kF 4) x8 (client_Client.enc b0) (List.map eI b1_1) b1_4 (List.map aA.enc w50102) (List.map aA.enc w50103) (List.map aB.enc w50105)) := by
 refine cK (t := fun κ =>
  κ.t 9 aF [] [] [] fun r15 =>
  cond r15 (
  cond x8 (
   κ.t 11 cM [.ptr 2000000000 0] [⟨83, (client_Client.avs b0)⟩] [] fun r16 =>
   cond (r16.1 == 0) (
   cond ((lM aB.enc w50105 : Int) == b1_4) (
    κ.t 16 aF [.d (.sl aB.ks (List.map aB.enc w50105))] [] [] fun r17 =>
    (rB r17)) (
   (rB false))) (
   (rB false))) (
  (rB false))) (
  (rB false))) (fun _ => by kernel_rfl) ?_
 unfold fJ
 refine lQ eX aU (tJ) fun r15 _ => ?_
 refine lC ?_ ?_
 ·refine lC ?_ ?_
  ·refine lQ eX fZ (gD _) fun r16 _ => ?_
   refine lC ?_ ?_
   ·refine lDe ?_ ?_
    ·refine lQ eX aU (rG _) fun r17 _ => ?_
     exact aK rfl
    ·exact aK rfl
   ·exact aK rfl
  ·exact aK rfl
 ·exact aK rfl
theorem uA : ∀ (fu : Nat) (x1 : List aD) (x8 : Bool) (x12 : Int) (b0 : client_Client) (b1_1 : List Int) (b1_4 : Int) (w50102 w50103 : List aA) (w50105 : List aB), Le (Option.map aF (dR fu x1 x8 x12 b0 b1_1 b1_4 w50102 w50103 w50105)) (aeG lab (kF 4) (List.map aD.enc x1) x8 x12 (client_Client.enc b0) (List.map eI b1_1) b1_4 (List.map aA.enc w50102) (List.map aA.enc w50103) (List.map aB.enc w50105)) := by
 intro fu
 induction fu with
 | zero => intros; exact le_none
 | succ fu ih =>
  intro x1 x8 x12 b0 b1_1 b1_4 w50102 w50103 w50105
  refine cK (t := fun κ =>
  cond x8 (
  cond (decide (x12 < (w6 ((w6 (4 * (lM aD.enc x1 : Int))) + 80)))) (
   amE lab κ (List.map aD.enc x1) x12 x12 (List.map aD.enc x1) (lM aD.enc x1 : Int) (w6 (4 * (lM aD.enc x1 : Int))) (w6 ((w6 (4 * (lM aD.enc x1 : Int))) + 80)) (decide (x12 < (w6 ((w6 (4 * (lM aD.enc x1 : Int))) + 80)))) (client_Client.enc b0) (List.map eI b1_1) b1_4 (List.map aA.enc w50102) (List.map aA.enc w50103) (List.map aB.enc w50105)) (
  aji lab κ x8 (client_Client.enc b0) (List.map eI b1_1) b1_4 (List.map aA.enc w50102) (List.map aA.enc w50103) (List.map aB.enc w50105))) (
  aji lab κ x8 (client_Client.enc b0) (List.map eI b1_1) b1_4 (List.map aA.enc w50102) (List.map aA.enc w50103) (List.map aB.enc w50105))) (fun _ => by kernel_rfl) ?_
  unfold dR
  repeat' first | (with_reducible first | refine lC ?_ ?_ | refine lD ?_ ?_ ?_ | exact mZ _ (ih) _ _ _ _ _ _ _ _ _ _ _ _ _ _ | exact tZ _ _ _ _ _ _ _) | (simp only [EN]; done) | (simp only [EN]; exact mZ _ (ih) _ _ _ _ _ _ _ _ _ _ _ _ _ _)
theorem uB (x1 : List aD) (x8 : Bool) (b0 : client_Client) (b1_1 : List Int) (b1_4 : Int) (w50102 w50103 : List aA) (w50105 : List aB) : Le (Option.map aF (hY x1 x8 b0 b1_1 b1_4 w50102 w50103 w50105)) (ajh lab (kF 4) (List.map aD.enc x1) x8 (client_Client.enc b0) (List.map eI b1_1) b1_4 (List.map aA.enc w50102) (List.map aA.enc w50103) (List.map aB.enc w50105)) := by
 refine cK (t := fun κ =>
  aeG lab κ (List.map aD.enc x1) x8 0 (client_Client.enc b0) (List.map eI b1_1) b1_4 (List.map aA.enc w50102) (List.map aA.enc w50103) (List.map aB.enc w50105)) (fun _ => by kernel_rfl) ?_
 unfold hY
 exact uA fuel x1 x8 0 b0 b1_1 b1_4 w50102 w50103 w50105
theorem uV : ∀ (fu : Nat) (x1 : List aD) (x8 : Bool) (x9 : Int) (b0 : client_Client) (b1_1 : List Int) (b1_4 : Int) (w50102 w50103 : List aA) (w50105 : List aB), Le (Option.map aF (dF fu x1 x8 x9 b0 b1_1 b1_4 w50102 w50103 w50105)) (aaX lab (kF 4) (List.map aD.enc x1) x8 x9 (client_Client.enc b0) (List.map eI b1_1) b1_4 (List.map aA.enc w50102) (List.map aA.enc w50103) (List.map aB.enc w50105)) := by
 intro fu
 induction fu with
 | zero => intros; exact le_none
 | succ fu ih =>
  intro x1 x8 x9 b0 b1_1 b1_4 w50102 w50103 w50105
  refine cK (t := fun κ =>
  cond x8 (
  cond (decide (x9 < (lM aD.enc x1 : Int))) (
   amI lab κ (List.map aD.enc x1) x8 x9 x9 (List.map aD.enc x1) (lM aD.enc x1 : Int) (decide (x9 < (lM aD.enc x1 : Int))) (client_Client.enc b0) (List.map eI b1_1) b1_4 (List.map aA.enc w50102) (List.map aA.enc w50103) (List.map aB.enc w50105)) (
  ajh lab κ (List.map aD.enc x1) x8 (client_Client.enc b0) (List.map eI b1_1) b1_4 (List.map aA.enc w50102) (List.map aA.enc w50103) (List.map aB.enc w50105))) (
  ajh lab κ (List.map aD.enc x1) x8 (client_Client.enc b0) (List.map eI b1_1) b1_4 (List.map aA.enc w50102) (List.map aA.enc w50103) (List.map aB.enc w50105))) (fun _ => by kernel_rfl) ?_
  unfold dF
  repeat' first | (with_reducible first | refine lC ?_ ?_ | refine lD ?_ ?_ ?_ | exact mY _ (ih) _ _ _ _ _ _ _ _ _ _ _ _ _ | exact uB _ _ _ _ _ _ _ _) | (simp only [EN]; done) | (simp only [EN]; exact mY _ (ih) _ _ _ _ _ _ _ _ _ _ _ _ _)
theorem uF (x1 : List aD) (b0 : client_Client) : Le (Option.map aF (iN x1 b0)) (anY lab (kF 4) (List.map aD.enc x1) (client_Client.enc b0)) := by
 refine cK (t := fun κ =>
  κ.t 12 bG [.agg [.ptr 2000000000 0, .d (.sl [.int .i64] (List.map eI [])), .row 2000000000, .row 2000000001, dIq 0, .row 2000000002]] [⟨83, (client_Client.avs b0)⟩] [⟨aA.ks, 1000000000067, 416, (List.map aA.enc [])⟩, ⟨aA.ks, 1000000000067, 416, (List.map aA.enc [])⟩, ⟨aB.ks, 54, 112, (List.map aB.enc [])⟩] fun r6 =>
  aaX lab κ (List.map aD.enc x1) r6.2.2.2.2.2.1 0 (client_Client.enc r6.2.2.2.2.2.2) (List.map eI r6.1.IDs) r6.2.2.2.1 (List.map aA.enc r6.2.1) (List.map aA.enc r6.2.2.1) (List.map aB.enc r6.2.2.2.2.1)) (fun _ => by kernel_rfl) ?_
 unfold iN
 repeat' first | (with_reducible first | refine lQ eX gK ?_ fun _ _ => ?_ | exact l9 _ _ _ _ _ _ | exact uV fuel _ _ _ _ _ _ _ _ _) | (simp only [EN]; exact l9 _ _ _ _ _ _)
theorem uJ (x0 : Int) (x1 : List aD) : Le (Option.map aF (iM x0 x1)) (anI lab (kF 4) x0 (List.map aD.enc x1)) := by
 refine cK (t := fun κ =>
  κ.p 7 lO [dSq ([97] : Str), dIq x0] [] [] (fun e4 =>
  cond (e4 != 0) (
   (rB false)) (
  (rB false))) fun e5 =>
  cond (e5.1 != 0) (
  (rB false)) (
  anY lab κ (List.map aD.enc x1) (client_Client.enc e5.2))) (fun _ => by kernel_rfl) ?_
 unfold iM
 refine lQp eX aaH (abn _ _) (fun e4 _ => ?_) (fun e5 _ => ?_)
 ·refine lC ?_ ?_
  ·exact aK rfl
  ·exact aK rfl
 ·refine lC ?_ ?_
  ·exact aK rfl
  ·exact uF x1 e5.2
theorem wN (p0 : Int) (p1 : List aD) : Le (Option.map aF (kA p0 p1)) (aV SE 4 [dIq p0, .d (.sl aD.ks (List.map aD.enc p1))] [] []) := by
 refine bD (t := fun κ =>
  cond (decide (p0 < 1)) (
  κ.t 9 aF [] [] [] fun r0 =>
  (rB r0)) (
  cond (decide (p0 > 32)) (
  κ.t 9 aF [] [] [] fun r1 =>
  (rB r1)) (
  cond (decide ((lM aD.enc p1 : Int) > 60)) (
  κ.t 9 aF [] [] [] fun r2 =>
  (rB r2)) (
  anI lab κ p0 (List.map aD.enc p1))))) (fun _ => by kernel_rfl) ?_
 unfold kA
 repeat' first | (with_reducible first | refine lC ?_ ?_ | refine lQ eX aU ?_ fun _ _ => ?_ | refine lD ?_ ?_ ?_ | exact tJ | exact uJ _ _ | refine aK ?_) | rfl | (simp only [EN]; done) | (simp only [EN, aF] <;> rfl)
end Te
end PX
