import Derived.Test.YthjloglncbnhfaaGreatDoorTre0
set_option linter.unusedVariables false
set_option linter.unusedSimpArgs false
set_option maxRecDepth 100000
noncomputable section
namespace PX
open Go
open Md
namespace Te
noncomputable def ate (L : bP) (κ : Tau) (a0 a1 a2 a3 : List D) : Res := L SE (K κ) κ.Λ κ.J 34 0 [1, 1, 1, 0] (bE [(2, .ptr 1000000000 0), (3, .ptr 1000000001 0), (4, .ptr 1000000002 0), (5, .ptr 1000000003 0)] [⟨33, (List.map AV.d a0)⟩, ⟨67, (List.map AV.d a1)⟩, ⟨33, (List.map AV.d a2)⟩, ⟨67, (List.map AV.d a3)⟩] [] [] [])
theorem zI (b0 : aJ) (b1 : aA) (b2 : aJ) (b3 : aA) : Le (Option.map bY (rT b0 b1 b2 b3)) (ate lab (kF 34) (aJ.enc b0) (aA.enc b1) (aJ.enc b2) (aA.enc b3)) := by
 refine bF (t := fun κ =>
  κ.t 60 aR [.d (.sl [.int .i64] (List.map eI b0.IDs)), dIq b1.ID] [] [] fun r0 =>
  (some (bY (((aJ.mk r0), (aA.mk 7 b1.ID false zMq [] [] false 0 0 0 zWq false 0 [] [] []), 0))))) (fun _ => by kernel_rfl) ?_
 unfold rT
 refine lQ eX bU (adK _ _) fun r0 _ => ?_
 exact aI rfl
theorem ahD (p0 : aJ) (p1 : aA) : Le (Option.map bY (sD p0 p1)) (aW SE 34 [aJ.av p0, aA.av p1] [] []) := by
 refine aZ (t := fun κ =>
  cond (p1.Kind != 6) (
  (some (bY (((aJ.mk []), zPq, 10))))) (
  cond (decide (p1.ID < 1)) (
  (some (bY (((aJ.mk []), zPq, 15))))) (
  cond (decide (p1.ID > 65535)) (
  (some (bY (((aJ.mk []), zPq, 15))))) (
  ate lab κ (aJ.enc p0) (aA.enc p1) [D.sl [.int .i64] (List.map eI [])] [D.int .i64 0, D.int .i64 0, D.bool false, D.str [], D.str [], D.int .i64 0, D.bool false, D.int .i64 0, D.int .i64 0, D.str [], D.int .i64 0, D.sl aE.ks (List.map aE.enc []), D.str [], D.str [], D.bool false, D.int .i64 0, D.int .i64 0, D.int .i64 0, D.bool false, D.int .i64 0, D.str [], D.str [], D.int .i64 0, D.bool false, D.int .i64 0, D.int .i64 0, D.str [], D.int .i64 0, D.sl aE.ks (List.map aE.enc []), D.bool false, D.int .i64 0, D.sl aN.ks (List.map aN.enc []), D.sl [.str] (List.map bD []), D.sl [.int .i64] (List.map eI [])])))) (fun _ => by kernel_rfl) ?_
 unfold sD
 repeat' first | (with_reducible first | refine lC ?_ ?_ | exact zI _ _ _ _ | refine aI ?_) | rfl | (simp only [EN]; exact zI _ _ _ _) | (simp only [EN, bY] <;> rfl)
theorem abB (p0 : client_Client) (p1 : aA) : Le (Option.map aO (jP p0 p1)) (aW SE 81 [.ptr 2000000000 0, aA.av p1] [⟨83, (client_Client.avs p0)⟩] []) := by
 refine aZ (t := fun κ =>
  κ.t 34 bY [aJ.av p0.in_, aA.av p1] [] [] fun r0 =>
  cond (r0.2.2 != 0) (
  (some (aO ([], [], r0.2.2, p0)))) (
  (some (aO ([r0.2.1], [], 0, (client_Client.mk p0.name p0.state p0.out r0.1 p0.waiting p0.count p0.last)))))) (fun _ => by kernel_rfl) ?_
 unfold jP
 refine lQ eX aaT (ahD _ _) fun r0 _ => ?_
 refine lC ?_ ?_
 ·exact aI rfl
 ·exact aI rfl
theorem ahT (p0 : aC) (p1 : Int) : Le (Option.map kJ (v5 p0 p1)) (aW SE 162 [aC.av p0, .ptr 2000000000 0] [⟨3, [dIq p1]⟩] []) := by
 refine aZ (t := fun κ =>
  (some (kJ ((p0.ID == p1), p1)))) (fun _ => by kernel_rfl) ?_
 unfold v5
 exact aI rfl
noncomputable def am9 (L : bP) (κ : Tau) (a0 : List (List D)) (a1 a2 a3 : Int) : Res := L SE (K κ) κ.Λ κ.J 161 1 [1, 0, 1, 0] (bE [(0, .d (.sl aC.ks a0)), (1, .fn 162 [] [.ptr 2000000000 0]), (7, dIq a1), (8, dIq a2)] [] [⟨3, [dIq a3]⟩] [] [])
theorem rK : ∀ (fu : Nat) (x0 : List aC) (x7 x8 q0_0 : Int), Le (Option.map cP (cF fu x0 x7 x8 q0_0)) (am9 lab (kF 161) (List.map aC.enc x0) x7 x8 q0_0) := by
 intro fu
 induction fu with
 | zero => intros; exact le_none
 | succ fu ih =>
  intro x0 x7 x8 q0_0
  refine bF (t := fun κ =>
  cond (decide (x8 < x7)) (
  cond (iB x8 (lM aC.enc x0 : Int)) (
   κ.t 162 kJ [.agg [dIq (aL (cE aC.enc x0 x8 0)), dIq (aL (cE aC.enc x0 x8 1)), dSq (aU (cE aC.enc x0 x8 2)), dSq (aU (cE aC.enc x0 x8 3)), dIq (aL (cE aC.enc x0 x8 4)), dBq (bA (cE aC.enc x0 x8 5)), dIq (aL (cE aC.enc x0 x8 6)), dIq (aL (cE aC.enc x0 x8 7)), dSq (aU (cE aC.enc x0 x8 8)), dIq (aL (cE aC.enc x0 x8 9)), .d (.sl aE.ks (dSl (cE aC.enc x0 x8 10)))], .ptr 2000000000 0] [⟨3, [dIq q0_0]⟩] [] fun r0 =>
   cond r0.1 (
   (some (.ret [dIq x8] [⟨3, [dIq r0.2]⟩] []))) (
   am9 lab κ (List.map aC.enc x0) x7 (w6 (x8 + 1)) r0.2)) none) (
  (some (.ret [dIq (-1)] [⟨3, [dIq q0_0]⟩] [])))) (fun _ => by kernel_rfl) ?_
  unfold cF
  refine lC ?_ ?_
  ·refine lGe ?_
   refine lQ eX agU (by (try simp only [EN]); exact ahT (List.getD x0 (Int.toNat x8) default) q0_0) fun r0 _ => ?_
   refine lC ?_ ?_
   ·exact aI rfl
   ·exact ih x0 x7 (w6 (x8 + 1)) r0.2
  ·exact aI rfl
theorem sP (p0 : List aC) (p1_0 : Int) : Le (Option.map cP (e9 p0 p1_0)) (aW SE 161 [.d (.sl aC.ks (List.map aC.enc p0)), .fn 162 [] [.ptr 2000000000 0]] [⟨3, [dIq p1_0]⟩] []) := by
 refine aZ (t := fun κ =>
  am9 lab κ (List.map aC.enc p0) (lM aC.enc p0 : Int) 0 p1_0) (fun _ => by kernel_rfl) ?_
 unfold e9
 (try simp only [EN]); exact rK fuel p0 (List.length p0 : Int) 0 p1_0
theorem ajr (p0 : List aC) (p1 : Int) : Le (Option.map aH (vC p0 p1)) (aW SE 147 [.d (.sl aC.ks (List.map aC.enc p0)), dIq p1] [] []) := by
 refine aZ (t := fun κ =>
  κ.t 161 cP [.d (.sl aC.ks (List.map aC.enc p0)), .fn 162 [] [.ptr 2000000000 0]] [⟨3, [dIq p1]⟩] [] fun r0 =>
  (rI r0.1)) (fun _ => by kernel_rfl) ?_
 unfold vC
 refine lQ eX rV (sP _ _) fun r0 _ => ?_
 exact aI rfl
theorem ams (p0 : aK) (p1 : Int) : Le (Option.map fK (aap p0 p1)) (aW SE 163 [aK.av p0, dIq p1] [] []) := by
 refine aZ (t := fun κ =>
  κ.t 62 aR [.d (.sl [.int .i64] (List.map eI p0.Used))] [] [] fun r0 =>
  κ.t 102 bW [.d (.sl [.int .i64] (List.map eI r0)), dIq p1] [] [] fun r1 =>
  cond r1.2 (
  κ.t 103 aR [.row 2000000000, dIq r1.1, dIq (w6 (r1.1 + 1))] [] [⟨[.int .i64], 3, 8, (List.map eI r0)⟩] fun r2 =>
  (some (fK ((aK.mk r2 p0.Last), r1.2)))) (
  (some (fK ((aK.mk r0 p0.Last), r1.2))))) (fun _ => by kernel_rfl) ?_
 unfold aap
 refine lQ eX bU (eV _) fun r0 _ => ?_
 refine lQ eX fA (fF _ _) fun r1 _ => ?_
 refine lC ?_ ?_
 ·refine lQ eX bU (uC _ _ _) fun r2 _ => ?_
  exact aI rfl
 ·exact aI rfl
theorem tW (p0 : List aC) (p1 p2 : Int) : Le (Option.map dO (iZ p0 p1 p2)) (aW SE 164 [.row 2000000000, dIq p1, dIq p2] [] [⟨aC.ks, 139, 128, (List.map aC.enc p0)⟩]) := ame (f := 164) (enc := aC.enc) rfl rfl p0 p1 p2
theorem aie (p0 : aG) (p1 : Int) : Le (Option.map bH (oX p0 p1)) (aW SE 148 [aG.av p0, dIq p1] [] []) := by
 refine aZ (t := fun κ =>
  cond (iB p1 (lM aC.enc p0.Items : Int)) (
  κ.t 163 fK [aK.av p0.Pool, dIq (aL (cE aC.enc p0.Items p1 0))] [] [] fun r0 =>
  κ.t 99 bH [aG.av p0] [] [] fun r1 =>
  κ.t 164 dO [.row 2000000000, dIq p1, dIq (w6 (p1 + 1))] [] [⟨aC.ks, 139, 128, (List.map aC.enc r1.Items)⟩] fun r2 =>
  (some (bH (aG.mk r1.Limit r2 r0.1)))) none) (fun _ => by kernel_rfl) ?_
 unfold oX
 refine lGe ?_
 refine lQ eX aa5 (by (try simp only [EN]); exact ams p0.Pool ((List.getD p0.Items (Int.toNat p1) default).ID)) fun r0 _ => ?_
 refine lQ eX iF (xM _) fun r1 _ => ?_
 refine lQ eX tS (tW _ _ _) fun r2 _ => ?_
 exact aI rfl
noncomputable def ant (L : bP) (κ : Tau) (a0 : Int) (a1 a2 a3 a4 : List D) : Res := L SE (K κ) κ.Λ κ.J 114 0 [1, 1, 1, 1, 0, 0] (bE [(2, .ptr 1000000000 0), (3, .ptr 1000000001 0), (4, .ptr 1000000002 0), (7, dIq a0), (8, .ptr 1000000003 0)] [⟨31, (List.map AV.d a1)⟩, ⟨67, (List.map AV.d a2)⟩, ⟨31, (List.map AV.d a3)⟩, ⟨139, (List.map AV.d a4)⟩] [] [] [])
theorem zA (x7 : Int) (b0 : aG) (b1 : aA) (b2 : aG) (b3 : aC) : Le (Option.map cO (iA x7 b0 b1 b2 b3)) (ant lab (kF 114) x7 (aG.enc b0) (aA.enc b1) (aG.enc b2) (aC.enc b3)) := by
 refine bF (t := fun κ =>
  cond (b1.Kind == 4) (
  cond (decide (x7 < 0)) (
   κ.t 99 bH [aG.av b0] [] [] fun r1 =>
   (some (cO (r1, [], 0)))) (
  cond (b3.Message.Level == 1) (
   κ.t 148 bH [aG.av b0, dIq x7] [] [] fun r2 =>
   (some (cO (r2, [], 0)))) (
  (some (cO (((aG.mk 0 [] (aK.mk [] 0)), [], 23))))))) (
  cond (b1.Kind == 5) (
  cond (decide (x7 < 0)) (
   κ.t 99 bH [aG.av b0] [] [] fun r3 =>
   κ.t 146 bI [dIq b1.ID] [] [] fun r4 =>
   (some (cO (r3, [r4], 0)))) (
  cond (b3.Message.Level == 2) (
   κ.t 99 bH [aG.av b0] [] [] fun r5 =>
   cond (iB x7 (lM aC.enc r5.Items : Int)) (
   κ.t 146 bI [dIq b1.ID] [] [] fun r6 =>
   (some (.ret [.agg [dIq r5.Limit, .row 0, .row 1, dIq r5.Pool.Last], .row 2, dIq 0] [] [⟨aC.ks, 139, 128, (aa9 (List.map aC.enc r5.Items) (Int.toNat x7) 1 [D.int .i64 2])⟩, ⟨[.int .i64], 3, 8, (List.map eI r5.Pool.Used)⟩, ⟨aA.ks, 67, 416, (List.map aA.enc [r6])⟩]))) none) (
  (some (cO (((aG.mk 0 [] (aK.mk [] 0)), [], 23))))))) (
  cond (b1.Kind == 7) (
  cond (decide (x7 < 0)) (
   κ.t 99 bH [aG.av b0] [] [] fun r7 =>
   (some (cO (r7, [], 0)))) (
  cond (b3.State == 2) (
   κ.t 148 bH [aG.av b0, dIq x7] [] [] fun r8 =>
   (some (cO (r8, [], 0)))) (
  (some (cO (((aG.mk 0 [] (aK.mk [] 0)), [], 23))))))) (
  (some (cO (((aG.mk 0 [] (aK.mk [] 0)), [], 10)))))))) (fun _ => by kernel_rfl) ?_
 unfold iA
 repeat' first | (with_reducible first | refine lC ?_ ?_ | refine lQ eX iF ?_ fun _ _ => ?_ | refine lQ eX iF ?_ fun _ _ => ?_ | refine lQ eX gY ?_ fun _ _ => ?_ | refine lG ?_ ?_ | exact xM _ | exact aie _ _ | exact wP _ | refine aI ?_) | rfl | (simp only [EN]; done) | (simp only [EN, cO] <;> rfl)
theorem ag3 (p0 : aG) (p1 : aA) : Le (Option.map cO (mG p0 p1)) (aW SE 114 [aG.av p0, aA.av p1] [] []) := by
 refine aZ (t := fun κ =>
  κ.t 147 aH [.d (.sl aC.ks (List.map aC.enc p0.Items)), dIq p1.ID] [] [] fun r0 =>
  cond (decide (r0 ≥ 0)) (
  cond (iB r0 (lM aC.enc p0.Items : Int)) (
   ant lab κ r0 (aG.enc p0) (aA.enc p1) [D.int .i64 0, D.sl aC.ks (List.map aC.enc []), D.sl [.int .i64] (List.map eI []), D.int .i64 0] [D.int .i64 (aL (cE aC.enc p0.Items r0 0)), D.int .i64 (aL (cE aC.enc p0.Items r0 1)), D.str (aU (cE aC.enc p0.Items r0 2)), D.str (aU (cE aC.enc p0.Items r0 3)), D.int .i64 (aL (cE aC.enc p0.Items r0 4)), D.bool (bA (cE aC.enc p0.Items r0 5)), D.int .i64 (aL (cE aC.enc p0.Items r0 6)), D.int .i64 (aL (cE aC.enc p0.Items r0 7)), D.str (aU (cE aC.enc p0.Items r0 8)), D.int .i64 (aL (cE aC.enc p0.Items r0 9)), D.sl aE.ks (dSl (cE aC.enc p0.Items r0 10))]) none) (
  ant lab κ r0 (aG.enc p0) (aA.enc p1) [D.int .i64 0, D.sl aC.ks (List.map aC.enc []), D.sl [.int .i64] (List.map eI []), D.int .i64 0] [D.int .i64 0, D.int .i64 0, D.str [], D.str [], D.int .i64 0, D.bool false, D.int .i64 0, D.int .i64 0, D.str [], D.int .i64 0, D.sl aE.ks (List.map aE.enc [])])) (fun _ => by kernel_rfl) ?_
 unfold mG
 refine lQ eX aX (ajr _ _) fun r0 _ => ?_
 refine lC ?_ ?_
 ·refine lGe ?_
  (try simp only [EN]); exact zA r0 p0 p1 ((aG.mk 0 [] (aK.mk [] 0))) (List.getD p0.Items (Int.toNat r0) default)
 ·(try simp only [EN]); exact zA r0 p0 p1 ((aG.mk 0 [] (aK.mk [] 0))) ((aC.mk 0 0 zMq))
theorem zR (p0 : client_Client) (p1 : aA) : Le (Option.map aO (g9 p0 p1)) (aW SE 82 [.ptr 2000000000 0, aA.av p1] [⟨83, (client_Client.avs p0)⟩] []) := by
 refine aZ (t := fun κ =>
  κ.t 114 cO [aG.av p0.out, aA.av p1] [] [] fun r0 =>
  cond (r0.2.2 != 0) (
  (some (aO ([], [], r0.2.2, p0)))) (
  κ.t 33 bM [.ptr 2000000000 0, .row 2000000000] [⟨83, (client_Client.avs (client_Client.mk p0.name p0.state r0.1 p0.in_ p0.waiting p0.count p0.last))⟩] [⟨aA.ks, 67, 416, (List.map aA.enc r0.2.1)⟩] fun r1 =>
  (some (aO (r1.1, [], 0, r1.2))))) (fun _ => by kernel_rfl) ?_
 unfold g9
 refine lQ eX agL (ag3 _ _) fun r0 _ => ?_
 refine lC ?_ ?_
 ·exact aI rfl
 ·refine lQ eX kV (gU _ _) fun r1 _ => ?_
  exact aI rfl
theorem aau (p0 : client_Client) (p1 : aA) : Le (Option.map aO (oP p0 p1)) (aW SE 83 [.ptr 2000000000 0, aA.av p1] [⟨83, (client_Client.avs p0)⟩] []) := by
 refine aZ (t := fun κ =>
  (some (aO ([], [], 0, (client_Client.mk p0.name 0 p0.out p0.in_ p0.waiting p0.count p0.last))))) (fun _ => by kernel_rfl) ?_
 unfold oP
 exact aI rfl
theorem abW (p0 : client_Client) (p1 : aA) : Le (Option.map aO (rM p0 p1)) (aW SE 84 [.ptr 2000000000 0, aA.av p1] [⟨83, (client_Client.avs p0)⟩] []) := by
 refine aZ (t := fun κ =>
  (some (aO ([], [], 0, p0)))) (fun _ => by kernel_rfl) ?_
 unfold rM
 exact aI rfl
noncomputable def ap7 (L : bP) (κ : Tau) (a0 a1 : List D) : Res := L SE (K κ) κ.Λ κ.J 21 1 [1, 1, 1, 1, 1, 0] (bE [(0, .ptr 2000000000 0), (3, .ptr 1000000000 0)] [⟨67, (List.map AV.d a0)⟩] [⟨83, (List.map AV.d a1)⟩] [] [])
noncomputable def am2 (L : bP) (κ : Tau) (a0 : Bool) (a1 a2 : List D) : Res := L SE (K κ) κ.Λ κ.J 21 1 [1, 1, 1, 1, 0, 0] (bE [(0, .ptr 2000000000 0), (3, .ptr 1000000000 0), (8, dBq a0)] [⟨67, (List.map AV.d a1)⟩] [⟨83, (List.map AV.d a2)⟩] [] [])
theorem aae (b0 : aA) (q0 : client_Client) : Le (Option.map aO (fS b0 q0)) (ap7 lab (kF 21) (aA.enc b0) (client_Client.enc q0)) := by
 refine bF (t := fun κ =>
  κ.s 40 eR [.ptr 2000000000 0, dIq b0.Kind] [⟨83, (client_Client.avs q0)⟩] [] (fun e3 =>
  κ.t 79 aO [.ptr 2000000000 0, aA.av b0] [⟨83, (client_Client.avs e3)⟩] [] fun r9 =>
  (some (aO (r9.1, r9.2.1, r9.2.2.1, r9.2.2.2)))) (fun e4 =>
  κ.t 80 aO [.ptr 2000000000 0, aA.av b0] [⟨83, (client_Client.avs e4)⟩] [] fun r10 =>
  (some (aO (r10.1, r10.2.1, r10.2.2.1, r10.2.2.2)))) (fun e5 =>
  κ.t 81 aO [.ptr 2000000000 0, aA.av b0] [⟨83, (client_Client.avs e5)⟩] [] fun r11 =>
  (some (aO (r11.1, r11.2.1, r11.2.2.1, r11.2.2.2)))) (fun e6 =>
  κ.t 82 aO [.ptr 2000000000 0, aA.av b0] [⟨83, (client_Client.avs e6)⟩] [] fun r12 =>
  (some (aO (r12.1, r12.2.1, r12.2.2.1, r12.2.2.2)))) (fun e7 =>
  κ.t 83 aO [.ptr 2000000000 0, aA.av b0] [⟨83, (client_Client.avs e7)⟩] [] fun r13 =>
  (some (aO (r13.1, r13.2.1, r13.2.2.1, r13.2.2.2)))) fun e8 =>
  κ.t 84 aO [.ptr 2000000000 0, aA.av b0] [⟨83, (client_Client.avs e8)⟩] [] fun r14 =>
  (some (aO (r14.1, r14.2.1, r14.2.2.1, r14.2.2.2)))) (fun _ => by kernel_rfl) ?_
 unfold fS
 refine lQ6 eX aam (aaO _ _) (fun e3 _ => ?_) (fun e4 _ => ?_) (fun e5 _ => ?_) (fun e6 _ => ?_) (fun e7 _ => ?_) (fun e8 _ => ?_)
 ·refine lQ eX cQ (abQ _ _) fun r9 _ => ?_
  exact aI rfl
 ·refine lQ eX cQ (aby _ _) fun r10 _ => ?_
  exact aI rfl
 ·refine lQ eX cQ (abB _ _) fun r11 _ => ?_
  exact aI rfl
 ·refine lQ eX cQ (zR _ _) fun r12 _ => ?_
  exact aI rfl
 ·refine lQ eX cQ (aau _ _) fun r13 _ => ?_
  exact aI rfl
 ·refine lQ eX cQ (abW _ _) fun r14 _ => ?_
  exact aI rfl
theorem zW (x8 : Bool) (b0 : aA) (q0 : client_Client) : Le (Option.map aO (fV x8 b0 q0)) (am2 lab (kF 21) x8 (aA.enc b0) (client_Client.enc q0)) := by
 refine bF (t := fun κ =>
  κ.t 39 aD [dIq b0.Kind] [] [] fun r1 =>
  cond (!r1) (
  (some (aO ([], [], 23, q0)))) (
  cond x8 (
  (some (aO ([], [], 23, q0)))) (
  cond (q0.state == 2) (
  cond (b0.Kind == 2) (
   (some (aO ([], [], 23, q0)))) (
  ap7 lab κ (aA.enc b0) (client_Client.enc q0))) (
  ap7 lab κ (aA.enc b0) (client_Client.enc q0))))) (fun _ => by kernel_rfl) ?_
 unfold fV
 repeat' first | (with_reducible first | refine lC ?_ ?_ | refine lQ eX aP ?_ fun _ _ => ?_ | exact ajs _ | exact aae _ _ | refine aI ?_) | rfl | (simp only [EN, aO] <;> rfl)
theorem fX (p0 : client_Client) (p1 : aA) : Le (Option.map aO (dX p0 p1)) (aW SE 21 [.ptr 2000000000 0, aA.av p1] [⟨83, (client_Client.avs p0)⟩] []) := by
 refine aZ (t := fun κ =>
  cond (p0.state == 0) (
  (some (aO ([], [], 9, p0)))) (
  κ.t 38 aH [aA.av p1] [] [] fun r0 =>
  cond (r0 != 0) (
  (some (aO ([], [], r0, p0)))) (
  cond (p0.state == 1) (
  cond (p1.Kind != 2) (
   am2 lab κ (p1.Kind != 14) (aA.enc p1) (client_Client.enc p0)) (
  am2 lab κ false (aA.enc p1) (client_Client.enc p0))) (
  am2 lab κ false (aA.enc p1) (client_Client.enc p0))))) (fun _ => by kernel_rfl) ?_
 unfold dX
 repeat' first | (with_reducible first | refine lC ?_ ?_ | refine lQ eX aX ?_ fun _ _ => ?_ | exact rR _ | exact zW _ _ _ | refine aI ?_) | rfl | (simp only [EN, aO] <;> rfl)
theorem s9 (p0 : List aB) : Le (Option.map cH (dZ p0)) (aW SE 32 [.d (.sl aB.ks (List.map aB.enc p0))] [] []) := by
 refine aZ (t := fun κ =>
  cond (List.isEmpty (List.map aB.enc p0)) (
  abp (
   (some (.ret [.row 0] [] [⟨aB.ks, 54, 112, []⟩]))) (
   cond (decide ((lM aB.enc [] + lM aB.enc p0) * 112 ≤ 140737488355328)) (
   (some (cH (([] : List aB) ++ p0)))) none)) (
  cond (decide ((lM aB.enc [] + lM aB.enc p0) * 112 ≤ 140737488355328)) (
  (some (cH (([] : List aB) ++ p0)))) none)) (fun _ => by kernel_rfl) ?_
 unfold dZ
 refine lDe ?_ ?_
 ·refine alN ?_ ?_
  ·exact aI rfl
  ·refine lGe ?_
   exact aI rfl
 ·refine lGe ?_
  exact aI rfl
theorem iC (p0 : client_Client) (p1 : aB) : Le (Option.map aV (eK p0 p1)) (aW SE 13 [.ptr 2000000000 0, aB.av p1] [⟨83, (client_Client.avs p0)⟩] []) := by
 refine aZ (t := fun κ =>
  κ.t 30 cZ [aB.av p1] [] [] fun r0 =>
  κ.t 31 aH [aB.av (aB.mk r0.Topic r0.Payload r0.Level r0.Retain r0.Priority r0.Expires p0.name (w6 (p0.count + 1)) r0.Props)] [] [] fun r1 =>
  cond (r1 != 0) (
  (some (aV ([], r1, p0)))) (
  cond (decide ((lM aB.enc p0.waiting : Int) ≥ 256)) (
  (some (aV ([], 6, p0)))) (
  κ.t 32 cH [.d (.sl aB.ks (List.map aB.enc p0.waiting))] [] [] fun r2 =>
  cond (decide ((lM aB.enc r2 + lM aB.enc [(aB.mk r0.Topic r0.Payload r0.Level r0.Retain r0.Priority r0.Expires p0.name (w6 (p0.count + 1)) r0.Props)]) * 112 ≤ 140737488355328)) (
  κ.t 33 bM [.ptr 2000000000 0, .row 2000000000] [⟨83, [dSq p0.name, dIq p0.state, dIq p0.out.Limit, .d (.sl aC.ks (List.map aC.enc p0.out.Items)), .d (.sl [.int .i64] (List.map eI p0.out.Pool.Used)), dIq p0.out.Pool.Last, .d (.sl [.int .i64] (List.map eI p0.in_.IDs)), .d (.sl aB.ks ((List.map aB.enc r2) ++ (List.map aB.enc [(aB.mk r0.Topic r0.Payload r0.Level r0.Retain r0.Priority r0.Expires p0.name (w6 (p0.count + 1)) r0.Props)]))), dIq (w6 (p0.count + 1)), dIq p0.last]⟩] [⟨aA.ks, 67, 416, (List.map aA.enc [])⟩] fun r3 =>
  (some (aV (r3.1, 0, r3.2)))) none))) (fun _ => by kernel_rfl) ?_
 unfold eK
 repeat' first | (with_reducible first | refine lC ?_ ?_ | refine lQ eX iQ ?_ fun _ _ => ?_ | refine lQ eX aX ?_ fun _ _ => ?_ | refine lQ eX sW ?_ fun _ _ => ?_ | refine lQ eX kV ?_ fun _ _ => ?_ | refine lG ?_ ?_ | refine lD ?_ ?_ ?_ | exact k8 _ | exact kY _ | exact s9 _ | exact gU _ _ | refine aI ?_) | rfl | (simp only [EN]; done) | (simp only [EN]; exact gU _ _) | (simp only [EN, aV] <;> rfl)
noncomputable def atq (L : bP) (κ : Tau) (a0 : List D) : Res := L SE (K κ) κ.Λ κ.J 9 0 [1, 1, 1, 1, 1, 1, 1, 1, 1, 1, 1, 0] (bE [(1, .ptr 1000000000 0)] [⟨83, (List.map AV.d a0)⟩] [] [] [])
noncomputable def atn (L : bP) (κ : Tau) (a0 : List D) : Res := L SE (K κ) κ.Λ κ.J 9 0 [1, 1, 1, 1, 1, 1, 1, 0] (bE [(1, .ptr 1000000000 0)] [⟨83, (List.map AV.d a0)⟩] [] [] [])
noncomputable def aus (L : bP) (κ : Tau) (a0 : List D) : Res := L SE (K κ) κ.Λ κ.J 9 0 [1, 1, 1, 1, 1, 0] (bE [(1, .ptr 1000000000 0)] [⟨83, (List.map AV.d a0)⟩] [] [] [])
noncomputable def auI (L : bP) (κ : Tau) (a0 : List D) : Res := L SE (K κ) κ.Λ κ.J 9 0 [1, 1, 1, 0] (bE [(1, .ptr 1000000000 0)] [⟨83, (List.map AV.d a0)⟩] [] [] [])
theorem ac0 (b0 : client_Client) : Le (Option.map aD (tV b0)) (atq lab (kF 9) (client_Client.enc b0)) := by
 refine bF (t := fun κ =>
  κ.t 21 aO [.ptr 2000000000 0, .agg [dIq 5, dIq 1, dBq false, dSq [], dSq [], dIq 0, dBq false, dIq 0, dIq 0, dSq [], dIq 0, .d (.sl aE.ks (List.map aE.enc [])), dSq [], dSq [], dBq false, dIq 0, dIq 0, dIq 0, dBq false, dIq 0, dSq [], dSq [], dIq 0, dBq false, dIq 0, dIq 0, dSq [], dIq 0, .d (.sl aE.ks (List.map aE.enc [])), dBq false, dIq 0, .d (.sl aN.ks (List.map aN.enc [])), .d (.sl [.str] (List.map bD [])), .d (.sl [.int .i64] (List.map eI []))]] [⟨83, (client_Client.avs b0)⟩] [] fun r11 =>
  κ.t 21 aO [.ptr 2000000000 0, .agg [dIq 7, dIq 1, dBq false, dSq [], dSq [], dIq 0, dBq false, dIq 0, dIq 0, dSq [], dIq 0, .d (.sl aE.ks (List.map aE.enc [])), dSq [], dSq [], dBq false, dIq 0, dIq 0, dIq 0, dBq false, dIq 0, dSq [], dSq [], dIq 0, dBq false, dIq 0, dIq 0, dSq [], dIq 0, .d (.sl aE.ks (List.map aE.enc [])), dBq false, dIq 0, .d (.sl aN.ks (List.map aN.enc [])), .d (.sl [.str] (List.map bD [])), .d (.sl [.int .i64] (List.map eI []))]] [⟨83, (client_Client.avs r11.2.2.2)⟩] [] fun r12 =>
  cond (r11.2.2.1 == 0) (
  cond (r12.2.2.1 == 0) (
   cond ((lM aA.enc r11.1 : Int) == 1) (
   cond (decide (0 ≤ 0) && decide (0 < (lM aA.enc r11.1 : Int))) (
    cond ((aL (cE aA.enc r11.1 0 0)) == 6) (
    cond ((lM aA.enc r12.1 : Int) == 1) (
     cond (decide (0 ≤ 0) && decide (0 < (lM aA.enc r12.1 : Int))) (
     cond ((aL (cE aA.enc r12.1 0 0)) == 3) (
      cond (decide (0 ≤ 0) && decide (0 < (lM aA.enc r12.1 : Int))) (
      cond ((aL (cE aA.enc r12.1 0 10)) == 2) (
       κ.t 11 cU [.ptr 2000000000 0] [⟨83, (client_Client.avs r12.2.2.2)⟩] [] fun r13 =>
       (rB (r13.1 == 1))) (
      (rB false))) none) (
     (rB false))) none) (
    (rB false))) (
    (rB false))) none) (
   (rB false))) (
  (rB false))) (
  (rB false))) (fun _ => by kernel_rfl) ?_
 unfold tV
 repeat' first | (with_reducible first | refine lC ?_ ?_ | refine lQ eX cQ ?_ fun _ _ => ?_ | refine lQ eX gS ?_ fun _ _ => ?_ | refine lG ?_ ?_ | refine lD ?_ ?_ ?_ | exact fX _ _ | exact hI _ | refine aI ?_) | rfl | (simp only [EN]; done) | (simp only [EN]; exact fX _ _) | (simp only [EN, aD] <;> rfl)
theorem acZ (b0 : client_Client) : Le (Option.map aD (tK b0)) (atn lab (kF 9) (client_Client.enc b0)) := by
 refine bF (t := fun κ =>
  κ.t 13 aV [.ptr 2000000000 0, .agg [dSq ([116] : Str), dSq [], dIq 2, dBq false, dIq 0, dIq 0, dSq [], dIq 0, .d (.sl aE.ks (List.map aE.enc []))]] [⟨83, (client_Client.avs b0)⟩] [] fun r8 =>
  κ.t 13 aV [.ptr 2000000000 0, .agg [dSq ([116] : Str), dSq [], dIq 2, dBq false, dIq 0, dIq 0, dSq [], dIq 0, .d (.sl aE.ks (List.map aE.enc []))]] [⟨83, (client_Client.avs r8.2.2)⟩] [] fun r9 =>
  cond (r8.2.1 != 0) (
  (rB false)) (
  cond (r9.2.1 != 0) (
  (rB false)) (
  cond ((lM aA.enc r8.1 : Int) != 1) (
  (rB false)) (
  cond (decide (0 ≤ 0) && decide (0 < (lM aA.enc r8.1 : Int))) (
  cond ((aL (cE aA.enc r8.1 0 1)) != 1) (
   (rB false)) (
  cond (decide (0 ≤ 0) && decide (0 < (lM aA.enc r8.1 : Int))) (
   cond (!((aU (cE aA.enc r8.1 0 9)) == ([97] : Str))) (
   (rB false)) (
   cond (decide (0 ≤ 0) && decide (0 < (lM aA.enc r8.1 : Int))) (
   cond ((aL (cE aA.enc r8.1 0 10)) != 1) (
    (rB false)) (
   cond ((lM aA.enc r9.1 : Int) != 0) (
    (rB false)) (
   κ.t 11 cU [.ptr 2000000000 0] [⟨83, (client_Client.avs r9.2.2)⟩] [] fun r10 =>
   cond (r10.1 != 2) (
    (rB false)) (
   atq lab κ (client_Client.enc r10.2))))) none)) none)) none)))) (fun _ => by kernel_rfl) ?_
 unfold tK
 refine lQ eX cI (by (try simp only [EN]); exact iC b0 ((aB.mk ([116] : Str) [] 2 false 0 0 [] 0 []))) fun r8 _ => ?_
 refine lQ eX cI (by (try simp only [EN]); exact iC r8.2.2 ((aB.mk ([116] : Str) [] 2 false 0 0 [] 0 []))) fun r9 _ => ?_
 refine lC ?_ ?_
 ·exact aI rfl
 ·refine lC ?_ ?_
  ·exact aI rfl
  ·refine lDe ?_ ?_
   ·exact aI rfl
   ·refine lGe ?_
    refine lDe ?_ ?_
    ·exact aI rfl
    ·refine lGe ?_
     refine lDe ?_ ?_
     ·exact aI rfl
     ·refine lGe ?_
      refine lDe ?_ ?_
      ·exact aI rfl
      ·refine lDe ?_ ?_
       ·exact aI rfl
       ·refine lQ eX gS (hI _) fun r10 _ => ?_
        refine lC ?_ ?_
        ·exact aI rfl
        ·exact ac0 r10.2
theorem adM (b0 : client_Client) : Le (Option.map aD (uR b0)) (aus lab (kF 9) (client_Client.enc b0)) := by
 refine bF (t := fun κ =>
  κ.t 21 aO [.ptr 2000000000 0, .agg [dIq 2, dIq 0, dBq false, dSq [], dSq [], dIq 0, dBq false, dIq 0, dIq 0, dSq [], dIq 0, .d (.sl aE.ks (List.map aE.enc [])), dSq [], dSq [], dBq false, dIq 0, dIq 0, dIq 0, dBq false, dIq 0, dSq [], dSq [], dIq 0, dBq false, dIq 0, dIq 0, dSq [], dIq 0, .d (.sl aE.ks (List.map aE.enc [])), dBq false, dIq 0, .d (.sl aN.ks (List.map aN.enc [])), .d (.sl [.str] (List.map bD [])), .d (.sl [.int .i64] (List.map eI []))]] [⟨83, (client_Client.avs b0)⟩] [] fun r6 =>
  cond (r6.2.2.1 != 0) (
  (rB false)) (
  κ.t 10 dV [.ptr 2000000000 0] [⟨83, (client_Client.avs r6.2.2.2)⟩] [] fun r7 =>
  cond (!r7.1) (
  (rB false)) (
  atn lab κ (client_Client.enc r7.2)))) (fun _ => by kernel_rfl) ?_
 unfold uR
 repeat' first | (with_reducible first | refine lC ?_ ?_ | refine lQ eX cQ ?_ fun _ _ => ?_ | refine lQ eX kD ?_ fun _ _ => ?_ | exact fX _ _ | exact kW _ | exact acZ _ | refine aI ?_) | rfl | (simp only [EN]; exact fX _ _) | (simp only [EN, aD] <;> rfl)
theorem ad0 (b0 : client_Client) : Le (Option.map aD (uH b0)) (auI lab (kF 9) (client_Client.enc b0)) := by
 refine bF (t := fun κ =>
  κ.t 20 aV [.ptr 2000000000 0, dBq false, .agg [dBq false, dIq 0, dSq [], dSq [], dIq 0, dBq false, dIq 0, dIq 0, dSq [], dIq 0, .d (.sl aE.ks (List.map aE.enc []))]] [⟨83, (client_Client.avs b0)⟩] [] fun r5 =>
  cond (r5.2.1 != 0) (
  (rB false)) (
  cond ((lM aA.enc r5.1 : Int) != 1) (
  (rB false)) (
  cond (decide (0 ≤ 0) && decide (0 < (lM aA.enc r5.1 : Int))) (
  cond ((aL (cE aA.enc r5.1 0 0)) != 1) (
   (rB false)) (
  cond (decide (0 ≤ 0) && decide (0 < (lM aA.enc r5.1 : Int))) (
   cond (!((aU (cE aA.enc r5.1 0 12)) == ([97] : Str))) (
   (rB false)) (
   cond (decide (0 ≤ 0) && decide (0 < (lM aA.enc r5.1 : Int))) (
   cond ((aL (cE aA.enc r5.1 0 17)) != 1) (
    (rB false)) (
   aus lab κ (client_Client.enc r5.2.2))) none)) none)) none))) (fun _ => by kernel_rfl) ?_
 unfold uH
 refine lQ eX cI (by (try simp only [EN]); exact oD b0 false (zWq)) fun r5 _ => ?_
 refine lC ?_ ?_
 ·exact aI rfl
 ·refine lDe ?_ ?_
  ·exact aI rfl
  ·refine lGe ?_
   refine lDe ?_ ?_
   ·exact aI rfl
   ·refine lGe ?_
    refine lDe ?_ ?_
    ·exact aI rfl
    ·refine lGe ?_
     refine lDe ?_ ?_
     ·exact aI rfl
     ·exact adM r5.2.2
theorem j0 : Le (Option.map aD (cY)) (aW SE 9 [] [] []) := by
 refine aZ (t := fun κ =>
  κ.p 7 lS [dSq ([97] : Str), dIq 1] [] [] (fun e1 =>
  cond (e1 != 0) (
   (rB false)) (
  (rB false))) fun e2 =>
  cond (e2.1 != 0) (
  (rB false)) (
  κ.t 10 dV [.ptr 2000000000 0] [⟨83, (client_Client.avs e2.2)⟩] [] fun r3 =>
  cond r3.1 (
  (rB false)) (
  κ.t 11 cU [.ptr 2000000000 0] [⟨83, (client_Client.avs r3.2)⟩] [] fun r4 =>
  cond (r4.1 != 0) (
  (rB false)) (
  auI lab κ (client_Client.enc r4.2))))) (fun _ => by kernel_rfl) ?_
 unfold cY
 repeat' first | (with_reducible first | refine lC ?_ ?_ | refine lQp eX w3 ?_ (fun _ _ => ?_) (fun _ _ => ?_) | refine lQ eX kD ?_ fun _ _ => ?_ | refine lQ eX gS ?_ fun _ _ => ?_ | exact yJ _ _ | exact kW _ | exact hI _ | exact ad0 _ | refine aI ?_) | rfl | (simp only [EN, aD] <;> rfl)
noncomputable def ap2 (L : bP) (κ : Tau) (a0 : Int) (a1 : List D) : Res := L SE (K κ) κ.Λ κ.J 17 0 [1, 1, 0, 1, 0] (bE [(1, .ptr 1000000000 0), (3, dIq a0)] [⟨54, (List.map AV.d a1)⟩] [] [] [])
noncomputable def asY (L : bP) (κ : Tau) (a0 : List D) : Res := L SE (K κ) κ.Λ κ.J 17 0 [1, 1, 0, 0] (bE [(1, .ptr 1000000000 0)] [⟨54, (List.map AV.d a0)⟩] [] [] [])
theorem adJ : ∀ (fu : Nat) (x3 : Int) (b0 : aB), Le (Option.map aD (gN fu x3 b0)) (ap2 lab (kF 17) x3 (aB.enc b0)) := by
 intro fu
 induction fu with
 | zero => intros; exact le_none
 | succ fu ih =>
  intro x3 b0
  refine bF (t := fun κ =>
  cond (decide (x3 < (lM aE.enc b0.Props : Int))) (
  cond (iB x3 (lM aE.enc b0.Props : Int)) (
   cond (decide ((List.length (aU (cE aE.enc b0.Props x3 0)) : Int) > 5000)) (
   (rB false)) (
   cond (iB x3 (lM aE.enc b0.Props : Int)) (
   cond (decide ((List.length (aU (cE aE.enc b0.Props x3 1)) : Int) > 5000)) (
    (rB false)) (
   ap2 lab κ (w6 (x3 + 1)) (aB.enc b0))) none)) none) (
  (rB true))) (fun _ => by kernel_rfl) ?_
  unfold gN
  repeat' first | (with_reducible first | refine lG ?_ ?_ | refine lD ?_ ?_ ?_ | exact ih _ _ | refine aI ?_) | rfl | (simp only [EN]; done) | (simp only [EN, aD] <;> rfl)
theorem adV (b0 : aB) : Le (Option.map aD (p7 b0)) (asY lab (kF 17) (aB.enc b0)) := by
 refine bF (t := fun κ =>
  ap2 lab κ 0 (aB.enc b0)) (fun _ => by kernel_rfl) ?_
 unfold p7
 exact adJ fuel 0 b0
theorem qD (p0 : aB) : Le (Option.map aD (g4 p0)) (aW SE 17 [aB.av p0] [] []) := by
 refine aZ (t := fun κ =>
  cond (decide ((List.length p0.Topic : Int) > 5000)) (
  (rB false)) (
  cond (decide ((List.length p0.Payload : Int) > 5000)) (
  (rB false)) (
  cond (decide ((List.length p0.From : Int) > 5000)) (
  (rB false)) (
  cond (decide ((lM aE.enc p0.Props : Int) > 20)) (
  (rB false)) (
  asY lab κ (aB.enc p0)))))) (fun _ => by kernel_rfl) ?_
 unfold g4
 refine lC ?_ ?_
 ·exact aI rfl
 ·refine lC ?_ ?_
  ·exact aI rfl
  ·refine lC ?_ ?_
   ·exact aI rfl
   ·refine lDe ?_ ?_
    ·exact aI rfl
    ·exact adV p0
noncomputable def apA (L : bP) (κ : Tau) (a0 : Str) (a1 a2 : Int) : Res := L SE (K κ) κ.Λ κ.J 66 0 [1, 0, 1, 0] (bE [(0, dSq a0), (1, .d (.int .u8 a1)), (5, dIq a2)] [] [] [] [])
theorem afr : ∀ (fu : Nat) (x0 : Str) (x1 x5 : Int), Le (Option.map aD (jW fu x0 x1 x5)) (apA lab (kF 66) x0 x1 x5) := by
 intro fu
 induction fu with
 | zero => intros; exact le_none
 | succ fu ih =>
  intro x0 x1 x5
  refine bF (t := fun κ =>
  cond (decide (x5 < (List.length x0 : Int))) (
  cond (iB x5 (List.length x0 : Int)) (
   cond ((UInt8.toNat (List.getD x0 (Int.toNat x5) 0) : Int) == x1) (
   (rB true)) (
   apA lab κ x0 x1 (w6 (x5 + 1)))) none) (
  (rB false))) (fun _ => by kernel_rfl) ?_
  unfold jW
  refine lC ?_ ?_
  ·refine lF ?_
   refine lC ?_ ?_
   ·exact aI rfl
   ·exact ih x0 x1 (w6 (x5 + 1))
  ·exact aI rfl
theorem jT (p0 : Str) (p1 : Int) : Le (Option.map aD (jH p0 p1)) (aW SE 66 [dSq p0, .d (.int .u8 p1)] [] []) := by
 refine aZ (t := fun κ =>
  apA lab κ p0 p1 0) (fun _ => by kernel_rfl) ?_
 unfold jH
 exact afr fuel p0 p1 0
noncomputable def akk (L : bP) (κ : Tau) (a0 : Str) (a1 a2 : Int) (a3 : List (List D)) : Res := L SE (K κ) κ.Λ κ.J 105 0 [1, 1, 1, 0, 1, 0] (bE [(0, dSq a0), (3, .row 3003), (4, dIq a1), (5, dIq a2)] [] [] [] [(3003, ⟨[.str], 9, 16, a3⟩)])
theorem ac7 : ∀ (fu : Nat) (x0 : Str) (x4 x5 : Int) (w3003 : List Str), Le (Option.map fG (gB fu x0 x4 x5 w3003)) (akk lab (kF 105) x0 x4 x5 (List.map bD w3003)) := by
 intro fu
 induction fu with
 | zero => intros; exact le_none
 | succ fu ih =>
  intro x0 x4 x5 w3003
  refine bF (t := fun κ =>
  cond (decide (x5 < (List.length x0 : Int))) (
  cond (iB x5 (List.length x0 : Int)) (
   cond ((UInt8.toNat (List.getD x0 (Int.toNat x5) 0) : Int) == 47) (
   cond (decide (0 ≤ x5) && decide (x5 ≤ ((List.length x0) : Int))) (
    cond (decide (0 ≤ x4) && decide (x4 ≤ x5)) (
    cond (decide ((lM bD w3003 + lM bD [(bQ x0 (some x4) (some x5))]) * 16 ≤ 140737488355328)) (
     akk lab κ x0 (w6 (x5 + 1)) (w6 (x5 + 1)) (((List.map bD w3003) ++ (List.map bD [(bQ x0 (some x4) (some x5))])))) none) none) none) (
   akk lab κ x0 x4 (w6 (x5 + 1)) (List.map bD w3003))) none) (
  cond (decide (0 ≤ x4) && decide (x4 ≤ ((List.length x0) : Int))) (
  cond (decide ((lM bD w3003 + lM bD [(bQ x0 (some x4) none)]) * 16 ≤ 140737488355328)) (
   (some (.ret [.row 0] [] [⟨[.str], 9, 16, ((List.map bD w3003) ++ (List.map bD [(bQ x0 (some x4) none)]))⟩]))) none) none)) (fun _ => by kernel_rfl) ?_
  unfold gB
  repeat' first | (with_reducible first | refine lF ?_ | refine lC ?_ ?_ | refine lG ?_ ?_ | exact ih _ _ _ _ | refine aI ?_) | rfl | (simp only [EN]; done) | (simp only [EN]; exact ih _ _ _ _) | (simp only [EN, fG] <;> rfl)
theorem zE (p0 : Str) : Le (Option.map fG (oG p0)) (aW SE 105 [dSq p0] [] []) := by
 refine aZ (t := fun κ =>
  akk lab κ p0 0 0 (List.map bD [])) (fun _ => by kernel_rfl) ?_
 unfold oG
 (try simp only [EN]); exact ac7 fuel p0 0 0 []
theorem aav (p0 : Str) : Le (Option.map aD (mY p0)) (aW SE 65 [dSq p0] [] []) := by
 refine aZ (t := fun κ =>
  cond (decide ((List.length p0 : Int) ≥ 1)) (
  cond (decide ((List.length p0 : Int) ≤ 64)) (
   κ.t 66 aD [dSq p0, .d (.int .u8 0)] [] [] fun r0 =>
   cond (!r0) (
   κ.t 105 fG [dSq p0] [] [] fun r1 =>
   (rB (decide ((lM bD r1 : Int) ≤ 8)))) (
   (rB false))) (
  (rB false))) (
  (rB false))) (fun _ => by kernel_rfl) ?_
 unfold mY
 repeat' first | (with_reducible first | refine lC ?_ ?_ | refine lQ eX aP ?_ fun _ _ => ?_ | refine lQ eX yC ?_ fun _ _ => ?_ | exact jT _ _ | exact zE _ | refine aI ?_) | rfl | (simp only [EN, aD] <;> rfl)
theorem agq (p0 : Str) : Le (Option.map aD (pN p0)) (aW SE 36 [dSq p0] [] []) := by
 refine aZ (t := fun κ =>
  κ.t 65 aD [dSq p0] [] [] fun r0 =>
  cond r0 (
  κ.t 66 aD [dSq p0, .d (.int .u8 43)] [] [] fun r1 =>
  cond (!r1) (
   κ.t 66 aD [dSq p0, .d (.int .u8 35)] [] [] fun r2 =>
   (rB (!r2))) (
  (rB false))) (
  (rB false))) (fun _ => by kernel_rfl) ?_
 unfold pN
 refine lQ eX aP (aav _) fun r0 _ => ?_
 refine lC ?_ ?_
 ·refine lQ eX aP (jT _ _) fun r1 _ => ?_
  refine lC ?_ ?_
  ·refine lQ eX aP (jT _ _) fun r2 _ => ?_
   exact aI rfl
  ·exact aI rfl
 ·exact aI rfl
theorem zZ (p0 : Int) : Le (Option.map aD (mU p0)) (aW SE 53 [.d (.int .u8 p0)] [] []) := by
 refine aZ (t := fun κ =>
  cond (decide (p0 ≥ 97)) (
  (rB (decide (p0 ≤ 122)))) (
  (rB false))) (fun _ => by kernel_rfl) ?_
 unfold mU
 refine lC ?_ ?_
 ·exact aI rfl
 ·exact aI rfl
theorem af7 (p0 : Int) : Le (Option.map aD (pO p0)) (aW SE 54 [.d (.int .u8 p0)] [] []) := by
 refine aZ (t := fun κ =>
  cond (decide (p0 ≥ 48)) (
  (rB (decide (p0 ≤ 57)))) (
  (rB false))) (fun _ => by kernel_rfl) ?_
 unfold pO
 refine lC ?_ ?_
 ·exact aI rfl
 ·exact aI rfl
noncomputable def akR (L : bP) (κ : Tau) (a0 : Str) (a1 : Int) : Res := L SE (K κ) κ.Λ κ.J 28 0 [1, 1, 0, 1, 0] (bE [(0, dSq a0), (3, dIq a1)] [] [] [] [])
noncomputable def as4 (L : bP) (κ : Tau) (a0 : Str) : Res := L SE (K κ) κ.Λ κ.J 28 0 [1, 1, 0, 0] (bE [(0, dSq a0)] [] [] [] [])
theorem aex : ∀ (fu : Nat) (x0 : Str) (x3 : Int), Le (Option.map aD (fR fu x0 x3)) (akR lab (kF 28) x0 x3) := by
 intro fu
 induction fu with
 | zero => intros; exact le_none
 | succ fu ih =>
  intro x0 x3
  refine bF (t := fun κ =>
  cond (decide (x3 < (List.length x0 : Int))) (
  cond (iB x3 (List.length x0 : Int)) (
   κ.t 53 aD [.d (.int .u8 (UInt8.toNat (List.getD x0 (Int.toNat x3) 0) : Int))] [] [] fun r1 =>
   cond (!r1) (
   cond (iB x3 (List.length x0 : Int)) (
    κ.t 54 aD [.d (.int .u8 (UInt8.toNat (List.getD x0 (Int.toNat x3) 0) : Int))] [] [] fun r2 =>
    cond (!r2) (
    cond (iB x3 (List.length x0 : Int)) (
     cond ((UInt8.toNat (List.getD x0 (Int.toNat x3) 0) : Int) != 45) (
     (rB false)) (
     akR lab κ x0 (w6 (x3 + 1)))) none) (
    akR lab κ x0 (w6 (x3 + 1)))) none) (
   akR lab κ x0 (w6 (x3 + 1)))) none) (
  (rB true))) (fun _ => by kernel_rfl) ?_
  unfold fR
  repeat' first | (with_reducible first | refine lF ?_ | refine lC ?_ ?_ | refine lQ eX aP ?_ fun _ _ => ?_ | refine lQ eX aP ?_ fun _ _ => ?_ | exact zZ _ | exact af7 _ | exact ih _ _ | refine aI ?_) | rfl | (simp only [EN, aD] <;> rfl)
theorem ae4 (x0 : Str) : Le (Option.map aD (rG x0)) (as4 lab (kF 28) x0) := by
 refine bF (t := fun κ =>
  akR lab κ x0 0) (fun _ => by kernel_rfl) ?_
 unfold rG
 exact aex fuel x0 0
theorem rE (p0 : Str) : Le (Option.map aD (iH p0)) (aW SE 28 [dSq p0] [] []) := by
 refine aZ (t := fun κ =>
  cond (decide ((List.length p0 : Int) < 1)) (
  (rB false)) (
  cond (decide ((List.length p0 : Int) > 16)) (
  (rB false)) (
  cond (decide (0 ≤ 0) && decide (0 < (List.length p0 : Int))) (
  κ.t 53 aD [.d (.int .u8 (UInt8.toNat (List.getD p0 (Int.toNat 0) 0) : Int))] [] [] fun r0 =>
  cond (!r0) (
   (rB false)) (
  as4 lab κ p0)) none))) (fun _ => by kernel_rfl) ?_
 unfold iH
 refine lC ?_ ?_
 ·exact aI rfl
 ·refine lC ?_ ?_
  ·exact aI rfl
  ·refine lF ?_
   refine lQ eX aP (zZ _) fun r0 _ => ?_
   refine lC ?_ ?_
   ·exact aI rfl
   ·exact ae4 p0
noncomputable def ach (L : bP) (κ : Tau) (a0 : Str) (a1 : Int) : Res := L SE (K κ) κ.Λ κ.J 67 0 [1, 1, 0, 1, 0] (bE [(0, dSq a0), (3, dIq a1)] [] [] [] [])
noncomputable def as0 (L : bP) (κ : Tau) (a0 : Str) : Res := L SE (K κ) κ.Λ κ.J 67 0 [1, 1, 0, 0] (bE [(0, dSq a0)] [] [] [] [])
theorem afh : ∀ (fu : Nat) (x0 : Str) (x3 : Int), Le (Option.map aD (dN fu x0 x3)) (ach lab (kF 67) x0 x3) := by
 intro fu
 induction fu with
 | zero => intros; exact le_none
 | succ fu ih =>
  intro x0 x3
  refine bF (t := fun κ =>
  cond (decide (x3 < (List.length x0 : Int))) (
  cond (iB x3 (List.length x0 : Int)) (
   cond (decide ((UInt8.toNat (List.getD x0 (Int.toNat x3) 0) : Int) ≥ 97)) (
   cond (!(decide ((UInt8.toNat (List.getD x0 (Int.toNat x3) 0) : Int) ≤ 122))) (
    cond (decide ((UInt8.toNat (List.getD x0 (Int.toNat x3) 0) : Int) ≥ 48)) (
    cond (!(decide ((UInt8.toNat (List.getD x0 (Int.toNat x3) 0) : Int) ≤ 57))) (
     cond ((UInt8.toNat (List.getD x0 (Int.toNat x3) 0) : Int) != 45) (
     (rB false)) (
     ach lab κ x0 (w6 (x3 + 1)))) (
    ach lab κ x0 (w6 (x3 + 1)))) (
    cond ((UInt8.toNat (List.getD x0 (Int.toNat x3) 0) : Int) != 45) (
    (rB false)) (
    ach lab κ x0 (w6 (x3 + 1))))) (
   ach lab κ x0 (w6 (x3 + 1)))) (
   cond (decide ((UInt8.toNat (List.getD x0 (Int.toNat x3) 0) : Int) ≥ 48)) (
   cond (!(decide ((UInt8.toNat (List.getD x0 (Int.toNat x3) 0) : Int) ≤ 57))) (
    cond ((UInt8.toNat (List.getD x0 (Int.toNat x3) 0) : Int) != 45) (
    (rB false)) (
    ach lab κ x0 (w6 (x3 + 1)))) (
   ach lab κ x0 (w6 (x3 + 1)))) (
   cond ((UInt8.toNat (List.getD x0 (Int.toNat x3) 0) : Int) != 45) (
   (rB false)) (
   ach lab κ x0 (w6 (x3 + 1)))))) none) (
  (rB true))) (fun _ => by kernel_rfl) ?_
  unfold dN
  repeat' first | (with_reducible first | refine lF ?_ | refine lC ?_ ?_ | exact ih _ _ | refine aI ?_) | rfl | (simp only [EN, aD] <;> rfl)
theorem afu (x0 : Str) : Le (Option.map aD (sK x0)) (as0 lab (kF 67) x0) := by
 refine bF (t := fun κ =>
  ach lab κ x0 0) (fun _ => by kernel_rfl) ?_
 unfold sK
 exact afh fuel x0 0
theorem abS (p0 : Str) : Le (Option.map aD (rU p0)) (aW SE 67 [dSq p0] [] []) := by
 refine aZ (t := fun κ =>
  cond (decide ((List.length p0 : Int) < 1)) (
  (rB false)) (
  cond (decide ((List.length p0 : Int) > 16)) (
  (rB false)) (
  as0 lab κ p0))) (fun _ => by kernel_rfl) ?_
 unfold rU
 refine lC ?_ ?_
 ·exact aI rfl
 ·refine lC ?_ ?_
  ·exact aI rfl
  ·exact afu p0
noncomputable def amP (L : bP) (κ : Tau) (a0 : List (List D)) (a1 : Int) : Res := L SE (K κ) κ.Λ κ.J 37 0 [1, 1, 0, 1, 0] (bE [(0, .d (.sl aE.ks a0)), (3, dIq a1)] [] [] [] [])
theorem ad2 : ∀ (fu : Nat) (x0 : List aE) (x3 : Int), Le (Option.map aH (gK fu x0 x3)) (amP lab (kF 37) (List.map aE.enc x0) x3) := by
 intro fu
 induction fu with
 | zero => intros; exact le_none
 | succ fu ih =>
  intro x0 x3
  refine bF (t := fun κ =>
  cond (decide (x3 < (lM aE.enc x0 : Int))) (
  cond (iB x3 (lM aE.enc x0 : Int)) (
   κ.t 67 aD [dSq (aU (cE aE.enc x0 x3 0))] [] [] fun r0 =>
   cond (!r0) (
   (rI 16)) (
   cond (iB x3 (lM aE.enc x0 : Int)) (
   cond (decide ((List.length (aU (cE aE.enc x0 x3 1)) : Int) > 160)) (
    (rI 5)) (
   cond (decide (x3 > 0)) (
    cond (iB x3 (lM aE.enc x0 : Int)) (
    cond (iB (w6 (x3 - 1)) (lM aE.enc x0 : Int)) (
     cond (Op.bytesLess (aU (cE aE.enc x0 x3 0)) (aU (cE aE.enc x0 (w6 (x3 - 1)) 0)) || (aU (cE aE.enc x0 x3 0)) == (aU (cE aE.enc x0 (w6 (x3 - 1)) 0))) (
     (rI 16)) (
     amP lab κ (List.map aE.enc x0) (w6 (x3 + 1)))) none) none) (
   amP lab κ (List.map aE.enc x0) (w6 (x3 + 1))))) none)) none) (
  (rI 0))) (fun _ => by kernel_rfl) ?_
  unfold gK
  repeat' first | (with_reducible first | refine lC ?_ ?_ | refine lQ eX aP ?_ fun _ _ => ?_ | refine lG ?_ ?_ | refine lD ?_ ?_ ?_ | exact abS _ | exact ih _ _ | refine aI ?_) | rfl | (simp only [EN]; done) | (simp only [EN]; exact abS _) | (simp only [EN, aH] <;> rfl)
theorem agv (p0 : List aE) : Le (Option.map aH (pM p0)) (aW SE 37 [.d (.sl aE.ks (List.map aE.enc p0))] [] []) := by
 refine aZ (t := fun κ =>
  cond (decide ((lM aE.enc p0 : Int) > 8)) (
  (rI 5)) (
  amP lab κ (List.map aE.enc p0) 0)) (fun _ => by kernel_rfl) ?_
 unfold pM
 refine lDe ?_ ?_
 ·exact aI rfl
 ·exact ad2 fuel p0 0
noncomputable def an9 (L : bP) (κ : Tau) (a0 : List D) : Res := L SE (K κ) κ.Λ κ.J 18 0 [1, 1, 1, 1, 1, 1, 0, 0] (bE [(1, .ptr 1000000000 0)] [⟨54, (List.map AV.d a0)⟩] [] [] [])
noncomputable def atj (L : bP) (κ : Tau) (a0 : List D) : Res := L SE (K κ) κ.Λ κ.J 18 0 [1, 1, 1, 1, 1, 0, 0] (bE [(1, .ptr 1000000000 0)] [⟨54, (List.map AV.d a0)⟩] [] [] [])
noncomputable def ato (L : bP) (κ : Tau) (a0 : List D) : Res := L SE (K κ) κ.Λ κ.J 18 0 [1, 1, 1, 1, 0, 0] (bE [(1, .ptr 1000000000 0)] [⟨54, (List.map AV.d a0)⟩] [] [] [])
theorem wH (b0 : aB) : Le (Option.map aH (lI b0)) (an9 lab (kF 18) (aB.enc b0)) := by
 refine bF (t := fun κ =>
  cond (decide (b0.Seq < 0)) (
  (rI 1)) (
  cond (decide (b0.Seq > 1099511627776)) (
  (rI 1)) (
  κ.t 37 aH [.d (.sl aE.ks (List.map aE.enc b0.Props))] [] [] fun r2 =>
  (rI r2)))) (fun _ => by kernel_rfl) ?_
 unfold lI
 refine lC ?_ ?_
 ·exact aI rfl
 ·refine lC ?_ ?_
  ·exact aI rfl
  ·refine lQ eX aX (agv _) fun r2 _ => ?_
   exact aI rfl
theorem adU (b0 : aB) : Le (Option.map aH (pR b0)) (atj lab (kF 18) (aB.enc b0)) := by
 refine bF (t := fun κ =>
  cond (!(b0.From == ([] : Str))) (
  κ.t 28 aD [dSq b0.From] [] [] fun r1 =>
  cond (!r1) (
   (rI 11)) (
  an9 lab κ (aB.enc b0))) (
  an9 lab κ (aB.enc b0))) (fun _ => by kernel_rfl) ?_
 unfold pR
 refine lC ?_ ?_
 ·refine lQ eX aP (rE _) fun r1 _ => ?_
  refine lC ?_ ?_
  ·exact aI rfl
  ·exact wH b0
 ·exact wH b0
theorem adZ (b0 : aB) : Le (Option.map aH (qB b0)) (ato lab (kF 18) (aB.enc b0)) := by
 refine bF (t := fun κ =>
  cond (decide (b0.Priority < 0)) (
  (rI 1)) (
  cond (decide (b0.Priority > 9)) (
  (rI 1)) (
  cond (decide (b0.Expires < 0)) (
  (rI 1)) (
  cond (decide (b0.Expires > 1099511627776)) (
  (rI 1)) (
  atj lab κ (aB.enc b0)))))) (fun _ => by kernel_rfl) ?_
 unfold qB
 refine lC ?_ ?_
 ·exact aI rfl
 ·refine lC ?_ ?_
  ·exact aI rfl
  ·refine lC ?_ ?_
   ·exact aI rfl
   ·refine lC ?_ ?_
    ·exact aI rfl
    ·exact adU b0
theorem j1 (p0 : aB) : Le (Option.map aH (gC p0)) (aW SE 18 [aB.av p0] [] []) := by
 refine aZ (t := fun κ =>
  κ.t 36 aD [dSq p0.Topic] [] [] fun r0 =>
  cond (!r0) (
  (rI 12)) (
  cond (decide ((List.length p0.Payload : Int) > 256)) (
  (rI 5)) (
  cond (decide (p0.Level < 0)) (
  (rI 14)) (
  cond (decide (p0.Level > 2)) (
  (rI 14)) (
  ato lab κ (aB.enc p0)))))) (fun _ => by kernel_rfl) ?_
 unfold gC
 refine lQ eX aP (agq _) fun r0 _ => ?_
 refine lC ?_ ?_
 ·exact aI rfl
 ·refine lC ?_ ?_
  ·exact aI rfl
  ·refine lC ?_ ?_
   ·exact aI rfl
   ·refine lC ?_ ?_
    ·exact aI rfl
    ·exact adZ p0
theorem wC (p0 : client_Client) : Le (Option.map gT (o7 p0)) (aW SE 19 [.ptr 2000000000 0] [⟨83, (client_Client.avs p0)⟩] []) := by
 refine aZ (t := fun κ =>
  (some (.ret [] [⟨83, (client_Client.avs (client_Client.mk p0.name 0 p0.out p0.in_ p0.waiting p0.count p0.last))⟩] []))) (fun _ => by kernel_rfl) ?_
 unfold o7
 exact aI rfl
noncomputable def aqw (L : bP) (κ : Tau) (a0 a1 : List (List D)) (a2 : Int) : Res := L SE (K κ) κ.Λ κ.J 41 0 [1, 1, 0, 1, 0] (bE [(0, .d (.sl aE.ks a0)), (1, .d (.sl aE.ks a1)), (5, dIq a2)] [] [] [] [])
theorem abH : ∀ (fu : Nat) (x0 x1 : List aE) (x5 : Int), Le (Option.map aD (fL fu x0 x1 x5)) (aqw lab (kF 41) (List.map aE.enc x0) (List.map aE.enc x1) x5) := by
 intro fu
 induction fu with
 | zero => intros; exact le_none
 | succ fu ih =>
  intro x0 x1 x5
  refine bF (t := fun κ =>
  cond (decide (x5 < (lM aE.enc x0 : Int))) (
  cond (iB x5 (lM aE.enc x0 : Int)) (
   cond (iB x5 (lM aE.enc x1 : Int)) (
   cond (!(((aU (cE aE.enc x0 x5 0)) == (aU (cE aE.enc x1 x5 0))) && (((aU (cE aE.enc x0 x5 1)) == (aU (cE aE.enc x1 x5 1))) && true))) (
    (rB false)) (
   aqw lab κ (List.map aE.enc x0) (List.map aE.enc x1) (w6 (x5 + 1)))) none) none) (
  (rB true))) (fun _ => by kernel_rfl) ?_
  unfold fL
  refine lDe ?_ ?_
  ·refine lGe ?_
   refine lGe ?_
   refine lDe ?_ ?_
   ·exact aI rfl
   ·exact ih x0 x1 (w6 (x5 + 1))
  ·exact aI rfl
theorem ado (p0 p1 : List aE) : Le (Option.map aD (lR p0 p1)) (aW SE 41 [.d (.sl aE.ks (List.map aE.enc p0)), .d (.sl aE.ks (List.map aE.enc p1))] [] []) := by
 refine aZ (t := fun κ =>
  cond ((lM aE.enc p0 : Int) != (lM aE.enc p1 : Int)) (
  (rB false)) (
  aqw lab κ (List.map aE.enc p0) (List.map aE.enc p1) 0)) (fun _ => by kernel_rfl) ?_
 unfold lR
 refine lDe ?_ ?_
 ·exact aI rfl
 ·exact abH fuel p0 p1 0
theorem iS (p0 p1 : aB) : Le (Option.map aD (iG p0 p1)) (aW SE 22 [aB.av p0, aB.av p1] [] []) := by
 refine aZ (t := fun κ =>
  cond (p0.Topic == p1.Topic) (
  cond (p0.Payload == p1.Payload) (
   cond (p0.Level == p1.Level) (
   cond (p0.Retain == p1.Retain) (
    cond (p0.Priority == p1.Priority) (
    cond (p0.Expires == p1.Expires) (
     cond (p0.From == p1.From) (
     cond (p0.Seq == p1.Seq) (
      κ.t 41 aD [.d (.sl aE.ks (List.map aE.enc p0.Props)), .d (.sl aE.ks (List.map aE.enc p1.Props))] [] [] fun r0 =>
      (rB r0)) (
     (rB false))) (
     (rB false))) (
    (rB false))) (
    (rB false))) (
   (rB false))) (
   (rB false))) (
  (rB false))) (
  (rB false))) (fun _ => by kernel_rfl) ?_
 unfold iG
 repeat' first | (with_reducible first | refine lC ?_ ?_ | refine lQ eX aP ?_ fun _ _ => ?_ | exact ado _ _ | refine aI ?_) | rfl | (simp only [EN, aD] <;> rfl)
noncomputable def aqk (L : bP) (κ : Tau) (a0 a1 a2 a3 a4 a5 : Int) (a6 : Bool) (a7 a8 : Int) (a9 : Bool) (a10 a11 : Int) (a12 : Bool) (a13 : List D) (a14 a15 : List (List D)) : Res := L SE (K κ) κ.Λ κ.J 5 0 [1, 1, 1, 1, 1, 1, 0, 1, 0, 0, 1, 0, 0, 1, 1, 1, 1, 1, 1, 1, 0] (bE [(0, dIq a0), (2, .d (.int .u8 a1)), (7, .ptr 1000000000 0), (9, .row 3009), (14, dIq a2), (17, .row 3017), (19, dIq a3), (115, .ptr 1000000000 0), (116, dIq a4), (117, .row 3009), (118, dIq a5), (119, dBq a6), (133, .row 3017), (134, dIq a7), (135, .row 3009), (136, dIq a8), (137, dBq a9), (140, .row 3017), (141, dIq a10), (142, dIq a11), (143, dBq a12)] [⟨83, (List.map AV.d a13)⟩] [] [] [(3009, ⟨aB.ks, 54, 112, a14⟩), (3017, ⟨aA.ks, 67, 416, a15⟩), (3009, ⟨aB.ks, 54, 112, a14⟩), (3017, ⟨aA.ks, 67, 416, a15⟩), (3009, ⟨aB.ks, 54, 112, a14⟩), (3017, ⟨aA.ks, 67, 416, a15⟩)])
noncomputable def apD (L : bP) (κ : Tau) (a0 a1 a2 a3 a4 : Int) (a5 : Bool) (a6 a7 : Int) (a8 : Bool) (a9 a10 : Int) (a11 : Bool) (a12 : List D) (a13 a14 : List (List D)) : Res := L SE (K κ) κ.Λ κ.J 5 0 [1, 1, 1, 1, 1, 1, 0, 1, 0, 0, 1, 0, 0, 1, 1, 1, 1, 1, 1, 0] (bE [(0, dIq a0), (2, .d (.int .u8 a1)), (7, .ptr 1000000000 0), (9, .row 3009), (14, dIq a2), (17, .row 3017), (115, .ptr 1000000000 0), (116, dIq a3), (117, .row 3009), (118, dIq a4), (119, dBq a5), (133, .row 3017), (134, dIq a6), (135, .row 3009), (136, dIq a7), (137, dBq a8), (140, .row 3017), (141, dIq a9), (142, dIq a10), (143, dBq a11)] [⟨83, (List.map AV.d a12)⟩] [] [] [(3009, ⟨aB.ks, 54, 112, a13⟩), (3017, ⟨aA.ks, 67, 416, a14⟩), (3009, ⟨aB.ks, 54, 112, a13⟩), (3017, ⟨aA.ks, 67, 416, a14⟩), (3009, ⟨aB.ks, 54, 112, a13⟩), (3017, ⟨aA.ks, 67, 416, a14⟩)])
noncomputable def atp (L : bP) (κ : Tau) (a0 a1 a2 a3 a4 : Int) (a5 : Bool) (a6 : List D) (a7 a8 : List (List D)) : Res := L SE (K κ) κ.Λ κ.J 5 0 [1, 1, 1, 1, 1, 1, 0, 1, 0, 0, 1, 0, 0, 1, 1, 1, 1, 1, 0, 0] (bE [(0, dIq a0), (2, .d (.int .u8 a1)), (7, .ptr 1000000000 0), (9, .row 3009), (14, dIq a2), (17, .row 3017), (115, .ptr 1000000000 0), (116, dIq a3), (117, .row 3009), (118, dIq a4), (119, dBq a5)] [⟨83, (List.map AV.d a6)⟩] [] [] [(3009, ⟨aB.ks, 54, 112, a7⟩), (3017, ⟨aA.ks, 67, 416, a8⟩), (3009, ⟨aB.ks, 54, 112, a7⟩)])
noncomputable def aiD (L : bP) (κ : Tau) (a0 a1 a2 : Int) (a3 : List D) (a4 : List (List D)) : Res := L SE (K κ) κ.Λ κ.J 5 0 [1, 1, 1, 1, 1, 1, 0, 1, 0] (bE [(0, dIq a0), (2, .d (.int .u8 a1)), (7, .ptr 1000000000 0), (9, .row 3009), (14, dIq a2)] [⟨83, (List.map AV.d a3)⟩] [] [] [(3009, ⟨aB.ks, 54, 112, a4⟩)])
noncomputable def apo (L : bP) (κ : Tau) (a0 : Int) (a1 : List (List D)) (a2 a3 : Int) (a4 : List D) (a5 : List (List D)) : Res := L SE (K κ) κ.Λ κ.J 5 0 [1, 1, 1, 1, 1, 0, 1, 0] (bE [(0, dIq a0), (1, .d (.sl aB.ks a1)), (2, .d (.int .u8 a2)), (7, .ptr 1000000000 0), (9, .row 3009), (10, dIq a3)] [⟨83, (List.map AV.d a4)⟩] [] [] [(3009, ⟨aB.ks, 54, 112, a5⟩)])
noncomputable def aup (L : bP) (κ : Tau) (a0 : Int) (a1 : List (List D)) (a2 : Int) (a3 : List D) : Res := L SE (K κ) κ.Λ κ.J 5 0 [1, 1, 1, 1, 0] (bE [(0, dIq a0), (1, .d (.sl aB.ks a1)), (2, .d (.int .u8 a2)), (7, .ptr 1000000000 0)] [⟨83, (List.map AV.d a3)⟩] [] [] [])
noncomputable def aug (L : bP) (κ : Tau) (a0 : Int) (a1 : List (List D)) (a2 : Int) : Res := L SE (K κ) κ.Λ κ.J 5 0 [1, 1, 0] (bE [(0, dIq a0), (1, .d (.sl aB.ks a1)), (2, .d (.int .u8 a2))] [] [] [] [])
theorem aah : ∀ (fu : Nat) (k23 : Int → Int → Int → client_Client → (List aB) → Option (Bool)) (hk23 : ∀ (x0 x2 x14 : Int) (b0 : client_Client) (w3009 : List aB), Le (Option.map aD (k23 x0 x2 x14 b0 w3009)) (aiD lab (kF 5) x0 x2 x14 (client_Client.enc b0) (List.map aB.enc w3009))) (x0 x2 x14 x19 x116 x118 : Int) (x119 : Bool) (x134 x136 : Int) (x137 : Bool) (x141 x142 : Int) (x143 : Bool) (b0 : client_Client) (w3009 : List aB) (w3017 : List aA), Le (Option.map aD (kH fu k23 x0 x2 x14 x19 x116 x118 x119 x134 x136 x137 x141 x142 x143 b0 w3009 w3017)) (aqk lab (kF 5) x0 x2 x14 x19 x116 x118 x119 x134 x136 x137 x141 x142 x143 (client_Client.enc b0) (List.map aB.enc w3009) (List.map aA.enc w3017)) := by
 intro fu
 induction fu with
 | zero => intros; exact le_none
 | succ fu ih =>
  intro k23 hk23 x0 x2 x14 x19 x116 x118 x119 x134 x136 x137 x141 x142 x143 b0 w3009 w3017
  refine bF (t := fun κ =>
  cond (decide (x19 < (lM aA.enc w3017 : Int))) (
  cond (iB x19 (lM aA.enc w3017 : Int)) (
   cond ((aL (cE aA.enc w3017 x19 0)) != 3) (
   (rB false)) (
   cond (iB x19 (lM aA.enc w3017 : Int)) (
   cond (iB x19 (lM aB.enc w3009 : Int)) (
    κ.t 22 aD [.agg [dSq (aU (cE aA.enc w3017 x19 3)), dSq (aU (cE aA.enc w3017 x19 4)), dIq (aL (cE aA.enc w3017 x19 5)), dBq (bA (cE aA.enc w3017 x19 6)), dIq (aL (cE aA.enc w3017 x19 7)), dIq (aL (cE aA.enc w3017 x19 8)), dSq (aU (cE aA.enc w3017 x19 9)), dIq (aL (cE aA.enc w3017 x19 10)), .d (.sl aE.ks (dSl (cE aA.enc w3017 x19 11)))], .agg [dSq (aU (cE aB.enc w3009 x19 0)), dSq (aU (cE aB.enc w3009 x19 1)), dIq (aL (cE aB.enc w3009 x19 2)), dBq (bA (cE aB.enc w3009 x19 3)), dIq (aL (cE aB.enc w3009 x19 4)), dIq (aL (cE aB.enc w3009 x19 5)), dSq (aU (cE aB.enc w3009 x19 6)), dIq (aL (cE aB.enc w3009 x19 7)), .d (.sl aE.ks (dSl (cE aB.enc w3009 x19 8)))]] [] [] fun r16 =>
    cond (!r16) (
    (rB false)) (
    cond (iB x19 (lM aA.enc w3017 : Int)) (
    cond ((bA (cE aA.enc w3017 x19 2)) != (decide (x14 > 0))) (
     (rB false)) (
    aqk lab κ x0 x2 x14 (w6 (x19 + 1)) x116 x118 x119 x134 x136 x137 x141 x142 x143 (client_Client.enc b0) (List.map aB.enc w3009) (List.map aA.enc w3017))) none)) none) none)) none) (
  aiD lab κ x0 x2 (w6 (x14 + 1)) (client_Client.enc b0) (List.map aB.enc w3009))) (fun _ => by kernel_rfl) ?_
  unfold kH
  repeat' first | (with_reducible first | refine lC ?_ ?_ | refine lQ eX aP ?_ fun _ _ => ?_ | refine lG ?_ ?_ | refine lD ?_ ?_ ?_ | exact iS _ _ | exact ih _ hk23 _ _ _ _ _ _ _ _ _ _ _ _ _ _ _ _ | exact hk23 _ _ _ _ _ | refine aI ?_) | rfl | (simp only [EN]; done) | (simp only [EN]; exact iS _ _) | (simp only [EN, aD] <;> rfl)
theorem sF (k23 : Int → Int → Int → client_Client → (List aB) → Option (Bool)) (hk23 : ∀ (x0 x2 x14 : Int) (b0 : client_Client) (w3009 : List aB), Le (Option.map aD (k23 x0 x2 x14 b0 w3009)) (aiD lab (kF 5) x0 x2 x14 (client_Client.enc b0) (List.map aB.enc w3009))) (x0 x2 x14 x116 x118 : Int) (x119 : Bool) (x134 x136 : Int) (x137 : Bool) (x141 x142 : Int) (x143 : Bool) (b0 : client_Client) (w3009 : List aB) (w3017 : List aA) : Le (Option.map aD (kG k23 x0 x2 x14 x116 x118 x119 x134 x136 x137 x141 x142 x143 b0 w3009 w3017)) (apD lab (kF 5) x0 x2 x14 x116 x118 x119 x134 x136 x137 x141 x142 x143 (client_Client.enc b0) (List.map aB.enc w3009) (List.map aA.enc w3017)) := by
 refine bF (t := fun κ =>
  aqk lab κ x0 x2 x14 0 x116 x118 x119 x134 x136 x137 x141 x142 x143 (client_Client.enc b0) (List.map aB.enc w3009) (List.map aA.enc w3017)) (fun _ => by kernel_rfl) ?_
 unfold kG
 exact aah fuel _ hk23 x0 x2 x14 0 x116 x118 x119 x134 x136 x137 x141 x142 x143 b0 w3009 w3017
theorem zT (k23 : Int → Int → Int → client_Client → (List aB) → Option (Bool)) (hk23 : ∀ (x0 x2 x14 : Int) (b0 : client_Client) (w3009 : List aB), Le (Option.map aD (k23 x0 x2 x14 b0 w3009)) (aiD lab (kF 5) x0 x2 x14 (client_Client.enc b0) (List.map aB.enc w3009))) (x0 x2 x14 x116 x118 : Int) (x119 : Bool) (b0 : client_Client) (w3009 : List aB) (w3017 : List aA) : Le (Option.map aD (oM k23 x0 x2 x14 x116 x118 x119 b0 w3009 w3017)) (atp lab (kF 5) x0 x2 x14 x116 x118 x119 (client_Client.enc b0) (List.map aB.enc w3009) (List.map aA.enc w3017)) := by
 refine bF (t := fun κ =>
  cond ((lM aA.enc w3017 : Int) != (lM aB.enc w3009 : Int)) (
  cond ((lM aA.enc w3017 : Int) != x0) (
   (rB false)) (
  cond (decide ((lM aA.enc w3017 : Int) > (lM aB.enc w3009 : Int))) (
   (rB false)) (
  cond (decide ((lM aA.enc w3017 : Int) > x0)) (
   (rB false)) (
  apD lab κ x0 x2 x14 x116 x118 x119 (lM aA.enc w3017 : Int) (lM aB.enc w3009 : Int) ((decide ((lM aA.enc w3017 : Int) > (lM aB.enc w3009 : Int)))) (lM aA.enc w3017 : Int) x0 (decide ((lM aA.enc w3017 : Int) > x0)) (client_Client.enc b0) (List.map aB.enc w3009) (List.map aA.enc w3017))))) (
  cond (decide ((lM aA.enc w3017 : Int) > (lM aB.enc w3009 : Int))) (
  (rB false)) (
  cond (decide ((lM aA.enc w3017 : Int) > x0)) (
  (rB false)) (
  apD lab κ x0 x2 x14 x116 x118 x119 (lM aA.enc w3017 : Int) (lM aB.enc w3009 : Int) ((decide ((lM aA.enc w3017 : Int) > (lM aB.enc w3009 : Int)))) (lM aA.enc w3017 : Int) x0 (decide ((lM aA.enc w3017 : Int) > x0)) (client_Client.enc b0) (List.map aB.enc w3009) (List.map aA.enc w3017))))) (fun _ => by kernel_rfl) ?_
 unfold oM
 repeat' first | (with_reducible first | refine lD ?_ ?_ ?_ | exact sF _ hk23 _ _ _ _ _ _ _ _ _ _ _ _ _ _ _ | refine aI ?_) | rfl | (simp only [EN]; done) | (simp only [EN]; exact sF _ hk23 _ _ _ _ _ _ _ _ _ _ _ _ _ _ _) | (simp only [EN, aD] <;> rfl)
theorem aaH : ∀ (fu : Nat) (x0 x2 x14 : Int) (b0 : client_Client) (w3009 : List aB), Le (Option.map aD (kC fu x0 x2 x14 b0 w3009)) (aiD lab (kF 5) x0 x2 x14 (client_Client.enc b0) (List.map aB.enc w3009)) := by
 intro fu
 induction fu with
 | zero => intros; exact le_none
 | succ fu ih =>
  intro x0 x2 x14 b0 w3009
  refine bF (t := fun κ =>
  cond (decide (x14 ≤ (w6 (Int.tmod x2 4)))) (
  κ.t 19 gT [.ptr 2000000000 0] [⟨83, (client_Client.avs b0)⟩] [] fun r11 =>
  κ.t 20 aV [.ptr 2000000000 0, dBq false, .agg [dBq false, dIq 0, dSq [], dSq [], dIq 0, dBq false, dIq 0, dIq 0, dSq [], dIq 0, .d (.sl aE.ks (List.map aE.enc []))]] [⟨83, (client_Client.avs r11)⟩] [] fun r12 =>
  cond (r12.2.1 != 0) (
   (rB false)) (
  κ.t 21 aO [.ptr 2000000000 0, .agg [dIq 2, dIq 0, dBq false, dSq [], dSq [], dIq 0, dBq false, dIq 0, dIq 0, dSq [], dIq 0, .d (.sl aE.ks (List.map aE.enc [])), dSq [], dSq [], dBq false, dIq 0, dIq 0, dIq 0, dBq false, dIq 0, dSq [], dSq [], dIq 0, dBq false, dIq 0, dIq 0, dSq [], dIq 0, .d (.sl aE.ks (List.map aE.enc [])), dBq true, dIq 0, .d (.sl aN.ks (List.map aN.enc [])), .d (.sl [.str] (List.map bD [])), .d (.sl [.int .i64] (List.map eI []))]] [⟨83, (client_Client.avs r12.2.2)⟩] [] fun r13 =>
  cond (r13.2.2.1 != 0) (
   (rB false)) (
  κ.t 11 cU [.ptr 2000000000 0] [⟨83, (client_Client.avs r13.2.2.2)⟩] [] fun r14 =>
  cond (r14.1 != (lM aB.enc w3009 : Int)) (
   (rB false)) (
  atp lab κ x0 x2 x14 r14.1 (lM aB.enc w3009 : Int) (r14.1 != (lM aB.enc w3009 : Int)) (client_Client.enc r14.2) (List.map aB.enc w3009) (List.map aA.enc r13.1))))) (
  κ.t 9 aD [] [] [] fun r15 =>
  (rB r15))) (fun _ => by kernel_rfl) ?_
  unfold kC
  refine lC ?_ ?_
  ·refine lQ eX vV (wC _) fun r11 _ => ?_
   refine lQ eX cI (by (try simp only [EN]); exact oD r11 false (zWq)) fun r12 _ => ?_
   refine lC ?_ ?_
   ·exact aI rfl
   ·refine lQ eX cQ (by (try simp only [EN]); exact fX r12.2.2 ((aA.mk 2 0 false zMq [] [] false 0 0 0 zWq true 0 [] [] []))) fun r13 _ => ?_
    refine lC ?_ ?_
    ·exact aI rfl
    ·refine lQ eX gS (hI _) fun r14 _ => ?_
     refine lDe ?_ ?_
     ·exact aI rfl
     ·(try simp only [EN]); exact zT _ (ih) x0 x2 x14 r14.1 (List.length w3009 : Int) (r14.1 != (List.length w3009 : Int)) r14.2 w3009 r13.1
  ·refine lQ eX aP (j0) fun r15 _ => ?_
   exact aI rfl
theorem aaM : ∀ (fu : Nat) (x0 : Int) (x1 : List aB) (x2 x10 : Int) (b0 : client_Client) (w3009 : List aB), Le (Option.map aD (iL fu x0 x1 x2 x10 b0 w3009)) (apo lab (kF 5) x0 (List.map aB.enc x1) x2 x10 (client_Client.enc b0) (List.map aB.enc w3009)) := by
 intro fu
 induction fu with
 | zero => intros; exact le_none
 | succ fu ih =>
  intro x0 x1 x2 x10 b0 w3009
  refine bF (t := fun κ =>
  cond (decide (x10 < (lM aB.enc x1 : Int))) (
  cond (iB x10 (lM aB.enc x1 : Int)) (
   κ.t 17 aD [.agg [dSq (aU (cE aB.enc x1 x10 0)), dSq (aU (cE aB.enc x1 x10 1)), dIq (aL (cE aB.enc x1 x10 2)), dBq (bA (cE aB.enc x1 x10 3)), dIq (aL (cE aB.enc x1 x10 4)), dIq (aL (cE aB.enc x1 x10 5)), dSq (aU (cE aB.enc x1 x10 6)), dIq (aL (cE aB.enc x1 x10 7)), .d (.sl aE.ks (dSl (cE aB.enc x1 x10 8)))]] [] [] fun r6 =>
   cond (!r6) (
   κ.t 9 aD [] [] [] fun r7 =>
   (rB r7)) (
   cond (iB x10 (lM aB.enc x1 : Int)) (
   cond (iB x10 (lM aB.enc x1 : Int)) (
    κ.t 13 aV [.ptr 2000000000 0, .agg [dSq (aU (cE aB.enc x1 x10 0)), dSq (aU (cE aB.enc x1 x10 1)), dIq (aL (cE aB.enc x1 x10 2)), dBq (bA (cE aB.enc x1 x10 3)), dIq (aL (cE aB.enc x1 x10 4)), dIq (aL (cE aB.enc x1 x10 5)), dSq (aU (cE aB.enc x1 x10 6)), dIq (aL (cE aB.enc x1 x10 7)), .d (.sl aE.ks (dSl (cE aB.enc x1 x10 8)))]] [⟨83, (client_Client.avs b0)⟩] [] fun r8 =>
    κ.t 18 aH [.agg [dSq (aU (cE aB.enc x1 x10 0)), dSq (aU (cE aB.enc x1 x10 1)), dIq (aL (cE aB.enc x1 x10 2)), dBq (bA (cE aB.enc x1 x10 3)), dIq (aL (cE aB.enc x1 x10 4)), dIq (aL (cE aB.enc x1 x10 5)), dSq ([97] : Str), dIq (w6 ((lM aB.enc w3009 : Int) + 1)), .d (.sl aE.ks (dSl (cE aB.enc x1 x10 8)))]] [] [] fun r9 =>
    cond (r8.2.1 != r9) (
    (rB false)) (
    cond (r8.2.1 == 0) (
    cond ((aL (cE aB.enc x1 x10 2)) == 0) (
     κ.t 9 aD [] [] [] fun r10 =>
     (rB r10)) (
    cond (decide ((lM aB.enc w3009 + List.length [[D.str (aU (cE aB.enc x1 x10 0)), D.str (aU (cE aB.enc x1 x10 1)), D.int .i64 (aL (cE aB.enc x1 x10 2)), D.bool (bA (cE aB.enc x1 x10 3)), D.int .i64 (aL (cE aB.enc x1 x10 4)), D.int .i64 (aL (cE aB.enc x1 x10 5)), D.str ([97] : Str), D.int .i64 (w6 ((lM aB.enc w3009 : Int) + 1)), D.sl aE.ks (dSl (cE aB.enc x1 x10 8))]]) * 112 ≤ 140737488355328)) (
     apo lab κ x0 (List.map aB.enc x1) x2 (w6 (x10 + 1)) (client_Client.enc r8.2.2) (((List.map aB.enc w3009) ++ [[D.str (aU (cE aB.enc x1 x10 0)), D.str (aU (cE aB.enc x1 x10 1)), D.int .i64 (aL (cE aB.enc x1 x10 2)), D.bool (bA (cE aB.enc x1 x10 3)), D.int .i64 (aL (cE aB.enc x1 x10 4)), D.int .i64 (aL (cE aB.enc x1 x10 5)), D.str ([97] : Str), D.int .i64 (w6 ((lM aB.enc w3009 : Int) + 1)), D.sl aE.ks (dSl (cE aB.enc x1 x10 8))]]))) none)) (
    apo lab κ x0 (List.map aB.enc x1) x2 (w6 (x10 + 1)) (client_Client.enc r8.2.2) (List.map aB.enc w3009)))) none) none)) none) (
  aiD lab κ x0 x2 0 (client_Client.enc b0) (List.map aB.enc w3009))) (fun _ => by kernel_rfl) ?_
  unfold iL
  repeat' first | (with_reducible first | refine lC ?_ ?_ | refine lQ eX aP ?_ fun _ _ => ?_ | refine lQ eX aP ?_ fun _ _ => ?_ | refine lQ eX cI ?_ fun _ _ => ?_ | refine lQ eX aX ?_ fun _ _ => ?_ | refine lG ?_ ?_ | refine lD ?_ ?_ ?_ | exact qD _ | exact j0 | exact iC _ _ | exact j1 _ | exact ih _ _ _ _ _ _ | exact aaH fuel _ _ _ _ _ | refine aI ?_) | rfl | (simp only [EN]; done) | (simp only [EN]; exact qD _) | (simp only [EN]; exact iC _ _) | (simp only [EN]; exact j1 _) | (simp only [EN]; exact ih _ _ _ _ _ _) | (simp only [EN, aD] <;> rfl)
theorem aaQ (x0 : Int) (x1 : List aB) (x2 : Int) (b0 : client_Client) : Le (Option.map aD (pB x0 x1 x2 b0)) (aup lab (kF 5) x0 (List.map aB.enc x1) x2 (client_Client.enc b0)) := by
 refine bF (t := fun κ =>
  apo lab κ x0 (List.map aB.enc x1) x2 0 (client_Client.enc b0) (List.map aB.enc [])) (fun _ => by kernel_rfl) ?_
 unfold pB
 (try simp only [EN]); exact aaM fuel x0 x1 x2 0 b0 []
theorem aaN (x0 : Int) (x1 : List aB) (x2 : Int) : Le (Option.map aD (pF x0 x1 x2)) (aug lab (kF 5) x0 (List.map aB.enc x1) x2) := by
 refine bF (t := fun κ =>
  κ.p 7 lS [dSq ([97] : Str), dIq x0] [] [] (fun e4 =>
  cond (e4 != 0) (
   (rB false)) (
  (rB false))) fun e5 =>
  cond (e5.1 != 0) (
  (rB false)) (
  aup lab κ x0 (List.map aB.enc x1) x2 (client_Client.enc e5.2))) (fun _ => by kernel_rfl) ?_
 unfold pF
 refine lQp eX w3 (yJ _ _) (fun e4 _ => ?_) (fun e5 _ => ?_)
 ·refine lC ?_ ?_
  ·exact aI rfl
  ·exact aI rfl
 ·refine lC ?_ ?_
  ·exact aI rfl
  ·exact aaQ x0 x1 x2 e5.2
theorem amx (p0 : Int) (p1 : List aB) (p2 : Int) : Le (Option.map aD (xH p0 p1 p2)) (aW SE 5 [dIq p0, .d (.sl aB.ks (List.map aB.enc p1)), .d (.int .u8 p2)] [] []) := by
 refine aZ (t := fun κ =>
  cond (decide (p0 < 1)) (
  κ.t 9 aD [] [] [] fun r0 =>
  (rB r0)) (
  cond (decide (p0 > 32)) (
  κ.t 9 aD [] [] [] fun r1 =>
  (rB r1)) (
  cond (decide ((lM aB.enc p1 : Int) > 20)) (
  κ.t 9 aD [] [] [] fun r2 =>
  (rB r2)) (
  aug lab κ p0 (List.map aB.enc p1) p2)))) (fun _ => by kernel_rfl) ?_
 unfold xH
 repeat' first | (with_reducible first | refine lC ?_ ?_ | refine lQ eX aP ?_ fun _ _ => ?_ | refine lD ?_ ?_ ?_ | exact j0 | exact aaN _ _ _ | refine aI ?_) | rfl | (simp only [EN]; done) | (simp only [EN, aD] <;> rfl)
end Te
end PX
