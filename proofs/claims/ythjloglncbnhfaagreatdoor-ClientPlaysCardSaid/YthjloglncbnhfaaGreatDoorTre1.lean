import Derived.Test.YthjloglncbnhfaaGreatDoorTre0
set_option linter.unusedVariables false
set_option linter.unusedSimpArgs false
set_option maxRecDepth 100000
noncomputable section
namespace PX
open Go
open Md
namespace Te
noncomputable def aow (L : bP) (κ : Tau) (a0 : Bool) (a1 a2 : List D) (a3 : List (List D)) : Res := L SE (K κ) κ.Λ κ.J 35 0 [1, 1, 1, 1, 1, 1, 1, 0] (bE [(3, .ptr 1000000000 0), (4, .ptr 1000000001 0), (9, dBq a0), (10, .ptr 1000000002 0)] [⟨67, (List.map AV.d a1)⟩, ⟨33, (List.map AV.d a2)⟩, ⟨33, [.row 50200]⟩] [] [] [(50200, ⟨[.int .i64], 3, 8, a3⟩)])
noncomputable def amX (L : bP) (κ : Tau) (a0 : Bool) (a1 a2 a3 : List D) : Res := L SE (K κ) κ.Λ κ.J 35 0 [1, 1, 1, 1, 1, 0] (bE [(2, .ptr 1000000000 0), (3, .ptr 1000000001 0), (4, .ptr 1000000002 0), (9, dBq a0)] [⟨33, (List.map AV.d a1)⟩, ⟨67, (List.map AV.d a2)⟩, ⟨33, (List.map AV.d a3)⟩] [] [] [])
noncomputable def ap1 (L : bP) (κ : Tau) (a0 : Bool) (a1 a2 a3 : List D) : Res := L SE (K κ) κ.Λ κ.J 35 0 [1, 1, 1, 1, 0, 0] (bE [(2, .ptr 1000000000 0), (3, .ptr 1000000001 0), (4, .ptr 1000000002 0), (9, dBq a0)] [⟨33, (List.map AV.d a1)⟩, ⟨67, (List.map AV.d a2)⟩, ⟨33, (List.map AV.d a3)⟩] [] [] [])
theorem yW (x9 : Bool) (b0 : aA) (b1 : aJ) (w50200 : List Int) : Le (Option.map dM (oE x9 b0 b1 w50200)) (aow lab (kF 35) x9 (aA.enc b0) (aJ.enc b1) (List.map eI w50200)) := by
 refine bF (t := fun κ =>
  κ.t 64 bT [aA.av b0] [] [] fun r4 =>
  cond (!r4.2) (
  (some (dM ((aJ.mk w50200), x9, [], 0)))) (
  (some (dM ((aJ.mk w50200), x9, [r4.1], 0))))) (fun _ => by kernel_rfl) ?_
 unfold oE
 refine lQ eX aiG (ajA _) fun r4 _ => ?_
 refine lC ?_ ?_
 ·exact aI rfl
 ·exact aI rfl
theorem uO (x9 : Bool) (b0 : aJ) (b1 : aA) (b2 : aJ) : Le (Option.map dM (mZ x9 b0 b1 b2)) (amX lab (kF 35) x9 (aJ.enc b0) (aA.enc b1) (aJ.enc b2)) := by
 refine bF (t := fun κ =>
  κ.t 62 aR [.d (.sl [.int .i64] (List.map eI b0.IDs))] [] [] fun r2 =>
  cond (b1.Message.Level == 2) (
  κ.t 63 aR [.d (.sl [.int .i64] (List.map eI b0.IDs)), dIq b1.ID] [] [] fun r3 =>
  aow lab κ x9 (aA.enc b1) (aJ.enc b2) (List.map eI r3)) (
  aow lab κ x9 (aA.enc b1) (aJ.enc b2) (List.map eI r2))) (fun _ => by kernel_rfl) ?_
 unfold mZ
 refine lQ eX bU (eV _) fun r2 _ => ?_
 refine lC ?_ ?_
 ·refine lQ eX bU (aeJ _ _) fun r3 _ => ?_
  exact yW x9 b1 b2 r3
 ·exact yW x9 b1 b2 r2
theorem zV (x9 : Bool) (b0 : aJ) (b1 : aA) (b2 : aJ) : Le (Option.map dM (pI x9 b0 b1 b2)) (ap1 lab (kF 35) x9 (aJ.enc b0) (aA.enc b1) (aJ.enc b2)) := by
 refine bF (t := fun κ =>
  cond (b1.Message.Level == 2) (
  cond x9 (
   cond (decide ((lM eI b0.IDs : Int) ≥ 32)) (
   (some (dM ((aJ.mk []), false, [], 6)))) (
   amX lab κ x9 (aJ.enc b0) (aA.enc b1) (aJ.enc b2))) (
  amX lab κ x9 (aJ.enc b0) (aA.enc b1) (aJ.enc b2))) (
  amX lab κ x9 (aJ.enc b0) (aA.enc b1) (aJ.enc b2))) (fun _ => by kernel_rfl) ?_
 unfold pI
 refine lC ?_ ?_
 ·refine lC ?_ ?_
  ·refine lDe ?_ ?_
   ·exact aI rfl
   ·exact uO x9 b0 b1 b2
  ·exact uO x9 b0 b1 b2
 ·exact uO x9 b0 b1 b2
theorem aiK (p0 : aJ) (p1 : aA) : Le (Option.map dM (tU p0 p1)) (aW SE 35 [aJ.av p0, aA.av p1] [] []) := by
 refine aZ (t := fun κ =>
  cond (p1.Kind != 3) (
  (some (dM ((aJ.mk []), false, [], 10)))) (
  κ.t 38 aH [aA.av p1] [] [] fun r0 =>
  cond (r0 != 0) (
  (some (dM ((aJ.mk []), false, [], r0)))) (
  cond (decide (p1.Message.Level < 2)) (
  ap1 lab κ true (aJ.enc p0) (aA.enc p1) [D.sl [.int .i64] (List.map eI [])]) (
  κ.t 61 aD [aJ.av p0, dIq p1.ID] [] [] fun r1 =>
  ap1 lab κ (!r1) (aJ.enc p0) (aA.enc p1) [D.sl [.int .i64] (List.map eI [])])))) (fun _ => by kernel_rfl) ?_
 unfold tU
 refine lC ?_ ?_
 ·exact aI rfl
 ·refine lQ eX aX (rR _) fun r0 _ => ?_
  refine lC ?_ ?_
  ·exact aI rfl
  ·refine lC ?_ ?_
   ·(try simp only [EN]); exact zV true p0 p1 (aJ.mk [])
   ·refine lQ eX aP (alv _ _) fun r1 _ => ?_
    (try simp only [EN]); exact zV (!r1) p0 p1 (aJ.mk [])
theorem aby (p0 : client_Client) (p1 : aA) : Le (Option.map aO (jR p0 p1)) (aW SE 80 [.ptr 2000000000 0, aA.av p1] [⟨83, (client_Client.avs p0)⟩] []) := by
 refine aZ (t := fun κ =>
  κ.t 35 dM [aJ.av p0.in_, aA.av p1] [] [] fun r0 =>
  cond (r0.2.2.2 != 0) (
  (some (aO ([], [], r0.2.2.2, p0)))) (
  cond (!r0.2.1) (
  (some (aO (r0.2.2.1, [], 0, (client_Client.mk p0.name p0.state p0.out r0.1 p0.waiting p0.count p0.last))))) (
  κ.t 30 cZ [aB.av p1.Message] [] [] fun r1 =>
  (some (aO (r0.2.2.1, [r1], 0, (client_Client.mk p0.name p0.state p0.out r0.1 p0.waiting p0.count p0.last))))))) (fun _ => by kernel_rfl) ?_
 unfold jR
 refine lQ eX ag8 (aiK _ _) fun r0 _ => ?_
 refine lC ?_ ?_
 ·exact aI rfl
 ·refine lC ?_ ?_
  ·exact aI rfl
  ·refine lQ eX iQ (k8 _) fun r1 _ => ?_
   exact aI rfl
theorem uC (p0 : List Int) (p1 p2 : Int) : Le (Option.map aR (jO p0 p1 p2)) (aW SE 103 [.row 2000000000, dIq p1, dIq p2] [] [⟨[.int .i64], 3, 8, (List.map eI p0)⟩]) := ame (f := 103) (enc := eI) rfl rfl p0 p1 p2
theorem adK (p0 : List Int) (p1 : Int) : Le (Option.map aR (mS p0 p1)) (aW SE 60 [.d (.sl [.int .i64] (List.map eI p0)), dIq p1] [] []) := by
 refine aZ (t := fun κ =>
  κ.t 62 aR [.d (.sl [.int .i64] (List.map eI p0))] [] [] fun r0 =>
  κ.t 102 bW [.d (.sl [.int .i64] (List.map eI r0)), dIq p1] [] [] fun r1 =>
  cond r1.2 (
  κ.t 103 aR [.row 2000000000, dIq r1.1, dIq (w6 (r1.1 + 1))] [] [⟨[.int .i64], 3, 8, (List.map eI r0)⟩] fun r2 =>
  (some (aR r2))) (
  (some (aR r0)))) (fun _ => by kernel_rfl) ?_
 unfold mS
 refine lQ eX bU (eV _) fun r0 _ => ?_
 refine lQ eX fA (fF _ _) fun r1 _ => ?_
 refine lC ?_ ?_
 ·refine lQ eX bU (uC _ _ _) fun r2 _ => ?_
  exact aI rfl
 ·exact aI rfl
noncomputable def ate (L : bP) (κ : Tau) (a0 a1 a2 a3 : List D) : Res := L SE (K κ) κ.Λ κ.J 34 0 [1, 1, 1, 0] (bE [(2, .ptr 1000000000 0), (3, .ptr 1000000001 0), (4, .ptr 1000000002 0), (5, .ptr 1000000003 0)] [⟨33, (List.map AV.d a0)⟩, ⟨67, (List.map AV.d a1)⟩, ⟨33, (List.map AV.d a2)⟩, ⟨67, (List.map AV.d a3)⟩] [] [] [])
theorem zI (b0 : aJ) (b1 : aA) (b2 : aJ) (b3 : aA) : Le (Option.map bY (rT b0 b1 b2 b3)) (ate lab (kF 34) (aJ.enc b0) (aA.enc b1) (aJ.enc b2) (aA.enc b3)) := by
 refine bF (t := fun κ =>
  κ.t 60 aR [.d (.sl [.int .i64] (List.map eI b0.IDs)), dIq b1.ID] [] [] fun r0 =>
  (some (bY (((aJ.mk r0), (aA.mk 7 b1.ID false zMq [] [] false 0 0 0 zWq false 0 [] [] []), 0))))) (fun _ => by kernel_rfl) ?_
 unfold rT
 refine lQ eX bU (adK _ _) fun r0 _ => ?_
 exact aI rfl
theorem ahD (p0 : aJ) (p1 : aA) : Le (Option.map bY (sD p0 p1)) (aW SE 34 [aJ.av p0, aA.av p1] [] []) := by
 refine aZ (t := fun κ =>
  cond (p1.Kind != 6) (
  (some (bY (((aJ.mk []), zPq, 10))))) (
  cond (decide (p1.ID < 1)) (
  (some (bY (((aJ.mk []), zPq, 15))))) (
  cond (decide (p1.ID > 65535)) (
  (some (bY (((aJ.mk []), zPq, 15))))) (
  ate lab κ (aJ.enc p0) (aA.enc p1) [D.sl [.int .i64] (List.map eI [])] [D.int .i64 0, D.int .i64 0, D.bool false, D.str [], D.str [], D.int .i64 0, D.bool false, D.int .i64 0, D.int .i64 0, D.str [], D.int .i64 0, D.sl aE.ks (List.map aE.enc []), D.str [], D.str [], D.bool false, D.int .i64 0, D.int .i64 0, D.int .i64 0, D.bool false, D.int .i64 0, D.str [], D.str [], D.int .i64 0, D.bool false, D.int .i64 0, D.int .i64 0, D.str [], D.int .i64 0, D.sl aE.ks (List.map aE.enc []), D.bool false, D.int .i64 0, D.sl aN.ks (List.map aN.enc []), D.sl [.str] (List.map bD []), D.sl [.int .i64] (List.map eI [])])))) (fun _ => by kernel_rfl) ?_
 unfold sD
 repeat' first | (with_reducible first | refine lC ?_ ?_ | exact zI _ _ _ _ | refine aI ?_) | rfl | (simp only [EN]; exact zI _ _ _ _) | (simp only [EN, bY] <;> rfl)
theorem abB (p0 : client_Client) (p1 : aA) : Le (Option.map aO (jP p0 p1)) (aW SE 81 [.ptr 2000000000 0, aA.av p1] [⟨83, (client_Client.avs p0)⟩] []) := by
 refine aZ (t := fun κ =>
  κ.t 34 bY [aJ.av p0.in_, aA.av p1] [] [] fun r0 =>
  cond (r0.2.2 != 0) (
  (some (aO ([], [], r0.2.2, p0)))) (
  (some (aO ([r0.2.1], [], 0, (client_Client.mk p0.name p0.state p0.out r0.1 p0.waiting p0.count p0.last)))))) (fun _ => by kernel_rfl) ?_
 unfold jP
 refine lQ eX aaT (ahD _ _) fun r0 _ => ?_
 refine lC ?_ ?_
 ·exact aI rfl
 ·exact aI rfl
theorem ahT (p0 : aC) (p1 : Int) : Le (Option.map kJ (v5 p0 p1)) (aW SE 162 [aC.av p0, .ptr 2000000000 0] [⟨3, [dIq p1]⟩] []) := by
 refine aZ (t := fun κ =>
  (some (kJ ((p0.ID == p1), p1)))) (fun _ => by kernel_rfl) ?_
 unfold v5
 exact aI rfl
noncomputable def am9 (L : bP) (κ : Tau) (a0 : List (List D)) (a1 a2 a3 : Int) : Res := L SE (K κ) κ.Λ κ.J 161 1 [1, 0, 1, 0] (bE [(0, .d (.sl aC.ks a0)), (1, .fn 162 [] [.ptr 2000000000 0]), (7, dIq a1), (8, dIq a2)] [] [⟨3, [dIq a3]⟩] [] [])
theorem rK : ∀ (fu : Nat) (x0 : List aC) (x7 x8 q0_0 : Int), Le (Option.map cP (cF fu x0 x7 x8 q0_0)) (am9 lab (kF 161) (List.map aC.enc x0) x7 x8 q0_0) := by
 intro fu
 induction fu with
 | zero => intros; exact le_none
 | succ fu ih =>
  intro x0 x7 x8 q0_0
  refine bF (t := fun κ =>
  cond (decide (x8 < x7)) (
  cond (iB x8 (lM aC.enc x0 : Int)) (
   κ.t 162 kJ [.agg [dIq (aL (cE aC.enc x0 x8 0)), dIq (aL (cE aC.enc x0 x8 1)), dSq (aU (cE aC.enc x0 x8 2)), dSq (aU (cE aC.enc x0 x8 3)), dIq (aL (cE aC.enc x0 x8 4)), dBq (bA (cE aC.enc x0 x8 5)), dIq (aL (cE aC.enc x0 x8 6)), dIq (aL (cE aC.enc x0 x8 7)), dSq (aU (cE aC.enc x0 x8 8)), dIq (aL (cE aC.enc x0 x8 9)), .d (.sl aE.ks (dSl (cE aC.enc x0 x8 10)))], .ptr 2000000000 0] [⟨3, [dIq q0_0]⟩] [] fun r0 =>
   cond r0.1 (
   (some (.ret [dIq x8] [⟨3, [dIq r0.2]⟩] []))) (
   am9 lab κ (List.map aC.enc x0) x7 (w6 (x8 + 1)) r0.2)) none) (
  (some (.ret [dIq (-1)] [⟨3, [dIq q0_0]⟩] [])))) (fun _ => by kernel_rfl) ?_
  unfold cF
  refine lC ?_ ?_
  ·refine lGe ?_
   refine lQ eX agU (by (try simp only [EN]); exact ahT (List.getD x0 (Int.toNat x8) default) q0_0) fun r0 _ => ?_
   refine lC ?_ ?_
   ·exact aI rfl
   ·exact ih x0 x7 (w6 (x8 + 1)) r0.2
  ·exact aI rfl
theorem sP (p0 : List aC) (p1_0 : Int) : Le (Option.map cP (e9 p0 p1_0)) (aW SE 161 [.d (.sl aC.ks (List.map aC.enc p0)), .fn 162 [] [.ptr 2000000000 0]] [⟨3, [dIq p1_0]⟩] []) := by
 refine aZ (t := fun κ =>
  am9 lab κ (List.map aC.enc p0) (lM aC.enc p0 : Int) 0 p1_0) (fun _ => by kernel_rfl) ?_
 unfold e9
 (try simp only [EN]); exact rK fuel p0 (List.length p0 : Int) 0 p1_0
theorem ajr (p0 : List aC) (p1 : Int) : Le (Option.map aH (vC p0 p1)) (aW SE 147 [.d (.sl aC.ks (List.map aC.enc p0)), dIq p1] [] []) := by
 refine aZ (t := fun κ =>
  κ.t 161 cP [.d (.sl aC.ks (List.map aC.enc p0)), .fn 162 [] [.ptr 2000000000 0]] [⟨3, [dIq p1]⟩] [] fun r0 =>
  (rI r0.1)) (fun _ => by kernel_rfl) ?_
 unfold vC
 refine lQ eX rV (sP _ _) fun r0 _ => ?_
 exact aI rfl
theorem ams (p0 : aK) (p1 : Int) : Le (Option.map fK (aap p0 p1)) (aW SE 163 [aK.av p0, dIq p1] [] []) := by
 refine aZ (t := fun κ =>
  κ.t 62 aR [.d (.sl [.int .i64] (List.map eI p0.Used))] [] [] fun r0 =>
  κ.t 102 bW [.d (.sl [.int .i64] (List.map eI r0)), dIq p1] [] [] fun r1 =>
  cond r1.2 (
  κ.t 103 aR [.row 2000000000, dIq r1.1, dIq (w6 (r1.1 + 1))] [] [⟨[.int .i64], 3, 8, (List.map eI r0)⟩] fun r2 =>
  (some (fK ((aK.mk r2 p0.Last), r1.2)))) (
  (some (fK ((aK.mk r0 p0.Last), r1.2))))) (fun _ => by kernel_rfl) ?_
 unfold aap
 refine lQ eX bU (eV _) fun r0 _ => ?_
 refine lQ eX fA (fF _ _) fun r1 _ => ?_
 refine lC ?_ ?_
 ·refine lQ eX bU (uC _ _ _) fun r2 _ => ?_
  exact aI rfl
 ·exact aI rfl
theorem tW (p0 : List aC) (p1 p2 : Int) : Le (Option.map dO (iZ p0 p1 p2)) (aW SE 164 [.row 2000000000, dIq p1, dIq p2] [] [⟨aC.ks, 139, 128, (List.map aC.enc p0)⟩]) := ame (f := 164) (enc := aC.enc) rfl rfl p0 p1 p2
theorem aie (p0 : aG) (p1 : Int) : Le (Option.map bH (oX p0 p1)) (aW SE 148 [aG.av p0, dIq p1] [] []) := by
 refine aZ (t := fun κ =>
  cond (iB p1 (lM aC.enc p0.Items : Int)) (
  κ.t 163 fK [aK.av p0.Pool, dIq (aL (cE aC.enc p0.Items p1 0))] [] [] fun r0 =>
  κ.t 99 bH [aG.av p0] [] [] fun r1 =>
  κ.t 164 dO [.row 2000000000, dIq p1, dIq (w6 (p1 + 1))] [] [⟨aC.ks, 139, 128, (List.map aC.enc r1.Items)⟩] fun r2 =>
  (some (bH (aG.mk r1.Limit r2 r0.1)))) none) (fun _ => by kernel_rfl) ?_
 unfold oX
 refine lGe ?_
 refine lQ eX aa5 (by (try simp only [EN]); exact ams p0.Pool ((List.getD p0.Items (Int.toNat p1) default).ID)) fun r0 _ => ?_
 refine lQ eX iF (xM _) fun r1 _ => ?_
 refine lQ eX tS (tW _ _ _) fun r2 _ => ?_
 exact aI rfl
noncomputable def ant (L : bP) (κ : Tau) (a0 : Int) (a1 a2 a3 a4 : List D) : Res := L SE (K κ) κ.Λ κ.J 114 0 [1, 1, 1, 1, 0, 0] (bE [(2, .ptr 1000000000 0), (3, .ptr 1000000001 0), (4, .ptr 1000000002 0), (7, dIq a0), (8, .ptr 1000000003 0)] [⟨31, (List.map AV.d a1)⟩, ⟨67, (List.map AV.d a2)⟩, ⟨31, (List.map AV.d a3)⟩, ⟨139, (List.map AV.d a4)⟩] [] [] [])
theorem zA (x7 : Int) (b0 : aG) (b1 : aA) (b2 : aG) (b3 : aC) : Le (Option.map cO (iA x7 b0 b1 b2 b3)) (ant lab (kF 114) x7 (aG.enc b0) (aA.enc b1) (aG.enc b2) (aC.enc b3)) := by
 refine bF (t := fun κ =>
  cond (b1.Kind == 4) (
  cond (decide (x7 < 0)) (
   κ.t 99 bH [aG.av b0] [] [] fun r1 =>
   (some (cO (r1, [], 0)))) (
  cond (b3.Message.Level == 1) (
   κ.t 148 bH [aG.av b0, dIq x7] [] [] fun r2 =>
   (some (cO (r2, [], 0)))) (
  (some (cO (((aG.mk 0 [] (aK.mk [] 0)), [], 23))))))) (
  cond (b1.Kind == 5) (
  cond (decide (x7 < 0)) (
   κ.t 99 bH [aG.av b0] [] [] fun r3 =>
   κ.t 146 bI [dIq b1.ID] [] [] fun r4 =>
   (some (cO (r3, [r4], 0)))) (
  cond (b3.Message.Level == 2) (
   κ.t 99 bH [aG.av b0] [] [] fun r5 =>
   cond (iB x7 (lM aC.enc r5.Items : Int)) (
   κ.t 146 bI [dIq b1.ID] [] [] fun r6 =>
   (some (.ret [.agg [dIq r5.Limit, .row 0, .row 1, dIq r5.Pool.Last], .row 2, dIq 0] [] [⟨aC.ks, 139, 128, (aa9 (List.map aC.enc r5.Items) (Int.toNat x7) 1 [D.int .i64 2])⟩, ⟨[.int .i64], 3, 8, (List.map eI r5.Pool.Used)⟩, ⟨aA.ks, 67, 416, (List.map aA.enc [r6])⟩]))) none) (
  (some (cO (((aG.mk 0 [] (aK.mk [] 0)), [], 23))))))) (
  cond (b1.Kind == 7) (
  cond (decide (x7 < 0)) (
   κ.t 99 bH [aG.av b0] [] [] fun r7 =>
   (some (cO (r7, [], 0)))) (
  cond (b3.State == 2) (
   κ.t 148 bH [aG.av b0, dIq x7] [] [] fun r8 =>
   (some (cO (r8, [], 0)))) (
  (some (cO (((aG.mk 0 [] (aK.mk [] 0)), [], 23))))))) (
  (some (cO (((aG.mk 0 [] (aK.mk [] 0)), [], 10)))))))) (fun _ => by kernel_rfl) ?_
 unfold iA
 repeat' first | (with_reducible first | refine lC ?_ ?_ | refine lQ eX iF ?_ fun _ _ => ?_ | refine lQ eX iF ?_ fun _ _ => ?_ | refine lQ eX gY ?_ fun _ _ => ?_ | refine lG ?_ ?_ | exact xM _ | exact aie _ _ | exact wP _ | refine aI ?_) | rfl | (simp only [EN]; done) | (simp only [EN, cO] <;> rfl)
theorem ag3 (p0 : aG) (p1 : aA) : Le (Option.map cO (mG p0 p1)) (aW SE 114 [aG.av p0, aA.av p1] [] []) := by
 refine aZ (t := fun κ =>
  κ.t 147 aH [.d (.sl aC.ks (List.map aC.enc p0.Items)), dIq p1.ID] [] [] fun r0 =>
  cond (decide (r0 ≥ 0)) (
  cond (iB r0 (lM aC.enc p0.Items : Int)) (
   ant lab κ r0 (aG.enc p0) (aA.enc p1) [D.int .i64 0, D.sl aC.ks (List.map aC.enc []), D.sl [.int .i64] (List.map eI []), D.int .i64 0] [D.int .i64 (aL (cE aC.enc p0.Items r0 0)), D.int .i64 (aL (cE aC.enc p0.Items r0 1)), D.str (aU (cE aC.enc p0.Items r0 2)), D.str (aU (cE aC.enc p0.Items r0 3)), D.int .i64 (aL (cE aC.enc p0.Items r0 4)), D.bool (bA (cE aC.enc p0.Items r0 5)), D.int .i64 (aL (cE aC.enc p0.Items r0 6)), D.int .i64 (aL (cE aC.enc p0.Items r0 7)), D.str (aU (cE aC.enc p0.Items r0 8)), D.int .i64 (aL (cE aC.enc p0.Items r0 9)), D.sl aE.ks (dSl (cE aC.enc p0.Items r0 10))]) none) (
  ant lab κ r0 (aG.enc p0) (aA.enc p1) [D.int .i64 0, D.sl aC.ks (List.map aC.enc []), D.sl [.int .i64] (List.map eI []), D.int .i64 0] [D.int .i64 0, D.int .i64 0, D.str [], D.str [], D.int .i64 0, D.bool false, D.int .i64 0, D.int .i64 0, D.str [], D.int .i64 0, D.sl aE.ks (List.map aE.enc [])])) (fun _ => by kernel_rfl) ?_
 unfold mG
 refine lQ eX aX (ajr _ _) fun r0 _ => ?_
 refine lC ?_ ?_
 ·refine lGe ?_
  (try simp only [EN]); exact zA r0 p0 p1 ((aG.mk 0 [] (aK.mk [] 0))) (List.getD p0.Items (Int.toNat r0) default)
 ·(try simp only [EN]); exact zA r0 p0 p1 ((aG.mk 0 [] (aK.mk [] 0))) ((aC.mk 0 0 zMq))
theorem zR (p0 : client_Client) (p1 : aA) : Le (Option.map aO (g9 p0 p1)) (aW SE 82 [.ptr 2000000000 0, aA.av p1] [⟨83, (client_Client.avs p0)⟩] []) := by
 refine aZ (t := fun κ =>
  κ.t 114 cO [aG.av p0.out, aA.av p1] [] [] fun r0 =>
  cond (r0.2.2 != 0) (
  (some (aO ([], [], r0.2.2, p0)))) (
  κ.t 33 bM [.ptr 2000000000 0, .row 2000000000] [⟨83, (client_Client.avs (client_Client.mk p0.name p0.state r0.1 p0.in_ p0.waiting p0.count p0.last))⟩] [⟨aA.ks, 67, 416, (List.map aA.enc r0.2.1)⟩] fun r1 =>
  (some (aO (r1.1, [], 0, r1.2))))) (fun _ => by kernel_rfl) ?_
 unfold g9
 refine lQ eX agL (ag3 _ _) fun r0 _ => ?_
 refine lC ?_ ?_
 ·exact aI rfl
 ·refine lQ eX kV (gU _ _) fun r1 _ => ?_
  exact aI rfl
theorem aau (p0 : client_Client) (p1 : aA) : Le (Option.map aO (oP p0 p1)) (aW SE 83 [.ptr 2000000000 0, aA.av p1] [⟨83, (client_Client.avs p0)⟩] []) := by
 refine aZ (t := fun κ =>
  (some (aO ([], [], 0, (client_Client.mk p0.name 0 p0.out p0.in_ p0.waiting p0.count p0.last))))) (fun _ => by kernel_rfl) ?_
 unfold oP
 exact aI rfl
theorem abW (p0 : client_Client) (p1 : aA) : Le (Option.map aO (rM p0 p1)) (aW SE 84 [.ptr 2000000000 0, aA.av p1] [⟨83, (client_Client.avs p0)⟩] []) := by
 refine aZ (t := fun κ =>
  (some (aO ([], [], 0, p0)))) (fun _ => by kernel_rfl) ?_
 unfold rM
 exact aI rfl
noncomputable def ap7 (L : bP) (κ : Tau) (a0 a1 : List D) : Res := L SE (K κ) κ.Λ κ.J 21 1 [1, 1, 1, 1, 1, 0] (bE [(0, .ptr 2000000000 0), (3, .ptr 1000000000 0)] [⟨67, (List.map AV.d a0)⟩] [⟨83, (List.map AV.d a1)⟩] [] [])
noncomputable def am2 (L : bP) (κ : Tau) (a0 : Bool) (a1 a2 : List D) : Res := L SE (K κ) κ.Λ κ.J 21 1 [1, 1, 1, 1, 0, 0] (bE [(0, .ptr 2000000000 0), (3, .ptr 1000000000 0), (8, dBq a0)] [⟨67, (List.map AV.d a1)⟩] [⟨83, (List.map AV.d a2)⟩] [] [])
theorem aae (b0 : aA) (q0 : client_Client) : Le (Option.map aO (fS b0 q0)) (ap7 lab (kF 21) (aA.enc b0) (client_Client.enc q0)) := by
 refine bF (t := fun κ =>
  κ.s 40 eR [.ptr 2000000000 0, dIq b0.Kind] [⟨83, (client_Client.avs q0)⟩] [] (fun e3 =>
  κ.t 79 aO [.ptr 2000000000 0, aA.av b0] [⟨83, (client_Client.avs e3)⟩] [] fun r9 =>
  (some (aO (r9.1, r9.2.1, r9.2.2.1, r9.2.2.2)))) (fun e4 =>
  κ.t 80 aO [.ptr 2000000000 0, aA.av b0] [⟨83, (client_Client.avs e4)⟩] [] fun r10 =>
  (some (aO (r10.1, r10.2.1, r10.2.2.1, r10.2.2.2)))) (fun e5 =>
  κ.t 81 aO [.ptr 2000000000 0, aA.av b0] [⟨83, (client_Client.avs e5)⟩] [] fun r11 =>
  (some (aO (r11.1, r11.2.1, r11.2.2.1, r11.2.2.2)))) (fun e6 =>
  κ.t 82 aO [.ptr 2000000000 0, aA.av b0] [⟨83, (client_Client.avs e6)⟩] [] fun r12 =>
  (some (aO (r12.1, r12.2.1, r12.2.2.1, r12.2.2.2)))) (fun e7 =>
  κ.t 83 aO [.ptr 2000000000 0, aA.av b0] [⟨83, (client_Client.avs e7)⟩] [] fun r13 =>
  (some (aO (r13.1, r13.2.1, r13.2.2.1, r13.2.2.2)))) fun e8 =>
  κ.t 84 aO [.ptr 2000000000 0, aA.av b0] [⟨83, (client_Client.avs e8)⟩] [] fun r14 =>
  (some (aO (r14.1, r14.2.1, r14.2.2.1, r14.2.2.2)))) (fun _ => by kernel_rfl) ?_
 unfold fS
 refine lQ6 eX aam (aaO _ _) (fun e3 _ => ?_) (fun e4 _ => ?_) (fun e5 _ => ?_) (fun e6 _ => ?_) (fun e7 _ => ?_) (fun e8 _ => ?_)
 ·refine lQ eX cQ (abQ _ _) fun r9 _ => ?_
  exact aI rfl
 ·refine lQ eX cQ (aby _ _) fun r10 _ => ?_
  exact aI rfl
 ·refine lQ eX cQ (abB _ _) fun r11 _ => ?_
  exact aI rfl
 ·refine lQ eX cQ (zR _ _) fun r12 _ => ?_
  exact aI rfl
 ·refine lQ eX cQ (aau _ _) fun r13 _ => ?_
  exact aI rfl
 ·refine lQ eX cQ (abW _ _) fun r14 _ => ?_
  exact aI rfl
theorem zW (x8 : Bool) (b0 : aA) (q0 : client_Client) : Le (Option.map aO (fV x8 b0 q0)) (am2 lab (kF 21) x8 (aA.enc b0) (client_Client.enc q0)) := by
 refine bF (t := fun κ =>
  κ.t 39 aD [dIq b0.Kind] [] [] fun r1 =>
  cond (!r1) (
  (some (aO ([], [], 23, q0)))) (
  cond x8 (
  (some (aO ([], [], 23, q0)))) (
  cond (q0.state == 2) (
  cond (b0.Kind == 2) (
   (some (aO ([], [], 23, q0)))) (
  ap7 lab κ (aA.enc b0) (client_Client.enc q0))) (
  ap7 lab κ (aA.enc b0) (client_Client.enc q0))))) (fun _ => by kernel_rfl) ?_
 unfold fV
 repeat' first | (with_reducible first | refine lC ?_ ?_ | refine lQ eX aP ?_ fun _ _ => ?_ | exact ajs _ | exact aae _ _ | refine aI ?_) | rfl | (simp only [EN, aO] <;> rfl)
theorem fX (p0 : client_Client) (p1 : aA) : Le (Option.map aO (dX p0 p1)) (aW SE 21 [.ptr 2000000000 0, aA.av p1] [⟨83, (client_Client.avs p0)⟩] []) := by
 refine aZ (t := fun κ =>
  cond (p0.state == 0) (
  (some (aO ([], [], 9, p0)))) (
  κ.t 38 aH [aA.av p1] [] [] fun r0 =>
  cond (r0 != 0) (
  (some (aO ([], [], r0, p0)))) (
  cond (p0.state == 1) (
  cond (p1.Kind != 2) (
   am2 lab κ (p1.Kind != 14) (aA.enc p1) (client_Client.enc p0)) (
  am2 lab κ false (aA.enc p1) (client_Client.enc p0))) (
  am2 lab κ false (aA.enc p1) (client_Client.enc p0))))) (fun _ => by kernel_rfl) ?_
 unfold dX
 repeat' first | (with_reducible first | refine lC ?_ ?_ | refine lQ eX aX ?_ fun _ _ => ?_ | exact rR _ | exact zW _ _ _ | refine aI ?_) | rfl | (simp only [EN, aO] <;> rfl)
theorem s9 (p0 : List aB) : Le (Option.map cH (dZ p0)) (aW SE 32 [.d (.sl aB.ks (List.map aB.enc p0))] [] []) := by
 refine aZ (t := fun κ =>
  cond (List.isEmpty (List.map aB.enc p0)) (
  abp (
   (some (.ret [.row 0] [] [⟨aB.ks, 54, 112, []⟩]))) (
   cond (decide ((lM aB.enc [] + lM aB.enc p0) * 112 ≤ 140737488355328)) (
   (some (cH (([] : List aB) ++ p0)))) none)) (
  cond (decide ((lM aB.enc [] + lM aB.enc p0) * 112 ≤ 140737488355328)) (
  (some (cH (([] : List aB) ++ p0)))) none)) (fun _ => by kernel_rfl) ?_
 unfold dZ
 refine lDe ?_ ?_
 ·refine alN ?_ ?_
  ·exact aI rfl
  ·refine lGe ?_
   exact aI rfl
 ·refine lGe ?_
  exact aI rfl
theorem iC (p0 : client_Client) (p1 : aB) : Le (Option.map aV (eK p0 p1)) (aW SE 13 [.ptr 2000000000 0, aB.av p1] [⟨83, (client_Client.avs p0)⟩] []) := by
 refine aZ (t := fun κ =>
  κ.t 30 cZ [aB.av p1] [] [] fun r0 =>
  κ.t 31 aH [aB.av (aB.mk r0.Topic r0.Payload r0.Level r0.Retain r0.Priority r0.Expires p0.name (w6 (p0.count + 1)) r0.Props)] [] [] fun r1 =>
  cond (r1 != 0) (
  (some (aV ([], r1, p0)))) (
  cond (decide ((lM aB.enc p0.waiting : Int) ≥ 256)) (
  (some (aV ([], 6, p0)))) (
  κ.t 32 cH [.d (.sl aB.ks (List.map aB.enc p0.waiting))] [] [] fun r2 =>
  cond (decide ((lM aB.enc r2 + lM aB.enc [(aB.mk r0.Topic r0.Payload r0.Level r0.Retain r0.Priority r0.Expires p0.name (w6 (p0.count + 1)) r0.Props)]) * 112 ≤ 140737488355328)) (
  κ.t 33 bM [.ptr 2000000000 0, .row 2000000000] [⟨83, [dSq p0.name, dIq p0.state, dIq p0.out.Limit, .d (.sl aC.ks (List.map aC.enc p0.out.Items)), .d (.sl [.int .i64] (List.map eI p0.out.Pool.Used)), dIq p0.out.Pool.Last, .d (.sl [.int .i64] (List.map eI p0.in_.IDs)), .d (.sl aB.ks ((List.map aB.enc r2) ++ (List.map aB.enc [(aB.mk r0.Topic r0.Payload r0.Level r0.Retain r0.Priority r0.Expires p0.name (w6 (p0.count + 1)) r0.Props)]))), dIq (w6 (p0.count + 1)), dIq p0.last]⟩] [⟨aA.ks, 67, 416, (List.map aA.enc [])⟩] fun r3 =>
  (some (aV (r3.1, 0, r3.2)))) none))) (fun _ => by kernel_rfl) ?_
 unfold eK
 repeat' first | (with_reducible first | refine lC ?_ ?_ | refine lQ eX iQ ?_ fun _ _ => ?_ | refine lQ eX aX ?_ fun _ _ => ?_ | refine lQ eX sW ?_ fun _ _ => ?_ | refine lQ eX kV ?_ fun _ _ => ?_ | refine lG ?_ ?_ | refine lD ?_ ?_ ?_ | exact k8 _ | exact kY _ | exact s9 _ | exact gU _ _ | refine aI ?_) | rfl | (simp only [EN]; done) | (simp only [EN]; exact gU _ _) | (simp only [EN, aV] <;> rfl)
noncomputable def atq (L : bP) (κ : Tau) (a0 : List D) : Res := L SE (K κ) κ.Λ κ.J 9 0 [1, 1, 1, 1, 1, 1, 1, 1, 1, 1, 1, 0] (bE [(1, .ptr 1000000000 0)] [⟨83, (List.map AV.d a0)⟩] [] [] [])
noncomputable def atn (L : bP) (κ : Tau) (a0 : List D) : Res := L SE (K κ) κ.Λ κ.J 9 0 [1, 1, 1, 1, 1, 1, 1, 0] (bE [(1, .ptr 1000000000 0)] [⟨83, (List.map AV.d a0)⟩] [] [] [])
noncomputable def aus (L : bP) (κ : Tau) (a0 : List D) : Res := L SE (K κ) κ.Λ κ.J 9 0 [1, 1, 1, 1, 1, 0] (bE [(1, .ptr 1000000000 0)] [⟨83, (List.map AV.d a0)⟩] [] [] [])
noncomputable def auI (L : bP) (κ : Tau) (a0 : List D) : Res := L SE (K κ) κ.Λ κ.J 9 0 [1, 1, 1, 0] (bE [(1, .ptr 1000000000 0)] [⟨83, (List.map AV.d a0)⟩] [] [] [])
theorem ac0 (b0 : client_Client) : Le (Option.map aD (tV b0)) (atq lab (kF 9) (client_Client.enc b0)) := by
 refine bF (t := fun κ =>
  κ.t 21 aO [.ptr 2000000000 0, .agg [dIq 5, dIq 1, dBq false, dSq [], dSq [], dIq 0, dBq false, dIq 0, dIq 0, dSq [], dIq 0, .d (.sl aE.ks (List.map aE.enc [])), dSq [], dSq [], dBq false, dIq 0, dIq 0, dIq 0, dBq false, dIq 0, dSq [], dSq [], dIq 0, dBq false, dIq 0, dIq 0, dSq [], dIq 0, .d (.sl aE.ks (List.map aE.enc [])), dBq false, dIq 0, .d (.sl aN.ks (List.map aN.enc [])), .d (.sl [.str] (List.map bD [])), .d (.sl [.int .i64] (List.map eI []))]] [⟨83, (client_Client.avs b0)⟩] [] fun r11 =>
  κ.t 21 aO [.ptr 2000000000 0, .agg [dIq 7, dIq 1, dBq false, dSq [], dSq [], dIq 0, dBq false, dIq 0, dIq 0, dSq [], dIq 0, .d (.sl aE.ks (List.map aE.enc [])), dSq [], dSq [], dBq false, dIq 0, dIq 0, dIq 0, dBq false, dIq 0, dSq [], dSq [], dIq 0, dBq false, dIq 0, dIq 0, dSq [], dIq 0, .d (.sl aE.ks (List.map aE.enc [])), dBq false, dIq 0, .d (.sl aN.ks (List.map aN.enc [])), .d (.sl [.str] (List.map bD [])), .d (.sl [.int .i64] (List.map eI []))]] [⟨83, (client_Client.avs r11.2.2.2)⟩] [] fun r12 =>
  cond (r11.2.2.1 == 0) (
  cond (r12.2.2.1 == 0) (
   cond ((lM aA.enc r11.1 : Int) == 1) (
   cond (decide (0 ≤ 0) && decide (0 < (lM aA.enc r11.1 : Int))) (
    cond ((aL (cE aA.enc r11.1 0 0)) == 6) (
    cond ((lM aA.enc r12.1 : Int) == 1) (
     cond (decide (0 ≤ 0) && decide (0 < (lM aA.enc r12.1 : Int))) (
     cond ((aL (cE aA.enc r12.1 0 0)) == 3) (
      cond (decide (0 ≤ 0) && decide (0 < (lM aA.enc r12.1 : Int))) (
      cond ((aL (cE aA.enc r12.1 0 10)) == 2) (
       κ.t 11 cU [.ptr 2000000000 0] [⟨83, (client_Client.avs r12.2.2.2)⟩] [] fun r13 =>
       (rB (r13.1 == 1))) (
      (rB false))) none) (
     (rB false))) none) (
    (rB false))) (
    (rB false))) none) (
   (rB false))) (
  (rB false))) (
  (rB false))) (fun _ => by kernel_rfl) ?_
 unfold tV
 repeat' first | (with_reducible first | refine lC ?_ ?_ | refine lQ eX cQ ?_ fun _ _ => ?_ | refine lQ eX gS ?_ fun _ _ => ?_ | refine lG ?_ ?_ | refine lD ?_ ?_ ?_ | exact fX _ _ | exact hI _ | refine aI ?_) | rfl | (simp only [EN]; done) | (simp only [EN]; exact fX _ _) | (simp only [EN, aD] <;> rfl)
theorem acZ (b0 : client_Client) : Le (Option.map aD (tK b0)) (atn lab (kF 9) (client_Client.enc b0)) := by
 refine bF (t := fun κ =>
  κ.t 13 aV [.ptr 2000000000 0, .agg [dSq ([116] : Str), dSq [], dIq 2, dBq false, dIq 0, dIq 0, dSq [], dIq 0, .d (.sl aE.ks (List.map aE.enc []))]] [⟨83, (client_Client.avs b0)⟩] [] fun r8 =>
  κ.t 13 aV [.ptr 2000000000 0, .agg [dSq ([116] : Str), dSq [], dIq 2, dBq false, dIq 0, dIq 0, dSq [], dIq 0, .d (.sl aE.ks (List.map aE.enc []))]] [⟨83, (client_Client.avs r8.2.2)⟩] [] fun r9 =>
  cond (r8.2.1 != 0) (
  (rB false)) (
  cond (r9.2.1 != 0) (
  (rB false)) (
  cond ((lM aA.enc r8.1 : Int) != 1) (
  (rB false)) (
  cond (decide (0 ≤ 0) && decide (0 < (lM aA.enc r8.1 : Int))) (
  cond ((aL (cE aA.enc r8.1 0 1)) != 1) (
   (rB false)) (
  cond (decide (0 ≤ 0) && decide (0 < (lM aA.enc r8.1 : Int))) (
   cond (!((aU (cE aA.enc r8.1 0 9)) == ([97] : Str))) (
   (rB false)) (
   cond (decide (0 ≤ 0) && decide (0 < (lM aA.enc r8.1 : Int))) (
   cond ((aL (cE aA.enc r8.1 0 10)) != 1) (
    (rB false)) (
   cond ((lM aA.enc r9.1 : Int) != 0) (
    (rB false)) (
   κ.t 11 cU [.ptr 2000000000 0] [⟨83, (client_Client.avs r9.2.2)⟩] [] fun r10 =>
   cond (r10.1 != 2) (
    (rB false)) (
   atq lab κ (client_Client.enc r10.2))))) none)) none)) none)))) (fun _ => by kernel_rfl) ?_
 unfold tK
 refine lQ eX cI (by (try simp only [EN]); exact iC b0 ((aB.mk ([116] : Str) [] 2 false 0 0 [] 0 []))) fun r8 _ => ?_
 refine lQ eX cI (by (try simp only [EN]); exact iC r8.2.2 ((aB.mk ([116] : Str) [] 2 false 0 0 [] 0 []))) fun r9 _ => ?_
 refine lC ?_ ?_
 ·exact aI rfl
 ·refine lC ?_ ?_
  ·exact aI rfl
  ·refine lDe ?_ ?_
   ·exact aI rfl
   ·refine lGe ?_
    refine lDe ?_ ?_
    ·exact aI rfl
    ·refine lGe ?_
     refine lDe ?_ ?_
     ·exact aI rfl
     ·refine lGe ?_
      refine lDe ?_ ?_
      ·exact aI rfl
      ·refine lDe ?_ ?_
       ·exact aI rfl
       ·refine lQ eX gS (hI _) fun r10 _ => ?_
        refine lC ?_ ?_
        ·exact aI rfl
        ·exact ac0 r10.2
theorem adM (b0 : client_Client) : Le (Option.map aD (uR b0)) (aus lab (kF 9) (client_Client.enc b0)) := by
 refine bF (t := fun κ =>
  κ.t 21 aO [.ptr 2000000000 0, .agg [dIq 2, dIq 0, dBq false, dSq [], dSq [], dIq 0, dBq false, dIq 0, dIq 0, dSq [], dIq 0, .d (.sl aE.ks (List.map aE.enc [])), dSq [], dSq [], dBq false, dIq 0, dIq 0, dIq 0, dBq false, dIq 0, dSq [], dSq [], dIq 0, dBq false, dIq 0, dIq 0, dSq [], dIq 0, .d (.sl aE.ks (List.map aE.enc [])), dBq false, dIq 0, .d (.sl aN.ks (List.map aN.enc [])), .d (.sl [.str] (List.map bD [])), .d (.sl [.int .i64] (List.map eI []))]] [⟨83, (client_Client.avs b0)⟩] [] fun r6 =>
  cond (r6.2.2.1 != 0) (
  (rB false)) (
  κ.t 10 dV [.ptr 2000000000 0] [⟨83, (client_Client.avs r6.2.2.2)⟩] [] fun r7 =>
  cond (!r7.1) (
  (rB false)) (
  atn lab κ (client_Client.enc r7.2)))) (fun _ => by kernel_rfl) ?_
 unfold uR
 repeat' first | (with_reducible first | refine lC ?_ ?_ | refine lQ eX cQ ?_ fun _ _ => ?_ | refine lQ eX kD ?_ fun _ _ => ?_ | exact fX _ _ | exact kW _ | exact acZ _ | refine aI ?_) | rfl | (simp only [EN]; exact fX _ _) | (simp only [EN, aD] <;> rfl)
theorem ad0 (b0 : client_Client) : Le (Option.map aD (uH b0)) (auI lab (kF 9) (client_Client.enc b0)) := by
 refine bF (t := fun κ =>
  κ.t 20 aV [.ptr 2000000000 0, dBq false, .agg [dBq false, dIq 0, dSq [], dSq [], dIq 0, dBq false, dIq 0, dIq 0, dSq [], dIq 0, .d (.sl aE.ks (List.map aE.enc []))]] [⟨83, (client_Client.avs b0)⟩] [] fun r5 =>
  cond (r5.2.1 != 0) (
  (rB false)) (
  cond ((lM aA.enc r5.1 : Int) != 1) (
  (rB false)) (
  cond (decide (0 ≤ 0) && decide (0 < (lM aA.enc r5.1 : Int))) (
  cond ((aL (cE aA.enc r5.1 0 0)) != 1) (
   (rB false)) (
  cond (decide (0 ≤ 0) && decide (0 < (lM aA.enc r5.1 : Int))) (
   cond (!((aU (cE aA.enc r5.1 0 12)) == ([97] : Str))) (
   (rB false)) (
   cond (decide (0 ≤ 0) && decide (0 < (lM aA.enc r5.1 : Int))) (
   cond ((aL (cE aA.enc r5.1 0 17)) != 1) (
    (rB false)) (
   aus lab κ (client_Client.enc r5.2.2))) none)) none)) none))) (fun _ => by kernel_rfl) ?_
 unfold uH
 refine lQ eX cI (by (try simp only [EN]); exact oD b0 false (zWq)) fun r5 _ => ?_
 refine lC ?_ ?_
 ·exact aI rfl
 ·refine lDe ?_ ?_
  ·exact aI rfl
  ·refine lGe ?_
   refine lDe ?_ ?_
   ·exact aI rfl
   ·refine lGe ?_
    refine lDe ?_ ?_
    ·exact aI rfl
    ·refine lGe ?_
     refine lDe ?_ ?_
     ·exact aI rfl
     ·exact adM r5.2.2
theorem j0 : Le (Option.map aD (cY)) (aW SE 9 [] [] []) := by
 refine aZ (t := fun κ =>
  κ.p 7 lS [dSq ([97] : Str), dIq 1] [] [] (fun e1 =>
  cond (e1 != 0) (
   (rB false)) (
  (rB false))) fun e2 =>
  cond (e2.1 != 0) (
  (rB false)) (
  κ.t 10 dV [.ptr 2000000000 0] [⟨83, (client_Client.avs e2.2)⟩] [] fun r3 =>
  cond r3.1 (
  (rB false)) (
  κ.t 11 cU [.ptr 2000000000 0] [⟨83, (client_Client.avs r3.2)⟩] [] fun r4 =>
  cond (r4.1 != 0) (
  (rB false)) (
  auI lab κ (client_Client.enc r4.2))))) (fun _ => by kernel_rfl) ?_
 unfold cY
 repeat' first | (with_reducible first | refine lC ?_ ?_ | refine lQp eX w3 ?_ (fun _ _ => ?_) (fun _ _ => ?_) | refine lQ eX kD ?_ fun _ _ => ?_ | refine lQ eX gS ?_ fun _ _ => ?_ | exact yJ _ _ | exact kW _ | exact hI _ | exact ad0 _ | refine aI ?_) | rfl | (simp only [EN, aD] <;> rfl)
noncomputable def ap2 (L : bP) (κ : Tau) (a0 : Int) (a1 : List D) : Res := L SE (K κ) κ.Λ κ.J 17 0 [1, 1, 0, 1, 0] (bE [(1, .ptr 1000000000 0), (3, dIq a0)] [⟨54, (List.map AV.d a1)⟩] [] [] [])
noncomputable def asY (L : bP) (κ : Tau) (a0 : List D) : Res := L SE (K κ) κ.Λ κ.J 17 0 [1, 1, 0, 0] (bE [(1, .ptr 1000000000 0)] [⟨54, (List.map AV.d a0)⟩] [] [] [])
theorem adJ : ∀ (fu : Nat) (x3 : Int) (b0 : aB), Le (Option.map aD (gN fu x3 b0)) (ap2 lab (kF 17) x3 (aB.enc b0)) := by
 intro fu
 induction fu with
 | zero => intros; exact le_none
 | succ fu ih =>
  intro x3 b0
  refine bF (t := fun κ =>
  cond (decide (x3 < (lM aE.enc b0.Props : Int))) (
  cond (iB x3 (lM aE.enc b0.Props : Int)) (
   cond (decide ((List.length (aU (cE aE.enc b0.Props x3 0)) : Int) > 5000)) (
   (rB false)) (
   cond (iB x3 (lM aE.enc b0.Props : Int)) (
   cond (decide ((List.length (aU (cE aE.enc b0.Props x3 1)) : Int) > 5000)) (
    (rB false)) (
   ap2 lab κ (w6 (x3 + 1)) (aB.enc b0))) none)) none) (
  (rB true))) (fun _ => by kernel_rfl) ?_
  unfold gN
  repeat' first | (with_reducible first | refine lG ?_ ?_ | refine lD ?_ ?_ ?_ | exact ih _ _ | refine aI ?_) | rfl | (simp only [EN]; done) | (simp only [EN, aD] <;> rfl)
theorem adV (b0 : aB) : Le (Option.map aD (p7 b0)) (asY lab (kF 17) (aB.enc b0)) := by
 refine bF (t := fun κ =>
  ap2 lab κ 0 (aB.enc b0)) (fun _ => by kernel_rfl) ?_
 unfold p7
 exact adJ fuel 0 b0
theorem qD (p0 : aB) : Le (Option.map aD (g4 p0)) (aW SE 17 [aB.av p0] [] []) := by
 refine aZ (t := fun κ =>
  cond (decide ((List.length p0.Topic : Int) > 5000)) (
  (rB false)) (
  cond (decide ((List.length p0.Payload : Int) > 5000)) (
  (rB false)) (
  cond (decide ((List.length p0.From : Int) > 5000)) (
  (rB false)) (
  cond (decide ((lM aE.enc p0.Props : Int) > 20)) (
  (rB false)) (
  asY lab κ (aB.enc p0)))))) (fun _ => by kernel_rfl) ?_
 unfold g4
 refine lC ?_ ?_
 ·exact aI rfl
 ·refine lC ?_ ?_
  ·exact aI rfl
  ·refine lC ?_ ?_
   ·exact aI rfl
   ·refine lDe ?_ ?_
    ·exact aI rfl
    ·exact adV p0
noncomputable def apn (L : bP) (κ : Tau) (a0 : List (List D)) (a1 : Int) : Res := L SE (K κ) κ.Λ κ.J 23 0 [1, 0, 1, 0] (bE [(0, .d (.sl aF.ks a0)), (3, dIq a1)] [] [] [] [])
theorem ad1 : ∀ (fu : Nat) (x0 : List aF) (x3 : Int), Le (Option.map aD (iI fu x0 x3)) (apn lab (kF 23) (List.map aF.enc x0) x3) := by
 intro fu
 induction fu with
 | zero => intros; exact le_none
 | succ fu ih =>
  intro x0 x3
  refine bF (t := fun κ =>
  cond (decide (x3 < (lM aF.enc x0 : Int))) (
  cond (iB x3 (lM aF.enc x0 : Int)) (
   cond (decide (x3 ≥ 40)) (
   (rB false)) (
   cond (iB x3 (lM aF.enc x0 : Int)) (
   κ.t 17 aD [.agg [dSq (aU (cE aF.enc x0 x3 17)), dSq (aU (cE aF.enc x0 x3 18)), dIq (aL (cE aF.enc x0 x3 19)), dBq (bA (cE aF.enc x0 x3 20)), dIq (aL (cE aF.enc x0 x3 21)), dIq (aL (cE aF.enc x0 x3 22)), dSq (aU (cE aF.enc x0 x3 23)), dIq (aL (cE aF.enc x0 x3 24)), .d (.sl aE.ks (dSl (cE aF.enc x0 x3 25)))]] [] [] fun r0 =>
   cond (!r0) (
    (rB false)) (
   cond (iB x3 (lM aF.enc x0 : Int)) (
    κ.t 17 aD [.agg [dSq (aU (cE aF.enc x0 x3 5)), dSq (aU (cE aF.enc x0 x3 6)), dIq (aL (cE aF.enc x0 x3 7)), dBq (bA (cE aF.enc x0 x3 8)), dIq (aL (cE aF.enc x0 x3 9)), dIq (aL (cE aF.enc x0 x3 10)), dSq (aU (cE aF.enc x0 x3 11)), dIq (aL (cE aF.enc x0 x3 12)), .d (.sl aE.ks (dSl (cE aF.enc x0 x3 13)))]] [] [] fun r1 =>
    cond (!r1) (
    (rB false)) (
    κ.t 17 aD [.agg [dSq (aU (cE aF.enc x0 x3 29)), dSq (aU (cE aF.enc x0 x3 30)), dIq (aL (cE aF.enc x0 x3 31)), dBq (bA (cE aF.enc x0 x3 32)), dIq (aL (cE aF.enc x0 x3 33)), dIq (aL (cE aF.enc x0 x3 34)), dSq (aU (cE aF.enc x0 x3 35)), dIq (aL (cE aF.enc x0 x3 36)), .d (.sl aE.ks (dSl (cE aF.enc x0 x3 37)))]] [] [] fun r2 =>
    cond (!r2) (
    (rB false)) (
    κ.t 17 aD [.agg [dSq (aU (cE aF.enc x0 x3 46)), dSq (aU (cE aF.enc x0 x3 47)), dIq (aL (cE aF.enc x0 x3 48)), dBq (bA (cE aF.enc x0 x3 49)), dIq (aL (cE aF.enc x0 x3 50)), dIq (aL (cE aF.enc x0 x3 51)), dSq (aU (cE aF.enc x0 x3 52)), dIq (aL (cE aF.enc x0 x3 53)), .d (.sl aE.ks (dSl (cE aF.enc x0 x3 54)))]] [] [] fun r3 =>
    cond (!r3) (
    (rB false)) (
    cond (iB x3 (lM aF.enc x0 : Int)) (
    cond (decide ((List.length (aU (cE aF.enc x0 x3 14)) : Int) > 5000)) (
     (rB false)) (
    cond (decide ((List.length (dSl (cE aF.enc x0 x3 57)) : Int) > 40)) (
     (rB false)) (
    cond (decide ((List.length (dSl (cE aF.enc x0 x3 58)) : Int) > 40)) (
     (rB false)) (
    cond (decide ((List.length (dSl (cE aF.enc x0 x3 59)) : Int) > 40)) (
     (rB false)) (
    apn lab κ (List.map aF.enc x0) (w6 (x3 + 1))))))) none)))) none)) none)) none) (
  (rB true))) (fun _ => by kernel_rfl) ?_
  unfold iI
  repeat' first | (with_reducible first | refine lC ?_ ?_ | refine lQ eX aP ?_ fun _ _ => ?_ | refine lG ?_ ?_ | refine lD ?_ ?_ ?_ | exact qD _ | exact ih _ _ | refine aI ?_) | rfl | (simp only [EN]; done) | (simp only [EN]; exact qD _) | (simp only [EN, aD] <;> rfl)
theorem ago (p0 : List aF) : Le (Option.map aD (pL p0)) (aW SE 23 [.d (.sl aF.ks (List.map aF.enc p0))] [] []) := by
 refine aZ (t := fun κ =>
  apn lab κ (List.map aF.enc p0) 0) (fun _ => by kernel_rfl) ?_
 unfold pL
 exact ad1 fuel p0 0
noncomputable def alg (L : bP) (κ : Tau) (a0 a1 a2 : List D) : Res := L SE (K κ) κ.Λ κ.J 115 0 [1, 1, 1, 1, 1, 1, 1, 1, 1, 0, 0] (bE [(1, .ptr 1000000000 0), (2, .ptr 1000000001 0), (3, .ptr 1000000002 0)] [⟨67, (List.map AV.d a0)⟩, ⟨67, (List.map AV.d a1)⟩, ⟨67, (List.map AV.d a2)⟩] [] [] [])
noncomputable def alK (L : bP) (κ : Tau) (a0 a1 a2 : List D) : Res := L SE (K κ) κ.Λ κ.J 115 0 [1, 1, 1, 1, 1, 1, 1, 1, 0, 0] (bE [(1, .ptr 1000000000 0), (2, .ptr 1000000001 0), (3, .ptr 1000000002 0)] [⟨67, (List.map AV.d a0)⟩, ⟨67, (List.map AV.d a1)⟩, ⟨67, (List.map AV.d a2)⟩] [] [] [])
noncomputable def alM (L : bP) (κ : Tau) (a0 a1 a2 : List D) : Res := L SE (K κ) κ.Λ κ.J 115 0 [1, 1, 1, 1, 1, 1, 1, 0, 0] (bE [(1, .ptr 1000000000 0), (2, .ptr 1000000001 0), (3, .ptr 1000000002 0)] [⟨67, (List.map AV.d a0)⟩, ⟨67, (List.map AV.d a1)⟩, ⟨67, (List.map AV.d a2)⟩] [] [] [])
noncomputable def aiE (L : bP) (κ : Tau) (a0 a1 a2 : List D) : Res := L SE (K κ) κ.Λ κ.J 115 0 [1, 1, 1, 1, 1, 1, 0, 0] (bE [(1, .ptr 1000000000 0), (2, .ptr 1000000001 0), (3, .ptr 1000000002 0)] [⟨67, (List.map AV.d a0)⟩, ⟨67, (List.map AV.d a1)⟩, ⟨67, (List.map AV.d a2)⟩] [] [] [])
noncomputable def aln (L : bP) (κ : Tau) (a0 a1 a2 : List D) : Res := L SE (K κ) κ.Λ κ.J 115 0 [1, 1, 1, 1, 1, 0, 0] (bE [(1, .ptr 1000000000 0), (2, .ptr 1000000001 0), (3, .ptr 1000000002 0)] [⟨67, (List.map AV.d a0)⟩, ⟨67, (List.map AV.d a1)⟩, ⟨67, (List.map AV.d a2)⟩] [] [] [])
noncomputable def ala (L : bP) (κ : Tau) (a0 a1 a2 : List D) : Res := L SE (K κ) κ.Λ κ.J 115 0 [1, 1, 1, 1, 0, 0] (bE [(1, .ptr 1000000000 0), (2, .ptr 1000000001 0), (3, .ptr 1000000002 0)] [⟨67, (List.map AV.d a0)⟩, ⟨67, (List.map AV.d a1)⟩, ⟨67, (List.map AV.d a2)⟩] [] [] [])
noncomputable def ahB (L : bP) (κ : Tau) (a0 a1 a2 : List D) : Res := L SE (K κ) κ.Λ κ.J 115 0 [1, 1, 1, 0, 0] (bE [(1, .ptr 1000000000 0), (2, .ptr 1000000001 0), (3, .ptr 1000000002 0)] [⟨67, (List.map AV.d a0)⟩, ⟨67, (List.map AV.d a1)⟩, ⟨67, (List.map AV.d a2)⟩] [] [] [])
theorem adQ (b0 b1 b2 : aA) : Le (Option.map bR (p8 b0 b1 b2)) (alg lab (kF 115) (aA.enc b0) (aA.enc b1) (aA.enc b2)) := by
 refine bF (t := fun κ =>
  cond (b0.Kind == 9) (
  (some (.ret [aA.av (aA.mk b2.Kind b2.ID b2.Dup b2.Message b2.Client b2.User b2.Clean b2.Keep b2.Expiry b2.Window b2.Will b2.Present b2.Code b2.Subs b2.Filters b0.Codes)] [] []))) (
  cond (b0.Kind == 11) (
  (some (.ret [aA.av (aA.mk b2.Kind b2.ID b2.Dup b2.Message b2.Client b2.User b2.Clean b2.Keep b2.Expiry b2.Window b2.Will b2.Present b2.Code b2.Subs b2.Filters b0.Codes)] [] []))) (
  (some (.ret [aA.av b2] [] []))))) (fun _ => by kernel_rfl) ?_
 unfold p8
 refine lC ?_ ?_
 ·exact aI rfl
 ·refine lC ?_ ?_
  ·exact aI rfl
  ·exact aI rfl
theorem adS (b0 b1 b2 : aA) : Le (Option.map bR (pW b0 b1 b2)) (alK lab (kF 115) (aA.enc b0) (aA.enc b1) (aA.enc b2)) := by
 refine bF (t := fun κ =>
  cond (b0.Kind == 10) (
  alg lab κ (aA.enc b0) (aA.enc b1) (aA.enc (aA.mk b2.Kind b2.ID b2.Dup b2.Message b2.Client b2.User b2.Clean b2.Keep b2.Expiry b2.Window b2.Will b2.Present b2.Code b2.Subs b0.Filters b2.Codes))) (
  alg lab κ (aA.enc b0) (aA.enc b1) (aA.enc b2))) (fun _ => by kernel_rfl) ?_
 unfold pW
 repeat' first | (with_reducible first | refine lC ?_ ?_ | exact adQ _ _ _)
theorem adX (b0 b1 b2 : aA) : Le (Option.map bR (pS b0 b1 b2)) (alM lab (kF 115) (aA.enc b0) (aA.enc b1) (aA.enc b2)) := by
 refine bF (t := fun κ =>
  cond (b0.Kind == 8) (
  alK lab κ (aA.enc b0) (aA.enc b1) (aA.enc (aA.mk b2.Kind b2.ID b2.Dup b2.Message b2.Client b2.User b2.Clean b2.Keep b2.Expiry b2.Window b2.Will b2.Present b2.Code b0.Subs b2.Filters b2.Codes))) (
  alK lab κ (aA.enc b0) (aA.enc b1) (aA.enc b2))) (fun _ => by kernel_rfl) ?_
 unfold pS
 repeat' first | (with_reducible first | refine lC ?_ ?_ | exact adS _ _ _)
theorem adW (b0 b1 b2 : aA) : Le (Option.map bR (mD b0 b1 b2)) (aiE lab (kF 115) (aA.enc b0) (aA.enc b1) (aA.enc b2)) := by
 refine bF (t := fun κ =>
  cond (b0.Kind == 3) (
  alM lab κ (aA.enc b0) (aA.enc b1) (aA.enc (aA.mk b2.Kind b2.ID b0.Dup b0.Message b2.Client b2.User b2.Clean b2.Keep b2.Expiry b2.Window b2.Will b2.Present b2.Code b2.Subs b2.Filters b2.Codes))) (
  alM lab κ (aA.enc b0) (aA.enc b1) (aA.enc b2))) (fun _ => by kernel_rfl) ?_
 unfold mD
 repeat' first | (with_reducible first | refine lC ?_ ?_ | exact adX _ _ _)
theorem adL (b0 b1 b2 : aA) : Le (Option.map bR (pT b0 b1 b2)) (aln lab (kF 115) (aA.enc b0) (aA.enc b1) (aA.enc b2)) := by
 refine bF (t := fun κ =>
  cond (b0.Kind == 2) (
  aiE lab κ (aA.enc b0) (aA.enc b1) (aA.enc (aA.mk b2.Kind b2.ID b2.Dup b2.Message b2.Client b2.User b2.Clean b2.Keep b2.Expiry b2.Window b2.Will b2.Present b0.Code b2.Subs b2.Filters b2.Codes))) (
  cond (b0.Kind == 14) (
  aiE lab κ (aA.enc b0) (aA.enc b1) (aA.enc (aA.mk b2.Kind b2.ID b2.Dup b2.Message b2.Client b2.User b2.Clean b2.Keep b2.Expiry b2.Window b2.Will b2.Present b0.Code b2.Subs b2.Filters b2.Codes))) (
  aiE lab κ (aA.enc b0) (aA.enc b1) (aA.enc b2)))) (fun _ => by kernel_rfl) ?_
 unfold pT
 repeat' first | (with_reducible first | refine lC ?_ ?_ | exact adW _ _ _)
theorem adO (b0 b1 b2 : aA) : Le (Option.map bR (qA b0 b1 b2)) (ala lab (kF 115) (aA.enc b0) (aA.enc b1) (aA.enc b2)) := by
 refine bF (t := fun κ =>
  cond (b0.Kind == 2) (
  aln lab κ (aA.enc b0) (aA.enc b1) (aA.enc (aA.mk b2.Kind b2.ID b2.Dup b2.Message b2.Client b2.User b2.Clean b2.Keep b2.Expiry b2.Window b2.Will b0.Present b2.Code b2.Subs b2.Filters b2.Codes))) (
  aln lab κ (aA.enc b0) (aA.enc b1) (aA.enc b2))) (fun _ => by kernel_rfl) ?_
 unfold qA
 repeat' first | (with_reducible first | refine lC ?_ ?_ | exact adL _ _ _)
theorem xU (b0 b1 b2 : aA) : Le (Option.map bR (kM b0 b1 b2)) (ahB lab (kF 115) (aA.enc b0) (aA.enc b1) (aA.enc b2)) := by
 refine bF (t := fun κ =>
  cond (b0.Kind == 1) (
  ala lab κ (aA.enc b0) (aA.enc b1) (aA.enc (aA.mk b2.Kind b2.ID b2.Dup b2.Message b0.Client b0.User b0.Clean b0.Keep b0.Expiry b0.Window b0.Will b2.Present b2.Code b2.Subs b2.Filters b2.Codes))) (
  ala lab κ (aA.enc b0) (aA.enc b1) (aA.enc b2))) (fun _ => by kernel_rfl) ?_
 unfold kM
 repeat' first | (with_reducible first | refine lC ?_ ?_ | exact adO _ _ _)
theorem agZ (p0 : aA) : Le (Option.map bR (qY p0)) (aW SE 115 [aA.av p0] [] []) := by
 refine aZ (t := fun κ =>
  cond (p0.Kind == 3) (
  ahB lab κ (aA.enc p0) [D.int .i64 0, D.int .i64 0, D.bool false, D.str [], D.str [], D.int .i64 0, D.bool false, D.int .i64 0, D.int .i64 0, D.str [], D.int .i64 0, D.sl aE.ks (List.map aE.enc []), D.str [], D.str [], D.bool false, D.int .i64 0, D.int .i64 0, D.int .i64 0, D.bool false, D.int .i64 0, D.str [], D.str [], D.int .i64 0, D.bool false, D.int .i64 0, D.int .i64 0, D.str [], D.int .i64 0, D.sl aE.ks (List.map aE.enc []), D.bool false, D.int .i64 0, D.sl aN.ks (List.map aN.enc []), D.sl [.str] (List.map bD []), D.sl [.int .i64] (List.map eI [])] [D.int .i64 p0.Kind, D.int .i64 p0.ID, D.bool false, D.str [], D.str [], D.int .i64 0, D.bool false, D.int .i64 0, D.int .i64 0, D.str [], D.int .i64 0, D.sl aE.ks (List.map aE.enc []), D.str [], D.str [], D.bool false, D.int .i64 0, D.int .i64 0, D.int .i64 0, D.bool false, D.int .i64 0, D.str [], D.str [], D.int .i64 0, D.bool false, D.int .i64 0, D.int .i64 0, D.str [], D.int .i64 0, D.sl aE.ks (List.map aE.enc []), D.bool false, D.int .i64 0, D.sl aN.ks (List.map aN.enc []), D.sl [.str] (List.map bD []), D.sl [.int .i64] (List.map eI [])]) (
  cond (decide (p0.Kind ≥ 4)) (
  cond (decide (p0.Kind ≤ 11)) (
   ahB lab κ (aA.enc p0) [D.int .i64 0, D.int .i64 0, D.bool false, D.str [], D.str [], D.int .i64 0, D.bool false, D.int .i64 0, D.int .i64 0, D.str [], D.int .i64 0, D.sl aE.ks (List.map aE.enc []), D.str [], D.str [], D.bool false, D.int .i64 0, D.int .i64 0, D.int .i64 0, D.bool false, D.int .i64 0, D.str [], D.str [], D.int .i64 0, D.bool false, D.int .i64 0, D.int .i64 0, D.str [], D.int .i64 0, D.sl aE.ks (List.map aE.enc []), D.bool false, D.int .i64 0, D.sl aN.ks (List.map aN.enc []), D.sl [.str] (List.map bD []), D.sl [.int .i64] (List.map eI [])] [D.int .i64 p0.Kind, D.int .i64 p0.ID, D.bool false, D.str [], D.str [], D.int .i64 0, D.bool false, D.int .i64 0, D.int .i64 0, D.str [], D.int .i64 0, D.sl aE.ks (List.map aE.enc []), D.str [], D.str [], D.bool false, D.int .i64 0, D.int .i64 0, D.int .i64 0, D.bool false, D.int .i64 0, D.str [], D.str [], D.int .i64 0, D.bool false, D.int .i64 0, D.int .i64 0, D.str [], D.int .i64 0, D.sl aE.ks (List.map aE.enc []), D.bool false, D.int .i64 0, D.sl aN.ks (List.map aN.enc []), D.sl [.str] (List.map bD []), D.sl [.int .i64] (List.map eI [])]) (
  ahB lab κ (aA.enc p0) [D.int .i64 0, D.int .i64 0, D.bool false, D.str [], D.str [], D.int .i64 0, D.bool false, D.int .i64 0, D.int .i64 0, D.str [], D.int .i64 0, D.sl aE.ks (List.map aE.enc []), D.str [], D.str [], D.bool false, D.int .i64 0, D.int .i64 0, D.int .i64 0, D.bool false, D.int .i64 0, D.str [], D.str [], D.int .i64 0, D.bool false, D.int .i64 0, D.int .i64 0, D.str [], D.int .i64 0, D.sl aE.ks (List.map aE.enc []), D.bool false, D.int .i64 0, D.sl aN.ks (List.map aN.enc []), D.sl [.str] (List.map bD []), D.sl [.int .i64] (List.map eI [])] [D.int .i64 p0.Kind, D.int .i64 0, D.bool false, D.str [], D.str [], D.int .i64 0, D.bool false, D.int .i64 0, D.int .i64 0, D.str [], D.int .i64 0, D.sl aE.ks (List.map aE.enc []), D.str [], D.str [], D.bool false, D.int .i64 0, D.int .i64 0, D.int .i64 0, D.bool false, D.int .i64 0, D.str [], D.str [], D.int .i64 0, D.bool false, D.int .i64 0, D.int .i64 0, D.str [], D.int .i64 0, D.sl aE.ks (List.map aE.enc []), D.bool false, D.int .i64 0, D.sl aN.ks (List.map aN.enc []), D.sl [.str] (List.map bD []), D.sl [.int .i64] (List.map eI [])])) (
  ahB lab κ (aA.enc p0) [D.int .i64 0, D.int .i64 0, D.bool false, D.str [], D.str [], D.int .i64 0, D.bool false, D.int .i64 0, D.int .i64 0, D.str [], D.int .i64 0, D.sl aE.ks (List.map aE.enc []), D.str [], D.str [], D.bool false, D.int .i64 0, D.int .i64 0, D.int .i64 0, D.bool false, D.int .i64 0, D.str [], D.str [], D.int .i64 0, D.bool false, D.int .i64 0, D.int .i64 0, D.str [], D.int .i64 0, D.sl aE.ks (List.map aE.enc []), D.bool false, D.int .i64 0, D.sl aN.ks (List.map aN.enc []), D.sl [.str] (List.map bD []), D.sl [.int .i64] (List.map eI [])] [D.int .i64 p0.Kind, D.int .i64 0, D.bool false, D.str [], D.str [], D.int .i64 0, D.bool false, D.int .i64 0, D.int .i64 0, D.str [], D.int .i64 0, D.sl aE.ks (List.map aE.enc []), D.str [], D.str [], D.bool false, D.int .i64 0, D.int .i64 0, D.int .i64 0, D.bool false, D.int .i64 0, D.str [], D.str [], D.int .i64 0, D.bool false, D.int .i64 0, D.int .i64 0, D.str [], D.int .i64 0, D.sl aE.ks (List.map aE.enc []), D.bool false, D.int .i64 0, D.sl aN.ks (List.map aN.enc []), D.sl [.str] (List.map bD []), D.sl [.int .i64] (List.map eI [])]))) (fun _ => by kernel_rfl) ?_
 unfold qY
 repeat' first | (with_reducible first | refine lC ?_ ?_ | exact xU _ _ _) | (simp only [EN]; exact xU _ _ _)
noncomputable def aqw (L : bP) (κ : Tau) (a0 a1 : List (List D)) (a2 : Int) : Res := L SE (K κ) κ.Λ κ.J 41 0 [1, 1, 0, 1, 0] (bE [(0, .d (.sl aE.ks a0)), (1, .d (.sl aE.ks a1)), (5, dIq a2)] [] [] [] [])
theorem abH : ∀ (fu : Nat) (x0 x1 : List aE) (x5 : Int), Le (Option.map aD (fL fu x0 x1 x5)) (aqw lab (kF 41) (List.map aE.enc x0) (List.map aE.enc x1) x5) := by
 intro fu
 induction fu with
 | zero => intros; exact le_none
 | succ fu ih =>
  intro x0 x1 x5
  refine bF (t := fun κ =>
  cond (decide (x5 < (lM aE.enc x0 : Int))) (
  cond (iB x5 (lM aE.enc x0 : Int)) (
   cond (iB x5 (lM aE.enc x1 : Int)) (
   cond (!(((aU (cE aE.enc x0 x5 0)) == (aU (cE aE.enc x1 x5 0))) && (((aU (cE aE.enc x0 x5 1)) == (aU (cE aE.enc x1 x5 1))) && true))) (
    (rB false)) (
   aqw lab κ (List.map aE.enc x0) (List.map aE.enc x1) (w6 (x5 + 1)))) none) none) (
  (rB true))) (fun _ => by kernel_rfl) ?_
  unfold fL
  refine lDe ?_ ?_
  ·refine lGe ?_
   refine lGe ?_
   refine lDe ?_ ?_
   ·exact aI rfl
   ·exact ih x0 x1 (w6 (x5 + 1))
  ·exact aI rfl
theorem ado (p0 p1 : List aE) : Le (Option.map aD (lR p0 p1)) (aW SE 41 [.d (.sl aE.ks (List.map aE.enc p0)), .d (.sl aE.ks (List.map aE.enc p1))] [] []) := by
 refine aZ (t := fun κ =>
  cond ((lM aE.enc p0 : Int) != (lM aE.enc p1 : Int)) (
  (rB false)) (
  aqw lab κ (List.map aE.enc p0) (List.map aE.enc p1) 0)) (fun _ => by kernel_rfl) ?_
 unfold lR
 refine lDe ?_ ?_
 ·exact aI rfl
 ·exact abH fuel p0 p1 0
theorem iS (p0 p1 : aB) : Le (Option.map aD (iG p0 p1)) (aW SE 22 [aB.av p0, aB.av p1] [] []) := by
 refine aZ (t := fun κ =>
  cond (p0.Topic == p1.Topic) (
  cond (p0.Payload == p1.Payload) (
   cond (p0.Level == p1.Level) (
   cond (p0.Retain == p1.Retain) (
    cond (p0.Priority == p1.Priority) (
    cond (p0.Expires == p1.Expires) (
     cond (p0.From == p1.From) (
     cond (p0.Seq == p1.Seq) (
      κ.t 41 aD [.d (.sl aE.ks (List.map aE.enc p0.Props)), .d (.sl aE.ks (List.map aE.enc p1.Props))] [] [] fun r0 =>
      (rB r0)) (
     (rB false))) (
     (rB false))) (
    (rB false))) (
    (rB false))) (
   (rB false))) (
   (rB false))) (
  (rB false))) (
  (rB false))) (fun _ => by kernel_rfl) ?_
 unfold iG
 repeat' first | (with_reducible first | refine lC ?_ ?_ | refine lQ eX aP ?_ fun _ _ => ?_ | exact ado _ _ | refine aI ?_) | rfl | (simp only [EN, aD] <;> rfl)
theorem adP (p0 p1 : aT) : Le (Option.map aD (mT p0 p1)) (aW SE 134 [aT.av p0, aT.av p1] [] []) := by
 refine aZ (t := fun κ =>
  cond (p0.Set == p1.Set) (
  cond (p0.Delay == p1.Delay) (
   κ.t 22 aD [aB.av p0.Message, aB.av p1.Message] [] [] fun r0 =>
   (rB r0)) (
  (rB false))) (
  (rB false))) (fun _ => by kernel_rfl) ?_
 unfold mT
 refine lC ?_ ?_
 ·refine lC ?_ ?_
  ·refine lQ eX aP (iS _ _) fun r0 _ => ?_
   exact aI rfl
  ·exact aI rfl
 ·exact aI rfl
noncomputable def aol (L : bP) (κ : Tau) (a0 a1 : List (List D)) (a2 : Int) : Res := L SE (K κ) κ.Λ κ.J 135 0 [1, 1, 0, 1, 0] (bE [(0, .d (.sl aN.ks a0)), (1, .d (.sl aN.ks a1)), (5, dIq a2)] [] [] [] [])
theorem abY : ∀ (fu : Nat) (x0 x1 : List aN) (x5 : Int), Le (Option.map aD (gI fu x0 x1 x5)) (aol lab (kF 135) (List.map aN.enc x0) (List.map aN.enc x1) x5) := by
 intro fu
 induction fu with
 | zero => intros; exact le_none
 | succ fu ih =>
  intro x0 x1 x5
  refine bF (t := fun κ =>
  cond (decide (x5 < (lM aN.enc x0 : Int))) (
  cond (iB x5 (lM aN.enc x0 : Int)) (
   cond (iB x5 (lM aN.enc x1 : Int)) (
   cond (!(((aU (cE aN.enc x0 x5 0)) == (aU (cE aN.enc x1 x5 0))) && (((aL (cE aN.enc x0 x5 1)) == (aL (cE aN.enc x1 x5 1))) && (((bA (cE aN.enc x0 x5 2)) == (bA (cE aN.enc x1 x5 2))) && true)))) (
    (rB false)) (
   aol lab κ (List.map aN.enc x0) (List.map aN.enc x1) (w6 (x5 + 1)))) none) none) (
  (rB true))) (fun _ => by kernel_rfl) ?_
  unfold gI
  refine lDe ?_ ?_
  ·refine lGe ?_
   refine lGe ?_
   refine lDe ?_ ?_
   ·exact aI rfl
   ·exact ih x0 x1 (w6 (x5 + 1))
  ·exact aI rfl
theorem adT (p0 p1 : List aN) : Le (Option.map aD (mH p0 p1)) (aW SE 135 [.d (.sl aN.ks (List.map aN.enc p0)), .d (.sl aN.ks (List.map aN.enc p1))] [] []) := by
 refine aZ (t := fun κ =>
  cond ((lM aN.enc p0 : Int) != (lM aN.enc p1 : Int)) (
  (rB false)) (
  aol lab κ (List.map aN.enc p0) (List.map aN.enc p1) 0)) (fun _ => by kernel_rfl) ?_
 unfold mH
 refine lDe ?_ ?_
 ·exact aI rfl
 ·exact abY fuel p0 p1 0
noncomputable def anT (L : bP) (κ : Tau) (a0 a1 : List (List D)) (a2 : Int) : Res := L SE (K κ) κ.Λ κ.J 136 0 [1, 1, 0, 1, 0] (bE [(0, .d (.sl [.str] a0)), (1, .d (.sl [.str] a1)), (5, dIq a2)] [] [] [] [])
theorem aeG : ∀ (fu : Nat) (x0 x1 : List Str) (x5 : Int), Le (Option.map aD (iY fu x0 x1 x5)) (anT lab (kF 136) (List.map bD x0) (List.map bD x1) x5) := by
 intro fu
 induction fu with
 | zero => intros; exact le_none
 | succ fu ih =>
  intro x0 x1 x5
  refine bF (t := fun κ =>
  cond (decide (x5 < (lM bD x0 : Int))) (
  cond (iB x5 (lM bD x0 : Int)) (
   cond (iB x5 (lM bD x1 : Int)) (
   cond (!((aU (cE bD x0 x5 0)) == (aU (cE bD x1 x5 0)))) (
    (rB false)) (
   anT lab κ (List.map bD x0) (List.map bD x1) (w6 (x5 + 1)))) none) none) (
  (rB true))) (fun _ => by kernel_rfl) ?_
  unfold iY
  repeat' first | (with_reducible first | refine lG ?_ ?_ | refine lD ?_ ?_ ?_ | exact ih _ _ _ | refine aI ?_) | rfl | (simp only [EN]; done) | (simp only [EN, aD] <;> rfl)
theorem agP (p0 p1 : List Str) : Le (Option.map aD (qJ p0 p1)) (aW SE 136 [.d (.sl [.str] (List.map bD p0)), .d (.sl [.str] (List.map bD p1))] [] []) := by
 refine aZ (t := fun κ =>
  cond ((lM bD p0 : Int) != (lM bD p1 : Int)) (
  (rB false)) (
  anT lab κ (List.map bD p0) (List.map bD p1) 0)) (fun _ => by kernel_rfl) ?_
 unfold qJ
 refine lDe ?_ ?_
 ·exact aI rfl
 ·exact aeG fuel p0 p1 0
noncomputable def aoj (L : bP) (κ : Tau) (a0 a1 : List (List D)) (a2 : Int) : Res := L SE (K κ) κ.Λ κ.J 137 0 [1, 1, 0, 1, 0] (bE [(0, .d (.sl [.int .i64] a0)), (1, .d (.sl [.int .i64] a1)), (5, dIq a2)] [] [] [] [])
theorem aaK : ∀ (fu : Nat) (x0 x1 : List Int) (x5 : Int), Le (Option.map aD (eW fu x0 x1 x5)) (aoj lab (kF 137) (List.map eI x0) (List.map eI x1) x5) := by
 intro fu
 induction fu with
 | zero => intros; exact le_none
 | succ fu ih =>
  intro x0 x1 x5
  refine bF (t := fun κ =>
  cond (decide (x5 < (lM eI x0 : Int))) (
  cond (iB x5 (lM eI x0 : Int)) (
   cond (iB x5 (lM eI x1 : Int)) (
   cond ((aL (cE eI x0 x5 0)) != (aL (cE eI x1 x5 0))) (
    (rB false)) (
   aoj lab κ (List.map eI x0) (List.map eI x1) (w6 (x5 + 1)))) none) none) (
  (rB true))) (fun _ => by kernel_rfl) ?_
  unfold eW
  refine lDe ?_ ?_
  ·refine lGe ?_
   refine lGe ?_
   refine lDe ?_ ?_
   ·exact aI rfl
   ·exact ih x0 x1 (w6 (x5 + 1))
  ·exact aI rfl
theorem ab3 (p0 p1 : List Int) : Le (Option.map aD (j4 p0 p1)) (aW SE 137 [.d (.sl [.int .i64] (List.map eI p0)), .d (.sl [.int .i64] (List.map eI p1))] [] []) := by
 refine aZ (t := fun κ =>
  cond ((lM eI p0 : Int) != (lM eI p1 : Int)) (
  (rB false)) (
  aoj lab κ (List.map eI p0) (List.map eI p1) 0)) (fun _ => by kernel_rfl) ?_
 unfold j4
 refine lDe ?_ ?_
 ·exact aI rfl
 ·exact aaK fuel p0 p1 0
noncomputable def atl (L : bP) (κ : Tau) (a0 a1 : List D) : Res := L SE (K κ) κ.Λ κ.J 94 0 [1, 1, 1, 0] (bE [(2, .ptr 1000000000 0), (3, .ptr 1000000001 0)] [⟨67, (List.map AV.d a0)⟩, ⟨67, (List.map AV.d a1)⟩] [] [] [])
noncomputable def atf (L : bP) (κ : Tau) (a0 a1 : List D) : Res := L SE (K κ) κ.Λ κ.J 94 0 [1, 1, 0, 0] (bE [(2, .ptr 1000000000 0), (3, .ptr 1000000001 0)] [⟨67, (List.map AV.d a0)⟩, ⟨67, (List.map AV.d a1)⟩] [] [] [])
theorem ae3 (b0 b1 : aA) : Le (Option.map aD (nQ b0 b1)) (atl lab (kF 94) (aA.enc b0) (aA.enc b1)) := by
 refine bF (t := fun κ =>
  cond (b0.Present == b1.Present) (
  cond (b0.Code == b1.Code) (
   κ.t 135 aD [.d (.sl aN.ks (List.map aN.enc b0.Subs)), .d (.sl aN.ks (List.map aN.enc b1.Subs))] [] [] fun r2 =>
   cond r2 (
   κ.t 136 aD [.d (.sl [.str] (List.map bD b0.Filters)), .d (.sl [.str] (List.map bD b1.Filters))] [] [] fun r3 =>
   cond r3 (
    κ.t 137 aD [.d (.sl [.int .i64] (List.map eI b0.Codes)), .d (.sl [.int .i64] (List.map eI b1.Codes))] [] [] fun r4 =>
    (rB r4)) (
   (rB false))) (
   (rB false))) (
  (rB false))) (
  (rB false))) (fun _ => by kernel_rfl) ?_
 unfold nQ
 repeat' first | (with_reducible first | refine lC ?_ ?_ | refine lQ eX aP ?_ fun _ _ => ?_ | refine lQ eX aP ?_ fun _ _ => ?_ | refine lQ eX aP ?_ fun _ _ => ?_ | exact adT _ _ | exact agP _ _ | exact ab3 _ _ | refine aI ?_) | rfl | (simp only [EN, aD] <;> rfl)
theorem aeI (b0 b1 : aA) : Le (Option.map aD (nG b0 b1)) (atf lab (kF 94) (aA.enc b0) (aA.enc b1)) := by
 refine bF (t := fun κ =>
  cond (b0.Clean != b1.Clean) (
  (rB false)) (
  cond (b0.Keep != b1.Keep) (
  (rB false)) (
  cond (b0.Expiry != b1.Expiry) (
  (rB false)) (
  cond (b0.Window != b1.Window) (
  (rB false)) (
  κ.t 134 aD [aT.av b0.Will, aT.av b1.Will] [] [] fun r1 =>
  cond (!r1) (
  (rB false)) (
  atl lab κ (aA.enc b0) (aA.enc b1))))))) (fun _ => by kernel_rfl) ?_
 unfold nG
 repeat' first | (with_reducible first | refine lC ?_ ?_ | refine lQ eX aP ?_ fun _ _ => ?_ | exact adP _ _ | exact ae3 _ _ | refine aI ?_) | rfl | (simp only [EN, aD] <;> rfl)
theorem vT (p0 p1 : aA) : Le (Option.map aD (jU p0 p1)) (aW SE 94 [aA.av p0, aA.av p1] [] []) := by
 refine aZ (t := fun κ =>
  cond (p0.Kind != p1.Kind) (
  (rB false)) (
  cond (p0.ID != p1.ID) (
  (rB false)) (
  cond (p0.Dup != p1.Dup) (
  (rB false)) (
  κ.t 22 aD [aB.av p0.Message, aB.av p1.Message] [] [] fun r0 =>
  cond (!r0) (
  (rB false)) (
  cond (!(p0.Client == p1.Client)) (
  (rB false)) (
  cond (!(p0.User == p1.User)) (
  (rB false)) (
  atf lab κ (aA.enc p0) (aA.enc p1)))))))) (fun _ => by kernel_rfl) ?_
 unfold jU
 repeat' first | (with_reducible first | refine lC ?_ ?_ | refine lQ eX aP ?_ fun _ _ => ?_ | exact iS _ _ | exact aeI _ _ | refine aI ?_) | rfl | (simp only [EN, aD] <;> rfl)
noncomputable def apA (L : bP) (κ : Tau) (a0 : Str) (a1 a2 : Int) : Res := L SE (K κ) κ.Λ κ.J 66 0 [1, 0, 1, 0] (bE [(0, dSq a0), (1, .d (.int .u8 a1)), (5, dIq a2)] [] [] [] [])
theorem afr : ∀ (fu : Nat) (x0 : Str) (x1 x5 : Int), Le (Option.map aD (jW fu x0 x1 x5)) (apA lab (kF 66) x0 x1 x5) := by
 intro fu
 induction fu with
 | zero => intros; exact le_none
 | succ fu ih =>
  intro x0 x1 x5
  refine bF (t := fun κ =>
  cond (decide (x5 < (List.length x0 : Int))) (
  cond (iB x5 (List.length x0 : Int)) (
   cond ((UInt8.toNat (List.getD x0 (Int.toNat x5) 0) : Int) == x1) (
   (rB true)) (
   apA lab κ x0 x1 (w6 (x5 + 1)))) none) (
  (rB false))) (fun _ => by kernel_rfl) ?_
  unfold jW
  refine lC ?_ ?_
  ·refine lF ?_
   refine lC ?_ ?_
   ·exact aI rfl
   ·exact ih x0 x1 (w6 (x5 + 1))
  ·exact aI rfl
theorem jT (p0 : Str) (p1 : Int) : Le (Option.map aD (jH p0 p1)) (aW SE 66 [dSq p0, .d (.int .u8 p1)] [] []) := by
 refine aZ (t := fun κ =>
  apA lab κ p0 p1 0) (fun _ => by kernel_rfl) ?_
 unfold jH
 exact afr fuel p0 p1 0
noncomputable def akk (L : bP) (κ : Tau) (a0 : Str) (a1 a2 : Int) (a3 : List (List D)) : Res := L SE (K κ) κ.Λ κ.J 105 0 [1, 1, 1, 0, 1, 0] (bE [(0, dSq a0), (3, .row 3003), (4, dIq a1), (5, dIq a2)] [] [] [] [(3003, ⟨[.str], 9, 16, a3⟩)])
theorem ac7 : ∀ (fu : Nat) (x0 : Str) (x4 x5 : Int) (w3003 : List Str), Le (Option.map fG (gB fu x0 x4 x5 w3003)) (akk lab (kF 105) x0 x4 x5 (List.map bD w3003)) := by
 intro fu
 induction fu with
 | zero => intros; exact le_none
 | succ fu ih =>
  intro x0 x4 x5 w3003
  refine bF (t := fun κ =>
  cond (decide (x5 < (List.length x0 : Int))) (
  cond (iB x5 (List.length x0 : Int)) (
   cond ((UInt8.toNat (List.getD x0 (Int.toNat x5) 0) : Int) == 47) (
   cond (decide (0 ≤ x5) && decide (x5 ≤ ((List.length x0) : Int))) (
    cond (decide (0 ≤ x4) && decide (x4 ≤ x5)) (
    cond (decide ((lM bD w3003 + lM bD [(bQ x0 (some x4) (some x5))]) * 16 ≤ 140737488355328)) (
     akk lab κ x0 (w6 (x5 + 1)) (w6 (x5 + 1)) (((List.map bD w3003) ++ (List.map bD [(bQ x0 (some x4) (some x5))])))) none) none) none) (
   akk lab κ x0 x4 (w6 (x5 + 1)) (List.map bD w3003))) none) (
  cond (decide (0 ≤ x4) && decide (x4 ≤ ((List.length x0) : Int))) (
  cond (decide ((lM bD w3003 + lM bD [(bQ x0 (some x4) none)]) * 16 ≤ 140737488355328)) (
   (some (.ret [.row 0] [] [⟨[.str], 9, 16, ((List.map bD w3003) ++ (List.map bD [(bQ x0 (some x4) none)]))⟩]))) none) none)) (fun _ => by kernel_rfl) ?_
  unfold gB
  repeat' first | (with_reducible first | refine lF ?_ | refine lC ?_ ?_ | refine lG ?_ ?_ | exact ih _ _ _ _ | refine aI ?_) | rfl | (simp only [EN]; done) | (simp only [EN]; exact ih _ _ _ _) | (simp only [EN, fG] <;> rfl)
theorem zE (p0 : Str) : Le (Option.map fG (oG p0)) (aW SE 105 [dSq p0] [] []) := by
 refine aZ (t := fun κ =>
  akk lab κ p0 0 0 (List.map bD [])) (fun _ => by kernel_rfl) ?_
 unfold oG
 (try simp only [EN]); exact ac7 fuel p0 0 0 []
theorem aav (p0 : Str) : Le (Option.map aD (mY p0)) (aW SE 65 [dSq p0] [] []) := by
 refine aZ (t := fun κ =>
  cond (decide ((List.length p0 : Int) ≥ 1)) (
  cond (decide ((List.length p0 : Int) ≤ 64)) (
   κ.t 66 aD [dSq p0, .d (.int .u8 0)] [] [] fun r0 =>
   cond (!r0) (
   κ.t 105 fG [dSq p0] [] [] fun r1 =>
   (rB (decide ((lM bD r1 : Int) ≤ 8)))) (
   (rB false))) (
  (rB false))) (
  (rB false))) (fun _ => by kernel_rfl) ?_
 unfold mY
 repeat' first | (with_reducible first | refine lC ?_ ?_ | refine lQ eX aP ?_ fun _ _ => ?_ | refine lQ eX yC ?_ fun _ _ => ?_ | exact jT _ _ | exact zE _ | refine aI ?_) | rfl | (simp only [EN, aD] <;> rfl)
theorem agq (p0 : Str) : Le (Option.map aD (pN p0)) (aW SE 36 [dSq p0] [] []) := by
 refine aZ (t := fun κ =>
  κ.t 65 aD [dSq p0] [] [] fun r0 =>
  cond r0 (
  κ.t 66 aD [dSq p0, .d (.int .u8 43)] [] [] fun r1 =>
  cond (!r1) (
   κ.t 66 aD [dSq p0, .d (.int .u8 35)] [] [] fun r2 =>
   (rB (!r2))) (
  (rB false))) (
  (rB false))) (fun _ => by kernel_rfl) ?_
 unfold pN
 refine lQ eX aP (aav _) fun r0 _ => ?_
 refine lC ?_ ?_
 ·refine lQ eX aP (jT _ _) fun r1 _ => ?_
  refine lC ?_ ?_
  ·refine lQ eX aP (jT _ _) fun r2 _ => ?_
   exact aI rfl
  ·exact aI rfl
 ·exact aI rfl
noncomputable def ach (L : bP) (κ : Tau) (a0 : Str) (a1 : Int) : Res := L SE (K κ) κ.Λ κ.J 67 0 [1, 1, 0, 1, 0] (bE [(0, dSq a0), (3, dIq a1)] [] [] [] [])
noncomputable def as0 (L : bP) (κ : Tau) (a0 : Str) : Res := L SE (K κ) κ.Λ κ.J 67 0 [1, 1, 0, 0] (bE [(0, dSq a0)] [] [] [] [])
theorem afh : ∀ (fu : Nat) (x0 : Str) (x3 : Int), Le (Option.map aD (dN fu x0 x3)) (ach lab (kF 67) x0 x3) := by
 intro fu
 induction fu with
 | zero => intros; exact le_none
 | succ fu ih =>
  intro x0 x3
  refine bF (t := fun κ =>
  cond (decide (x3 < (List.length x0 : Int))) (
  cond (iB x3 (List.length x0 : Int)) (
   cond (decide ((UInt8.toNat (List.getD x0 (Int.toNat x3) 0) : Int) ≥ 97)) (
   cond (!(decide ((UInt8.toNat (List.getD x0 (Int.toNat x3) 0) : Int) ≤ 122))) (
    cond (decide ((UInt8.toNat (List.getD x0 (Int.toNat x3) 0) : Int) ≥ 48)) (
    cond (!(decide ((UInt8.toNat (List.getD x0 (Int.toNat x3) 0) : Int) ≤ 57))) (
     cond ((UInt8.toNat (List.getD x0 (Int.toNat x3) 0) : Int) != 45) (
     (rB false)) (
     ach lab κ x0 (w6 (x3 + 1)))) (
    ach lab κ x0 (w6 (x3 + 1)))) (
    cond ((UInt8.toNat (List.getD x0 (Int.toNat x3) 0) : Int) != 45) (
    (rB false)) (
    ach lab κ x0 (w6 (x3 + 1))))) (
   ach lab κ x0 (w6 (x3 + 1)))) (
   cond (decide ((UInt8.toNat (List.getD x0 (Int.toNat x3) 0) : Int) ≥ 48)) (
   cond (!(decide ((UInt8.toNat (List.getD x0 (Int.toNat x3) 0) : Int) ≤ 57))) (
    cond ((UInt8.toNat (List.getD x0 (Int.toNat x3) 0) : Int) != 45) (
    (rB false)) (
    ach lab κ x0 (w6 (x3 + 1)))) (
   ach lab κ x0 (w6 (x3 + 1)))) (
   cond ((UInt8.toNat (List.getD x0 (Int.toNat x3) 0) : Int) != 45) (
   (rB false)) (
   ach lab κ x0 (w6 (x3 + 1)))))) none) (
  (rB true))) (fun _ => by kernel_rfl) ?_
  unfold dN
  repeat' first | (with_reducible first | refine lF ?_ | refine lC ?_ ?_ | exact ih _ _ | refine aI ?_) | rfl | (simp only [EN, aD] <;> rfl)
theorem afu (x0 : Str) : Le (Option.map aD (sK x0)) (as0 lab (kF 67) x0) := by
 refine bF (t := fun κ =>
  ach lab κ x0 0) (fun _ => by kernel_rfl) ?_
 unfold sK
 exact afh fuel x0 0
theorem abS (p0 : Str) : Le (Option.map aD (rU p0)) (aW SE 67 [dSq p0] [] []) := by
 refine aZ (t := fun κ =>
  cond (decide ((List.length p0 : Int) < 1)) (
  (rB false)) (
  cond (decide ((List.length p0 : Int) > 16)) (
  (rB false)) (
  as0 lab κ p0))) (fun _ => by kernel_rfl) ?_
 unfold rU
 refine lC ?_ ?_
 ·exact aI rfl
 ·refine lC ?_ ?_
  ·exact aI rfl
  ·exact afu p0
noncomputable def amP (L : bP) (κ : Tau) (a0 : List (List D)) (a1 : Int) : Res := L SE (K κ) κ.Λ κ.J 37 0 [1, 1, 0, 1, 0] (bE [(0, .d (.sl aE.ks a0)), (3, dIq a1)] [] [] [] [])
theorem ad2 : ∀ (fu : Nat) (x0 : List aE) (x3 : Int), Le (Option.map aH (gK fu x0 x3)) (amP lab (kF 37) (List.map aE.enc x0) x3) := by
 intro fu
 induction fu with
 | zero => intros; exact le_none
 | succ fu ih =>
  intro x0 x3
  refine bF (t := fun κ =>
  cond (decide (x3 < (lM aE.enc x0 : Int))) (
  cond (iB x3 (lM aE.enc x0 : Int)) (
   κ.t 67 aD [dSq (aU (cE aE.enc x0 x3 0))] [] [] fun r0 =>
   cond (!r0) (
   (rI 16)) (
   cond (iB x3 (lM aE.enc x0 : Int)) (
   cond (decide ((List.length (aU (cE aE.enc x0 x3 1)) : Int) > 160)) (
    (rI 5)) (
   cond (decide (x3 > 0)) (
    cond (iB x3 (lM aE.enc x0 : Int)) (
    cond (iB (w6 (x3 - 1)) (lM aE.enc x0 : Int)) (
     cond (Op.bytesLess (aU (cE aE.enc x0 x3 0)) (aU (cE aE.enc x0 (w6 (x3 - 1)) 0)) || (aU (cE aE.enc x0 x3 0)) == (aU (cE aE.enc x0 (w6 (x3 - 1)) 0))) (
     (rI 16)) (
     amP lab κ (List.map aE.enc x0) (w6 (x3 + 1)))) none) none) (
   amP lab κ (List.map aE.enc x0) (w6 (x3 + 1))))) none)) none) (
  (rI 0))) (fun _ => by kernel_rfl) ?_
  unfold gK
  repeat' first | (with_reducible first | refine lC ?_ ?_ | refine lQ eX aP ?_ fun _ _ => ?_ | refine lG ?_ ?_ | refine lD ?_ ?_ ?_ | exact abS _ | exact ih _ _ | refine aI ?_) | rfl | (simp only [EN]; done) | (simp only [EN]; exact abS _) | (simp only [EN, aH] <;> rfl)
theorem agv (p0 : List aE) : Le (Option.map aH (pM p0)) (aW SE 37 [.d (.sl aE.ks (List.map aE.enc p0))] [] []) := by
 refine aZ (t := fun κ =>
  cond (decide ((lM aE.enc p0 : Int) > 8)) (
  (rI 5)) (
  amP lab κ (List.map aE.enc p0) 0)) (fun _ => by kernel_rfl) ?_
 unfold pM
 refine lDe ?_ ?_
 ·exact aI rfl
 ·exact ad2 fuel p0 0
noncomputable def an9 (L : bP) (κ : Tau) (a0 : List D) : Res := L SE (K κ) κ.Λ κ.J 18 0 [1, 1, 1, 1, 1, 1, 0, 0] (bE [(1, .ptr 1000000000 0)] [⟨54, (List.map AV.d a0)⟩] [] [] [])
noncomputable def atj (L : bP) (κ : Tau) (a0 : List D) : Res := L SE (K κ) κ.Λ κ.J 18 0 [1, 1, 1, 1, 1, 0, 0] (bE [(1, .ptr 1000000000 0)] [⟨54, (List.map AV.d a0)⟩] [] [] [])
noncomputable def ato (L : bP) (κ : Tau) (a0 : List D) : Res := L SE (K κ) κ.Λ κ.J 18 0 [1, 1, 1, 1, 0, 0] (bE [(1, .ptr 1000000000 0)] [⟨54, (List.map AV.d a0)⟩] [] [] [])
theorem wH (b0 : aB) : Le (Option.map aH (lI b0)) (an9 lab (kF 18) (aB.enc b0)) := by
 refine bF (t := fun κ =>
  cond (decide (b0.Seq < 0)) (
  (rI 1)) (
  cond (decide (b0.Seq > 1099511627776)) (
  (rI 1)) (
  κ.t 37 aH [.d (.sl aE.ks (List.map aE.enc b0.Props))] [] [] fun r2 =>
  (rI r2)))) (fun _ => by kernel_rfl) ?_
 unfold lI
 refine lC ?_ ?_
 ·exact aI rfl
 ·refine lC ?_ ?_
  ·exact aI rfl
  ·refine lQ eX aX (agv _) fun r2 _ => ?_
   exact aI rfl
theorem adU (b0 : aB) : Le (Option.map aH (pR b0)) (atj lab (kF 18) (aB.enc b0)) := by
 refine bF (t := fun κ =>
  cond (!(b0.From == ([] : Str))) (
  κ.t 28 aD [dSq b0.From] [] [] fun r1 =>
  cond (!r1) (
   (rI 11)) (
  an9 lab κ (aB.enc b0))) (
  an9 lab κ (aB.enc b0))) (fun _ => by kernel_rfl) ?_
 unfold pR
 refine lC ?_ ?_
 ·refine lQ eX aP (rE _) fun r1 _ => ?_
  refine lC ?_ ?_
  ·exact aI rfl
  ·exact wH b0
 ·exact wH b0
theorem adZ (b0 : aB) : Le (Option.map aH (qB b0)) (ato lab (kF 18) (aB.enc b0)) := by
 refine bF (t := fun κ =>
  cond (decide (b0.Priority < 0)) (
  (rI 1)) (
  cond (decide (b0.Priority > 9)) (
  (rI 1)) (
  cond (decide (b0.Expires < 0)) (
  (rI 1)) (
  cond (decide (b0.Expires > 1099511627776)) (
  (rI 1)) (
  atj lab κ (aB.enc b0)))))) (fun _ => by kernel_rfl) ?_
 unfold qB
 refine lC ?_ ?_
 ·exact aI rfl
 ·refine lC ?_ ?_
  ·exact aI rfl
  ·refine lC ?_ ?_
   ·exact aI rfl
   ·refine lC ?_ ?_
    ·exact aI rfl
    ·exact adU b0
theorem j1 (p0 : aB) : Le (Option.map aH (gC p0)) (aW SE 18 [aB.av p0] [] []) := by
 refine aZ (t := fun κ =>
  κ.t 36 aD [dSq p0.Topic] [] [] fun r0 =>
  cond (!r0) (
  (rI 12)) (
  cond (decide ((List.length p0.Payload : Int) > 256)) (
  (rI 5)) (
  cond (decide (p0.Level < 0)) (
  (rI 14)) (
  cond (decide (p0.Level > 2)) (
  (rI 14)) (
  ato lab κ (aB.enc p0)))))) (fun _ => by kernel_rfl) ?_
 unfold gC
 refine lQ eX aP (agq _) fun r0 _ => ?_
 refine lC ?_ ?_
 ·exact aI rfl
 ·refine lC ?_ ?_
  ·exact aI rfl
  ·refine lC ?_ ?_
   ·exact aI rfl
   ·refine lC ?_ ?_
    ·exact aI rfl
    ·exact adZ p0
theorem agQ (p0 : aT) : Le (Option.map aH (qW p0)) (aW SE 149 [aT.av p0] [] []) := by
 refine aZ (t := fun κ =>
  cond (!p0.Set) (
  cond (p0.Delay != 0) (
   (rI 28)) (
  κ.t 22 aD [aB.av p0.Message, .agg [dSq [], dSq [], dIq 0, dBq false, dIq 0, dIq 0, dSq [], dIq 0, .d (.sl aE.ks (List.map aE.enc []))]] [] [] fun r0 =>
  cond (!r0) (
   (rI 28)) (
  (rI 0)))) (
  cond (decide (p0.Delay < 0)) (
  (rI 1)) (
  cond (decide (p0.Delay > 1099511627776)) (
  (rI 1)) (
  κ.t 18 aH [aB.av p0.Message] [] [] fun r1 =>
  (rI r1))))) (fun _ => by kernel_rfl) ?_
 unfold qW
 refine lC ?_ ?_
 ·refine lC ?_ ?_
  ·exact aI rfl
  ·refine lQ eX aP (by (try simp only [EN]); exact iS p0.Message (zMq)) fun r0 _ => ?_
   refine lC ?_ ?_
   ·exact aI rfl
   ·exact aI rfl
 ·refine lC ?_ ?_
  ·exact aI rfl
  ·refine lC ?_ ?_
   ·exact aI rfl
   ·refine lQ eX aX (j1 _) fun r1 _ => ?_
    exact aI rfl
noncomputable def aos (L : bP) (κ : Tau) (a0 : List D) : Res := L SE (K κ) κ.Λ κ.J 116 0 [1, 1, 0, 0] (bE [(1, .ptr 1000000000 0)] [⟨67, (List.map AV.d a0)⟩] [] [] [])
theorem acq (b0 : aA) : Le (Option.map aH (kO b0)) (aos lab (kF 116) (aA.enc b0)) := by
 refine bF (t := fun κ =>
  cond (decide (b0.Keep < 0)) (
  (rI 1)) (
  cond (decide (b0.Keep > 1099511627776)) (
  (rI 1)) (
  cond (decide (b0.Expiry < 0)) (
  (rI 1)) (
  cond (decide (b0.Expiry > 1099511627776)) (
  (rI 1)) (
  cond (decide (b0.Window < 1)) (
  (rI 1)) (
  cond (decide (b0.Window > 32)) (
  (rI 1)) (
  κ.t 149 aH [aT.av b0.Will] [] [] fun r2 =>
  (rI r2)))))))) (fun _ => by kernel_rfl) ?_
 unfold kO
 repeat' first | (with_reducible first | refine lC ?_ ?_ | refine lQ eX aX ?_ fun _ _ => ?_ | exact agQ _ | refine aI ?_) | rfl | (simp only [EN, aH] <;> rfl)
theorem aev (p0 : aA) : Le (Option.map aH (nS p0)) (aW SE 116 [aA.av p0] [] []) := by
 refine aZ (t := fun κ =>
  κ.t 28 aD [dSq p0.Client] [] [] fun r0 =>
  cond (!r0) (
  (rI 11)) (
  cond (!(p0.User == ([] : Str))) (
  κ.t 28 aD [dSq p0.User] [] [] fun r1 =>
  cond (!r1) (
   (rI 11)) (
  aos lab κ (aA.enc p0))) (
  aos lab κ (aA.enc p0)))) (fun _ => by kernel_rfl) ?_
 unfold nS
 repeat' first | (with_reducible first | refine lC ?_ ?_ | refine lQ eX aP ?_ fun _ _ => ?_ | exact rE _ | exact acq _ | refine aI ?_) | rfl | (simp only [EN, aH] <;> rfl)
theorem zX (p0 : Int) : Le (Option.map aH (mV p0)) (aW SE 119 [dIq p0] [] []) := by
 refine aZ (t := fun κ =>
  cond (decide (p0 < 1)) (
  (rI 15)) (
  cond (decide (p0 > 65535)) (
  (rI 15)) (
  (rI 0)))) (fun _ => by kernel_rfl) ?_
 unfold mV
 refine lC ?_ ?_
 ·exact aI rfl
 ·refine lC ?_ ?_
  ·exact aI rfl
  ·exact aI rfl
theorem aeR (p0 : aA) : Le (Option.map aH (nH p0)) (aW SE 117 [aA.av p0] [] []) := by
 refine aZ (t := fun κ =>
  κ.t 18 aH [aB.av p0.Message] [] [] fun r0 =>
  cond (r0 != 0) (
  (rI r0)) (
  cond (p0.Message.Level == 0) (
  cond (p0.ID != 0) (
   (rI 15)) (
  cond p0.Dup (
   (rI 28)) (
  (rI 0)))) (
  κ.t 119 aH [dIq p0.ID] [] [] fun r1 =>
  (rI r1)))) (fun _ => by kernel_rfl) ?_
 unfold nH
 refine lQ eX aX (j1 _) fun r0 _ => ?_
 refine lC ?_ ?_
 ·exact aI rfl
 ·refine lC ?_ ?_
  ·refine lC ?_ ?_
   ·exact aI rfl
   ·refine lC ?_ ?_
    ·exact aI rfl
    ·exact aI rfl
  ·refine lQ eX aX (zX _) fun r1 _ => ?_
   exact aI rfl
theorem vU (p0 : Int) : Le (Option.map aD (kZ p0)) (aW SE 118 [dIq p0] [] []) := by
 refine aZ (t := fun κ =>
  cond (decide (p0 ≥ 0)) (
  (rB (decide (p0 ≤ 29)))) (
  (rB false))) (fun _ => by kernel_rfl) ?_
 unfold kZ
 refine lC ?_ ?_
 ·exact aI rfl
 ·exact aI rfl
theorem aaG (p0 : Int) : Le (Option.map aH (pJ p0)) (aW SE 120 [dIq p0] [] []) := by
 refine aZ (t := fun κ =>
  cond (p0 == 0) (
  (rI 1)) (
  cond (decide (p0 > 32)) (
  (rI 5)) (
  (rI 0)))) (fun _ => by kernel_rfl) ?_
 unfold pJ
 refine lC ?_ ?_
 ·exact aI rfl
 ·refine lC ?_ ?_
  ·exact aI rfl
  ·exact aI rfl
theorem tQ (p0 p1 : Str) : Le (Option.map aD (lK p0 p1)) (aW SE 167 [dSq p0, dSq p1] [] []) := by
 refine aZ (t := fun κ =>
  cond (decide ((List.length p0 : Int) ≥ (List.length p1 : Int))) (
  cond (decide (0 ≤ (List.length p1 : Int)) && decide ((List.length p1 : Int) ≤ ((List.length p0) : Int))) (
   (rB ((bQ p0 none (some (List.length p1 : Int))) == p1))) none) (
  (rB false))) (fun _ => by kernel_rfl) ?_
 unfold lK
 refine lC ?_ ?_
 ·refine lF ?_
  exact aI rfl
 ·exact aI rfl
noncomputable def ani (L : bP) (κ : Tau) (a0 : Int) (a1 : List (List D)) : Res := L SE (K κ) κ.Λ κ.J 166 0 [1, 1, 1, 0, 1, 0, 0, 1, 0, 0, 1, 0] (bE [(3, .row 3003), (4, dIq a0)] [] [] [] [(3003, ⟨[.str], 9, 16, a1⟩)])
noncomputable def ahO (L : bP) (κ : Tau) (a0 : Int) (a1 : List (List D)) : Res := L SE (K κ) κ.Λ κ.J 166 0 [1, 1, 1, 0, 1, 0] (bE [(3, .row 3003), (4, dIq a0)] [] [] [] [(3003, ⟨[.str], 9, 16, a1⟩)])
theorem adG (k5 : Int → (List Str) → Option (Bool)) (hk5 : ∀ (x4 : Int) (w3003 : List Str), Le (Option.map aD (k5 x4 w3003)) (ahO lab (kF 166) x4 (List.map bD w3003))) (x4 : Int) (w3003 : List Str) : Le (Option.map aD (jM k5 x4 w3003)) (ani lab (kF 166) x4 (List.map bD w3003)) := by
 refine bF (t := fun κ =>
  cond (iB x4 (lM bD w3003 : Int)) (
  κ.t 66 aD [dSq (aU (cE bD w3003 x4 0)), .d (.int .u8 35)] [] [] fun r3 =>
  cond r3 (
   cond (iB x4 (lM bD w3003 : Int)) (
   cond (!((aU (cE bD w3003 x4 0)) == ([35] : Str))) (
    (rB false)) (
   cond (x4 != (w6 ((lM bD w3003 : Int) - 1))) (
    (rB false)) (
   ahO lab κ (w6 (x4 + 1)) (List.map bD w3003)))) none) (
  ahO lab κ (w6 (x4 + 1)) (List.map bD w3003))) none) (fun _ => by kernel_rfl) ?_
 unfold jM
 repeat' first | (with_reducible first | refine lC ?_ ?_ | refine lQ eX aP ?_ fun _ _ => ?_ | refine lG ?_ ?_ | refine lD ?_ ?_ ?_ | exact jT _ _ | exact hk5 _ _ | refine aI ?_) | rfl | (simp only [EN]; done) | (simp only [EN]; exact jT _ _) | (simp only [EN, aD] <;> rfl)
theorem adt : ∀ (fu : Nat) (x4 : Int) (w3003 : List Str), Le (Option.map aD (fY fu x4 w3003)) (ahO lab (kF 166) x4 (List.map bD w3003)) := by
 intro fu
 induction fu with
 | zero => intros; exact le_none
 | succ fu ih =>
  intro x4 w3003
  refine bF (t := fun κ =>
  cond (decide (x4 < (lM bD w3003 : Int))) (
  cond (iB x4 (lM bD w3003 : Int)) (
   κ.t 66 aD [dSq (aU (cE bD w3003 x4 0)), .d (.int .u8 43)] [] [] fun r2 =>
   cond r2 (
   cond (iB x4 (lM bD w3003 : Int)) (
    cond (!((aU (cE bD w3003 x4 0)) == ([43] : Str))) (
    (rB false)) (
    ani lab κ x4 (List.map bD w3003))) none) (
   ani lab κ x4 (List.map bD w3003))) none) (
  (rB true))) (fun _ => by kernel_rfl) ?_
  unfold fY
  repeat' first | (with_reducible first | refine lC ?_ ?_ | refine lQ eX aP ?_ fun _ _ => ?_ | refine lG ?_ ?_ | refine lD ?_ ?_ ?_ | exact jT _ _ | exact adG _ (ih) _ _ | refine aI ?_) | rfl | (simp only [EN]; done) | (simp only [EN]; exact jT _ _) | (simp only [EN, aD] <;> rfl)
theorem zH (p0 : Str) : Le (Option.map aD (lP p0)) (aW SE 166 [dSq p0] [] []) := by
 refine aZ (t := fun κ =>
  κ.t 65 aD [dSq p0] [] [] fun r0 =>
  cond (!r0) (
  (rB false)) (
  κ.t 105 fG [dSq p0] [] [] fun r1 =>
  ahO lab κ 0 (List.map bD r1))) (fun _ => by kernel_rfl) ?_
 unfold lP
 refine lQ eX aP (aav _) fun r0 _ => ?_
 refine lC ?_ ?_
 ·exact aI rfl
 ·refine lQ eX yC (zE _) fun r1 _ => ?_
  exact adt fuel 0 r1
noncomputable def arn (L : bP) (κ : Tau) (a0 : Str) (a1 : Int) : Res := L SE (K κ) κ.Λ κ.J 165 0 [1, 1, 1, 1, 1, 1, 0] (bE [(5, dSq a0), (6, dIq a1)] [] [] [] [])
noncomputable def anF (L : bP) (κ : Tau) (a0 : Str) (a1 : Int) : Res := L SE (K κ) κ.Λ κ.J 165 0 [1, 1, 1, 1, 1, 0, 0] (bE [(5, dSq a0), (6, dIq a1)] [] [] [] [])
noncomputable def anH (L : bP) (κ : Tau) (a0 : Str) (a1 : Int) : Res := L SE (K κ) κ.Λ κ.J 165 0 [1, 1, 1, 1, 0, 0] (bE [(5, dSq a0), (6, dIq a1)] [] [] [] [])
theorem adm (x5 : Str) (x6 : Int) : Le (Option.map bK (oW x5 x6)) (arn lab (kF 165) x5 x6) := by
 refine bF (t := fun κ =>
  cond (decide (0 ≤ x6) && decide (x6 ≤ ((List.length x5) : Int))) (
  cond (decide (0 ≤ (w6 (x6 + 1))) && decide ((w6 (x6 + 1)) ≤ ((List.length x5) : Int))) (
   (some (.ret [dSq (bQ x5 none (some x6)), dSq (bQ x5 (some (w6 (x6 + 1))) none), dBq true] [] []))) none) none) (fun _ => by kernel_rfl) ?_
 unfold oW
 refine lF ?_
 refine lF ?_
 exact aI rfl
theorem adz (x5 : Str) (x6 : Int) : Le (Option.map bK (jL x5 x6)) (anF lab (kF 165) x5 x6) := by
 refine bF (t := fun κ =>
  cond (x6 == (List.length x5 : Int)) (
  (some (.ret [dSq [], dSq [], dBq false] [] []))) (
  cond (decide (0 ≤ x6) && decide (x6 ≤ ((List.length x5) : Int))) (
  κ.t 28 aD [dSq (bQ x5 none (some x6))] [] [] fun r1 =>
  cond (!r1) (
   (some (.ret [dSq [], dSq [], dBq false] [] []))) (
  cond (decide (0 ≤ (w6 (x6 + 1))) && decide ((w6 (x6 + 1)) ≤ ((List.length x5) : Int))) (
   κ.t 166 aD [dSq (bQ x5 (some (w6 (x6 + 1))) none)] [] [] fun r2 =>
   cond (!r2) (
   (some (.ret [dSq [], dSq [], dBq false] [] []))) (
   cond (decide (0 ≤ (w6 (x6 + 1))) && decide ((w6 (x6 + 1)) ≤ ((List.length x5) : Int))) (
   κ.t 167 aD [dSq (bQ x5 (some (w6 (x6 + 1))) none), dSq ([36, 115, 104, 97, 114, 101, 47] : Str)] [] [] fun r3 =>
   cond r3 (
    (some (.ret [dSq [], dSq [], dBq false] [] []))) (
   arn lab κ x5 x6)) none)) none)) none)) (fun _ => by kernel_rfl) ?_
 unfold jL
 repeat' first | (with_reducible first | refine lF ?_ | refine lC ?_ ?_ | refine lQ eX aP ?_ fun _ _ => ?_ | refine lQ eX aP ?_ fun _ _ => ?_ | refine lQ eX aP ?_ fun _ _ => ?_ | exact rE _ | exact zH _ | exact tQ _ _ | exact adm _ _ | refine aI ?_) | rfl | (simp only [EN, bK] <;> rfl)
theorem ac4 : ∀ (fu : Nat) (x5 : Str) (x6 : Int), Le (Option.map bK (hQ fu x5 x6)) (anH lab (kF 165) x5 x6) := by
 intro fu
 induction fu with
 | zero => intros; exact le_none
 | succ fu ih =>
  intro x5 x6
  refine bF (t := fun κ =>
  cond (decide (x6 < (List.length x5 : Int))) (
  cond (iB x6 (List.length x5 : Int)) (
   cond ((UInt8.toNat (List.getD x5 (Int.toNat x6) 0) : Int) != 47) (
   anH lab κ x5 (w6 (x6 + 1))) (
   anF lab κ x5 x6)) none) (
  anF lab κ x5 x6)) (fun _ => by kernel_rfl) ?_
  unfold hQ
  repeat' first | (with_reducible first | refine lF ?_ | refine lC ?_ ?_ | exact ih _ _ | exact adz _ _)
theorem y0 (p0 : Str) : Le (Option.map bK (lO p0)) (aW SE 165 [dSq p0] [] []) := by
 refine aZ (t := fun κ =>
  κ.t 167 aD [dSq p0, dSq ([36, 115, 104, 97, 114, 101, 47] : Str)] [] [] fun r0 =>
  cond (!r0) (
  (some (.ret [dSq [], dSq [], dBq false] [] []))) (
  cond (decide (0 ≤ 7) && decide (7 ≤ ((List.length p0) : Int))) (
  anH lab κ (bQ p0 (some 7) none) 0) none)) (fun _ => by kernel_rfl) ?_
 unfold lO
 refine lQ eX aP (tQ _ _) fun r0 _ => ?_
 refine lC ?_ ?_
 ·exact aI rfl
 ·refine lF ?_
  exact ac4 fuel (bQ p0 (some 7) none) 0
theorem tE (p0 : Str) : Le (Option.map aD (k9 p0)) (aW SE 151 [dSq p0] [] []) := by
 refine aZ (t := fun κ =>
  κ.t 165 bK [dSq p0] [] [] fun r0 =>
  cond r0.2.2 (
  (rB true)) (
  κ.t 166 aD [dSq p0] [] [] fun r1 =>
  cond r1 (
  κ.t 167 aD [dSq p0, dSq ([36, 115, 104, 97, 114, 101, 47] : Str)] [] [] fun r2 =>
  (rB (!r2))) (
  (rB false)))) (fun _ => by kernel_rfl) ?_
 unfold k9
 refine lQ eX nJ (y0 _) fun r0 _ => ?_
 refine lC ?_ ?_
 ·exact aI rfl
 ·refine lQ eX aP (zH _) fun r1 _ => ?_
  refine lC ?_ ?_
  ·refine lQ eX aP (tQ _ _) fun r2 _ => ?_
   exact aI rfl
  ·exact aI rfl
noncomputable def aqW (L : bP) (κ : Tau) (a0 : List D) : Res := L SE (K κ) κ.Λ κ.J 150 0 [1, 1, 1, 0] (bE [(1, .ptr 1000000000 0)] [⟨75, (List.map AV.d a0)⟩] [] [] [])
theorem afH (b0 : aN) : Le (Option.map aH (sL b0)) (aqW lab (kF 150) (aN.enc b0)) := by
 refine bF (t := fun κ =>
  κ.t 165 bK [dSq b0.Filter] [] [] fun r1 =>
  cond b0.NoLocal (
  cond r1.2.2 (
   (rI 28)) (
  (rI 0))) (
  (rI 0))) (fun _ => by kernel_rfl) ?_
 unfold sL
 refine lQ eX nJ (y0 _) fun r1 _ => ?_
 refine lC ?_ ?_
 ·refine lC ?_ ?_
  ·exact aI rfl
  ·exact aI rfl
 ·exact aI rfl
theorem ah2 (p0 : aN) : Le (Option.map aH (rS p0)) (aW SE 150 [aN.av p0] [] []) := by
 refine aZ (t := fun κ =>
  κ.t 151 aD [dSq p0.Filter] [] [] fun r0 =>
  cond (!r0) (
  (rI 13)) (
  cond (decide (p0.Level < 0)) (
  (rI 14)) (
  cond (decide (p0.Level > 2)) (
  (rI 14)) (
  aqW lab κ (aN.enc p0))))) (fun _ => by kernel_rfl) ?_
 unfold rS
 refine lQ eX aP (tE _) fun r0 _ => ?_
 refine lC ?_ ?_
 ·exact aI rfl
 ·refine lC ?_ ?_
  ·exact aI rfl
  ·refine lC ?_ ?_
   ·exact aI rfl
   ·exact afH p0
noncomputable def alj (L : bP) (κ : Tau) (a0 : Int) (a1 : List D) : Res := L SE (K κ) κ.Λ κ.J 121 0 [1, 1, 1, 0, 1, 0] (bE [(1, .ptr 1000000000 0), (6, dIq a0)] [⟨67, (List.map AV.d a1)⟩] [] [] [])
noncomputable def anS (L : bP) (κ : Tau) (a0 : Int) (a1 : List D) : Res := L SE (K κ) κ.Λ κ.J 121 0 [1, 1, 0, 1, 0] (bE [(1, .ptr 1000000000 0), (5, dIq a0)] [⟨67, (List.map AV.d a1)⟩] [] [] [])
noncomputable def anx (L : bP) (κ : Tau) (a0 : Int) (a1 : List D) : Res := L SE (K κ) κ.Λ κ.J 121 0 [1, 0, 1, 0] (bE [(1, .ptr 1000000000 0), (3, dIq a0)] [⟨67, (List.map AV.d a1)⟩] [] [] [])
theorem abE : ∀ (fu : Nat) (x6 : Int) (b0 : aA), Le (Option.map aH (eJ fu x6 b0)) (alj lab (kF 121) x6 (aA.enc b0)) := by
 intro fu
 induction fu with
 | zero => intros; exact le_none
 | succ fu ih =>
  intro x6 b0
  refine bF (t := fun κ =>
  cond (decide (x6 < (lM eI b0.Codes : Int))) (
  cond (iB x6 (lM eI b0.Codes : Int)) (
   κ.t 118 aD [dIq (aL (cE eI b0.Codes x6 0))] [] [] fun r2 =>
   cond (!r2) (
   (rI 1)) (
   alj lab κ (w6 (x6 + 1)) (aA.enc b0))) none) (
  (rI 0))) (fun _ => by kernel_rfl) ?_
  unfold eJ
  repeat' first | (with_reducible first | refine lC ?_ ?_ | refine lQ eX aP ?_ fun _ _ => ?_ | refine lG ?_ ?_ | refine lD ?_ ?_ ?_ | exact vU _ | exact ih _ _ | refine aI ?_) | rfl | (simp only [EN]; done) | (simp only [EN]; exact vU _) | (simp only [EN, aH] <;> rfl)
theorem ab2 : ∀ (fu : Nat) (x5 : Int) (b0 : aA), Le (Option.map aH (eZ fu x5 b0)) (anS lab (kF 121) x5 (aA.enc b0)) := by
 intro fu
 induction fu with
 | zero => intros; exact le_none
 | succ fu ih =>
  intro x5 b0
  refine bF (t := fun κ =>
  cond (decide (x5 < (lM bD b0.Filters : Int))) (
  cond (iB x5 (lM bD b0.Filters : Int)) (
   κ.t 151 aD [dSq (aU (cE bD b0.Filters x5 0))] [] [] fun r1 =>
   cond (!r1) (
   (rI 13)) (
   anS lab κ (w6 (x5 + 1)) (aA.enc b0))) none) (
  alj lab κ 0 (aA.enc b0))) (fun _ => by kernel_rfl) ?_
  unfold eZ
  repeat' first | (with_reducible first | refine lC ?_ ?_ | refine lQ eX aP ?_ fun _ _ => ?_ | refine lG ?_ ?_ | refine lD ?_ ?_ ?_ | exact tE _ | exact ih _ _ | exact abE fuel _ _ | refine aI ?_) | rfl | (simp only [EN]; done) | (simp only [EN]; exact tE _) | (simp only [EN, aH] <;> rfl)
theorem abX : ∀ (fu : Nat) (x3 : Int) (b0 : aA), Le (Option.map aH (gG fu x3 b0)) (anx lab (kF 121) x3 (aA.enc b0)) := by
 intro fu
 induction fu with
 | zero => intros; exact le_none
 | succ fu ih =>
  intro x3 b0
  refine bF (t := fun κ =>
  cond (decide (x3 < (lM aN.enc b0.Subs : Int))) (
  cond (iB x3 (lM aN.enc b0.Subs : Int)) (
   κ.t 150 aH [.agg [dSq (aU (cE aN.enc b0.Subs x3 0)), dIq (aL (cE aN.enc b0.Subs x3 1)), dBq (bA (cE aN.enc b0.Subs x3 2))]] [] [] fun r0 =>
   cond (r0 != 0) (
   (rI r0)) (
   anx lab κ (w6 (x3 + 1)) (aA.enc b0))) none) (
  anS lab κ 0 (aA.enc b0))) (fun _ => by kernel_rfl) ?_
  unfold gG
  refine lDe ?_ ?_
  ·refine lGe ?_
   refine lQ eX aX (by (try simp only [EN]); exact ah2 (List.getD b0.Subs (Int.toNat x3) default)) fun r0 _ => ?_
   refine lC ?_ ?_
   ·exact aI rfl
   ·exact ih (w6 (x3 + 1)) b0
  ·exact ab2 fuel 0 b0
theorem ad3 (p0 : aA) : Le (Option.map aH (mB p0)) (aW SE 121 [aA.av p0] [] []) := by
 refine aZ (t := fun κ =>
  anx lab κ 0 (aA.enc p0)) (fun _ => by kernel_rfl) ?_
 unfold mB
 exact abX fuel 0 p0
noncomputable def aqM (L : bP) (κ : Tau) (a0 : List D) : Res := L SE (K κ) κ.Λ κ.J 85 0 [1, 1, 1, 1, 1, 1, 1, 1, 1, 0] (bE [(1, .ptr 1000000000 0)] [⟨67, (List.map AV.d a0)⟩] [] [] [])
noncomputable def aq3 (L : bP) (κ : Tau) (a0 : List D) : Res := L SE (K κ) κ.Λ κ.J 85 0 [1, 1, 1, 1, 1, 1, 1, 0] (bE [(1, .ptr 1000000000 0)] [⟨67, (List.map AV.d a0)⟩] [] [] [])
noncomputable def arN (L : bP) (κ : Tau) (a0 : List D) : Res := L SE (K κ) κ.Λ κ.J 85 0 [1, 1, 1, 1, 1, 1, 0, 0] (bE [(1, .ptr 1000000000 0)] [⟨67, (List.map AV.d a0)⟩] [] [] [])
noncomputable def atc (L : bP) (κ : Tau) (a0 : List D) : Res := L SE (K κ) κ.Λ κ.J 85 0 [1, 1, 0, 0] (bE [(1, .ptr 1000000000 0)] [⟨67, (List.map AV.d a0)⟩] [] [] [])
theorem acQ (b0 : aA) : Le (Option.map aH (o5 b0)) (aqM lab (kF 85) (aA.enc b0)) := by
 refine bF (t := fun κ =>
  κ.t 120 aH [dIq (w6 ((w6 ((lM aN.enc b0.Subs : Int) + (lM bD b0.Filters : Int))) + (lM eI b0.Codes : Int)))] [] [] fun r7 =>
  cond (r7 != 0) (
  (rI r7)) (
  κ.t 121 aH [aA.av b0] [] [] fun r8 =>
  (rI r8))) (fun _ => by kernel_rfl) ?_
 unfold o5
 repeat' first | (with_reducible first | refine lC ?_ ?_ | refine lQ eX aX ?_ fun _ _ => ?_ | refine lQ eX aX ?_ fun _ _ => ?_ | exact aaG _ | exact ad3 _ | refine aI ?_) | rfl | (simp only [EN]; exact aaG _) | (simp only [EN, aH] <;> rfl)
theorem adh (b0 : aA) : Le (Option.map aH (oZ b0)) (aq3 lab (kF 85) (aA.enc b0)) := by
 refine bF (t := fun κ =>
  κ.t 119 aH [dIq b0.ID] [] [] fun r6 =>
  cond (r6 != 0) (
  (rI r6)) (
  cond (decide (b0.Kind ≤ 7)) (
  (rI r6)) (
  aqM lab κ (aA.enc b0)))) (fun _ => by kernel_rfl) ?_
 unfold oZ
 refine lQ eX aX (zX _) fun r6 _ => ?_
 refine lC ?_ ?_
 ·exact aI rfl
 ·refine lC ?_ ?_
  ·exact aI rfl
  ·exact acQ b0
theorem adu (b0 : aA) : Le (Option.map aH (oS b0)) (arN lab (kF 85) (aA.enc b0)) := by
 refine bF (t := fun κ =>
  cond (b0.Kind == 12) (
  (rI 0)) (
  cond (b0.Kind == 13) (
  (rI 0)) (
  aq3 lab κ (aA.enc b0)))) (fun _ => by kernel_rfl) ?_
 unfold oS
 refine lC ?_ ?_
 ·exact aI rfl
 ·refine lC ?_ ?_
  ·exact aI rfl
  ·exact adh b0
theorem adR (b0 : aA) : Le (Option.map aH (mA b0)) (atc lab (kF 85) (aA.enc b0)) := by
 refine bF (t := fun κ =>
  κ.t 115 bR [aA.av b0] [] [] fun r0 =>
  κ.t 94 aD [aA.av b0, aA.av r0] [] [] fun r1 =>
  cond (!r1) (
  (rI 28)) (
  cond (b0.Kind == 1) (
  κ.t 116 aH [aA.av b0] [] [] fun r2 =>
  (rI r2)) (
  cond (b0.Kind == 3) (
  κ.t 117 aH [aA.av b0] [] [] fun r3 =>
  (rI r3)) (
  cond (b0.Kind == 2) (
  κ.t 118 aD [dIq b0.Code] [] [] fun r4 =>
  cond (!r4) (
   (rI 1)) (
  cond b0.Present (
   cond (b0.Code != 0) (
   (rI 28)) (
   (rI 0))) (
  (rI 0)))) (
  cond (b0.Kind == 14) (
  κ.t 118 aD [dIq b0.Code] [] [] fun r5 =>
  cond (!r5) (
   (rI 1)) (
  cond b0.Present (
   cond (b0.Code != 0) (
   (rI 28)) (
   (rI 0))) (
  (rI 0)))) (
  arN lab κ (aA.enc b0))))))) (fun _ => by kernel_rfl) ?_
 unfold mA
 repeat' first | (with_reducible first | refine lC ?_ ?_ | refine lQ eX ad7 ?_ fun _ _ => ?_ | refine lQ eX aP ?_ fun _ _ => ?_ | refine lQ eX aX ?_ fun _ _ => ?_ | refine lQ eX aX ?_ fun _ _ => ?_ | refine lQ eX aP ?_ fun _ _ => ?_ | exact agZ _ | exact vT _ _ | exact aev _ | exact aeR _ | exact vU _ | exact adu _ | refine aI ?_) | rfl | (simp only [EN, aH] <;> rfl)
theorem mM (p0 : aA) : Le (Option.map aH (dY p0)) (aW SE 85 [aA.av p0] [] []) := by
 refine aZ (t := fun κ =>
  cond (decide (p0.Kind < 1)) (
  (rI 10)) (
  cond (decide (p0.Kind > 14)) (
  (rI 10)) (
  atc lab κ (aA.enc p0)))) (fun _ => by kernel_rfl) ?_
 unfold dY
 refine lC ?_ ?_
 ·exact aI rfl
 ·refine lC ?_ ?_
  ·exact aI rfl
  ·exact adR p0
theorem aeX (p0 : brokerref51_State) (p1 : Bool) (p2 : aT) : Le (Option.map bB (nM p0 p1 p2)) (aW SE 42 [brokerref51_State.av p0, dBq p1, aT.av p2] [] []) := by
 refine aZ (t := fun κ =>
  cond (p0.Phase != 0) (
  (some (bB (p0, [], 9)))) (
  κ.t 85 aH [.agg [dIq 1, dIq 0, dBq false, dSq [], dSq [], dIq 0, dBq false, dIq 0, dIq 0, dSq [], dIq 0, .d (.sl aE.ks (List.map aE.enc [])), dSq p0.Name, dSq [], dBq p1, dIq 0, dIq 1099511627776, dIq p0.Limit, dBq p2.Set, dIq p2.Delay, dSq p2.Message.Topic, dSq p2.Message.Payload, dIq p2.Message.Level, dBq p2.Message.Retain, dIq p2.Message.Priority, dIq p2.Message.Expires, dSq p2.Message.From, dIq p2.Message.Seq, .d (.sl aE.ks (List.map aE.enc p2.Message.Props)), dBq false, dIq 0, .d (.sl aN.ks (List.map aN.enc [])), .d (.sl [.str] (List.map bD [])), .d (.sl [.int .i64] (List.map eI []))]] [] [] fun r0 =>
  cond (r0 != 0) (
  (some (bB (p0, [], r0)))) (
  (some (bB (((brokerref51_State.mk p0.Name p0.Limit 1 p0.Out p0.In p0.Waiting p0.Seq p0.Last), [(aA.mk 1 0 false zMq p0.Name [] p1 0 1099511627776 p0.Limit p2 false 0 [] [] [])], 0))))))) (fun _ => by kernel_rfl) ?_
 unfold nM
 repeat' first | (with_reducible first | refine lC ?_ ?_ | refine lQ eX aX ?_ fun _ _ => ?_ | exact mM _ | refine aI ?_) | rfl | (simp only [EN]; exact mM _) | (simp only [EN, bB] <;> rfl)
theorem aaU (p0 : aG) : Le (Option.map aH (nV p0)) (aW SE 122 [aG.av p0] [] []) := by
 refine aZ (t := fun κ =>
  cond (decide ((lM aC.enc p0.Items : Int) ≥ p0.Limit)) (
  (rI 0)) (
  (rI (w6 (p0.Limit - (lM aC.enc p0.Items : Int)))))) (fun _ => by kernel_rfl) ?_
 unfold nV
 refine lDe ?_ ?_
 ·exact aI rfl
 ·exact aI (by first | rfl | simp only [EN, aH] <;> rfl)
theorem aan (p0 : Int) : Le (Option.map aH (m9 p0)) (aW SE 168 [dIq p0] [] []) := by
 refine aZ (t := fun κ =>
  cond (decide (p0 ≥ 65535)) (
  (rI 1)) (
  (rI (w6 (p0 + 1))))) (fun _ => by kernel_rfl) ?_
 unfold m9
 refine lC ?_ ?_
 ·exact aI rfl
 ·exact aI rfl
noncomputable def anL (L : bP) (κ : Tau) (a0 a1 : Int) (a2 : List D) : Res := L SE (K κ) κ.Λ κ.J 154 0 [1, 0, 1, 0] (bE [(1, dIq a0), (2, .ptr 1000000000 0), (5, dIq a1)] [⟨29, (List.map AV.d a2)⟩] [] [] [])
theorem afN : ∀ (fu : Nat) (x1 x5 : Int) (b0 : aK), Le (Option.map aD (jQ fu x1 x5 b0)) (anL lab (kF 154) x1 x5 (aK.enc b0)) := by
 intro fu
 induction fu with
 | zero => intros; exact le_none
 | succ fu ih =>
  intro x1 x5 b0
  refine bF (t := fun κ =>
  cond (decide (x5 < (lM eI b0.Used : Int))) (
  cond (iB x5 (lM eI b0.Used : Int)) (
   cond ((aL (cE eI b0.Used x5 0)) == x1) (
   (rB true)) (
   anL lab κ x1 (w6 (x5 + 1)) (aK.enc b0))) none) (
  (rB false))) (fun _ => by kernel_rfl) ?_
  unfold jQ
  refine lDe ?_ ?_
  ·refine lGe ?_
   refine lDe ?_ ?_
   ·exact aI rfl
   ·exact ih x1 (w6 (x5 + 1)) b0
  ·exact aI rfl
theorem abJ (p0 : aK) (p1 : Int) : Le (Option.map aD (o6 p0 p1)) (aW SE 154 [aK.av p0, dIq p1] [] []) := by
 refine aZ (t := fun κ =>
  anL lab κ p1 0 (aK.enc p0)) (fun _ => by kernel_rfl) ?_
 unfold o6
 exact afN fuel p1 0 p0
noncomputable def ari (L : bP) (κ : Tau) (a0 : List (List D)) (a1 a2 : Int) (a3 : List (List D)) (a4 a5 a6 : Int) (a7 : Bool) (a8 : List (List D)) : Res := L SE (K κ) κ.Λ κ.J 169 0 [1, 1, 1, 0, 0, 0, 1, 0, 0] (bE [(0, .d (.sl [.int .i64] a0)), (1, dIq a1), (5, .row 3005), (6, dIq a2), (12, .d (.sl [.int .i64] a3)), (13, dIq a4), (15, dIq a5), (16, dIq a6), (17, dBq a7)] [] [] [] [(3005, ⟨[.int .i64], 3, 8, a8⟩)])
noncomputable def anA (L : bP) (κ : Tau) (a0 : List (List D)) (a1 a2 : Int) (a3 : List (List D)) : Res := L SE (K κ) κ.Λ κ.J 169 0 [1, 1, 1, 1, 0] (bE [(0, .d (.sl [.int .i64] a0)), (1, dIq a1), (5, .row 3005), (6, dIq a2)] [] [] [] [(3005, ⟨[.int .i64], 3, 8, a3⟩)])
noncomputable def akC (L : bP) (κ : Tau) (a0 : List (List D)) (a1 a2 : Int) (a3 : List (List D)) : Res := L SE (K κ) κ.Λ κ.J 169 0 [1, 1, 1, 0, 0] (bE [(0, .d (.sl [.int .i64] a0)), (1, dIq a1), (5, .row 3005), (6, dIq a2)] [] [] [] [(3005, ⟨[.int .i64], 3, 8, a3⟩)])
theorem yE (k3 : (List Int) → Int → Int → (List Int) → Option ((List Int))) (hk3 : ∀ (x0 : List Int) (x1 x6 : Int) (w3005 : List Int), Le (Option.map aR (k3 x0 x1 x6 w3005)) (akC lab (kF 169) (List.map eI x0) x1 x6 (List.map eI w3005))) (x0 : List Int) (x1 x6 : Int) (x12 : List Int) (x13 x15 x16 : Int) (x17 : Bool) (w3005 : List Int) : Le (Option.map aR (rD k3 x0 x1 x6 x12 x13 x15 x16 x17 w3005)) (ari lab (kF 169) (List.map eI x0) x1 x6 (List.map eI x12) x13 x15 x16 x17 (List.map eI w3005)) := by
 refine bF (t := fun κ =>
  cond (iB x6 (lM eI x0 : Int)) (
  cond (decide ((lM eI w3005 + List.length [[D.int .i64 (aL (cE eI x0 x6 0))]]) * 8 ≤ 140737488355328)) (
   akC lab κ (List.map eI x0) x1 (w6 (x6 + 1)) (((List.map eI w3005) ++ [[D.int .i64 (aL (cE eI x0 x6 0))]]))) none) none) (fun _ => by kernel_rfl) ?_
 unfold rD
 repeat' first | (with_reducible first | refine lG ?_ ?_ | exact hk3 _ _ _ _) | (simp only [EN]; done) | (simp only [EN]; exact hk3 _ _ _ _)
theorem aeT (x0 : List Int) (x1 x6 : Int) (w3005 : List Int) : Le (Option.map aR (kI x0 x1 x6 w3005)) (anA lab (kF 169) (List.map eI x0) x1 x6 (List.map eI w3005)) := by
 refine bF (t := fun κ =>
  cond (decide ((lM eI w3005 + lM eI [x1]) * 8 ≤ 140737488355328)) (
  cond (decide (0 ≤ x6) && decide (x6 ≤ ((lM eI x0) : Int))) (
   cond (decide ((List.length ((List.map eI w3005) ++ (List.map eI [x1])) + List.length (bQ (List.map eI x0) (some x6) none)) * 8 ≤ 140737488355328)) (
   (some (.ret [.row 0] [] [⟨[.int .i64], 3, 8, (((List.map eI w3005) ++ (List.map eI [x1])) ++ (bQ (List.map eI x0) (some x6) none))⟩]))) none) none) none) (fun _ => by kernel_rfl) ?_
 unfold kI
 refine lGe ?_
 refine lGe ?_
 refine lGe ?_
 exact aI (by first | rfl | simp only [EN, aR] <;> rfl)
theorem aet : ∀ (fu : Nat) (x0 : List Int) (x1 x6 : Int) (w3005 : List Int), Le (Option.map aR (iU fu x0 x1 x6 w3005)) (akC lab (kF 169) (List.map eI x0) x1 x6 (List.map eI w3005)) := by
 intro fu
 induction fu with
 | zero => intros; exact le_none
 | succ fu ih =>
  intro x0 x1 x6 w3005
  refine bF (t := fun κ =>
  cond (decide (x6 < (lM eI x0 : Int))) (
  cond (iB x6 (lM eI x0 : Int)) (
   cond (decide ((aL (cE eI x0 x6 0)) < x1)) (
   ari lab κ (List.map eI x0) x1 x6 (List.map eI x0) x6 ((aL (cE eI x0 x6 0))) x1 ((decide ((aL (cE eI x0 x6 0)) < x1))) (List.map eI w3005)) (
   anA lab κ (List.map eI x0) x1 x6 (List.map eI w3005))) none) (
  anA lab κ (List.map eI x0) x1 x6 (List.map eI w3005))) (fun _ => by kernel_rfl) ?_
  unfold iU
  repeat' first | (with_reducible first | refine lG ?_ ?_ | refine lD ?_ ?_ ?_ | exact yE _ (ih) _ _ _ _ _ _ _ _ _ | exact aeT _ _ _ _) | (simp only [EN]; done) | (simp only [EN]; exact yE _ (ih) _ _ _ _ _ _ _ _ _)
theorem agV (p0 : List Int) (p1 : Int) : Le (Option.map aR (qQ p0 p1)) (aW SE 169 [.d (.sl [.int .i64] (List.map eI p0)), dIq p1] [] []) := by
 refine aZ (t := fun κ =>
  akC lab κ (List.map eI p0) p1 0 (List.map eI [])) (fun _ => by kernel_rfl) ?_
 unfold qQ
 (try simp only [EN]); exact aet fuel p0 p1 0 []
end Te
end PX
