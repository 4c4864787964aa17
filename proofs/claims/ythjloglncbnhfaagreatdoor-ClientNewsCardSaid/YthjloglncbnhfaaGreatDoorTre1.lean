import Derived.Test.YthjloglncbnhfaaGreatDoorTre0
set_option linter.unusedVariables false
set_option linter.unusedSimpArgs false
set_option maxRecDepth 100000
noncomputable section
namespace PX
open Go
open Md
namespace Te
theorem T64 (κ : Tau) (p0 : aA) : bdy κ 64 [aA.av p0] [] [] =
 cond (p0.Kind == 3) (
 cond (p0.Message.Level == 1) (
  (some (bT (((aA.mk 4 p0.ID false zMq [] [] false 0 0 0 zWq false 0 [] [] []), true))))) (
 cond (p0.Kind == 3) (
  cond (p0.Message.Level == 2) (
  (some (bT (((aA.mk 5 p0.ID false zMq [] [] false 0 0 0 zWq false 0 [] [] []), true))))) (
  cond (p0.Kind == 5) (
  (some (bT (((aA.mk 6 p0.ID false zMq [] [] false 0 0 0 zWq false 0 [] [] []), true))))) (
  cond (p0.Kind == 6) (
  (some (bT (((aA.mk 7 p0.ID false zMq [] [] false 0 0 0 zWq false 0 [] [] []), true))))) (
  cond (p0.Kind == 12) (
  (some (bT (((aA.mk 13 p0.ID false zMq [] [] false 0 0 0 zWq false 0 [] [] []), true))))) (
  (some (bT ((zPq, false))))))))) (
 cond (p0.Kind == 5) (
  (some (bT (((aA.mk 6 p0.ID false zMq [] [] false 0 0 0 zWq false 0 [] [] []), true))))) (
 cond (p0.Kind == 6) (
  (some (bT (((aA.mk 7 p0.ID false zMq [] [] false 0 0 0 zWq false 0 [] [] []), true))))) (
 cond (p0.Kind == 12) (
  (some (bT (((aA.mk 13 p0.ID false zMq [] [] false 0 0 0 zWq false 0 [] [] []), true))))) (
 (some (bT ((zPq, false)))))))))) (
 cond (p0.Kind == 3) (
 cond (p0.Message.Level == 2) (
  (some (bT (((aA.mk 5 p0.ID false zMq [] [] false 0 0 0 zWq false 0 [] [] []), true))))) (
 cond (p0.Kind == 5) (
  (some (bT (((aA.mk 6 p0.ID false zMq [] [] false 0 0 0 zWq false 0 [] [] []), true))))) (
 cond (p0.Kind == 6) (
  (some (bT (((aA.mk 7 p0.ID false zMq [] [] false 0 0 0 zWq false 0 [] [] []), true))))) (
 cond (p0.Kind == 12) (
  (some (bT (((aA.mk 13 p0.ID false zMq [] [] false 0 0 0 zWq false 0 [] [] []), true))))) (
 (some (bT ((zPq, false))))))))) (
 cond (p0.Kind == 5) (
 (some (bT (((aA.mk 6 p0.ID false zMq [] [] false 0 0 0 zWq false 0 [] [] []), true))))) (
 cond (p0.Kind == 6) (
 (some (bT (((aA.mk 7 p0.ID false zMq [] [] false 0 0 0 zWq false 0 [] [] []), true))))) (
 cond (p0.Kind == 12) (
 (some (bT (((aA.mk 13 p0.ID false zMq [] [] false 0 0 0 zWq false 0 [] [] []), true))))) (
 (some (bT ((zPq, false))))))))) := by kernel_rfl
theorem ajT (p0 : aA) : Le (Option.map bT (vE p0)) (aX SE 64 [aA.av p0] [] []) := by
 refine bA (T64 _ p0) ?_
 unfold vE
 repeat' first | (with_reducible first | refine lC ?_ ?_ | refine aK ?_) | rfl | (simp only [EN, bT] <;> rfl)
noncomputable def aks (L : bP) (κ : Tau) (a0 : Bool) (a1 a2 : List D) (a3 : List (List D)) : Res := L SE (K κ) κ.Λ κ.J 35 0 [1, 1, 1, 1, 1, 1, 1, 0] (bF [(3, .ptr 1000000000 0), (4, .ptr 1000000001 0), (9, dBq a0), (10, .ptr 1000000002 0)] [⟨67, (List.map AV.d a1)⟩, ⟨33, (List.map AV.d a2)⟩, ⟨33, [.row 50200]⟩] [] [] [(50200, ⟨[.int .i64], 3, 8, a3⟩)])
noncomputable def ale (L : bP) (κ : Tau) (a0 : Bool) (a1 a2 a3 : List D) : Res := L SE (K κ) κ.Λ κ.J 35 0 [1, 1, 1, 1, 1, 0] (bF [(2, .ptr 1000000000 0), (3, .ptr 1000000001 0), (4, .ptr 1000000002 0), (9, dBq a0)] [⟨33, (List.map AV.d a1)⟩, ⟨67, (List.map AV.d a2)⟩, ⟨33, (List.map AV.d a3)⟩] [] [] [])
noncomputable def anG (L : bP) (κ : Tau) (a0 : Bool) (a1 a2 a3 : List D) : Res := L SE (K κ) κ.Λ κ.J 35 0 [1, 1, 1, 1, 0, 0] (bF [(2, .ptr 1000000000 0), (3, .ptr 1000000001 0), (4, .ptr 1000000002 0), (9, dBq a0)] [⟨33, (List.map AV.d a1)⟩, ⟨67, (List.map AV.d a2)⟩, ⟨33, (List.map AV.d a3)⟩] [] [] [])
theorem T35 (κ : Tau) (p0 : aI) (p1 : aA) : bdy κ 35 [aI.av p0, aA.av p1] [] [] =
 cond (p1.Kind != 3) (
 (some (dO ((aI.mk []), false, [], 10)))) (
 κ.t 38 aH [aA.av p1] [] [] fun r0 =>
 cond (r0 != 0) (
 (some (dO ((aI.mk []), false, [], r0)))) (
 cond (decide (p1.Message.Level < 2)) (
 anG lab κ true (aI.enc p0) (aA.enc p1) [D.sl [.int .i64] (List.map eI [])]) (
 κ.t 61 aE [aI.av p0, dIq p1.ID] [] [] fun r1 =>
 anG lab κ (!r1) (aI.enc p0) (aA.enc p1) [D.sl [.int .i64] (List.map eI [])]))) := by kernel_rfl
theorem au5 (κ : Tau) (x9 : Bool) (b0 : aA) (b1 : aI) (w50200 : List Int) : aks bO κ x9 (aA.enc b0) (aI.enc b1) (List.map eI w50200) =
 κ.t 64 bT [aA.av b0] [] [] fun r4 =>
 cond (!r4.2) (
 (some (dO ((aI.mk w50200), x9, [], 0)))) (
 (some (dO ((aI.mk w50200), x9, [r4.1], 0)))) := by kernel_rfl
theorem awf (κ : Tau) (x9 : Bool) (b0 : aI) (b1 : aA) (b2 : aI) : ale bO κ x9 (aI.enc b0) (aA.enc b1) (aI.enc b2) =
 κ.t 62 aT [.d (.sl [.int .i64] (List.map eI b0.IDs))] [] [] fun r2 =>
 cond (b1.Message.Level == 2) (
 κ.t 63 aT [.d (.sl [.int .i64] (List.map eI b0.IDs)), dIq b1.ID] [] [] fun r3 =>
 aks lab κ x9 (aA.enc b1) (aI.enc b2) (List.map eI r3)) (
 aks lab κ x9 (aA.enc b1) (aI.enc b2) (List.map eI r2)) := by kernel_rfl
theorem aws (κ : Tau) (x9 : Bool) (b0 : aI) (b1 : aA) (b2 : aI) : anG bO κ x9 (aI.enc b0) (aA.enc b1) (aI.enc b2) =
 cond (b1.Message.Level == 2) (
 cond x9 (
  cond (decide ((lM eI b0.IDs : Int) ≥ 32)) (
  (some (dO ((aI.mk []), false, [], 6)))) (
  ale lab κ x9 (aI.enc b0) (aA.enc b1) (aI.enc b2))) (
 ale lab κ x9 (aI.enc b0) (aA.enc b1) (aI.enc b2))) (
 ale lab κ x9 (aI.enc b0) (aA.enc b1) (aI.enc b2)) := by kernel_rfl
theorem y8 (x9 : Bool) (b0 : aA) (b1 : aI) (w50200 : List Int) : Le (Option.map dO (oF x9 b0 b1 w50200)) (aks lab (kF 35) x9 (aA.enc b0) (aI.enc b1) (List.map eI w50200)) := by
 refine bG (au5 _ x9 b0 b1 w50200) ?_
 unfold oF
 refine lQ eX ai8 (ajT _) fun r4 _ => ?_
 refine lC ?_ ?_
 ·exact aK rfl
 ·exact aK rfl
theorem uO (x9 : Bool) (b0 : aI) (b1 : aA) (b2 : aI) : Le (Option.map dO (mX x9 b0 b1 b2)) (ale lab (kF 35) x9 (aI.enc b0) (aA.enc b1) (aI.enc b2)) := by
 refine bG (awf _ x9 b0 b1 b2) ?_
 unfold mX
 refine lQ eX bV (eQ _) fun r2 _ => ?_
 refine lC ?_ ?_
 ·refine lQ eX bV (aeM _ _) fun r3 _ => ?_
  exact y8 x9 b1 b2 r3
 ·exact y8 x9 b1 b2 r2
theorem aac (x9 : Bool) (b0 : aI) (b1 : aA) (b2 : aI) : Le (Option.map dO (pK x9 b0 b1 b2)) (anG lab (kF 35) x9 (aI.enc b0) (aA.enc b1) (aI.enc b2)) := by
 refine bG (aws _ x9 b0 b1 b2) ?_
 unfold pK
 refine lC ?_ ?_
 ·refine lC ?_ ?_
  ·refine lDe ?_ ?_
   ·exact aK rfl
   ·exact uO x9 b0 b1 b2
  ·exact uO x9 b0 b1 b2
 ·exact uO x9 b0 b1 b2
theorem ai1 (p0 : aI) (p1 : aA) : Le (Option.map dO (tG p0 p1)) (aX SE 35 [aI.av p0, aA.av p1] [] []) := by
 refine bA (T35 _ p0 p1) ?_
 unfold tG
 refine lC ?_ ?_
 ·exact aK rfl
 ·refine lQ eX aY (rV _) fun r0 _ => ?_
  refine lC ?_ ?_
  ·exact aK rfl
  ·refine lC ?_ ?_
   ·(try simp only [EN]); exact aac true p0 p1 (aI.mk [])
   ·refine lQ eX aQ (amj _ _) fun r1 _ => ?_
    (try simp only [EN]); exact aac (!r1) p0 p1 (aI.mk [])
theorem T80 (κ : Tau) (p0 : client_Client) (p1 : aA) : bdy κ 80 [.ptr 2000000000 0, aA.av p1] [⟨83, (client_Client.avs p0)⟩] [] =
 κ.t 35 dO [aI.av p0.in_, aA.av p1] [] [] fun r0 =>
 cond (r0.2.2.2 != 0) (
 (some (aP ([], [], r0.2.2.2, p0)))) (
 cond (!r0.2.1) (
 (some (aP (r0.2.2.1, [], 0, (client_Client.mk p0.name p0.state p0.out r0.1 p0.waiting p0.count p0.last))))) (
 κ.t 30 dA [aB.av p1.Message] [] [] fun r1 =>
 (some (aP (r0.2.2.1, [r1], 0, (client_Client.mk p0.name p0.state p0.out r0.1 p0.waiting p0.count p0.last)))))) := by kernel_rfl
theorem abQ (p0 : client_Client) (p1 : aA) : Le (Option.map aP (jF p0 p1)) (aX SE 80 [.ptr 2000000000 0, aA.av p1] [⟨83, (client_Client.avs p0)⟩] []) := by
 refine bA (T80 _ p0 p1) ?_
 unfold jF
 refine lQ eX aih (ai1 _ _) fun r0 _ => ?_
 refine lC ?_ ?_
 ·exact aK rfl
 ·refine lC ?_ ?_
  ·exact aK rfl
  ·refine lQ eX iG (kR _) fun r1 _ => ?_
   exact aK rfl
theorem tW (p0 : List Int) (p1 p2 : Int) : Le (Option.map aT (jN p0 p1 p2)) (aX SE 103 [.row 2000000000, dIq p1, dIq p2] [] [⟨[.int .i64], 3, 8, (List.map eI p0)⟩]) := amp (f := 103) (enc := eI) rfl rfl p0 p1 p2
theorem T60 (κ : Tau) (p0 : List Int) (p1 : Int) : bdy κ 60 [.d (.sl [.int .i64] (List.map eI p0)), dIq p1] [] [] =
 κ.t 62 aT [.d (.sl [.int .i64] (List.map eI p0))] [] [] fun r0 =>
 κ.t 102 bW [.d (.sl [.int .i64] (List.map eI r0)), dIq p1] [] [] fun r1 =>
 cond r1.2 (
 κ.t 103 aT [.row 2000000000, dIq r1.1, dIq (w6 (r1.1 + 1))] [] [⟨[.int .i64], 3, 8, (List.map eI r0)⟩] fun r2 =>
 (some (aT r2))) (
 (some (aT r0))) := by kernel_rfl
theorem adR (p0 : List Int) (p1 : Int) : Le (Option.map aT (lZ p0 p1)) (aX SE 60 [.d (.sl [.int .i64] (List.map eI p0)), dIq p1] [] []) := by
 refine bA (T60 _ p0 p1) ?_
 unfold lZ
 refine lQ eX bV (eQ _) fun r0 _ => ?_
 refine lQ eX eV (fB _ _) fun r1 _ => ?_
 refine lC ?_ ?_
 ·refine lQ eX bV (tW _ _ _) fun r2 _ => ?_
  exact aK rfl
 ·exact aK rfl
noncomputable def apV (L : bP) (κ : Tau) (a0 a1 a2 a3 : List D) : Res := L SE (K κ) κ.Λ κ.J 34 0 [1, 1, 1, 0] (bF [(2, .ptr 1000000000 0), (3, .ptr 1000000001 0), (4, .ptr 1000000002 0), (5, .ptr 1000000003 0)] [⟨33, (List.map AV.d a0)⟩, ⟨67, (List.map AV.d a1)⟩, ⟨33, (List.map AV.d a2)⟩, ⟨67, (List.map AV.d a3)⟩] [] [] [])
theorem T34 (κ : Tau) (p0 : aI) (p1 : aA) : bdy κ 34 [aI.av p0, aA.av p1] [] [] =
 cond (p1.Kind != 6) (
 (some (bY (((aI.mk []), zPq, 10))))) (
 cond (decide (p1.ID < 1)) (
 (some (bY (((aI.mk []), zPq, 15))))) (
 cond (decide (p1.ID > 65535)) (
 (some (bY (((aI.mk []), zPq, 15))))) (
 apV lab κ (aI.enc p0) (aA.enc p1) [D.sl [.int .i64] (List.map eI [])] [D.int .i64 0, D.int .i64 0, D.bool false, D.str [], D.str [], D.int .i64 0, D.bool false, D.int .i64 0, D.int .i64 0, D.str [], D.int .i64 0, D.sl aD.ks (List.map aD.enc []), D.str [], D.str [], D.bool false, D.int .i64 0, D.int .i64 0, D.int .i64 0, D.bool false, D.int .i64 0, D.str [], D.str [], D.int .i64 0, D.bool false, D.int .i64 0, D.int .i64 0, D.str [], D.int .i64 0, D.sl aD.ks (List.map aD.enc []), D.bool false, D.int .i64 0, D.sl aJ.ks (List.map aJ.enc []), D.sl [.str] (List.map bC []), D.sl [.int .i64] (List.map eI [])]))) := by kernel_rfl
theorem awN (κ : Tau) (b0 : aI) (b1 : aA) (b2 : aI) (b3 : aA) : apV bO κ (aI.enc b0) (aA.enc b1) (aI.enc b2) (aA.enc b3) =
 κ.t 60 aT [.d (.sl [.int .i64] (List.map eI b0.IDs)), dIq b1.ID] [] [] fun r0 =>
 (some (bY (((aI.mk r0), (aA.mk 7 b1.ID false zMq [] [] false 0 0 0 zWq false 0 [] [] []), 0)))) := by kernel_rfl
theorem zG (b0 : aI) (b1 : aA) (b2 : aI) (b3 : aA) : Le (Option.map bY (rS b0 b1 b2 b3)) (apV lab (kF 34) (aI.enc b0) (aA.enc b1) (aI.enc b2) (aA.enc b3)) := by
 refine bG (awN _ b0 b1 b2 b3) ?_
 unfold rS
 refine lQ eX bV (adR _ _) fun r0 _ => ?_
 exact aK rfl
theorem ahB (p0 : aI) (p1 : aA) : Le (Option.map bY (sB p0 p1)) (aX SE 34 [aI.av p0, aA.av p1] [] []) := by
 refine bA (T34 _ p0 p1) ?_
 unfold sB
 repeat' first | (with_reducible first | refine lC ?_ ?_ | exact zG _ _ _ _ | refine aK ?_) | rfl | (simp only [EN]; exact zG _ _ _ _) | (simp only [EN, bY] <;> rfl)
theorem T81 (κ : Tau) (p0 : client_Client) (p1 : aA) : bdy κ 81 [.ptr 2000000000 0, aA.av p1] [⟨83, (client_Client.avs p0)⟩] [] =
 κ.t 34 bY [aI.av p0.in_, aA.av p1] [] [] fun r0 =>
 cond (r0.2.2 != 0) (
 (some (aP ([], [], r0.2.2, p0)))) (
 (some (aP ([r0.2.1], [], 0, (client_Client.mk p0.name p0.state p0.out r0.1 p0.waiting p0.count p0.last))))) := by kernel_rfl
theorem abE (p0 : client_Client) (p1 : aA) : Le (Option.map aP (jK p0 p1)) (aX SE 81 [.ptr 2000000000 0, aA.av p1] [⟨83, (client_Client.avs p0)⟩] []) := by
 refine bA (T81 _ p0 p1) ?_
 unfold jK
 refine lQ eX aaU (ahB _ _) fun r0 _ => ?_
 refine lC ?_ ?_
 ·exact aK rfl
 ·exact aK rfl
theorem ax4 (κ : Tau) (p0 : aC) (p1 : Int) : bdy κ 162 [aC.av p0, .ptr 2000000000 0] [⟨3, [dIq p1]⟩] [] =
 (some (kA ((p0.ID == p1), p1))) := by kernel_rfl
theorem ahT (p0 : aC) (p1 : Int) : Le (Option.map kA (v7 p0 p1)) (aX SE 162 [aC.av p0, .ptr 2000000000 0] [⟨3, [dIq p1]⟩] []) := by
 refine bA (ax4 _ p0 p1) ?_
 unfold v7
 exact aK rfl
noncomputable def alz (L : bP) (κ : Tau) (a0 : List (List D)) (a1 a2 a3 : Int) : Res := L SE (K κ) κ.Λ κ.J 161 1 [1, 0, 1, 0] (bF [(0, .d (.sl aC.ks a0)), (1, .fn 162 [] [.ptr 2000000000 0]), (7, dIq a1), (8, dIq a2)] [] [⟨3, [dIq a3]⟩] [] [])
theorem ayu (κ : Tau) (p0 : List aC) (p1_0 : Int) : bdy κ 161 [.d (.sl aC.ks (List.map aC.enc p0)), .fn 162 [] [.ptr 2000000000 0]] [⟨3, [dIq p1_0]⟩] [] =
 alz lab κ (List.map aC.enc p0) (lM aC.enc p0 : Int) 0 p1_0 := by kernel_rfl
theorem avy (κ : Tau) (x0 : List aC) (x7 x8 q0_0 : Int) : alz bO κ (List.map aC.enc x0) x7 x8 q0_0 =
 cond (decide (x8 < x7)) (
 cond (iB x8 (lM aC.enc x0 : Int)) (
  κ.t 162 kA [.agg [dIq (aM (cE aC.enc x0 x8 0)), dIq (aM (cE aC.enc x0 x8 1)), dSq (aV (cE aC.enc x0 x8 2)), dSq (aV (cE aC.enc x0 x8 3)), dIq (aM (cE aC.enc x0 x8 4)), dBq (bB (cE aC.enc x0 x8 5)), dIq (aM (cE aC.enc x0 x8 6)), dIq (aM (cE aC.enc x0 x8 7)), dSq (aV (cE aC.enc x0 x8 8)), dIq (aM (cE aC.enc x0 x8 9)), .d (.sl aD.ks (dSl (cE aC.enc x0 x8 10)))], .ptr 2000000000 0] [⟨3, [dIq q0_0]⟩] [] fun r0 =>
  cond r0.1 (
  (some (.ret [dIq x8] [⟨3, [dIq r0.2]⟩] []))) (
  alz lab κ (List.map aC.enc x0) x7 (w6 (x8 + 1)) r0.2)) none) (
 (some (.ret [dIq (-1)] [⟨3, [dIq q0_0]⟩] []))) := by kernel_rfl
theorem rD : ∀ (fu : Nat) (x0 : List aC) (x7 x8 q0_0 : Int), Le (Option.map cR (cG fu x0 x7 x8 q0_0)) (alz lab (kF 161) (List.map aC.enc x0) x7 x8 q0_0) := by
 intro fu
 induction fu with
 | zero => intros; exact le_none
 | succ fu ih =>
  intro x0 x7 x8 q0_0
  refine bG (avy _ x0 x7 x8 q0_0) ?_
  unfold cG
  refine lC ?_ ?_
  ·refine lGe ?_
   refine lQ eX agP (by (try simp only [EN]); exact ahT (List.getD x0 (Int.toNat x8) default) q0_0) fun r0 _ => ?_
   refine lC ?_ ?_
   ·exact aK rfl
   ·exact ih x0 x7 (w6 (x8 + 1)) r0.2
  ·exact aK rfl
theorem sM (p0 : List aC) (p1_0 : Int) : Le (Option.map cR (eU p0 p1_0)) (aX SE 161 [.d (.sl aC.ks (List.map aC.enc p0)), .fn 162 [] [.ptr 2000000000 0]] [⟨3, [dIq p1_0]⟩] []) := by
 refine bA (ayu _ p0 p1_0) ?_
 unfold eU
 (try simp only [EN]); exact rD fuel p0 (List.length p0 : Int) 0 p1_0
theorem axq (κ : Tau) (p0 : List aC) (p1 : Int) : bdy κ 147 [.d (.sl aC.ks (List.map aC.enc p0)), dIq p1] [] [] =
 κ.t 161 cR [.d (.sl aC.ks (List.map aC.enc p0)), .fn 162 [] [.ptr 2000000000 0]] [⟨3, [dIq p1]⟩] [] fun r0 =>
 (rI r0.1) := by kernel_rfl
theorem ajP (p0 : List aC) (p1 : Int) : Le (Option.map aH (vA p0 p1)) (aX SE 147 [.d (.sl aC.ks (List.map aC.enc p0)), dIq p1] [] []) := by
 refine bA (axq _ p0 p1) ?_
 unfold vA
 refine lQ eX sA (sM _ _) fun r0 _ => ?_
 exact aK rfl
theorem axH (κ : Tau) (p0 : aL) (p1 : Int) : bdy κ 163 [aL.av p0, dIq p1] [] [] =
 κ.t 62 aT [.d (.sl [.int .i64] (List.map eI p0.Used))] [] [] fun r0 =>
 κ.t 102 bW [.d (.sl [.int .i64] (List.map eI r0)), dIq p1] [] [] fun r1 =>
 cond r1.2 (
 κ.t 103 aT [.row 2000000000, dIq r1.1, dIq (w6 (r1.1 + 1))] [] [⟨[.int .i64], 3, 8, (List.map eI r0)⟩] fun r2 =>
 (some (fF ((aL.mk r2 p0.Last), r1.2)))) (
 (some (fF ((aL.mk r0 p0.Last), r1.2)))) := by kernel_rfl
theorem ank (p0 : aL) (p1 : Int) : Le (Option.map fF (aab p0 p1)) (aX SE 163 [aL.av p0, dIq p1] [] []) := by
 refine bA (axH _ p0 p1) ?_
 unfold aab
 refine lQ eX bV (eQ _) fun r0 _ => ?_
 refine lQ eX eV (fB _ _) fun r1 _ => ?_
 refine lC ?_ ?_
 ·refine lQ eX bV (tW _ _ _) fun r2 _ => ?_
  exact aK rfl
 ·exact aK rfl
theorem tU (p0 : List aC) (p1 p2 : Int) : Le (Option.map dM (iR p0 p1 p2)) (aX SE 164 [.row 2000000000, dIq p1, dIq p2] [] [⟨aC.ks, 139, 128, (List.map aC.enc p0)⟩]) := amp (f := 164) (enc := aC.enc) rfl rfl p0 p1 p2
theorem axA (κ : Tau) (p0 : aF) (p1 : Int) : bdy κ 148 [aF.av p0, dIq p1] [] [] =
 cond (iB p1 (lM aC.enc p0.Items : Int)) (
 κ.t 163 fF [aL.av p0.Pool, dIq (aM (cE aC.enc p0.Items p1 0))] [] [] fun r0 =>
 κ.t 99 bI [aF.av p0] [] [] fun r1 =>
 κ.t 164 dM [.row 2000000000, dIq p1, dIq (w6 (p1 + 1))] [] [⟨aC.ks, 139, 128, (List.map aC.enc r1.Items)⟩] fun r2 =>
 (some (bI (aF.mk r1.Limit r2 r0.1)))) none := by kernel_rfl
theorem ahg (p0 : aF) (p1 : Int) : Le (Option.map bI (oO p0 p1)) (aX SE 148 [aF.av p0, dIq p1] [] []) := by
 refine bA (axA _ p0 p1) ?_
 unfold oO
 refine lGe ?_
 refine lQ eX aa4 (by (try simp only [EN]); exact ank p0.Pool ((List.getD p0.Items (Int.toNat p1) default).ID)) fun r0 _ => ?_
 refine lQ eX hZ (xJ _) fun r1 _ => ?_
 refine lQ eX sY (tU _ _ _) fun r2 _ => ?_
 exact aK rfl
noncomputable def akD (L : bP) (κ : Tau) (a0 : Int) (a1 a2 a3 a4 : List D) : Res := L SE (K κ) κ.Λ κ.J 114 0 [1, 1, 1, 1, 0, 0] (bF [(2, .ptr 1000000000 0), (3, .ptr 1000000001 0), (4, .ptr 1000000002 0), (7, dIq a0), (8, .ptr 1000000003 0)] [⟨31, (List.map AV.d a1)⟩, ⟨67, (List.map AV.d a2)⟩, ⟨31, (List.map AV.d a3)⟩, ⟨139, (List.map AV.d a4)⟩] [] [] [])
theorem ayx (κ : Tau) (p0 : aF) (p1 : aA) : bdy κ 114 [aF.av p0, aA.av p1] [] [] =
 κ.t 147 aH [.d (.sl aC.ks (List.map aC.enc p0.Items)), dIq p1.ID] [] [] fun r0 =>
 cond (decide (r0 ≥ 0)) (
 cond (iB r0 (lM aC.enc p0.Items : Int)) (
  akD lab κ r0 (aF.enc p0) (aA.enc p1) [D.int .i64 0, D.sl aC.ks (List.map aC.enc []), D.sl [.int .i64] (List.map eI []), D.int .i64 0] [D.int .i64 (aM (cE aC.enc p0.Items r0 0)), D.int .i64 (aM (cE aC.enc p0.Items r0 1)), D.str (aV (cE aC.enc p0.Items r0 2)), D.str (aV (cE aC.enc p0.Items r0 3)), D.int .i64 (aM (cE aC.enc p0.Items r0 4)), D.bool (bB (cE aC.enc p0.Items r0 5)), D.int .i64 (aM (cE aC.enc p0.Items r0 6)), D.int .i64 (aM (cE aC.enc p0.Items r0 7)), D.str (aV (cE aC.enc p0.Items r0 8)), D.int .i64 (aM (cE aC.enc p0.Items r0 9)), D.sl aD.ks (dSl (cE aC.enc p0.Items r0 10))]) none) (
 akD lab κ r0 (aF.enc p0) (aA.enc p1) [D.int .i64 0, D.sl aC.ks (List.map aC.enc []), D.sl [.int .i64] (List.map eI []), D.int .i64 0] [D.int .i64 0, D.int .i64 0, D.str [], D.str [], D.int .i64 0, D.bool false, D.int .i64 0, D.int .i64 0, D.str [], D.int .i64 0, D.sl aD.ks (List.map aD.enc [])]) := by kernel_rfl
theorem avI (κ : Tau) (x7 : Int) (b0 : aF) (b1 : aA) (b2 : aF) (b3 : aC) : akD bO κ x7 (aF.enc b0) (aA.enc b1) (aF.enc b2) (aC.enc b3) =
 cond (b1.Kind == 4) (
 cond (decide (x7 < 0)) (
  κ.t 99 bI [aF.av b0] [] [] fun r1 =>
  (some (cQ (r1, [], 0)))) (
 cond (b3.Message.Level == 1) (
  κ.t 148 bI [aF.av b0, dIq x7] [] [] fun r2 =>
  (some (cQ (r2, [], 0)))) (
 (some (cQ (((aF.mk 0 [] (aL.mk [] 0)), [], 23))))))) (
 cond (b1.Kind == 5) (
 cond (decide (x7 < 0)) (
  κ.t 99 bI [aF.av b0] [] [] fun r3 =>
  κ.t 146 bJ [dIq b1.ID] [] [] fun r4 =>
  (some (cQ (r3, [r4], 0)))) (
 cond (b3.Message.Level == 2) (
  κ.t 99 bI [aF.av b0] [] [] fun r5 =>
  cond (iB x7 (lM aC.enc r5.Items : Int)) (
  κ.t 146 bJ [dIq b1.ID] [] [] fun r6 =>
  (some (.ret [.agg [dIq r5.Limit, .row 0, .row 1, dIq r5.Pool.Last], .row 2, dIq 0] [] [⟨aC.ks, 139, 128, (oY (List.map aC.enc r5.Items) (Int.toNat x7) 1 [D.int .i64 2])⟩, ⟨[.int .i64], 3, 8, (List.map eI r5.Pool.Used)⟩, ⟨aA.ks, 67, 416, (List.map aA.enc [r6])⟩]))) none) (
 (some (cQ (((aF.mk 0 [] (aL.mk [] 0)), [], 23))))))) (
 cond (b1.Kind == 7) (
 cond (decide (x7 < 0)) (
  κ.t 99 bI [aF.av b0] [] [] fun r7 =>
  (some (cQ (r7, [], 0)))) (
 cond (b3.State == 2) (
  κ.t 148 bI [aF.av b0, dIq x7] [] [] fun r8 =>
  (some (cQ (r8, [], 0)))) (
 (some (cQ (((aF.mk 0 [] (aL.mk [] 0)), [], 23))))))) (
 (some (cQ (((aF.mk 0 [] (aL.mk [] 0)), [], 10))))))) := by kernel_rfl
theorem yS (x7 : Int) (b0 : aF) (b1 : aA) (b2 : aF) (b3 : aC) : Le (Option.map cQ (g6 x7 b0 b1 b2 b3)) (akD lab (kF 114) x7 (aF.enc b0) (aA.enc b1) (aF.enc b2) (aC.enc b3)) := by
 refine bG (avI _ x7 b0 b1 b2 b3) ?_
 unfold g6
 repeat' first | (with_reducible first | refine lC ?_ ?_ | refine lQ eX hZ ?_ fun _ _ => ?_ | refine lQ eX hZ ?_ fun _ _ => ?_ | refine lQ eX gO ?_ fun _ _ => ?_ | refine lG ?_ ?_ | exact xJ _ | exact ahg _ _ | exact wL _ | refine aK ?_) | rfl | (simp only [EN]; done) | (simp only [EN, cQ] <;> rfl)
theorem ahl (p0 : aF) (p1 : aA) : Le (Option.map cQ (mK p0 p1)) (aX SE 114 [aF.av p0, aA.av p1] [] []) := by
 refine bA (ayx _ p0 p1) ?_
 unfold mK
 refine lQ eX aY (ajP _ _) fun r0 _ => ?_
 refine lC ?_ ?_
 ·refine lGe ?_
  (try simp only [EN]); exact yS r0 p0 p1 ((aF.mk 0 [] (aL.mk [] 0))) (List.getD p0.Items (Int.toNat r0) default)
 ·(try simp only [EN]); exact yS r0 p0 p1 ((aF.mk 0 [] (aL.mk [] 0))) ((aC.mk 0 0 zMq))
theorem T82 (κ : Tau) (p0 : client_Client) (p1 : aA) : bdy κ 82 [.ptr 2000000000 0, aA.av p1] [⟨83, (client_Client.avs p0)⟩] [] =
 κ.t 114 cQ [aF.av p0.out, aA.av p1] [] [] fun r0 =>
 cond (r0.2.2 != 0) (
 (some (aP ([], [], r0.2.2, p0)))) (
 κ.t 33 bN [.ptr 2000000000 0, .row 2000000000] [⟨83, (client_Client.avs (client_Client.mk p0.name p0.state r0.1 p0.in_ p0.waiting p0.count p0.last))⟩] [⟨aA.ks, 67, 416, (List.map aA.enc r0.2.1)⟩] fun r1 =>
 (some (aP (r1.1, [], 0, r1.2)))) := by kernel_rfl
theorem zQ (p0 : client_Client) (p1 : aA) : Le (Option.map aP (g5 p0 p1)) (aX SE 82 [.ptr 2000000000 0, aA.av p1] [⟨83, (client_Client.avs p0)⟩] []) := by
 refine bA (T82 _ p0 p1) ?_
 unfold g5
 refine lQ eX ag0 (ahl _ _) fun r0 _ => ?_
 refine lC ?_ ?_
 ·exact aK rfl
 ·refine lQ eX kM (gK _ _) fun r1 _ => ?_
  exact aK rfl
theorem T83 (κ : Tau) (p0 : client_Client) (p1 : aA) : bdy κ 83 [.ptr 2000000000 0, aA.av p1] [⟨83, (client_Client.avs p0)⟩] [] =
 (some (aP ([], [], 0, (client_Client.mk p0.name 0 p0.out p0.in_ p0.waiting p0.count p0.last)))) := by kernel_rfl
theorem aag (p0 : client_Client) (p1 : aA) : Le (Option.map aP (oG p0 p1)) (aX SE 83 [.ptr 2000000000 0, aA.av p1] [⟨83, (client_Client.avs p0)⟩] []) := by
 refine bA (T83 _ p0 p1) ?_
 unfold oG
 exact aK rfl
theorem T84 (κ : Tau) (p0 : client_Client) (p1 : aA) : bdy κ 84 [.ptr 2000000000 0, aA.av p1] [⟨83, (client_Client.avs p0)⟩] [] =
 (some (aP ([], [], 0, p0))) := by kernel_rfl
theorem ab6 (p0 : client_Client) (p1 : aA) : Le (Option.map aP (rF p0 p1)) (aX SE 84 [.ptr 2000000000 0, aA.av p1] [⟨83, (client_Client.avs p0)⟩] []) := by
 refine bA (T84 _ p0 p1) ?_
 unfold rF
 exact aK rfl
noncomputable def anv (L : bP) (κ : Tau) (a0 a1 : List D) : Res := L SE (K κ) κ.Λ κ.J 21 1 [1, 1, 1, 1, 1, 0] (bF [(0, .ptr 2000000000 0), (3, .ptr 1000000000 0)] [⟨67, (List.map AV.d a0)⟩] [⟨83, (List.map AV.d a1)⟩] [] [])
noncomputable def alw (L : bP) (κ : Tau) (a0 : Bool) (a1 a2 : List D) : Res := L SE (K κ) κ.Λ κ.J 21 1 [1, 1, 1, 1, 0, 0] (bF [(0, .ptr 2000000000 0), (3, .ptr 1000000000 0), (8, dBq a0)] [⟨67, (List.map AV.d a1)⟩] [⟨83, (List.map AV.d a2)⟩] [] [])
theorem T21 (κ : Tau) (p0 : client_Client) (p1 : aA) : bdy κ 21 [.ptr 2000000000 0, aA.av p1] [⟨83, (client_Client.avs p0)⟩] [] =
 cond (p0.state == 0) (
 (some (aP ([], [], 9, p0)))) (
 κ.t 38 aH [aA.av p1] [] [] fun r0 =>
 cond (r0 != 0) (
 (some (aP ([], [], r0, p0)))) (
 cond (p0.state == 1) (
 cond (p1.Kind != 2) (
  alw lab κ (p1.Kind != 14) (aA.enc p1) (client_Client.enc p0)) (
 alw lab κ false (aA.enc p1) (client_Client.enc p0))) (
 alw lab κ false (aA.enc p1) (client_Client.enc p0)))) := by kernel_rfl
theorem av2 (κ : Tau) (b0 : aA) (q0 : client_Client) : anv bO κ (aA.enc b0) (client_Client.enc q0) =
 κ.s 40 eP [.ptr 2000000000 0, dIq b0.Kind] [⟨83, (client_Client.avs q0)⟩] [] (fun e3 =>
 κ.t 79 aP [.ptr 2000000000 0, aA.av b0] [⟨83, (client_Client.avs e3)⟩] [] fun r9 =>
 (some (aP (r9.1, r9.2.1, r9.2.2.1, r9.2.2.2)))) (fun e4 =>
 κ.t 80 aP [.ptr 2000000000 0, aA.av b0] [⟨83, (client_Client.avs e4)⟩] [] fun r10 =>
 (some (aP (r10.1, r10.2.1, r10.2.2.1, r10.2.2.2)))) (fun e5 =>
 κ.t 81 aP [.ptr 2000000000 0, aA.av b0] [⟨83, (client_Client.avs e5)⟩] [] fun r11 =>
 (some (aP (r11.1, r11.2.1, r11.2.2.1, r11.2.2.2)))) (fun e6 =>
 κ.t 82 aP [.ptr 2000000000 0, aA.av b0] [⟨83, (client_Client.avs e6)⟩] [] fun r12 =>
 (some (aP (r12.1, r12.2.1, r12.2.2.1, r12.2.2.2)))) (fun e7 =>
 κ.t 83 aP [.ptr 2000000000 0, aA.av b0] [⟨83, (client_Client.avs e7)⟩] [] fun r13 =>
 (some (aP (r13.1, r13.2.1, r13.2.2.1, r13.2.2.2)))) fun e8 =>
 κ.t 84 aP [.ptr 2000000000 0, aA.av b0] [⟨83, (client_Client.avs e8)⟩] [] fun r14 =>
 (some (aP (r14.1, r14.2.1, r14.2.2.1, r14.2.2.2))) := by kernel_rfl
theorem aw1 (κ : Tau) (x8 : Bool) (b0 : aA) (q0 : client_Client) : alw bO κ x8 (aA.enc b0) (client_Client.enc q0) =
 κ.t 39 aE [dIq b0.Kind] [] [] fun r1 =>
 cond (!r1) (
 (some (aP ([], [], 23, q0)))) (
 cond x8 (
 (some (aP ([], [], 23, q0)))) (
 cond (q0.state == 2) (
 cond (b0.Kind == 2) (
  (some (aP ([], [], 23, q0)))) (
 anv lab κ (aA.enc b0) (client_Client.enc q0))) (
 anv lab κ (aA.enc b0) (client_Client.enc q0)))) := by kernel_rfl
theorem zX (b0 : aA) (q0 : client_Client) : Le (Option.map aP (fT b0 q0)) (anv lab (kF 21) (aA.enc b0) (client_Client.enc q0)) := by
 refine bG (av2 _ b0 q0) ?_
 unfold fT
 refine lQ6 eX aaA (aaT _ _) (fun e3 _ => ?_) (fun e4 _ => ?_) (fun e5 _ => ?_) (fun e6 _ => ?_) (fun e7 _ => ?_) (fun e8 _ => ?_)
 ·refine lQ eX cU (abU _ _) fun r9 _ => ?_
  exact aK rfl
 ·refine lQ eX cU (abQ _ _) fun r10 _ => ?_
  exact aK rfl
 ·refine lQ eX cU (abE _ _) fun r11 _ => ?_
  exact aK rfl
 ·refine lQ eX cU (zQ _ _) fun r12 _ => ?_
  exact aK rfl
 ·refine lQ eX cU (aag _ _) fun r13 _ => ?_
  exact aK rfl
 ·refine lQ eX cU (ab6 _ _) fun r14 _ => ?_
  exact aK rfl
theorem aaG (x8 : Bool) (b0 : aA) (q0 : client_Client) : Le (Option.map aP (fU x8 b0 q0)) (alw lab (kF 21) x8 (aA.enc b0) (client_Client.enc q0)) := by
 refine bG (aw1 _ x8 b0 q0) ?_
 unfold fU
 repeat' first | (with_reducible first | refine lC ?_ ?_ | refine lQ eX aQ ?_ fun _ _ => ?_ | exact ajO _ | exact zX _ _ | refine aK ?_) | rfl | (simp only [EN, aP] <;> rfl)
theorem fV (p0 : client_Client) (p1 : aA) : Le (Option.map aP (dX p0 p1)) (aX SE 21 [.ptr 2000000000 0, aA.av p1] [⟨83, (client_Client.avs p0)⟩] []) := by
 refine bA (T21 _ p0 p1) ?_
 unfold dX
 repeat' first | (with_reducible first | refine lC ?_ ?_ | refine lQ eX aY ?_ fun _ _ => ?_ | exact rV _ | exact aaG _ _ _ | refine aK ?_) | rfl | (simp only [EN, aP] <;> rfl)
theorem T32 (κ : Tau) (p0 : List aB) : bdy κ 32 [.d (.sl aB.ks (List.map aB.enc p0))] [] [] =
 cond (List.isEmpty (List.map aB.enc p0)) (
 abw (
  (some (.ret [.row 0] [] [⟨aB.ks, 54, 112, []⟩]))) (
  cond (decide ((lM aB.enc [] + lM aB.enc p0) * 112 ≤ 140737488355328)) (
  (some (cJ (([] : List aB) ++ p0)))) none)) (
 cond (decide ((lM aB.enc [] + lM aB.enc p0) * 112 ≤ 140737488355328)) (
 (some (cJ (([] : List aB) ++ p0)))) none) := by kernel_rfl
theorem tO (p0 : List aB) : Le (Option.map cJ (dZ p0)) (aX SE 32 [.d (.sl aB.ks (List.map aB.enc p0))] [] []) := by
 refine bA (T32 _ p0) ?_
 unfold dZ
 refine lDe ?_ ?_
 ·refine alI ?_ ?_
  ·exact aK rfl
  ·refine lGe ?_
   exact aK rfl
 ·refine lGe ?_
  exact aK rfl
theorem T13 (κ : Tau) (p0 : client_Client) (p1 : aB) : bdy κ 13 [.ptr 2000000000 0, aB.av p1] [⟨83, (client_Client.avs p0)⟩] [] =
 κ.t 30 dA [aB.av p1] [] [] fun r0 =>
 κ.t 31 aH [aB.av (aB.mk r0.Topic r0.Payload r0.Level r0.Retain r0.Priority r0.Expires p0.name (w6 (p0.count + 1)) r0.Props)] [] [] fun r1 =>
 cond (r1 != 0) (
 (some (aW ([], r1, p0)))) (
 cond (decide ((lM aB.enc p0.waiting : Int) ≥ 256)) (
 (some (aW ([], 6, p0)))) (
 κ.t 32 cJ [.d (.sl aB.ks (List.map aB.enc p0.waiting))] [] [] fun r2 =>
 cond (decide ((lM aB.enc r2 + lM aB.enc [(aB.mk r0.Topic r0.Payload r0.Level r0.Retain r0.Priority r0.Expires p0.name (w6 (p0.count + 1)) r0.Props)]) * 112 ≤ 140737488355328)) (
 κ.t 33 bN [.ptr 2000000000 0, .row 2000000000] [⟨83, [dSq p0.name, dIq p0.state, dIq p0.out.Limit, .d (.sl aC.ks (List.map aC.enc p0.out.Items)), .d (.sl [.int .i64] (List.map eI p0.out.Pool.Used)), dIq p0.out.Pool.Last, .d (.sl [.int .i64] (List.map eI p0.in_.IDs)), .d (.sl aB.ks ((List.map aB.enc r2) ++ (List.map aB.enc [(aB.mk r0.Topic r0.Payload r0.Level r0.Retain r0.Priority r0.Expires p0.name (w6 (p0.count + 1)) r0.Props)]))), dIq (w6 (p0.count + 1)), dIq p0.last]⟩] [⟨aA.ks, 67, 416, (List.map aA.enc [])⟩] fun r3 =>
 (some (aW (r3.1, 0, r3.2)))) none)) := by kernel_rfl
theorem g7 (p0 : client_Client) (p1 : aB) : Le (Option.map aW (eH p0 p1)) (aX SE 13 [.ptr 2000000000 0, aB.av p1] [⟨83, (client_Client.avs p0)⟩] []) := by
 refine bA (T13 _ p0 p1) ?_
 unfold eH
 repeat' first | (with_reducible first | refine lC ?_ ?_ | refine lQ eX iG ?_ fun _ _ => ?_ | refine lQ eX aY ?_ fun _ _ => ?_ | refine lQ eX sS ?_ fun _ _ => ?_ | refine lQ eX kM ?_ fun _ _ => ?_ | refine lG ?_ ?_ | refine lD ?_ ?_ ?_ | exact kR _ | exact kT _ | exact tO _ | exact gK _ _ | refine aK ?_) | rfl | (simp only [EN]; done) | (simp only [EN]; exact gK _ _) | (simp only [EN, aW] <;> rfl)
noncomputable def aqy (L : bP) (κ : Tau) (a0 : List D) : Res := L SE (K κ) κ.Λ κ.J 9 0 [1, 1, 1, 1, 1, 1, 1, 1, 1, 1, 1, 0] (bF [(1, .ptr 1000000000 0)] [⟨83, (List.map AV.d a0)⟩] [] [] [])
noncomputable def ap0 (L : bP) (κ : Tau) (a0 : List D) : Res := L SE (K κ) κ.Λ κ.J 9 0 [1, 1, 1, 1, 1, 1, 1, 0] (bF [(1, .ptr 1000000000 0)] [⟨83, (List.map AV.d a0)⟩] [] [] [])
noncomputable def asS (L : bP) (κ : Tau) (a0 : List D) : Res := L SE (K κ) κ.Λ κ.J 9 0 [1, 1, 1, 1, 1, 0] (bF [(1, .ptr 1000000000 0)] [⟨83, (List.map AV.d a0)⟩] [] [] [])
noncomputable def as6 (L : bP) (κ : Tau) (a0 : List D) : Res := L SE (K κ) κ.Λ κ.J 9 0 [1, 1, 1, 0] (bF [(1, .ptr 1000000000 0)] [⟨83, (List.map AV.d a0)⟩] [] [] [])
theorem T9 (κ : Tau) : bdy κ 9 [] [] [] =
 κ.p 7 lI [dSq ([97] : Str), dIq 1] [] [] (fun e1 =>
 cond (e1 != 0) (
  (rB false)) (
 (rB false))) fun e2 =>
 cond (e2.1 != 0) (
 (rB false)) (
 κ.t 10 dV [.ptr 2000000000 0] [⟨83, (client_Client.avs e2.2)⟩] [] fun r3 =>
 cond r3.1 (
 (rB false)) (
 κ.t 11 cW [.ptr 2000000000 0] [⟨83, (client_Client.avs r3.2)⟩] [] fun r4 =>
 cond (r4.1 != 0) (
 (rB false)) (
 as6 lab κ (client_Client.enc r4.2)))) := by kernel_rfl
theorem av4 (κ : Tau) (b0 : client_Client) : aqy bO κ (client_Client.enc b0) =
 κ.t 21 aP [.ptr 2000000000 0, .agg [dIq 5, dIq 1, dBq false, dSq [], dSq [], dIq 0, dBq false, dIq 0, dIq 0, dSq [], dIq 0, .d (.sl aD.ks (List.map aD.enc [])), dSq [], dSq [], dBq false, dIq 0, dIq 0, dIq 0, dBq false, dIq 0, dSq [], dSq [], dIq 0, dBq false, dIq 0, dIq 0, dSq [], dIq 0, .d (.sl aD.ks (List.map aD.enc [])), dBq false, dIq 0, .d (.sl aJ.ks (List.map aJ.enc [])), .d (.sl [.str] (List.map bC [])), .d (.sl [.int .i64] (List.map eI []))]] [⟨83, (client_Client.avs b0)⟩] [] fun r11 =>
 κ.t 21 aP [.ptr 2000000000 0, .agg [dIq 7, dIq 1, dBq false, dSq [], dSq [], dIq 0, dBq false, dIq 0, dIq 0, dSq [], dIq 0, .d (.sl aD.ks (List.map aD.enc [])), dSq [], dSq [], dBq false, dIq 0, dIq 0, dIq 0, dBq false, dIq 0, dSq [], dSq [], dIq 0, dBq false, dIq 0, dIq 0, dSq [], dIq 0, .d (.sl aD.ks (List.map aD.enc [])), dBq false, dIq 0, .d (.sl aJ.ks (List.map aJ.enc [])), .d (.sl [.str] (List.map bC [])), .d (.sl [.int .i64] (List.map eI []))]] [⟨83, (client_Client.avs r11.2.2.2)⟩] [] fun r12 =>
 cond (r11.2.2.1 == 0) (
 cond (r12.2.2.1 == 0) (
  cond ((lM aA.enc r11.1 : Int) == 1) (
  cond (decide (0 ≤ 0) && decide (0 < (lM aA.enc r11.1 : Int))) (
   cond ((aM (cE aA.enc r11.1 0 0)) == 6) (
   cond ((lM aA.enc r12.1 : Int) == 1) (
    cond (decide (0 ≤ 0) && decide (0 < (lM aA.enc r12.1 : Int))) (
    cond ((aM (cE aA.enc r12.1 0 0)) == 3) (
     cond (decide (0 ≤ 0) && decide (0 < (lM aA.enc r12.1 : Int))) (
     cond ((aM (cE aA.enc r12.1 0 10)) == 2) (
      κ.t 11 cW [.ptr 2000000000 0] [⟨83, (client_Client.avs r12.2.2.2)⟩] [] fun r13 =>
      (rB (r13.1 == 1))) (
     (rB false))) none) (
    (rB false))) none) (
   (rB false))) (
   (rB false))) none) (
  (rB false))) (
 (rB false))) (
 (rB false)) := by kernel_rfl
theorem awS (κ : Tau) (b0 : client_Client) : ap0 bO κ (client_Client.enc b0) =
 κ.t 13 aW [.ptr 2000000000 0, .agg [dSq ([116] : Str), dSq [], dIq 2, dBq false, dIq 0, dIq 0, dSq [], dIq 0, .d (.sl aD.ks (List.map aD.enc []))]] [⟨83, (client_Client.avs b0)⟩] [] fun r8 =>
 κ.t 13 aW [.ptr 2000000000 0, .agg [dSq ([116] : Str), dSq [], dIq 2, dBq false, dIq 0, dIq 0, dSq [], dIq 0, .d (.sl aD.ks (List.map aD.enc []))]] [⟨83, (client_Client.avs r8.2.2)⟩] [] fun r9 =>
 cond (r8.2.1 != 0) (
 (rB false)) (
 cond (r9.2.1 != 0) (
 (rB false)) (
 cond ((lM aA.enc r8.1 : Int) != 1) (
 (rB false)) (
 cond (decide (0 ≤ 0) && decide (0 < (lM aA.enc r8.1 : Int))) (
 cond ((aM (cE aA.enc r8.1 0 1)) != 1) (
  (rB false)) (
 cond (decide (0 ≤ 0) && decide (0 < (lM aA.enc r8.1 : Int))) (
  cond (!((aV (cE aA.enc r8.1 0 9)) == ([97] : Str))) (
  (rB false)) (
  cond (decide (0 ≤ 0) && decide (0 < (lM aA.enc r8.1 : Int))) (
  cond ((aM (cE aA.enc r8.1 0 10)) != 1) (
   (rB false)) (
  cond ((lM aA.enc r9.1 : Int) != 0) (
   (rB false)) (
  κ.t 11 cW [.ptr 2000000000 0] [⟨83, (client_Client.avs r9.2.2)⟩] [] fun r10 =>
  cond (r10.1 != 2) (
   (rB false)) (
  aqy lab κ (client_Client.enc r10.2))))) none)) none)) none))) := by kernel_rfl
theorem axz (κ : Tau) (b0 : client_Client) : asS bO κ (client_Client.enc b0) =
 κ.t 21 aP [.ptr 2000000000 0, .agg [dIq 2, dIq 0, dBq false, dSq [], dSq [], dIq 0, dBq false, dIq 0, dIq 0, dSq [], dIq 0, .d (.sl aD.ks (List.map aD.enc [])), dSq [], dSq [], dBq false, dIq 0, dIq 0, dIq 0, dBq false, dIq 0, dSq [], dSq [], dIq 0, dBq false, dIq 0, dIq 0, dSq [], dIq 0, .d (.sl aD.ks (List.map aD.enc [])), dBq false, dIq 0, .d (.sl aJ.ks (List.map aJ.enc [])), .d (.sl [.str] (List.map bC [])), .d (.sl [.int .i64] (List.map eI []))]] [⟨83, (client_Client.avs b0)⟩] [] fun r6 =>
 cond (r6.2.2.1 != 0) (
 (rB false)) (
 κ.t 10 dV [.ptr 2000000000 0] [⟨83, (client_Client.avs r6.2.2.2)⟩] [] fun r7 =>
 cond (!r7.1) (
 (rB false)) (
 ap0 lab κ (client_Client.enc r7.2))) := by kernel_rfl
theorem ayk (κ : Tau) (b0 : client_Client) : as6 bO κ (client_Client.enc b0) =
 κ.t 20 aW [.ptr 2000000000 0, dBq false, .agg [dBq false, dIq 0, dSq [], dSq [], dIq 0, dBq false, dIq 0, dIq 0, dSq [], dIq 0, .d (.sl aD.ks (List.map aD.enc []))]] [⟨83, (client_Client.avs b0)⟩] [] fun r5 =>
 cond (r5.2.1 != 0) (
 (rB false)) (
 cond ((lM aA.enc r5.1 : Int) != 1) (
 (rB false)) (
 cond (decide (0 ≤ 0) && decide (0 < (lM aA.enc r5.1 : Int))) (
 cond ((aM (cE aA.enc r5.1 0 0)) != 1) (
  (rB false)) (
 cond (decide (0 ≤ 0) && decide (0 < (lM aA.enc r5.1 : Int))) (
  cond (!((aV (cE aA.enc r5.1 0 12)) == ([97] : Str))) (
  (rB false)) (
  cond (decide (0 ≤ 0) && decide (0 < (lM aA.enc r5.1 : Int))) (
  cond ((aM (cE aA.enc r5.1 0 17)) != 1) (
   (rB false)) (
  asS lab κ (client_Client.enc r5.2.2))) none)) none)) none)) := by kernel_rfl
theorem adt (b0 : client_Client) : Le (Option.map aE (tF b0)) (aqy lab (kF 9) (client_Client.enc b0)) := by
 refine bG (av4 _ b0) ?_
 unfold tF
 repeat' first | (with_reducible first | refine lC ?_ ?_ | refine lQ eX cU ?_ fun _ _ => ?_ | refine lQ eX gL ?_ fun _ _ => ?_ | refine lG ?_ ?_ | refine lD ?_ ?_ ?_ | exact fV _ _ | exact gY _ | refine aK ?_) | rfl | (simp only [EN]; done) | (simp only [EN]; exact fV _ _) | (simp only [EN, aE] <;> rfl)
theorem ads (b0 : client_Client) : Le (Option.map aE (tA b0)) (ap0 lab (kF 9) (client_Client.enc b0)) := by
 refine bG (awS _ b0) ?_
 unfold tA
 refine lQ eX cK (by (try simp only [EN]); exact g7 b0 ((aB.mk ([116] : Str) [] 2 false 0 0 [] 0 []))) fun r8 _ => ?_
 refine lQ eX cK (by (try simp only [EN]); exact g7 r8.2.2 ((aB.mk ([116] : Str) [] 2 false 0 0 [] 0 []))) fun r9 _ => ?_
 refine lC ?_ ?_
 ·exact aK rfl
 ·refine lC ?_ ?_
  ·exact aK rfl
  ·refine lDe ?_ ?_
   ·exact aK rfl
   ·refine lGe ?_
    refine lDe ?_ ?_
    ·exact aK rfl
    ·refine lGe ?_
     refine lDe ?_ ?_
     ·exact aK rfl
     ·refine lGe ?_
      refine lDe ?_ ?_
      ·exact aK rfl
      ·refine lDe ?_ ?_
       ·exact aK rfl
       ·refine lQ eX gL (gY _) fun r10 _ => ?_
        refine lC ?_ ?_
        ·exact aK rfl
        ·exact adt r10.2
theorem adT (b0 : client_Client) : Le (Option.map aE (uM b0)) (asS lab (kF 9) (client_Client.enc b0)) := by
 refine bG (axz _ b0) ?_
 unfold uM
 repeat' first | (with_reducible first | refine lC ?_ ?_ | refine lQ eX cU ?_ fun _ _ => ?_ | refine lQ eX j2 ?_ fun _ _ => ?_ | exact fV _ _ | exact kL _ | exact ads _ | refine aK ?_) | rfl | (simp only [EN]; exact fV _ _) | (simp only [EN, aE] <;> rfl)
theorem ad1 (b0 : client_Client) : Le (Option.map aE (uN b0)) (as6 lab (kF 9) (client_Client.enc b0)) := by
 refine bG (ayk _ b0) ?_
 unfold uN
 refine lQ eX cK (by (try simp only [EN]); exact oC b0 false (zWq)) fun r5 _ => ?_
 refine lC ?_ ?_
 ·exact aK rfl
 ·refine lDe ?_ ?_
  ·exact aK rfl
  ·refine lGe ?_
   refine lDe ?_ ?_
   ·exact aK rfl
   ·refine lGe ?_
    refine lDe ?_ ?_
    ·exact aK rfl
    ·refine lGe ?_
     refine lDe ?_ ?_
     ·exact aK rfl
     ·exact adT r5.2.2
theorem jQ : Le (Option.map aE (dC)) (aX SE 9 [] [] []) := by
 refine bA (T9 _) ?_
 unfold dC
 repeat' first | (with_reducible first | refine lC ?_ ?_ | refine lQp eX xA ?_ (fun _ _ => ?_) (fun _ _ => ?_) | refine lQ eX j2 ?_ fun _ _ => ?_ | refine lQ eX gL ?_ fun _ _ => ?_ | exact yF _ _ | exact kL _ | exact gY _ | exact ad1 _ | refine aK ?_) | rfl | (simp only [EN, aE] <;> rfl)
theorem T3 (κ : Tau) (p0 : Str) (p1 : Int) : bdy κ 3 [dSq p0, dIq p1] [] [] =
 κ.p 7 lI [dSq p0, dIq p1] [] [] (fun e1 =>
 κ.t 8 dQ [dSq p0, dIq p1] [] [] fun r3 =>
 cond (e1 != r3.2) (
  (rB false)) (
 cond ((e1 == 0) != false) (
  (rB false)) (
 κ.t 9 aE [] [] [] fun r4 =>
 cond r4 (
  cond (e1 != 0) (
  (rB true)) none) (
 (rB false))))) fun e2 =>
 κ.t 8 dQ [dSq p0, dIq p1] [] [] fun r5 =>
 cond (e2.1 != r5.2) (
 (rB false)) (
 cond ((e2.1 == 0) != true) (
 (rB false)) (
 κ.t 9 aE [] [] [] fun r6 =>
 cond r6 (
 cond (e2.1 != 0) (
  (rB true)) (
 κ.t 10 dV [.ptr 2000000000 0] [⟨83, (client_Client.avs e2.2)⟩] [] fun r7 =>
 cond (!r7.1) (
  κ.t 11 cW [.ptr 2000000000 0] [⟨83, (client_Client.avs r7.2)⟩] [] fun r8 =>
  (rB (r8.1 == 0))) (
 (rB false)))) (
 (rB false)))) := by kernel_rfl
theorem acr (p0 : Str) (p1 : Int) : Le (Option.map aE (n7 p0 p1)) (aX SE 3 [dSq p0, dIq p1] [] []) := by
 refine bA (T3 _ p0 p1) ?_
 unfold n7
 repeat' first | (with_reducible first | refine lF ?_ | refine lC ?_ ?_ | refine lQp eX xA ?_ (fun _ _ => ?_) (fun _ _ => ?_) | refine lQ eX aaW ?_ fun _ _ => ?_ | refine lQ eX aQ ?_ fun _ _ => ?_ | refine lQ eX j2 ?_ fun _ _ => ?_ | refine lQ eX gL ?_ fun _ _ => ?_ | exact abG _ _ | exact jQ | exact yF _ _ | exact kL _ | exact gY _ | refine aK ?_) | rfl | (simp only [EN, aE] <;> rfl)
end Te
end PX
