import Derived.Test.YtojlmojebnlmdaaGreatDoorTre2
set_option linter.unusedVariables false
set_option linter.unusedSimpArgs false
set_option maxRecDepth 100000
noncomputable section
namespace PX
open Go
open Md
namespace Te
section
variable (Γ : Fun) (γ89 γ13 : Gm (Int)) (γ145 : Gm (Int × aN × Int)) (γ146 : Gm (aC)) (Λ2 J : Lam)
def C90 : aP := aY (aY (aY (aY (aQ Γ) 89 aH γ89) 13 aH γ13) 145 eZ γ145) 146 eK γ146
theorem T90 (p0 : aI) (p1 : aA) : bF SE (C90 Γ γ89 γ13 γ145 γ146) Λ2 J 90 [aI.av p0, aA.av p1] [] [] =
 cond (p1.Level == 0) (
 (some (.ret [.agg [.d (.int .i64 0), .row 0, .row 1, .d (.int .i64 0)], .agg [.d (.int .i64 0), .d (.int .i64 0), .d (.bool false), .d (.str []), .d (.str []), .d (.int .i64 0), .d (.bool false), .d (.int .i64 0), .d (.int .i64 0), .d (.str []), .d (.int .i64 0), .d (.sl aG.ks (List.map aG.enc [])), .d (.str []), .d (.str []), .d (.bool false), .d (.int .i64 0), .d (.int .i64 0), .d (.int .i64 0), .d (.bool false), .d (.int .i64 0), .d (.str []), .d (.str []), .d (.int .i64 0), .d (.bool false), .d (.int .i64 0), .d (.int .i64 0), .d (.str []), .d (.int .i64 0), .row 2, .d (.bool false), .d (.int .i64 0), .row 3, .row 4, .row 5], .d (.int .i64 14)] [] [⟨aD.ks, 122, 128, (List.map aD.enc [])⟩, ⟨[.int .i64], 3, 8, (List.map eI [])⟩, ⟨aG.ks, 130, 32, (List.map aG.enc [])⟩, ⟨aF.ks, 60, 32, (List.map aF.enc [])⟩, ⟨[.str], 9, 16, (List.map bL [])⟩, ⟨[.int .i64], 3, 8, (List.map eI [])⟩]))) (
 γ89 [aI.av p0] [] [] fun r0 =>
 cond (r0 == 0) (
 (some (.ret [.agg [.d (.int .i64 0), .row 0, .row 1, .d (.int .i64 0)], .agg [.d (.int .i64 0), .d (.int .i64 0), .d (.bool false), .d (.str []), .d (.str []), .d (.int .i64 0), .d (.bool false), .d (.int .i64 0), .d (.int .i64 0), .d (.str []), .d (.int .i64 0), .d (.sl aG.ks (List.map aG.enc [])), .d (.str []), .d (.str []), .d (.bool false), .d (.int .i64 0), .d (.int .i64 0), .d (.int .i64 0), .d (.bool false), .d (.int .i64 0), .d (.str []), .d (.str []), .d (.int .i64 0), .d (.bool false), .d (.int .i64 0), .d (.int .i64 0), .d (.str []), .d (.int .i64 0), .row 2, .d (.bool false), .d (.int .i64 0), .row 3, .row 4, .row 5], .d (.int .i64 6)] [] [⟨aD.ks, 122, 128, (List.map aD.enc [])⟩, ⟨[.int .i64], 3, 8, (List.map eI [])⟩, ⟨aG.ks, 130, 32, (List.map aG.enc [])⟩, ⟨aF.ks, 60, 32, (List.map aF.enc [])⟩, ⟨[.str], 9, 16, (List.map bL [])⟩, ⟨[.int .i64], 3, 8, (List.map eI [])⟩]))) (
 γ13 [aA.av p1] [] [] fun r1 =>
 cond (r1 != 0) (
 (some (.ret [.agg [.d (.int .i64 0), .row 0, .row 1, .d (.int .i64 0)], .agg [.d (.int .i64 0), .d (.int .i64 0), .d (.bool false), .d (.str []), .d (.str []), .d (.int .i64 0), .d (.bool false), .d (.int .i64 0), .d (.int .i64 0), .d (.str []), .d (.int .i64 0), .d (.sl aG.ks (List.map aG.enc [])), .d (.str []), .d (.str []), .d (.bool false), .d (.int .i64 0), .d (.int .i64 0), .d (.int .i64 0), .d (.bool false), .d (.int .i64 0), .d (.str []), .d (.str []), .d (.int .i64 0), .d (.bool false), .d (.int .i64 0), .d (.int .i64 0), .d (.str []), .d (.int .i64 0), .row 2, .d (.bool false), .d (.int .i64 0), .row 3, .row 4, .row 5], .d (.int .i64 r1)] [] [⟨aD.ks, 122, 128, (List.map aD.enc [])⟩, ⟨[.int .i64], 3, 8, (List.map eI [])⟩, ⟨aG.ks, 130, 32, (List.map aG.enc [])⟩, ⟨aF.ks, 60, 32, (List.map aF.enc [])⟩, ⟨[.str], 9, 16, (List.map bL [])⟩, ⟨[.int .i64], 3, 8, (List.map eI [])⟩]))) (
 γ145 [aN.av p0.Pool] [] [] fun r2 =>
 cond (decide ((lM aD.enc [] + lM aD.enc p0.Items) * 128 ≤ 140737488355328)) (
 cond (decide ((List.length ((List.map aD.enc []) ++ (List.map aD.enc p0.Items)) + lM aD.enc [(aD.mk r2.1 1 p1)]) * 128 ≤ 140737488355328)) (
  γ146 [aD.av (aD.mk r2.1 1 p1), .d (.bool false)] [] [] fun r3 =>
  (some (.ret [.agg [.d (.int .i64 p0.Limit), .row 0, .row 1, .d (.int .i64 r2.2.1.Last)], .agg [.d (.int .i64 r3.Kind), .d (.int .i64 r3.ID), .d (.bool r3.Dup), .d (.str r3.Message.Topic), .d (.str r3.Message.Payload), .d (.int .i64 r3.Message.Level), .d (.bool r3.Message.Retain), .d (.int .i64 r3.Message.Priority), .d (.int .i64 r3.Message.Expires), .d (.str r3.Message.From), .d (.int .i64 r3.Message.Seq), .d (.sl aG.ks (List.map aG.enc r3.Message.Props)), .d (.str r3.Client), .d (.str r3.User), .d (.bool r3.Clean), .d (.int .i64 r3.Keep), .d (.int .i64 r3.Expiry), .d (.int .i64 r3.Window), .d (.bool r3.Will.Set), .d (.int .i64 r3.Will.Delay), .d (.str r3.Will.Message.Topic), .d (.str r3.Will.Message.Payload), .d (.int .i64 r3.Will.Message.Level), .d (.bool r3.Will.Message.Retain), .d (.int .i64 r3.Will.Message.Priority), .d (.int .i64 r3.Will.Message.Expires), .d (.str r3.Will.Message.From), .d (.int .i64 r3.Will.Message.Seq), .row 2, .d (.bool r3.Present), .d (.int .i64 r3.Code), .row 3, .row 4, .row 5], .d (.int .i64 0)] [] [⟨aD.ks, 122, 128, (((List.map aD.enc []) ++ (List.map aD.enc p0.Items)) ++ (List.map aD.enc [(aD.mk r2.1 1 p1)]))⟩, ⟨[.int .i64], 3, 8, (List.map eI r2.2.1.Used)⟩, ⟨aG.ks, 130, 32, (List.map aG.enc r3.Will.Message.Props)⟩, ⟨aF.ks, 60, 32, (List.map aF.enc r3.Subs)⟩, ⟨[.str], 9, 16, (List.map bL r3.Filters)⟩, ⟨[.int .i64], 3, 8, (List.map eI r3.Codes)⟩]))) none) none))) := by kernel_rfl
end
abbrev X90 : aP := C90 gG (cT 89 aH) (cT 13 aH) (cT 145 eZ) (cT 146 eK)
theorem aED : X90 = aQ gG := by unfold X90 C90; repeat rw [bB fun _ h => h]
theorem agi (p0 : aI) (p1 : aA) : Le (Option.map gS (pE p0 p1)) (bA SE 90 [aI.av p0, aA.av p1] [] []) := by
 refine aV aED rfl ?_
 refine Le.trans ?_ (le_of_eq (T90 ..).symm)
 unfold pE
 refine lC ?_ ?_
 ·exact aJ rfl
 ·refine lQ eX aS (aaF _) fun r0 _ => ?_
  refine lC ?_ ?_
  ·exact aJ rfl
  ·refine lQ eX aS (gZ _) fun r1 _ => ?_
   refine lC ?_ ?_
   ·exact aJ rfl
   ·refine lQ eX aeW (agL _) fun r2 _ => ?_
    refine lG (by simp only [EN]) ?_
    refine lG (by simp only [EN]) ?_
    refine lQ eX xK (yH _ _) fun r3 _ => ?_
    exact aJ (by first | rfl | simp only [EN, gS] <;> rfl)
def akA (C : aP) (Λ2 J : Lam) (a0 : Int) (a1 a2 : List D) (a3 : List (List D)) : Res := lab SE C Λ2 J 35 0 [1, 1, 1, 0, 0] (aW [(1, .d (.int .i64 a0)), (2, .ptr 1000000000 0), (4, .ptr 1000000001 0), (6, .row 3006)] [⟨38, (List.map AV.d a1)⟩, ⟨38, (List.map AV.d a2)⟩] [] [] [(3006, ⟨aC.ks, 49, 416, a3⟩)])
section
variable (Γ : Fun) (γ88 : Gm (Bool)) (γ53 : Gm (aB)) (γ89 : Gm (Int)) (γ90 : Gm (aI × aC × Int)) (Λ2 J : Lam)
def C35 : aP := aY (aY (aY (aY (aQ Γ) 88 aE γ88) 53 bR γ53) 89 aH γ89) 90 gS γ90
theorem T35 (p0 : aB) (p1 : Int) : bF SE (C35 Γ γ88 γ53 γ89 γ90) Λ2 J 35 [aB.av p0, .d (.int .i64 p1)] [] [] =
 cond (!p0.Online) (
 (some (.ret [aB.av p0, .row 0] [] [⟨aC.ks, 49, 416, []⟩]))) (
 akA (C35 Γ γ88 γ53 γ89 γ90) Λ2 J p1 (aB.enc p0) [D.str [], D.str [], D.bool false, D.int .i64 0, D.int .i64 0, D.int .i64 0, D.int .i64 0, D.sl aF.ks (List.map aF.enc []), D.sl aA.ks (List.map aA.enc []), D.int .i64 0, D.sl aD.ks (List.map aD.enc []), D.sl [.int .i64] (List.map eI []), D.int .i64 0, D.sl [.int .i64] (List.map eI []), D.bool false, D.int .i64 0, D.str [], D.str [], D.int .i64 0, D.bool false, D.int .i64 0, D.int .i64 0, D.str [], D.int .i64 0, D.sl aG.ks (List.map aG.enc [])] (List.map aC.enc [])) := by kernel_rfl
theorem aC7 (x1 : Int) (b0 b1 : aB) (w3006 : List aC) : bT SE (C35 Γ γ88 γ53 γ89 γ90) Λ2 J 35 0 [1, 1, 1, 0, 0] (aW [(1, .d (.int .i64 x1)), (2, .ptr 1000000000 0), (4, .ptr 1000000001 0), (6, .row 3006)] [⟨38, (List.map AV.d (aB.enc b0))⟩, ⟨38, (List.map AV.d (aB.enc b1))⟩] [] [] [(3006, ⟨aC.ks, 49, 416, (List.map aC.enc w3006)⟩)]) =
 cond (decide ((lM aA.enc b0.Queue : Int) > 0)) (
 cond (decide (0 ≤ 0) && decide (0 < (lM aA.enc b0.Queue : Int))) (
  γ88 [.agg [.d (.str (bC (cE aA.enc b0.Queue 0 0))), .d (.str (bC (cE aA.enc b0.Queue 0 1))), .d (.int .i64 (aR (cE aA.enc b0.Queue 0 2))), .d (.bool (bM (cE aA.enc b0.Queue 0 3))), .d (.int .i64 (aR (cE aA.enc b0.Queue 0 4))), .d (.int .i64 (aR (cE aA.enc b0.Queue 0 5))), .d (.str (bC (cE aA.enc b0.Queue 0 6))), .d (.int .i64 (aR (cE aA.enc b0.Queue 0 7))), .d (.sl aG.ks (dSl (cE aA.enc b0.Queue 0 8)))], .d (.int .i64 x1)] [] [] fun r0 =>
  cond r0 (
  γ53 [aB.av b0, .d (.int .i64 1)] [] [] fun r1 =>
  cond (decide (0 ≤ 1) && decide (1 ≤ ((lM aA.enc r1.Queue) : Int))) (
   akA (C35 Γ γ88 γ53 γ89 γ90) Λ2 J x1 [D.str r1.Client, D.str r1.User, D.bool r1.Online, D.int .i64 r1.Conn, D.int .i64 r1.Expiry, D.int .i64 r1.Until, D.int .i64 r1.Dropped, D.sl aF.ks (List.map aF.enc r1.Subs), D.sl aA.ks (bQ (List.map aA.enc r1.Queue) (some 1) none), D.int .i64 r1.Out.Limit, D.sl aD.ks (List.map aD.enc r1.Out.Items), D.sl [.int .i64] (List.map eI r1.Out.Pool.Used), D.int .i64 r1.Out.Pool.Last, D.sl [.int .i64] (List.map eI r1.In.IDs), D.bool r1.Will.Set, D.int .i64 r1.Will.Delay, D.str r1.Will.Message.Topic, D.str r1.Will.Message.Payload, D.int .i64 r1.Will.Message.Level, D.bool r1.Will.Message.Retain, D.int .i64 r1.Will.Message.Priority, D.int .i64 r1.Will.Message.Expires, D.str r1.Will.Message.From, D.int .i64 r1.Will.Message.Seq, D.sl aG.ks (List.map aG.enc r1.Will.Message.Props)] (aB.enc b1) (List.map aC.enc w3006)) none) (
  cond ((aR (cE aA.enc b0.Queue 0 2)) == 0) (
  cond (decide ((lM aC.enc w3006 + List.length [[D.int .i64 3, D.int .i64 0, D.bool false, D.str (bC (cE aA.enc b0.Queue 0 0)), D.str (bC (cE aA.enc b0.Queue 0 1)), D.int .i64 (aR (cE aA.enc b0.Queue 0 2)), D.bool (bM (cE aA.enc b0.Queue 0 3)), D.int .i64 (aR (cE aA.enc b0.Queue 0 4)), D.int .i64 (aR (cE aA.enc b0.Queue 0 5)), D.str (bC (cE aA.enc b0.Queue 0 6)), D.int .i64 (aR (cE aA.enc b0.Queue 0 7)), D.sl aG.ks (dSl (cE aA.enc b0.Queue 0 8)), D.str [], D.str [], D.bool false, D.int .i64 0, D.int .i64 0, D.int .i64 0, D.bool false, D.int .i64 0, D.str [], D.str [], D.int .i64 0, D.bool false, D.int .i64 0, D.int .i64 0, D.str [], D.int .i64 0, D.sl aG.ks (List.map aG.enc []), D.bool false, D.int .i64 0, D.sl aF.ks (List.map aF.enc []), D.sl [.str] (List.map bL []), D.sl [.int .i64] (List.map eI [])]]) * 416 ≤ 140737488355328)) (
   cond (decide (0 ≤ 1) && decide (1 ≤ ((lM aA.enc b0.Queue) : Int))) (
   akA (C35 Γ γ88 γ53 γ89 γ90) Λ2 J x1 [D.str b0.Client, D.str b0.User, D.bool b0.Online, D.int .i64 b0.Conn, D.int .i64 b0.Expiry, D.int .i64 b0.Until, D.int .i64 b0.Dropped, D.sl aF.ks (List.map aF.enc b0.Subs), D.sl aA.ks (bQ (List.map aA.enc b0.Queue) (some 1) none), D.int .i64 b0.Out.Limit, D.sl aD.ks (List.map aD.enc b0.Out.Items), D.sl [.int .i64] (List.map eI b0.Out.Pool.Used), D.int .i64 b0.Out.Pool.Last, D.sl [.int .i64] (List.map eI b0.In.IDs), D.bool b0.Will.Set, D.int .i64 b0.Will.Delay, D.str b0.Will.Message.Topic, D.str b0.Will.Message.Payload, D.int .i64 b0.Will.Message.Level, D.bool b0.Will.Message.Retain, D.int .i64 b0.Will.Message.Priority, D.int .i64 b0.Will.Message.Expires, D.str b0.Will.Message.From, D.int .i64 b0.Will.Message.Seq, D.sl aG.ks (List.map aG.enc b0.Will.Message.Props)] (aB.enc b1) (((List.map aC.enc w3006) ++ [[D.int .i64 3, D.int .i64 0, D.bool false, D.str (bC (cE aA.enc b0.Queue 0 0)), D.str (bC (cE aA.enc b0.Queue 0 1)), D.int .i64 (aR (cE aA.enc b0.Queue 0 2)), D.bool (bM (cE aA.enc b0.Queue 0 3)), D.int .i64 (aR (cE aA.enc b0.Queue 0 4)), D.int .i64 (aR (cE aA.enc b0.Queue 0 5)), D.str (bC (cE aA.enc b0.Queue 0 6)), D.int .i64 (aR (cE aA.enc b0.Queue 0 7)), D.sl aG.ks (dSl (cE aA.enc b0.Queue 0 8)), D.str [], D.str [], D.bool false, D.int .i64 0, D.int .i64 0, D.int .i64 0, D.bool false, D.int .i64 0, D.str [], D.str [], D.int .i64 0, D.bool false, D.int .i64 0, D.int .i64 0, D.str [], D.int .i64 0, D.sl aG.ks (List.map aG.enc []), D.bool false, D.int .i64 0, D.sl aF.ks (List.map aF.enc []), D.sl [.str] (List.map bL []), D.sl [.int .i64] (List.map eI [])]]))) none) none) (
  γ89 [aI.av b0.Out] [] [] fun r2 =>
  cond (r2 == 0) (
  (some (.ret [aB.av b0, .row 0] [] [⟨aC.ks, 49, 416, (List.map aC.enc w3006)⟩]))) (
  γ90 [aI.av b0.Out, .agg [.d (.str (bC (cE aA.enc b0.Queue 0 0))), .d (.str (bC (cE aA.enc b0.Queue 0 1))), .d (.int .i64 (aR (cE aA.enc b0.Queue 0 2))), .d (.bool (bM (cE aA.enc b0.Queue 0 3))), .d (.int .i64 (aR (cE aA.enc b0.Queue 0 4))), .d (.int .i64 (aR (cE aA.enc b0.Queue 0 5))), .d (.str (bC (cE aA.enc b0.Queue 0 6))), .d (.int .i64 (aR (cE aA.enc b0.Queue 0 7))), .d (.sl aG.ks (dSl (cE aA.enc b0.Queue 0 8)))]] [] [] fun r3 =>
  cond (decide ((lM aC.enc w3006 + lM aC.enc [r3.2.1]) * 416 ≤ 140737488355328)) (
  cond (decide (0 ≤ 1) && decide (1 ≤ ((lM aA.enc b0.Queue) : Int))) (
   akA (C35 Γ γ88 γ53 γ89 γ90) Λ2 J x1 [D.str b0.Client, D.str b0.User, D.bool b0.Online, D.int .i64 b0.Conn, D.int .i64 b0.Expiry, D.int .i64 b0.Until, D.int .i64 b0.Dropped, D.sl aF.ks (List.map aF.enc b0.Subs), D.sl aA.ks (bQ (List.map aA.enc b0.Queue) (some 1) none), D.int .i64 r3.1.Limit, D.sl aD.ks (List.map aD.enc r3.1.Items), D.sl [.int .i64] (List.map eI r3.1.Pool.Used), D.int .i64 r3.1.Pool.Last, D.sl [.int .i64] (List.map eI b0.In.IDs), D.bool b0.Will.Set, D.int .i64 b0.Will.Delay, D.str b0.Will.Message.Topic, D.str b0.Will.Message.Payload, D.int .i64 b0.Will.Message.Level, D.bool b0.Will.Message.Retain, D.int .i64 b0.Will.Message.Priority, D.int .i64 b0.Will.Message.Expires, D.str b0.Will.Message.From, D.int .i64 b0.Will.Message.Seq, D.sl aG.ks (List.map aG.enc b0.Will.Message.Props)] (aB.enc b1) (((List.map aC.enc w3006) ++ (List.map aC.enc [r3.2.1])))) none) none)))) none) (
 (some (.ret [aB.av b0, .row 0] [] [⟨aC.ks, 49, 416, (List.map aC.enc w3006)⟩]))) := by kernel_rfl
end
abbrev X35 : aP := C35 gG (cT 88 aE) (cT 53 bR) (cT 89 aH) (cT 90 gS)
theorem azB : X35 = aQ gG := by unfold X35 C35; repeat rw [bB fun _ h => h]
abbrev aCh := akA X35 (bP SE gG (SE.hl 35) (SE.hr 35)) (J0 SE X35)
theorem aeh : ∀ (fu : Nat) (x1 : Int) (b0 b1 : aB) (w3006 : List aC), Le (Option.map bK (eF fu x1 b0 b1 w3006)) (aCh x1 (aB.enc b0) (aB.enc b1) (List.map aC.enc w3006)) := by
 intro fu
 induction fu with
 | zero => intros; exact le_none
 | succ fu ih =>
  intro x1 b0 b1 w3006
  refine Le.trans ?_ (le_of_eq ((aZ azB).trans (aC7 ..)).symm)
  unfold eF
  refine lD (by simp only [EN]) ?_ ?_
  ·refine lG (by simp only [EN]) ?_
   refine lQ eX aL (by (try simp only [EN]); exact aee (List.getD b0.Queue (Int.toNat 0) default) x1) fun r0 _ => ?_
   refine lC ?_ ?_
   ·refine lQ eX dK (nW _ _) fun r1 _ => ?_
    refine lG (by simp only [EN]) ?_
    (try simp only [EN]); exact ih x1 (aB.mk r1.Client r1.User r1.Online r1.Conn r1.Expiry r1.Until r1.Dropped r1.Subs (bQ r1.Queue (some 1) none) r1.Out r1.In r1.Will) b1 w3006
   ·refine lD (by simp only [EN]) ?_ ?_
    ·refine lG (by simp only [EN]) ?_
     refine lG (by simp only [EN]) ?_
     (try simp only [EN]); exact ih x1 (aB.mk b0.Client b0.User b0.Online b0.Conn b0.Expiry b0.Until b0.Dropped b0.Subs (bQ b0.Queue (some 1) none) b0.Out b0.In b0.Will) b1 ((w3006 ++ [(aC.mk 3 0 false (List.getD b0.Queue (Int.toNat 0) default) [] [] false 0 0 0 (aT.mk false 0 (aA.mk [] [] 0 false 0 0 [] 0 [])) false 0 [] [] [])]))
    ·refine lQ eX aS (aaF _) fun r2 _ => ?_
     refine lC ?_ ?_
     ·exact aJ rfl
     ·refine lQ eX afC (by (try simp only [EN]); exact agi b0.Out (List.getD b0.Queue (Int.toNat 0) default)) fun r3 _ => ?_
      refine lG (by simp only [EN]) ?_
      refine lG (by simp only [EN]) ?_
      (try simp only [EN]); exact ih x1 (aB.mk b0.Client b0.User b0.Online b0.Conn b0.Expiry b0.Until b0.Dropped b0.Subs (bQ b0.Queue (some 1) none) r3.1 b0.In b0.Will) b1 (w3006 ++ [r3.2.1])
  ·exact aJ rfl
theorem vJ (p0 : aB) (p1 : Int) : Le (Option.map bK (gX p0 p1)) (bA SE 35 [aB.av p0, .d (.int .i64 p1)] [] []) := by
 refine aV azB rfl ?_
 refine Le.trans ?_ (le_of_eq (T35 ..).symm)
 unfold gX
 refine lC ?_ ?_
 ·exact aJ rfl
 ·(try simp only [EN]); exact aeh fuel p1 p0 ((aB.mk [] [] false 0 0 0 0 [] [] (aI.mk 0 [] (aN.mk [] 0)) (bE.mk []) (aT.mk false 0 (aA.mk [] [] 0 false 0 0 [] 0 [])))) []
section
variable (Γ : Fun) (γ92 : Gm ((List aC))) (γ35 : Gm (aB × (List aC))) (Λ2 J : Lam)
def C37 : aP := aY (aY (aQ Γ) 92 dL γ92) 35 bK γ35
theorem T37 (p0 : aB) (p1 : aC) (p2 p3 : Int) : bF SE (C37 Γ γ92 γ35) Λ2 J 37 [aB.av p0, aC.av p1, .d (.int .i64 p2), .d (.int .i64 p3)] [] [] =
 γ92 [aI.av (aI.mk p1.Window p0.Out.Items p0.Out.Pool)] [] [] fun r0 =>
 γ35 [aB.av (aB.mk p0.Client p1.User true p2 p1.Expiry 0 p0.Dropped p0.Subs p0.Queue (aI.mk p1.Window p0.Out.Items p0.Out.Pool) p0.In p1.Will), .d (.int .i64 p3)] [] [] fun r1 =>
 cond (decide ((lM aC.enc [] + lM aC.enc r0) * 416 ≤ 140737488355328)) (
 cond (decide ((List.length ((List.map aC.enc []) ++ (List.map aC.enc r0)) + lM aC.enc r1.2) * 416 ≤ 140737488355328)) (
  (some (.ret [aB.av r1.1, .row 0] [] [⟨aC.ks, 49, 416, (((List.map aC.enc []) ++ (List.map aC.enc r0)) ++ (List.map aC.enc r1.2))⟩]))) none) none := by kernel_rfl
end
abbrev X37 : aP := C37 gG (cT 92 dL) (cT 35 bK)
theorem aFi : X37 = aQ gG := by unfold X37 C37; repeat rw [bB fun _ h => h]
theorem afr (p0 : aB) (p1 : aC) (p2 p3 : Int) : Le (Option.map bK (n4 p0 p1 p2 p3)) (bA SE 37 [aB.av p0, aC.av p1, .d (.int .i64 p2), .d (.int .i64 p3)] [] []) := by
 refine aV aFi rfl ?_
 refine Le.trans ?_ (le_of_eq (T37 ..).symm)
 unfold n4
 refine lQ eX aaG (ae3 _) fun r0 _ => ?_
 refine lQ eX dX (vJ _ _) fun r1 _ => ?_
 refine lG (by simp only [EN]) ?_
 refine lG (by simp only [EN]) ?_
 exact aJ (by first | rfl | simp only [EN, bK] <;> rfl)
def arl (C : aP) (Λ2 J : Lam) (a0 a1 : List (List D)) (a2 : Int) : Res := lab SE C Λ2 J 55 0 [1, 1, 0, 1, 0] (aW [(0, .d (.sl aF.ks a0)), (1, .d (.sl aF.ks a1)), (5, .d (.int .i64 a2))] [] [] [] [])
section
variable (Γ : Fun)  (Λ2 J : Lam)
def C55 : aP := aQ Γ
theorem T55 (p0 p1 : List aF) : bF SE (C55 Γ) Λ2 J 55 [.d (.sl aF.ks (List.map aF.enc p0)), .d (.sl aF.ks (List.map aF.enc p1))] [] [] =
 cond ((lM aF.enc p0 : Int) != (lM aF.enc p1 : Int)) (
 (rB false)) (
 arl (C55 Γ) Λ2 J (List.map aF.enc p0) (List.map aF.enc p1) 0) := by kernel_rfl
theorem aAM (x0 x1 : List aF) (x5 : Int) : bT SE (C55 Γ) Λ2 J 55 0 [1, 1, 0, 1, 0] (aW [(0, .d (.sl aF.ks (List.map aF.enc x0))), (1, .d (.sl aF.ks (List.map aF.enc x1))), (5, .d (.int .i64 x5))] [] [] [] []) =
 cond (decide (x5 < (lM aF.enc x0 : Int))) (
 cond (iB x5 (lM aF.enc x0 : Int)) (
  cond (iB x5 (lM aF.enc x1 : Int)) (
  cond (!((bC (cE aF.enc x0 x5 0)) == (bC (cE aF.enc x1 x5 0)))) (
   (rB false)) (
  cond (iB x5 (lM aF.enc x0 : Int)) (
   cond (iB x5 (lM aF.enc x1 : Int)) (
   cond ((aR (cE aF.enc x0 x5 1)) != (aR (cE aF.enc x1 x5 1))) (
    (rB false)) (
   cond (iB x5 (lM aF.enc x0 : Int)) (
    cond (iB x5 (lM aF.enc x1 : Int)) (
    cond ((bM (cE aF.enc x0 x5 2)) != (bM (cE aF.enc x1 x5 2))) (
     (rB false)) (
    arl (C55 Γ) Λ2 J (List.map aF.enc x0) (List.map aF.enc x1) (w6 (x5 + 1)))) none) none)) none) none)) none) none) (
 (rB true)) := by kernel_rfl
end
abbrev X55 : aP := C55 gG
theorem ayF : X55 = aQ gG := rfl
abbrev aDc := arl X55 (bP SE gG (SE.hl 55) (SE.hr 55)) (J0 SE X55)
theorem aea : ∀ (fu : Nat) (x0 x1 : List aF) (x5 : Int), Le (Option.map aE (iT fu x0 x1 x5)) (aDc (List.map aF.enc x0) (List.map aF.enc x1) x5) := by
 intro fu
 induction fu with
 | zero => intros; exact le_none
 | succ fu ih =>
  intro x0 x1 x5
  refine Le.trans ?_ (le_of_eq ((aZ ayF).trans (aAM ..)).symm)
  unfold iT
  refine lD (by simp only [EN]) ?_ ?_
  ·refine lG (by simp only [EN]) ?_
   refine lG (by simp only [EN]) ?_
   refine lD (by simp only [EN]) ?_ ?_
   ·exact aJ rfl
   ·refine lG (by simp only [EN]) ?_
    refine lG (by simp only [EN]) ?_
    refine lD (by simp only [EN]) ?_ ?_
    ·exact aJ rfl
    ·refine lG (by simp only [EN]) ?_
     refine lG (by simp only [EN]) ?_
     refine lD (by simp only [EN]) ?_ ?_
     ·exact aJ rfl
     ·exact ih x0 x1 (w6 (x5 + 1))
  ·exact aJ rfl
theorem agJ (p0 p1 : List aF) : Le (Option.map aE (qW p0 p1)) (bA SE 55 [.d (.sl aF.ks (List.map aF.enc p0)), .d (.sl aF.ks (List.map aF.enc p1))] [] []) := by
 refine aV ayF rfl ?_
 refine Le.trans ?_ (le_of_eq (T55 ..).symm)
 unfold qW
 refine lD (by simp only [EN]) ?_ ?_
 ·exact aJ rfl
 ·exact aea fuel p0 p1 0
def ark (C : aP) (Λ2 J : Lam) (a0 a1 : List (List D)) (a2 : Int) : Res := lab SE C Λ2 J 56 0 [1, 1, 0, 1, 0] (aW [(0, .d (.sl aA.ks a0)), (1, .d (.sl aA.ks a1)), (5, .d (.int .i64 a2))] [] [] [] [])
section
variable (Γ : Fun) (γ97 : Gm (Bool)) (Λ2 J : Lam)
def C56 : aP := aY (aQ Γ) 97 aE γ97
theorem T56 (p0 p1 : List aA) : bF SE (C56 Γ γ97) Λ2 J 56 [.d (.sl aA.ks (List.map aA.enc p0)), .d (.sl aA.ks (List.map aA.enc p1))] [] [] =
 cond ((lM aA.enc p0 : Int) != (lM aA.enc p1 : Int)) (
 (rB false)) (
 ark (C56 Γ γ97) Λ2 J (List.map aA.enc p0) (List.map aA.enc p1) 0) := by kernel_rfl
theorem aBC (x0 x1 : List aA) (x5 : Int) : bT SE (C56 Γ γ97) Λ2 J 56 0 [1, 1, 0, 1, 0] (aW [(0, .d (.sl aA.ks (List.map aA.enc x0))), (1, .d (.sl aA.ks (List.map aA.enc x1))), (5, .d (.int .i64 x5))] [] [] [] []) =
 cond (decide (x5 < (lM aA.enc x0 : Int))) (
 cond (iB x5 (lM aA.enc x0 : Int)) (
  cond (iB x5 (lM aA.enc x1 : Int)) (
  γ97 [.agg [.d (.str (bC (cE aA.enc x0 x5 0))), .d (.str (bC (cE aA.enc x0 x5 1))), .d (.int .i64 (aR (cE aA.enc x0 x5 2))), .d (.bool (bM (cE aA.enc x0 x5 3))), .d (.int .i64 (aR (cE aA.enc x0 x5 4))), .d (.int .i64 (aR (cE aA.enc x0 x5 5))), .d (.str (bC (cE aA.enc x0 x5 6))), .d (.int .i64 (aR (cE aA.enc x0 x5 7))), .d (.sl aG.ks (dSl (cE aA.enc x0 x5 8)))], .agg [.d (.str (bC (cE aA.enc x1 x5 0))), .d (.str (bC (cE aA.enc x1 x5 1))), .d (.int .i64 (aR (cE aA.enc x1 x5 2))), .d (.bool (bM (cE aA.enc x1 x5 3))), .d (.int .i64 (aR (cE aA.enc x1 x5 4))), .d (.int .i64 (aR (cE aA.enc x1 x5 5))), .d (.str (bC (cE aA.enc x1 x5 6))), .d (.int .i64 (aR (cE aA.enc x1 x5 7))), .d (.sl aG.ks (dSl (cE aA.enc x1 x5 8)))]] [] [] fun r0 =>
  cond (!r0) (
   (rB false)) (
  ark (C56 Γ γ97) Λ2 J (List.map aA.enc x0) (List.map aA.enc x1) (w6 (x5 + 1)))) none) none) (
 (rB true)) := by kernel_rfl
end
abbrev X56 : aP := C56 gG (cT 97 aE)
theorem axC : X56 = aQ gG := by unfold X56 C56; rw [bB fun _ h => h]
abbrev aA6 := ark X56 (bP SE gG (SE.hl 56) (SE.hr 56)) (J0 SE X56)
theorem aev : ∀ (fu : Nat) (x0 x1 : List aA) (x5 : Int), Le (Option.map aE (iN fu x0 x1 x5)) (aA6 (List.map aA.enc x0) (List.map aA.enc x1) x5) := by
 intro fu
 induction fu with
 | zero => intros; exact le_none
 | succ fu ih =>
  intro x0 x1 x5
  refine Le.trans ?_ (le_of_eq ((aZ axC).trans (aBC ..)).symm)
  unfold iN
  refine lD (by simp only [EN]) ?_ ?_
  ·refine lG (by simp only [EN]) ?_
   refine lG (by simp only [EN]) ?_
   refine lQ eX aL (by (try simp only [EN]); exact iL (List.getD x0 (Int.toNat x5) default) (List.getD x1 (Int.toNat x5) default)) fun r0 _ => ?_
   refine lC ?_ ?_
   ·exact aJ rfl
   ·exact ih x0 x1 (w6 (x5 + 1))
  ·exact aJ rfl
theorem ag7 (p0 p1 : List aA) : Le (Option.map aE (kS p0 p1)) (bA SE 56 [.d (.sl aA.ks (List.map aA.enc p0)), .d (.sl aA.ks (List.map aA.enc p1))] [] []) := by
 refine aV axC rfl ?_
 refine Le.trans ?_ (le_of_eq (T56 ..).symm)
 unfold kS
 refine lD (by simp only [EN]) ?_ ?_
 ·exact aJ rfl
 ·exact aev fuel p0 p1 0
def anU (C : aP) (Λ2 J : Lam) (a0 a1 : List (List D)) (a2 : Int) : Res := lab SE C Λ2 J 108 0 [1, 1, 0, 1, 0] (aW [(0, .d (.sl [.int .i64] a0)), (1, .d (.sl [.int .i64] a1)), (5, .d (.int .i64 a2))] [] [] [] [])
section
variable (Γ : Fun)  (Λ2 J : Lam)
def aoQ : aP := aQ Γ
theorem aEq (p0 p1 : List Int) : bF SE (aoQ Γ) Λ2 J 108 [.d (.sl [.int .i64] (List.map eI p0)), .d (.sl [.int .i64] (List.map eI p1))] [] [] =
 cond ((lM eI p0 : Int) != (lM eI p1 : Int)) (
 (rB false)) (
 anU (aoQ Γ) Λ2 J (List.map eI p0) (List.map eI p1) 0) := by kernel_rfl
theorem aAi (x0 x1 : List Int) (x5 : Int) : bT SE (aoQ Γ) Λ2 J 108 0 [1, 1, 0, 1, 0] (aW [(0, .d (.sl [.int .i64] (List.map eI x0))), (1, .d (.sl [.int .i64] (List.map eI x1))), (5, .d (.int .i64 x5))] [] [] [] []) =
 cond (decide (x5 < (lM eI x0 : Int))) (
 cond (iB x5 (lM eI x0 : Int)) (
  cond (iB x5 (lM eI x1 : Int)) (
  cond ((aR (cE eI x0 x5 0)) != (aR (cE eI x1 x5 0))) (
   (rB false)) (
  anU (aoQ Γ) Λ2 J (List.map eI x0) (List.map eI x1) (w6 (x5 + 1)))) none) none) (
 (rB true)) := by kernel_rfl
end
abbrev atY : aP := aoQ gG
theorem avh : atY = aQ gG := rfl
abbrev aAw := anU atY (bP SE gG (SE.hl 108) (SE.hr 108)) (J0 SE atY)
theorem aey : ∀ (fu : Nat) (x0 x1 : List Int) (x5 : Int), Le (Option.map aE (iK fu x0 x1 x5)) (aAw (List.map eI x0) (List.map eI x1) x5) := by
 intro fu
 induction fu with
 | zero => intros; exact le_none
 | succ fu ih =>
  intro x0 x1 x5
  refine Le.trans ?_ (le_of_eq ((aZ avh).trans (aAi ..)).symm)
  unfold iK
  refine lD (by simp only [EN]) ?_ ?_
  ·refine lG (by simp only [EN]) ?_
   refine lG (by simp only [EN]) ?_
   refine lD (by simp only [EN]) ?_ ?_
   ·exact aJ rfl
   ·exact ih x0 x1 (w6 (x5 + 1))
  ·exact aJ rfl
theorem aaD (p0 p1 : List Int) : Le (Option.map aE (nM p0 p1)) (bA SE 108 [.d (.sl [.int .i64] (List.map eI p0)), .d (.sl [.int .i64] (List.map eI p1))] [] []) := by
 refine aV avh rfl ?_
 refine Le.trans ?_ (le_of_eq (aEq ..).symm)
 unfold nM
 refine lD (by simp only [EN]) ?_ ?_
 ·exact aJ rfl
 ·exact aey fuel p0 p1 0
section
variable (Γ : Fun) (γ108 : Gm (Bool)) (Λ2 J : Lam)
def at6 : aP := aY (aQ Γ) 108 aE γ108
theorem aFj (p0 p1 : aN) : bF SE (at6 Γ γ108) Λ2 J 107 [aN.av p0, aN.av p1] [] [] =
 cond (p0.Last == p1.Last) (
 γ108 [.d (.sl [.int .i64] (List.map eI p0.Used)), .d (.sl [.int .i64] (List.map eI p1.Used))] [] [] fun r0 =>
 (rB r0)) (
 (rB false)) := by kernel_rfl
end
abbrev ayE : aP := at6 gG (cT 108 aE)
theorem aCC : ayE = aQ gG := by unfold ayE at6; rw [bB fun _ h => h]
theorem agY (p0 p1 : aN) : Le (Option.map aE (uE p0 p1)) (bA SE 107 [aN.av p0, aN.av p1] [] []) := by
 refine aV aCC rfl ?_
 refine Le.trans ?_ (le_of_eq (aFj ..).symm)
 unfold uE
 refine lC ?_ ?_
 ·refine lQ eX aL (aaD _ _) fun r0 _ => ?_
  exact aJ rfl
 ·exact aJ rfl
def aqD (C : aP) (Λ2 J : Lam) (a0 : Int) (a1 a2 : List D) : Res := lab SE C Λ2 J 57 0 [1, 1, 0, 1, 0] (aW [(2, .ptr 1000000000 0), (3, .ptr 1000000001 0), (5, .d (.int .i64 a0))] [⟨29, (List.map AV.d a1)⟩, ⟨29, (List.map AV.d a2)⟩] [] [] [])
def avv (C : aP) (Λ2 J : Lam) (a0 a1 : List D) : Res := lab SE C Λ2 J 57 0 [1, 1, 0, 0] (aW [(2, .ptr 1000000000 0), (3, .ptr 1000000001 0)] [⟨29, (List.map AV.d a0)⟩, ⟨29, (List.map AV.d a1)⟩] [] [] [])
section
variable (Γ : Fun) (γ107 γ97 : Gm (Bool)) (Λ2 J : Lam)
def C57 : aP := aY (aY (aQ Γ) 107 aE γ107) 97 aE γ97
theorem T57 (p0 p1 : aI) : bF SE (C57 Γ γ107 γ97) Λ2 J 57 [aI.av p0, aI.av p1] [] [] =
 cond (p0.Limit != p1.Limit) (
 (rB false)) (
 γ107 [aN.av p0.Pool, aN.av p1.Pool] [] [] fun r0 =>
 cond (!r0) (
 (rB false)) (
 cond ((lM aD.enc p0.Items : Int) != (lM aD.enc p1.Items : Int)) (
 (rB false)) (
 avv (C57 Γ γ107 γ97) Λ2 J (aI.enc p0) (aI.enc p1)))) := by kernel_rfl
theorem aCX (x5 : Int) (b0 b1 : aI) : bT SE (C57 Γ γ107 γ97) Λ2 J 57 0 [1, 1, 0, 1, 0] (aW [(2, .ptr 1000000000 0), (3, .ptr 1000000001 0), (5, .d (.int .i64 x5))] [⟨29, (List.map AV.d (aI.enc b0))⟩, ⟨29, (List.map AV.d (aI.enc b1))⟩] [] [] []) =
 cond (decide (x5 < (lM aD.enc b0.Items : Int))) (
 cond (iB x5 (lM aD.enc b0.Items : Int)) (
  cond (iB x5 (lM aD.enc b1.Items : Int)) (
  cond ((aR (cE aD.enc b0.Items x5 0)) != (aR (cE aD.enc b1.Items x5 0))) (
   (rB false)) (
  cond (iB x5 (lM aD.enc b0.Items : Int)) (
   cond (iB x5 (lM aD.enc b1.Items : Int)) (
   cond ((aR (cE aD.enc b0.Items x5 1)) != (aR (cE aD.enc b1.Items x5 1))) (
    (rB false)) (
   cond (iB x5 (lM aD.enc b0.Items : Int)) (
    cond (iB x5 (lM aD.enc b1.Items : Int)) (
    γ97 [.agg [.d (.str (bC (cE aD.enc b0.Items x5 2))), .d (.str (bC (cE aD.enc b0.Items x5 3))), .d (.int .i64 (aR (cE aD.enc b0.Items x5 4))), .d (.bool (bM (cE aD.enc b0.Items x5 5))), .d (.int .i64 (aR (cE aD.enc b0.Items x5 6))), .d (.int .i64 (aR (cE aD.enc b0.Items x5 7))), .d (.str (bC (cE aD.enc b0.Items x5 8))), .d (.int .i64 (aR (cE aD.enc b0.Items x5 9))), .d (.sl aG.ks (dSl (cE aD.enc b0.Items x5 10)))], .agg [.d (.str (bC (cE aD.enc b1.Items x5 2))), .d (.str (bC (cE aD.enc b1.Items x5 3))), .d (.int .i64 (aR (cE aD.enc b1.Items x5 4))), .d (.bool (bM (cE aD.enc b1.Items x5 5))), .d (.int .i64 (aR (cE aD.enc b1.Items x5 6))), .d (.int .i64 (aR (cE aD.enc b1.Items x5 7))), .d (.str (bC (cE aD.enc b1.Items x5 8))), .d (.int .i64 (aR (cE aD.enc b1.Items x5 9))), .d (.sl aG.ks (dSl (cE aD.enc b1.Items x5 10)))]] [] [] fun r1 =>
    cond (!r1) (
     (rB false)) (
    aqD (C57 Γ γ107 γ97) Λ2 J (w6 (x5 + 1)) (aI.enc b0) (aI.enc b1))) none) none)) none) none)) none) none) (
 (rB true)) := by kernel_rfl
theorem aBQ (b0 b1 : aI) : bT SE (C57 Γ γ107 γ97) Λ2 J 57 0 [1, 1, 0, 0] (aW [(2, .ptr 1000000000 0), (3, .ptr 1000000001 0)] [⟨29, (List.map AV.d (aI.enc b0))⟩, ⟨29, (List.map AV.d (aI.enc b1))⟩] [] [] []) =
 aqD (C57 Γ γ107 γ97) Λ2 J 0 (aI.enc b0) (aI.enc b1) := by kernel_rfl
end
abbrev X57 : aP := C57 gG (cT 107 aE) (cT 97 aE)
theorem auQ : X57 = aQ gG := by unfold X57 C57; repeat rw [bB fun _ h => h]
abbrev aCe := aqD X57 (bP SE gG (SE.hl 57) (SE.hr 57)) (J0 SE X57)
abbrev aAU := avv X57 (bP SE gG (SE.hl 57) (SE.hr 57)) (J0 SE X57)
theorem aeM : ∀ (fu : Nat) (x5 : Int) (b0 b1 : aI), Le (Option.map aE (iR fu x5 b0 b1)) (aCe x5 (aI.enc b0) (aI.enc b1)) := by
 intro fu
 induction fu with
 | zero => intros; exact le_none
 | succ fu ih =>
  intro x5 b0 b1
  refine Le.trans ?_ (le_of_eq ((aZ auQ).trans (aCX ..)).symm)
  unfold iR
  refine lD (by simp only [EN]) ?_ ?_
  ·refine lG (by simp only [EN]) ?_
   refine lG (by simp only [EN]) ?_
   refine lD (by simp only [EN]) ?_ ?_
   ·exact aJ rfl
   ·refine lG (by simp only [EN]) ?_
    refine lG (by simp only [EN]) ?_
    refine lD (by simp only [EN]) ?_ ?_
    ·exact aJ rfl
    ·refine lG (by simp only [EN]) ?_
     refine lG (by simp only [EN]) ?_
     refine lQ eX aL (by (try simp only [EN]); exact iL ((List.getD b0.Items (Int.toNat x5) default).Message) ((List.getD b1.Items (Int.toNat x5) default).Message)) fun r1 _ => ?_
     refine lC ?_ ?_
     ·exact aJ rfl
     ·exact ih (w6 (x5 + 1)) b0 b1
  ·exact aJ rfl
theorem aeL (b0 b1 : aI) : Le (Option.map aE (rJ b0 b1)) (aAU (aI.enc b0) (aI.enc b1)) := by
 refine Le.trans ?_ (le_of_eq ((aZ auQ).trans (aBQ ..)).symm)
 unfold rJ
 exact aeM fuel 0 b0 b1
theorem agK (p0 p1 : aI) : Le (Option.map aE (qI p0 p1)) (bA SE 57 [aI.av p0, aI.av p1] [] []) := by
 refine aV auQ rfl ?_
 refine Le.trans ?_ (le_of_eq (T57 ..).symm)
 unfold qI
 refine lC ?_ ?_
 ·exact aJ rfl
 ·refine lQ eX aL (agY _ _) fun r0 _ => ?_
  refine lC ?_ ?_
  ·exact aJ rfl
  ·refine lD (by simp only [EN]) ?_ ?_
   ·exact aJ rfl
   ·exact aeL p0 p1
section
variable (Γ : Fun) (γ108 : Gm (Bool)) (Λ2 J : Lam)
def C58 : aP := aY (aQ Γ) 108 aE γ108
theorem T58 (p0 p1 : bE) : bF SE (C58 Γ γ108) Λ2 J 58 [bE.av p0, bE.av p1] [] [] =
 γ108 [.d (.sl [.int .i64] (List.map eI p0.IDs)), .d (.sl [.int .i64] (List.map eI p1.IDs))] [] [] fun r0 =>
 (rB r0) := by kernel_rfl
end
abbrev X58 : aP := C58 gG (cT 108 aE)
theorem aFR : X58 = aQ gG := by unfold X58 C58; rw [bB fun _ h => h]
theorem agQ (p0 p1 : bE) : Le (Option.map aE (uC p0 p1)) (bA SE 58 [bE.av p0, bE.av p1] [] []) := by
 refine aV aFR rfl ?_
 refine Le.trans ?_ (le_of_eq (T58 ..).symm)
 unfold uC
 refine lQ eX aL (aaD _ _) fun r0 _ => ?_
 exact aJ rfl
section
variable (Γ : Fun) (γ97 : Gm (Bool)) (Λ2 J : Lam)
def C59 : aP := aY (aQ Γ) 97 aE γ97
theorem T59 (p0 p1 : aT) : bF SE (C59 Γ γ97) Λ2 J 59 [aT.av p0, aT.av p1] [] [] =
 cond (p0.Set == p1.Set) (
 cond (p0.Delay == p1.Delay) (
  γ97 [aA.av p0.Message, aA.av p1.Message] [] [] fun r0 =>
  (rB r0)) (
 (rB false))) (
 (rB false)) := by kernel_rfl
end
abbrev X59 : aP := C59 gG (cT 97 aE)
theorem aDW : X59 = aQ gG := by unfold X59 C59; rw [bB fun _ h => h]
theorem ag4 (p0 p1 : aT) : Le (Option.map aE (uH p0 p1)) (bA SE 59 [aT.av p0, aT.av p1] [] []) := by
 refine aV aDW rfl ?_
 refine Le.trans ?_ (le_of_eq (T59 ..).symm)
 unfold uH
 refine lC ?_ ?_
 ·refine lC ?_ ?_
  ·refine lQ eX aL (iL _ _) fun r0 _ => ?_
   exact aJ rfl
  ·exact aJ rfl
 ·exact aJ rfl
section
variable (Γ : Fun) (γ55 γ56 γ57 γ58 γ59 : Gm (Bool)) (Λ2 J : Lam)
def C17 : aP := aY (aY (aY (aY (aY (aQ Γ) 55 aE γ55) 56 aE γ56) 57 aE γ57) 58 aE γ58) 59 aE γ59
theorem T17 (p0 p1 : aB) : bF SE (C17 Γ γ55 γ56 γ57 γ58 γ59) Λ2 J 17 [aB.av p0, aB.av p1] [] [] =
 cond (p0.Client == p1.Client) (
 cond (p0.User == p1.User) (
  cond (p0.Online == p1.Online) (
  cond (p0.Conn == p1.Conn) (
   cond (p0.Expiry == p1.Expiry) (
   cond (p0.Until == p1.Until) (
    cond (p0.Dropped == p1.Dropped) (
    γ55 [.d (.sl aF.ks (List.map aF.enc p0.Subs)), .d (.sl aF.ks (List.map aF.enc p1.Subs))] [] [] fun r0 =>
    cond r0 (
     γ56 [.d (.sl aA.ks (List.map aA.enc p0.Queue)), .d (.sl aA.ks (List.map aA.enc p1.Queue))] [] [] fun r1 =>
     cond r1 (
     γ57 [aI.av p0.Out, aI.av p1.Out] [] [] fun r2 =>
     cond r2 (
      γ58 [bE.av p0.In, bE.av p1.In] [] [] fun r3 =>
      cond r3 (
      γ59 [aT.av p0.Will, aT.av p1.Will] [] [] fun r4 =>
      (rB r4)) (
      (rB false))) (
     (rB false))) (
     (rB false))) (
    (rB false))) (
    (rB false))) (
   (rB false))) (
   (rB false))) (
  (rB false))) (
  (rB false))) (
 (rB false))) (
 (rB false)) := by kernel_rfl
end
abbrev X17 : aP := C17 gG (cT 55 aE) (cT 56 aE) (cT 57 aE) (cT 58 aE) (cT 59 aE)
theorem aFN : X17 = aQ gG := by unfold X17 C17; repeat rw [bB fun _ h => h]
theorem gJ (p0 p1 : aB) : Le (Option.map aE (eH p0 p1)) (bA SE 17 [aB.av p0, aB.av p1] [] []) := by
 refine aV aFN rfl ?_
 refine Le.trans ?_ (le_of_eq (T17 ..).symm)
 unfold eH
 refine lC ?_ ?_
 ·refine lC ?_ ?_
  ·refine lC ?_ ?_
   ·refine lC ?_ ?_
    ·refine lC ?_ ?_
     ·refine lC ?_ ?_
      ·refine lC ?_ ?_
       ·refine lQ eX aL (agJ _ _) fun r0 _ => ?_
        refine lC ?_ ?_
        ·refine lQ eX aL (ag7 _ _) fun r1 _ => ?_
         refine lC ?_ ?_
         ·refine lQ eX aL (agK _ _) fun r2 _ => ?_
          refine lC ?_ ?_
          ·refine lQ eX aL (agQ _ _) fun r3 _ => ?_
           refine lC ?_ ?_
           ·refine lQ eX aL (ag4 _ _) fun r4 _ => ?_
            exact aJ rfl
           ·exact aJ rfl
          ·exact aJ rfl
         ·exact aJ rfl
        ·exact aJ rfl
       ·exact aJ rfl
      ·exact aJ rfl
     ·exact aJ rfl
    ·exact aJ rfl
   ·exact aJ rfl
  ·exact aJ rfl
 ·exact aJ rfl
def aro (C : aP) (Λ2 J : Lam) (a0 a1 : List (List D)) (a2 : Int) : Res := lab SE C Λ2 J 21 0 [1, 1, 0, 1, 0] (aW [(0, .d (.sl aC.ks a0)), (1, .d (.sl aC.ks a1)), (5, .d (.int .i64 a2))] [] [] [] [])
section
variable (Γ : Fun) (γ63 : Gm (Bool)) (Λ2 J : Lam)
def C21 : aP := aY (aQ Γ) 63 aE γ63
theorem T21 (p0 p1 : List aC) : bF SE (C21 Γ γ63) Λ2 J 21 [.d (.sl aC.ks (List.map aC.enc p0)), .d (.sl aC.ks (List.map aC.enc p1))] [] [] =
 cond ((lM aC.enc p0 : Int) != (lM aC.enc p1 : Int)) (
 (rB false)) (
 aro (C21 Γ γ63) Λ2 J (List.map aC.enc p0) (List.map aC.enc p1) 0) := by kernel_rfl
theorem aC4 (x0 x1 : List aC) (x5 : Int) : bT SE (C21 Γ γ63) Λ2 J 21 0 [1, 1, 0, 1, 0] (aW [(0, .d (.sl aC.ks (List.map aC.enc x0))), (1, .d (.sl aC.ks (List.map aC.enc x1))), (5, .d (.int .i64 x5))] [] [] [] []) =
 cond (decide (x5 < (lM aC.enc x0 : Int))) (
 cond (iB x5 (lM aC.enc x0 : Int)) (
  cond (iB x5 (lM aC.enc x1 : Int)) (
  γ63 [.agg [.d (.int .i64 (aR (cE aC.enc x0 x5 0))), .d (.int .i64 (aR (cE aC.enc x0 x5 1))), .d (.bool (bM (cE aC.enc x0 x5 2))), .d (.str (bC (cE aC.enc x0 x5 3))), .d (.str (bC (cE aC.enc x0 x5 4))), .d (.int .i64 (aR (cE aC.enc x0 x5 5))), .d (.bool (bM (cE aC.enc x0 x5 6))), .d (.int .i64 (aR (cE aC.enc x0 x5 7))), .d (.int .i64 (aR (cE aC.enc x0 x5 8))), .d (.str (bC (cE aC.enc x0 x5 9))), .d (.int .i64 (aR (cE aC.enc x0 x5 10))), .d (.sl aG.ks (dSl (cE aC.enc x0 x5 11))), .d (.str (bC (cE aC.enc x0 x5 12))), .d (.str (bC (cE aC.enc x0 x5 13))), .d (.bool (bM (cE aC.enc x0 x5 14))), .d (.int .i64 (aR (cE aC.enc x0 x5 15))), .d (.int .i64 (aR (cE aC.enc x0 x5 16))), .d (.int .i64 (aR (cE aC.enc x0 x5 17))), .d (.bool (bM (cE aC.enc x0 x5 18))), .d (.int .i64 (aR (cE aC.enc x0 x5 19))), .d (.str (bC (cE aC.enc x0 x5 20))), .d (.str (bC (cE aC.enc x0 x5 21))), .d (.int .i64 (aR (cE aC.enc x0 x5 22))), .d (.bool (bM (cE aC.enc x0 x5 23))), .d (.int .i64 (aR (cE aC.enc x0 x5 24))), .d (.int .i64 (aR (cE aC.enc x0 x5 25))), .d (.str (bC (cE aC.enc x0 x5 26))), .d (.int .i64 (aR (cE aC.enc x0 x5 27))), .d (.sl aG.ks (dSl (cE aC.enc x0 x5 28))), .d (.bool (bM (cE aC.enc x0 x5 29))), .d (.int .i64 (aR (cE aC.enc x0 x5 30))), .d (.sl aF.ks (dSl (cE aC.enc x0 x5 31))), .d (.sl [.str] (dSl (cE aC.enc x0 x5 32))), .d (.sl [.int .i64] (dSl (cE aC.enc x0 x5 33)))], .agg [.d (.int .i64 (aR (cE aC.enc x1 x5 0))), .d (.int .i64 (aR (cE aC.enc x1 x5 1))), .d (.bool (bM (cE aC.enc x1 x5 2))), .d (.str (bC (cE aC.enc x1 x5 3))), .d (.str (bC (cE aC.enc x1 x5 4))), .d (.int .i64 (aR (cE aC.enc x1 x5 5))), .d (.bool (bM (cE aC.enc x1 x5 6))), .d (.int .i64 (aR (cE aC.enc x1 x5 7))), .d (.int .i64 (aR (cE aC.enc x1 x5 8))), .d (.str (bC (cE aC.enc x1 x5 9))), .d (.int .i64 (aR (cE aC.enc x1 x5 10))), .d (.sl aG.ks (dSl (cE aC.enc x1 x5 11))), .d (.str (bC (cE aC.enc x1 x5 12))), .d (.str (bC (cE aC.enc x1 x5 13))), .d (.bool (bM (cE aC.enc x1 x5 14))), .d (.int .i64 (aR (cE aC.enc x1 x5 15))), .d (.int .i64 (aR (cE aC.enc x1 x5 16))), .d (.int .i64 (aR (cE aC.enc x1 x5 17))), .d (.bool (bM (cE aC.enc x1 x5 18))), .d (.int .i64 (aR (cE aC.enc x1 x5 19))), .d (.str (bC (cE aC.enc x1 x5 20))), .d (.str (bC (cE aC.enc x1 x5 21))), .d (.int .i64 (aR (cE aC.enc x1 x5 22))), .d (.bool (bM (cE aC.enc x1 x5 23))), .d (.int .i64 (aR (cE aC.enc x1 x5 24))), .d (.int .i64 (aR (cE aC.enc x1 x5 25))), .d (.str (bC (cE aC.enc x1 x5 26))), .d (.int .i64 (aR (cE aC.enc x1 x5 27))), .d (.sl aG.ks (dSl (cE aC.enc x1 x5 28))), .d (.bool (bM (cE aC.enc x1 x5 29))), .d (.int .i64 (aR (cE aC.enc x1 x5 30))), .d (.sl aF.ks (dSl (cE aC.enc x1 x5 31))), .d (.sl [.str] (dSl (cE aC.enc x1 x5 32))), .d (.sl [.int .i64] (dSl (cE aC.enc x1 x5 33)))]] [] [] fun r0 =>
  cond (!r0) (
   (rB false)) (
  aro (C21 Γ γ63) Λ2 J (List.map aC.enc x0) (List.map aC.enc x1) (w6 (x5 + 1)))) none) none) (
 (rB true)) := by kernel_rfl
end
abbrev X21 : aP := C21 gG (cT 63 aE)
theorem ax2 : X21 = aQ gG := by unfold X21 C21; rw [bB fun _ h => h]
abbrev aBI := aro X21 (bP SE gG (SE.hl 21) (SE.hr 21)) (J0 SE X21)
theorem abY : ∀ (fu : Nat) (x0 x1 : List aC) (x5 : Int), Le (Option.map aE (gD fu x0 x1 x5)) (aBI (List.map aC.enc x0) (List.map aC.enc x1) x5) := by
 intro fu
 induction fu with
 | zero => intros; exact le_none
 | succ fu ih =>
  intro x0 x1 x5
  refine Le.trans ?_ (le_of_eq ((aZ ax2).trans (aC4 ..)).symm)
  unfold gD
  refine lD (by simp only [EN]) ?_ ?_
  ·refine lG (by simp only [EN]) ?_
   refine lG (by simp only [EN]) ?_
   refine lQ eX aL (by (try simp only [EN]); exact aaJ (List.getD x0 (Int.toNat x5) default) (List.getD x1 (Int.toNat x5) default)) fun r0 _ => ?_
   refine lC ?_ ?_
   ·exact aJ rfl
   ·exact ih x0 x1 (w6 (x5 + 1))
  ·exact aJ rfl
theorem sV (p0 p1 : List aC) : Le (Option.map aE (iQ p0 p1)) (bA SE 21 [.d (.sl aC.ks (List.map aC.enc p0)), .d (.sl aC.ks (List.map aC.enc p1))] [] []) := by
 refine aV ax2 rfl ?_
 refine Le.trans ?_ (le_of_eq (T21 ..).symm)
 unfold iQ
 refine lD (by simp only [EN]) ?_ ?_
 ·exact aJ rfl
 ·exact abY fuel p0 p1 0
def anc (C : aP) (Λ2 J : Lam) (a0 a1 : Int) (a2 a3 : List D) (a4 : List (List D)) : Res := lab SE C Λ2 J 38 0 [1, 1, 0, 1, 0] (aW [(1, .d (.int .i64 a0)), (2, .ptr 1000000000 0), (4, .ptr 1000000001 0), (5, .row 3005), (6, .d (.int .i64 a1))] [⟨38, (List.map AV.d a2)⟩, ⟨38, (List.map AV.d a3)⟩] [] [] [(3005, ⟨aA.ks, 34, 112, a4⟩)])
section
variable (Γ : Fun) (γ53 : Gm (aB)) (Λ2 J : Lam)
def C38 : aP := aY (aQ Γ) 53 bR γ53
theorem T38 (p0 : aB) (p1 : Int) : bF SE (C38 Γ γ53) Λ2 J 38 [aB.av p0, .d (.int .i64 p1)] [] [] =
 anc (C38 Γ γ53) Λ2 J p1 0 (aB.enc p0) [D.str [], D.str [], D.bool false, D.int .i64 0, D.int .i64 0, D.int .i64 0, D.int .i64 0, D.sl aF.ks (List.map aF.enc []), D.sl aA.ks (List.map aA.enc []), D.int .i64 0, D.sl aD.ks (List.map aD.enc []), D.sl [.int .i64] (List.map eI []), D.int .i64 0, D.sl [.int .i64] (List.map eI []), D.bool false, D.int .i64 0, D.str [], D.str [], D.int .i64 0, D.bool false, D.int .i64 0, D.int .i64 0, D.str [], D.int .i64 0, D.sl aG.ks (List.map aG.enc [])] (List.map aA.enc []) := by kernel_rfl
theorem aAR (x1 x6 : Int) (b0 b1 : aB) (w3005 : List aA) : bT SE (C38 Γ γ53) Λ2 J 38 0 [1, 1, 0, 1, 0] (aW [(1, .d (.int .i64 x1)), (2, .ptr 1000000000 0), (4, .ptr 1000000001 0), (5, .row 3005), (6, .d (.int .i64 x6))] [⟨38, (List.map AV.d (aB.enc b0))⟩, ⟨38, (List.map AV.d (aB.enc b1))⟩] [] [] [(3005, ⟨aA.ks, 34, 112, (List.map aA.enc w3005)⟩)]) =
 cond (decide (x6 < (lM aA.enc b0.Queue : Int))) (
 cond (iB x6 (lM aA.enc b0.Queue : Int)) (
  cond ((aR (cE aA.enc b0.Queue x6 2)) != 0) (
  cond (iB x6 (lM aA.enc b0.Queue : Int)) (
   cond (decide ((lM aA.enc w3005 + List.length [[D.str (bC (cE aA.enc b0.Queue x6 0)), D.str (bC (cE aA.enc b0.Queue x6 1)), D.int .i64 (aR (cE aA.enc b0.Queue x6 2)), D.bool (bM (cE aA.enc b0.Queue x6 3)), D.int .i64 (aR (cE aA.enc b0.Queue x6 4)), D.int .i64 (aR (cE aA.enc b0.Queue x6 5)), D.str (bC (cE aA.enc b0.Queue x6 6)), D.int .i64 (aR (cE aA.enc b0.Queue x6 7)), D.sl aG.ks (dSl (cE aA.enc b0.Queue x6 8))]]) * 112 ≤ 140737488355328)) (
   anc (C38 Γ γ53) Λ2 J x1 (w6 (x6 + 1)) (aB.enc b0) (aB.enc b1) (((List.map aA.enc w3005) ++ [[D.str (bC (cE aA.enc b0.Queue x6 0)), D.str (bC (cE aA.enc b0.Queue x6 1)), D.int .i64 (aR (cE aA.enc b0.Queue x6 2)), D.bool (bM (cE aA.enc b0.Queue x6 3)), D.int .i64 (aR (cE aA.enc b0.Queue x6 4)), D.int .i64 (aR (cE aA.enc b0.Queue x6 5)), D.str (bC (cE aA.enc b0.Queue x6 6)), D.int .i64 (aR (cE aA.enc b0.Queue x6 7)), D.sl aG.ks (dSl (cE aA.enc b0.Queue x6 8))]]))) none) none) (
  anc (C38 Γ γ53) Λ2 J x1 (w6 (x6 + 1)) (aB.enc b0) (aB.enc b1) (List.map aA.enc w3005))) none) (
 γ53 [aB.av b0, .d (.int .i64 (w6 ((lM aA.enc b0.Queue : Int) - (lM aA.enc w3005 : Int))))] [] [] fun r0 =>
 (some (.ret [.agg [.d (.str r0.Client), .d (.str r0.User), .d (.bool false), .d (.int .i64 0), .d (.int .i64 r0.Expiry), .d (.int .i64 (if 1099511627776 < (w6 (x1 + r0.Expiry)) then 1099511627776 else (w6 (x1 + r0.Expiry)))), .d (.int .i64 r0.Dropped), .d (.sl aF.ks (List.map aF.enc r0.Subs)), .row 0, .d (.int .i64 r0.Out.Limit), .d (.sl aD.ks (List.map aD.enc r0.Out.Items)), .d (.sl [.int .i64] (List.map eI r0.Out.Pool.Used)), .d (.int .i64 r0.Out.Pool.Last), .d (.sl [.int .i64] (List.map eI r0.In.IDs)), .d (.bool r0.Will.Set), .d (.int .i64 r0.Will.Delay), .d (.str r0.Will.Message.Topic), .d (.str r0.Will.Message.Payload), .d (.int .i64 r0.Will.Message.Level), .d (.bool r0.Will.Message.Retain), .d (.int .i64 r0.Will.Message.Priority), .d (.int .i64 r0.Will.Message.Expires), .d (.str r0.Will.Message.From), .d (.int .i64 r0.Will.Message.Seq), .d (.sl aG.ks (List.map aG.enc r0.Will.Message.Props))]] [] [⟨aA.ks, 34, 112, (List.map aA.enc w3005)⟩]))) := by kernel_rfl
end
abbrev X38 : aP := C38 gG (cT 53 bR)
theorem ayf : X38 = aQ gG := by unfold X38 C38; rw [bB fun _ h => h]
abbrev aAW := anc X38 (bP SE gG (SE.hl 38) (SE.hr 38)) (J0 SE X38)
theorem abW : ∀ (fu : Nat) (x1 x6 : Int) (b0 b1 : aB) (w3005 : List aA), Le (Option.map fV (eU fu x1 x6 b0 b1 w3005)) (aAW x1 x6 (aB.enc b0) (aB.enc b1) (List.map aA.enc w3005)) := by
 intro fu
 induction fu with
 | zero => intros; exact le_none
 | succ fu ih =>
  intro x1 x6 b0 b1 w3005
  refine Le.trans ?_ (le_of_eq ((aZ ayf).trans (aAR ..)).symm)
  unfold eU
  refine lD (by simp only [EN]) ?_ ?_
  ·refine lG (by simp only [EN]) ?_
   refine lD (by simp only [EN]) ?_ ?_
   ·refine lG (by simp only [EN]) ?_
    refine lG (by simp only [EN]) ?_
    (try simp only [EN]); exact ih x1 (w6 (x6 + 1)) b0 b1 (w3005 ++ [(List.getD b0.Queue (Int.toNat x6) default)])
   ·exact ih x1 (w6 (x6 + 1)) b0 b1 w3005
  ·refine lQ eX dK (by (try simp only [EN]); exact nW b0 ((w6 ((List.length b0.Queue : Int) - (List.length w3005 : Int))))) fun r0 _ => ?_
   exact aJ rfl
theorem aex (p0 : aB) (p1 : Int) : Le (Option.map fV (nD p0 p1)) (bA SE 38 [aB.av p0, .d (.int .i64 p1)] [] []) := by
 refine aV ayf rfl ?_
 refine Le.trans ?_ (le_of_eq (T38 ..).symm)
 unfold nD
 (try simp only [EN]); exact abW fuel p1 0 p0 ((aB.mk [] [] false 0 0 0 0 [] [] (aI.mk 0 [] (aN.mk [] 0)) (bE.mk []) (aT.mk false 0 (aA.mk [] [] 0 false 0 0 [] 0 [])))) []
section
variable (Γ : Fun)  (Λ2 J : Lam)
def azv : aP := aQ Γ
theorem aFP (p0 : Int) : bF SE (azv Γ) Λ2 J 140 [.d (.int .i64 p0)] [] [] =
 cond (decide (p0 ≥ 0)) (
 (rB (decide (p0 ≤ 1099511627776)))) (
 (rB false)) := by kernel_rfl
end
abbrev aFD : aP := azv gG
theorem aCA : aFD = aQ gG := rfl
theorem adU (p0 : Int) : Le (Option.map aE (tS p0)) (bA SE 140 [.d (.int .i64 p0)] [] []) := by
 refine aV aCA rfl ?_
 refine Le.trans ?_ (le_of_eq (aFP ..).symm)
 unfold tS
 refine lC ?_ ?_
 ·exact aJ rfl
 ·exact aJ rfl
def aj4 (C : aP) (Λ2 J : Lam) (a0 : List D) : Res := lab SE C Λ2 J 83 0 [1, 1, 1, 0, 0] (aW [(1, .ptr 1000000000 0)] [⟨38, (List.map AV.d a0)⟩] [] [] [])
def arG (C : aP) (Λ2 J : Lam) (a0 : List D) : Res := lab SE C Λ2 J 83 0 [1, 1, 0, 0] (aW [(1, .ptr 1000000000 0)] [⟨38, (List.map AV.d a0)⟩] [] [] [])
section
variable (Γ : Fun) (γ139 γ140 : Gm (Bool)) (Λ2 J : Lam)
def C83 : aP := aY (aY (aQ Γ) 139 aE γ139) 140 aE γ140
theorem T83 (p0 : aB) : bF SE (C83 Γ γ139 γ140) Λ2 J 83 [aB.av p0] [] [] =
 γ139 [.d (.str p0.Client)] [] [] fun r0 =>
 cond (!r0) (
 (rI 11)) (
 cond (!(p0.User == ([] : Str))) (
 γ139 [.d (.str p0.User)] [] [] fun r1 =>
 cond (!r1) (
  (rI 11)) (
 arG (C83 Γ γ139 γ140) Λ2 J (aB.enc p0))) (
 arG (C83 Γ γ139 γ140) Λ2 J (aB.enc p0))) := by kernel_rfl
theorem aDa (b0 : aB) : bT SE (C83 Γ γ139 γ140) Λ2 J 83 0 [1, 1, 1, 0, 0] (aW [(1, .ptr 1000000000 0)] [⟨38, (List.map AV.d (aB.enc b0))⟩] [] [] []) =
 γ140 [.d (.int .i64 b0.Expiry)] [] [] fun r2 =>
 cond (!r2) (
 (rI 1)) (
 γ140 [.d (.int .i64 b0.Until)] [] [] fun r3 =>
 cond (!r3) (
 (rI 1)) (
 cond (decide (b0.Dropped < 0)) (
 (rI 1)) (
 cond (decide (b0.Dropped > 1099511627776)) (
 (rI 1)) (
 (rI 0))))) := by kernel_rfl
theorem aAV (b0 : aB) : bT SE (C83 Γ γ139 γ140) Λ2 J 83 0 [1, 1, 0, 0] (aW [(1, .ptr 1000000000 0)] [⟨38, (List.map AV.d (aB.enc b0))⟩] [] [] []) =
 cond (!b0.Online) (
 cond (b0.Conn != 0) (
  (rI 9)) (
 cond b0.Online (
  cond (b0.Until != 0) (
  (rI 9)) (
  aj4 (C83 Γ γ139 γ140) Λ2 J (aB.enc b0))) (
 aj4 (C83 Γ γ139 γ140) Λ2 J (aB.enc b0)))) (
 cond b0.Online (
 cond (b0.Until != 0) (
  (rI 9)) (
 aj4 (C83 Γ γ139 γ140) Λ2 J (aB.enc b0))) (
 aj4 (C83 Γ γ139 γ140) Λ2 J (aB.enc b0))) := by kernel_rfl
end
abbrev X83 : aP := C83 gG (cT 139 aE) (cT 140 aE)
theorem atz : X83 = aQ gG := by unfold X83 C83; repeat rw [bB fun _ h => h]
abbrev aBG := aj4 X83 (bP SE gG (SE.hl 83) (SE.hr 83)) (J0 SE X83)
abbrev aCg := arG X83 (bP SE gG (SE.hl 83) (SE.hr 83)) (J0 SE X83)
theorem mZ (b0 : aB) : Le (Option.map aH (hI b0)) (aBG (aB.enc b0)) := by
 refine Le.trans ?_ (le_of_eq ((aZ atz).trans (aDa ..)).symm)
 unfold hI
 refine lQ eX aL (adU _) fun r2 _ => ?_
 refine lC ?_ ?_
 ·exact aJ rfl
 ·refine lQ eX aL (adU _) fun r3 _ => ?_
  refine lC ?_ ?_
  ·exact aJ rfl
  ·refine lC ?_ ?_
   ·exact aJ rfl
   ·refine lC ?_ ?_
    ·exact aJ rfl
    ·exact aJ rfl
theorem xD (b0 : aB) : Le (Option.map aH (l3 b0)) (aCg (aB.enc b0)) := by
 refine Le.trans ?_ (le_of_eq ((aZ atz).trans (aAV ..)).symm)
 unfold l3
 refine lC ?_ ?_
 ·refine lC ?_ ?_
  ·exact aJ rfl
  ·refine lC ?_ ?_
   ·refine lC ?_ ?_
    ·exact aJ rfl
    ·exact mZ b0
   ·exact mZ b0
 ·refine lC ?_ ?_
  ·refine lC ?_ ?_
   ·exact aJ rfl
   ·exact mZ b0
  ·exact mZ b0
theorem af5 (p0 : aB) : Le (Option.map aH (o5 p0)) (bA SE 83 [aB.av p0] [] []) := by
 refine aV atz rfl ?_
 refine Le.trans ?_ (le_of_eq (T83 ..).symm)
 unfold o5
 refine lQ eX aL (yN _) fun r0 _ => ?_
 refine lC ?_ ?_
 ·exact aJ rfl
 ·refine lC ?_ ?_
  ·refine lQ eX aL (yN _) fun r1 _ => ?_
   refine lC ?_ ?_
   ·exact aJ rfl
   ·exact xD p0
  ·exact xD p0
def an6 (C : aP) (Λ2 J : Lam) (a0 : List (List D)) (a1 a2 : Int) : Res := lab SE C Λ2 J 84 0 [1, 1, 1, 1, 0, 1, 0] (aW [(46, .d (.sl aA.ks a0)), (47, .d (.int .i64 a1)), (48, .d (.int .i64 a2))] [] [] [] [])
def am9 (C : aP) (Λ2 J : Lam) (a0 : List (List D)) (a1 a2 : Int) (a3 : List D) : Res := lab SE C Λ2 J 84 0 [1, 1, 0, 1, 0] (aW [(1, .ptr 1000000000 0), (14, .d (.sl aF.ks a0)), (15, .d (.int .i64 a1)), (16, .d (.int .i64 a2))] [⟨38, (List.map AV.d a3)⟩] [] [] [])
section
variable (Γ : Fun) (γ66 γ141 : Gm (Int)) (Λ2 J : Lam)
def C84 : aP := aY (aY (aQ Γ) 66 aH γ66) 141 aH γ141
theorem T84 (p0 : aB) : bF SE (C84 Γ γ66 γ141) Λ2 J 84 [aB.av p0] [] [] =
 cond (decide ((lM aF.enc p0.Subs : Int) > 32)) (
 (rI 5)) (
 am9 (C84 Γ γ66 γ141) Λ2 J (List.map aF.enc p0.Subs) (lM aF.enc p0.Subs : Int) 0 (aB.enc p0)) := by kernel_rfl
theorem axL (x46 : List aA) (x47 x48 : Int) : bT SE (C84 Γ γ66 γ141) Λ2 J 84 0 [1, 1, 1, 1, 0, 1, 0] (aW [(46, .d (.sl aA.ks (List.map aA.enc x46))), (47, .d (.int .i64 x47)), (48, .d (.int .i64 x48))] [] [] [] []) =
 cond (decide (x48 < x47)) (
 cond (iB x48 (lM aA.enc x46 : Int)) (
  γ141 [.agg [.d (.str (bC (cE aA.enc x46 x48 0))), .d (.str (bC (cE aA.enc x46 x48 1))), .d (.int .i64 (aR (cE aA.enc x46 x48 2))), .d (.bool (bM (cE aA.enc x46 x48 3))), .d (.int .i64 (aR (cE aA.enc x46 x48 4))), .d (.int .i64 (aR (cE aA.enc x46 x48 5))), .d (.str (bC (cE aA.enc x46 x48 6))), .d (.int .i64 (aR (cE aA.enc x46 x48 7))), .d (.sl aG.ks (dSl (cE aA.enc x46 x48 8)))]] [] [] fun r1 =>
  cond (r1 != 0) (
  (rI r1)) (
  an6 (C84 Γ γ66 γ141) Λ2 J (List.map aA.enc x46) x47 (w6 (x48 + 1)))) none) (
 (rI 0)) := by kernel_rfl
theorem aDe (x14 : List aF) (x15 x16 : Int) (b0 : aB) : bT SE (C84 Γ γ66 γ141) Λ2 J 84 0 [1, 1, 0, 1, 0] (aW [(1, .ptr 1000000000 0), (14, .d (.sl aF.ks (List.map aF.enc x14))), (15, .d (.int .i64 x15)), (16, .d (.int .i64 x16))] [⟨38, (List.map AV.d (aB.enc b0))⟩] [] [] []) =
 cond (decide (x16 < x15)) (
 cond (iB x16 (lM aF.enc x14 : Int)) (
  γ66 [.agg [.d (.str (bC (cE aF.enc x14 x16 0))), .d (.int .i64 (aR (cE aF.enc x14 x16 1))), .d (.bool (bM (cE aF.enc x14 x16 2)))]] [] [] fun r0 =>
  cond (r0 != 0) (
  (rI r0)) (
  cond (decide (x16 > 0)) (
  cond (iB (w6 (x16 - 1)) (lM aF.enc b0.Subs : Int)) (
   cond (Op.bytesLess (bC (cE aF.enc x14 x16 0)) (bC (cE aF.enc b0.Subs (w6 (x16 - 1)) 0)) || (bC (cE aF.enc x14 x16 0)) == (bC (cE aF.enc b0.Subs (w6 (x16 - 1)) 0))) (
   (rI 22)) (
   am9 (C84 Γ γ66 γ141) Λ2 J (List.map aF.enc x14) x15 (w6 (x16 + 1)) (aB.enc b0))) none) (
  am9 (C84 Γ γ66 γ141) Λ2 J (List.map aF.enc x14) x15 (w6 (x16 + 1)) (aB.enc b0)))) none) (
 cond (decide ((lM aA.enc b0.Queue : Int) > 256)) (
 (rI 5)) (
 an6 (C84 Γ γ66 γ141) Λ2 J (List.map aA.enc b0.Queue) (lM aA.enc b0.Queue : Int) 0)) := by kernel_rfl
end
abbrev X84 : aP := C84 gG (cT 66 aH) (cT 141 aH)
theorem au0 : X84 = aQ gG := by unfold X84 C84; repeat rw [bB fun _ h => h]
abbrev azf := an6 X84 (bP SE gG (SE.hl 84) (SE.hr 84)) (J0 SE X84)
abbrev aA4 := am9 X84 (bP SE gG (SE.hl 84) (SE.hr 84)) (J0 SE X84)
theorem ab7 : ∀ (fu : Nat) (x46 : List aA) (x47 x48 : Int), Le (Option.map aH (eT fu x46 x47 x48)) (azf (List.map aA.enc x46) x47 x48) := by
 intro fu
 induction fu with
 | zero => intros; exact le_none
 | succ fu ih =>
  intro x46 x47 x48
  refine Le.trans ?_ (le_of_eq ((aZ au0).trans (axL ..)).symm)
  unfold eT
  refine lC ?_ ?_
  ·refine lG (by simp only [EN]) ?_
   refine lQ eX aS (by (try simp only [EN]); exact uJ (List.getD x46 (Int.toNat x48) default)) fun r1 _ => ?_
   refine lC ?_ ?_
   ·exact aJ rfl
   ·exact ih x46 x47 (w6 (x48 + 1))
  ·exact aJ rfl
theorem acy : ∀ (fu : Nat) (x14 : List aF) (x15 x16 : Int) (b0 : aB), Le (Option.map aH (fP fu x14 x15 x16 b0)) (aA4 (List.map aF.enc x14) x15 x16 (aB.enc b0)) := by
 intro fu
 induction fu with
 | zero => intros; exact le_none
 | succ fu ih =>
  intro x14 x15 x16 b0
  refine Le.trans ?_ (le_of_eq ((aZ au0).trans (aDe ..)).symm)
  unfold fP
  refine lC ?_ ?_
  ·refine lG (by simp only [EN]) ?_
   refine lQ eX aS (by (try simp only [EN]); exact aaH (List.getD x14 (Int.toNat x16) default)) fun r0 _ => ?_
   refine lC ?_ ?_
   ·exact aJ rfl
   ·refine lC ?_ ?_
    ·refine lG (by simp only [EN]) ?_
     refine lD (by simp only [EN]) ?_ ?_
     ·exact aJ rfl
     ·exact ih x14 x15 (w6 (x16 + 1)) b0
    ·exact ih x14 x15 (w6 (x16 + 1)) b0
  ·refine lD (by simp only [EN]) ?_ ?_
   ·exact aJ rfl
   ·(try simp only [EN]); exact ab7 fuel b0.Queue (List.length b0.Queue : Int) 0
theorem ae4 (p0 : aB) : Le (Option.map aH (n9 p0)) (bA SE 84 [aB.av p0] [] []) := by
 refine aV au0 rfl ?_
 refine Le.trans ?_ (le_of_eq (T84 ..).symm)
 unfold n9
 refine lD (by simp only [EN]) ?_ ?_
 ·exact aJ rfl
 ·(try simp only [EN]); exact acy fuel p0.Subs (List.length p0.Subs : Int) 0 p0
def anH (C : aP) (Λ2 J : Lam) (a0 : Int) (a1 : List (List D)) (a2 a3 : Int) (a4 : List D) : Res := lab SE C Λ2 J 142 0 [1, 1, 1, 0, 1, 0] (aW [(1, .ptr 1000000000 0), (3, .d (.int .i64 a0)), (11, .d (.sl [.int .i64] a1)), (12, .d (.int .i64 a2)), (13, .d (.int .i64 a3))] [⟨27, (List.map AV.d a4)⟩] [] [] [])
section
variable (Γ : Fun)  (Λ2 J : Lam)
def aow : aP := aQ Γ
theorem aFc (p0 : aN) : bF SE (aow Γ) Λ2 J 142 [aN.av p0] [] [] =
 cond (decide ((lM eI p0.Used : Int) > 32)) (
 (rI 5)) (
 anH (aow Γ) Λ2 J 0 (List.map eI p0.Used) (lM eI p0.Used : Int) 0 (aN.enc p0)) := by kernel_rfl
theorem aAd (x3 : Int) (x11 : List Int) (x12 x13 : Int) (b0 : aN) : bT SE (aow Γ) Λ2 J 142 0 [1, 1, 1, 0, 1, 0] (aW [(1, .ptr 1000000000 0), (3, .d (.int .i64 x3)), (11, .d (.sl [.int .i64] (List.map eI x11))), (12, .d (.int .i64 x12)), (13, .d (.int .i64 x13))] [⟨27, (List.map AV.d (aN.enc b0))⟩] [] [] []) =
 cond (decide (x13 < x12)) (
 cond (iB x13 (lM eI x11 : Int)) (
  cond (decide ((aR (cE eI x11 x13 0)) ≤ x3)) (
  (rI 15)) (
  cond (decide ((aR (cE eI x11 x13 0)) > 65535)) (
  (rI 15)) (
  anH (aow Γ) Λ2 J ((aR (cE eI x11 x13 0))) (List.map eI x11) x12 (w6 (x13 + 1)) (aN.enc b0)))) none) (
 cond (decide (b0.Last < 0)) (
 (rI 1)) (
 cond (decide (b0.Last > 65535)) (
 (rI 1)) (
 (rI 0)))) := by kernel_rfl
end
abbrev aun : aP := aow gG
theorem avE : aun = aQ gG := rfl
abbrev azq := anH aun (bP SE gG (SE.hl 142) (SE.hr 142)) (J0 SE aun)
theorem aiL : ∀ (fu : Nat) (x3 : Int) (x11 : List Int) (x12 x13 : Int) (b0 : aN), Le (Option.map aH (nN fu x3 x11 x12 x13 b0)) (azq x3 (List.map eI x11) x12 x13 (aN.enc b0)) := by
 intro fu
 induction fu with
 | zero => intros; exact le_none
 | succ fu ih =>
  intro x3 x11 x12 x13 b0
  refine Le.trans ?_ (le_of_eq ((aZ avE).trans (aAd ..)).symm)
  unfold nN
  refine lC ?_ ?_
  ·refine lG (by simp only [EN]) ?_
   refine lD (by simp only [EN]) ?_ ?_
   ·exact aJ rfl
   ·refine lD (by simp only [EN]) ?_ ?_
    ·exact aJ rfl
    ·(try simp only [EN]); exact ih (List.getD x11 (Int.toNat x13) default) x11 x12 (w6 (x13 + 1)) b0
  ·refine lC ?_ ?_
   ·exact aJ rfl
   ·refine lC ?_ ?_
    ·exact aJ rfl
    ·exact aJ rfl
theorem ald (p0 : aN) : Le (Option.map aH (yL p0)) (bA SE 142 [aN.av p0] [] []) := by
 refine aV avE rfl ?_
 refine Le.trans ?_ (le_of_eq (aFc ..).symm)
 unfold yL
 refine lD (by simp only [EN]) ?_ ?_
 ·exact aJ rfl
 ·(try simp only [EN]); exact aiL fuel 0 p0.Used (List.length p0.Used : Int) 0 p0
section
variable (Γ : Fun) (γ175 : Gm (Int × Bool)) (Λ2 J : Lam)
def auD : aP := aY (aQ Γ) 175 aX γ175
theorem aD6 (p0 : aN) (p1 : Int) : bF SE (auD Γ γ175) Λ2 J 172 [aN.av p0, .d (.int .i64 p1)] [] [] =
 γ175 [.d (.sl [.int .i64] (List.map eI p0.Used)), .d (.int .i64 p1)] [] [] fun r0 =>
 (rB r0.2) := by kernel_rfl
end
abbrev aw1 : aP := auD gG (cT 175 aX)
theorem aC0 : aw1 = aQ gG := by unfold aw1 auD; rw [bB fun _ h => h]
theorem anM (p0 : aN) (p1 : Int) : Le (Option.map aE (abx p0 p1)) (bA SE 172 [aN.av p0, .d (.int .i64 p1)] [] []) := by
 refine aV aC0 rfl ?_
 refine Le.trans ?_ (le_of_eq (aD6 ..).symm)
 unfold abx
 refine lQ eX cG (kK _ _) fun r0 _ => ?_
 exact aJ rfl
def asD (C : aP) (Λ2 J : Lam) (a0 : List D) : Res := lab SE C Λ2 J 143 0 [1, 1, 1, 0, 0] (aW [(5, .ptr 1000000000 0)] [⟨122, (List.map AV.d a0)⟩] [] [] [])
section
variable (Γ : Fun) (γ172 : Gm (Bool)) (γ109 γ141 : Gm (Int)) (Λ2 J : Lam)
def ao4 : aP := aY (aY (aY (aQ Γ) 172 aE γ172) 109 aH γ109) 141 aH γ141
theorem aFr (p0 : aI) (p1 : Int) : bF SE (ao4 Γ γ172 γ109 γ141) Λ2 J 143 [aI.av p0, .d (.int .i64 p1)] [] [] =
 cond (iB p1 (lM aD.enc p0.Items : Int)) (
 γ172 [aN.av p0.Pool, .d (.int .i64 (aR (cE aD.enc p0.Items p1 0)))] [] [] fun r0 =>
 cond (!r0) (
  (rI 15)) (
 cond (decide (0 ≤ p1) && decide (p1 ≤ ((lM aD.enc p0.Items) : Int))) (
  γ109 [.d (.sl aD.ks (bQ (List.map aD.enc p0.Items) none (some p1))), .d (.int .i64 (aR (cE aD.enc p0.Items p1 0)))] [] [] fun r1 =>
  cond (decide (r1 ≥ 0)) (
  (rI 15)) (
  asD (ao4 Γ γ172 γ109 γ141) Λ2 J [D.int .i64 (aR (cE aD.enc p0.Items p1 0)), D.int .i64 (aR (cE aD.enc p0.Items p1 1)), D.str (bC (cE aD.enc p0.Items p1 2)), D.str (bC (cE aD.enc p0.Items p1 3)), D.int .i64 (aR (cE aD.enc p0.Items p1 4)), D.bool (bM (cE aD.enc p0.Items p1 5)), D.int .i64 (aR (cE aD.enc p0.Items p1 6)), D.int .i64 (aR (cE aD.enc p0.Items p1 7)), D.str (bC (cE aD.enc p0.Items p1 8)), D.int .i64 (aR (cE aD.enc p0.Items p1 9)), D.sl aG.ks (dSl (cE aD.enc p0.Items p1 10))])) none)) none := by kernel_rfl
theorem azP (b0 : aD) : bT SE (ao4 Γ γ172 γ109 γ141) Λ2 J 143 0 [1, 1, 1, 0, 0] (aW [(5, .ptr 1000000000 0)] [⟨122, (List.map AV.d (aD.enc b0))⟩] [] [] []) =
 γ141 [aA.av b0.Message] [] [] fun r2 =>
 cond (r2 != 0) (
 (rI r2)) (
 cond (b0.Message.Level == 0) (
 (rI 14)) (
 cond (b0.State != 1) (
 cond (b0.State != 2) (
  (rI 9)) (
 cond (b0.Message.Level == 1) (
  (rI 9)) (
 (rI 0)))) (
 (rI 0)))) := by kernel_rfl
end
abbrev aqv : aP := ao4 gG (cT 172 aE) (cT 109 aH) (cT 141 aH)
theorem avg : aqv = aQ gG := by unfold aqv ao4; repeat rw [bB fun _ h => h]
abbrev az9 := asD aqv (bP SE gG (SE.hl 143) (SE.hr 143)) (J0 SE aqv)
theorem acJ (b0 : aD) : Le (Option.map aH (oP b0)) (az9 (aD.enc b0)) := by
 refine Le.trans ?_ (le_of_eq ((aZ avg).trans (azP ..)).symm)
 unfold oP
 refine lQ eX aS (uJ _) fun r2 _ => ?_
 refine lC ?_ ?_
 ·exact aJ rfl
 ·refine lC ?_ ?_
  ·exact aJ rfl
  ·refine lC ?_ ?_
   ·refine lC ?_ ?_
    ·exact aJ rfl
    ·refine lC ?_ ?_
     ·exact aJ rfl
     ·exact aJ rfl
   ·exact aJ rfl
theorem ae0 (p0 : aI) (p1 : Int) : Le (Option.map aH (oC p0 p1)) (bA SE 143 [aI.av p0, .d (.int .i64 p1)] [] []) := by
 refine aV avg rfl ?_
 refine Le.trans ?_ (le_of_eq (aFr ..).symm)
 unfold oC
 refine lG (by simp only [EN]) ?_
 refine lQ eX aL (by (try simp only [EN]); exact anM p0.Pool ((List.getD p0.Items (Int.toNat p1) default).ID)) fun r0 _ => ?_
 refine lC ?_ ?_
 ·exact aJ rfl
 ·refine lG (by simp only [EN]) ?_
  refine lQ eX aS (by (try simp only [EN]); exact ac6 (bQ p0.Items none (some p1)) ((List.getD p0.Items (Int.toNat p1) default).ID)) fun r1 _ => ?_
  refine lC ?_ ?_
  ·exact aJ rfl
  ·(try simp only [EN]); exact acJ (List.getD p0.Items (Int.toNat p1) default)
def aq3 (C : aP) (Λ2 J : Lam) (a0 a1 : Int) (a2 : List D) : Res := lab SE C Λ2 J 85 0 [1, 1, 1, 1, 0, 1, 0] (aW [(1, .ptr 1000000000 0), (26, .d (.int .i64 a0)), (27, .d (.int .i64 a1))] [⟨29, (List.map AV.d a2)⟩] [] [] [])
def avm (C : aP) (Λ2 J : Lam) (a0 : List D) : Res := lab SE C Λ2 J 85 0 [1, 1, 0, 0] (aW [(1, .ptr 1000000000 0)] [⟨29, (List.map AV.d a0)⟩] [] [] [])
section
variable (Γ : Fun) (γ142 γ143 : Gm (Int)) (Λ2 J : Lam)
def C85 : aP := aY (aY (aQ Γ) 142 aH γ142) 143 aH γ143
theorem T85 (p0 : aI) : bF SE (C85 Γ γ142 γ143) Λ2 J 85 [aI.av p0] [] [] =
 cond (decide (p0.Limit < 0)) (
 (rI 1)) (
 cond (decide (p0.Limit > 32)) (
 (rI 1)) (
 avm (C85 Γ γ142 γ143) Λ2 J (aI.enc p0))) := by kernel_rfl
theorem aA2 (x26 x27 : Int) (b0 : aI) : bT SE (C85 Γ γ142 γ143) Λ2 J 85 0 [1, 1, 1, 1, 0, 1, 0] (aW [(1, .ptr 1000000000 0), (26, .d (.int .i64 x26)), (27, .d (.int .i64 x27))] [⟨29, (List.map AV.d (aI.enc b0))⟩] [] [] []) =
 cond (decide (x27 < x26)) (
 γ143 [aI.av b0, .d (.int .i64 x27)] [] [] fun r1 =>
 cond (r1 != 0) (
  (rI r1)) (
 aq3 (C85 Γ γ142 γ143) Λ2 J x26 (w6 (x27 + 1)) (aI.enc b0))) (
 cond (decide ((lM aD.enc b0.Items : Int) < (lM eI b0.Pool.Used : Int))) (
 (rI 15)) (
 (rI 0))) := by kernel_rfl
theorem aDy (b0 : aI) : bT SE (C85 Γ γ142 γ143) Λ2 J 85 0 [1, 1, 0, 0] (aW [(1, .ptr 1000000000 0)] [⟨29, (List.map AV.d (aI.enc b0))⟩] [] [] []) =
 γ142 [aN.av b0.Pool] [] [] fun r0 =>
 cond (r0 != 0) (
 (rI r0)) (
 cond (decide ((lM aD.enc b0.Items : Int) > 32)) (
 (rI 5)) (
 aq3 (C85 Γ γ142 γ143) Λ2 J (lM aD.enc b0.Items : Int) 0 (aI.enc b0))) := by kernel_rfl
end
abbrev X85 : aP := C85 gG (cT 142 aH) (cT 143 aH)
theorem aug : X85 = aQ gG := by unfold X85 C85; repeat rw [bB fun _ h => h]
abbrev aCz := aq3 X85 (bP SE gG (SE.hl 85) (SE.hr 85)) (J0 SE X85)
abbrev aCn := avm X85 (bP SE gG (SE.hl 85) (SE.hr 85)) (J0 SE X85)
theorem afV : ∀ (fu : Nat) (x26 x27 : Int) (b0 : aI), Le (Option.map aH (jX fu x26 x27 b0)) (aCz x26 x27 (aI.enc b0)) := by
 intro fu
 induction fu with
 | zero => intros; exact le_none
 | succ fu ih =>
  intro x26 x27 b0
  refine Le.trans ?_ (le_of_eq ((aZ aug).trans (aA2 ..)).symm)
  unfold jX
  refine lC ?_ ?_
  ·refine lQ eX aS (ae0 _ _) fun r1 _ => ?_
   refine lC ?_ ?_
   ·exact aJ rfl
   ·exact ih x26 (w6 (x27 + 1)) b0
  ·refine lD (by simp only [EN]) ?_ ?_
   ·exact aJ rfl
   ·exact aJ rfl
theorem af9 (b0 : aI) : Le (Option.map aH (sX b0)) (aCn (aI.enc b0)) := by
 refine Le.trans ?_ (le_of_eq ((aZ aug).trans (aDy ..)).symm)
 unfold sX
 refine lQ eX aS (ald _) fun r0 _ => ?_
 refine lC ?_ ?_
 ·exact aJ rfl
 ·refine lD (by simp only [EN]) ?_ ?_
  ·exact aJ rfl
  ·(try simp only [EN]); exact afV fuel (List.length b0.Items : Int) 0 b0
theorem aiP (p0 : aI) : Le (Option.map aH (tL p0)) (bA SE 85 [aI.av p0] [] []) := by
 refine aV aug rfl ?_
 refine Le.trans ?_ (le_of_eq (T85 ..).symm)
 unfold tL
 refine lC ?_ ?_
 ·exact aJ rfl
 ·refine lC ?_ ?_
  ·exact aJ rfl
  ·exact af9 p0
def arE (C : aP) (Λ2 J : Lam) (a0 : Int) (a1 : List (List D)) (a2 a3 : Int) : Res := lab SE C Λ2 J 86 0 [1, 1, 1, 0, 1, 0] (aW [(3, .d (.int .i64 a0)), (11, .d (.sl [.int .i64] a1)), (12, .d (.int .i64 a2)), (13, .d (.int .i64 a3))] [] [] [] [])
section
variable (Γ : Fun)  (Λ2 J : Lam)
def C86 : aP := aQ Γ
theorem T86 (p0 : bE) : bF SE (C86 Γ) Λ2 J 86 [bE.av p0] [] [] =
 cond (decide ((lM eI p0.IDs : Int) > 32)) (
 (rI 5)) (
 arE (C86 Γ) Λ2 J 0 (List.map eI p0.IDs) (lM eI p0.IDs : Int) 0) := by kernel_rfl
theorem aBa (x3 : Int) (x11 : List Int) (x12 x13 : Int) : bT SE (C86 Γ) Λ2 J 86 0 [1, 1, 1, 0, 1, 0] (aW [(3, .d (.int .i64 x3)), (11, .d (.sl [.int .i64] (List.map eI x11))), (12, .d (.int .i64 x12)), (13, .d (.int .i64 x13))] [] [] [] []) =
 cond (decide (x13 < x12)) (
 cond (iB x13 (lM eI x11 : Int)) (
  cond (decide ((aR (cE eI x11 x13 0)) ≤ x3)) (
  (rI 15)) (
  cond (decide ((aR (cE eI x11 x13 0)) > 65535)) (
  (rI 15)) (
  arE (C86 Γ) Λ2 J ((aR (cE eI x11 x13 0))) (List.map eI x11) x12 (w6 (x13 + 1))))) none) (
 (rI 0)) := by kernel_rfl
end
abbrev X86 : aP := C86 gG
theorem ay2 : X86 = aQ gG := rfl
abbrev aDD := arE X86 (bP SE gG (SE.hl 86) (SE.hr 86)) (J0 SE X86)
theorem ag3 : ∀ (fu : Nat) (x3 : Int) (x11 : List Int) (x12 x13 : Int), Le (Option.map aH (kP fu x3 x11 x12 x13)) (aDD x3 (List.map eI x11) x12 x13) := by
 intro fu
 induction fu with
 | zero => intros; exact le_none
 | succ fu ih =>
  intro x3 x11 x12 x13
  refine Le.trans ?_ (le_of_eq ((aZ ay2).trans (aBa ..)).symm)
  unfold kP
  refine lC ?_ ?_
  ·refine lG (by simp only [EN]) ?_
   refine lD (by simp only [EN]) ?_ ?_
   ·exact aJ rfl
   ·refine lD (by simp only [EN]) ?_ ?_
    ·exact aJ rfl
    ·(try simp only [EN]); exact ih (List.getD x11 (Int.toNat x13) default) x11 x12 (w6 (x13 + 1))
  ·exact aJ rfl
theorem ajB (p0 : bE) : Le (Option.map aH (rU p0)) (bA SE 86 [bE.av p0] [] []) := by
 refine aV ay2 rfl ?_
 refine Le.trans ?_ (le_of_eq (T86 ..).symm)
 unfold rU
 refine lD (by simp only [EN]) ?_ ?_
 ·exact aJ rfl
 ·(try simp only [EN]); exact ag3 fuel 0 p0.IDs (List.length p0.IDs : Int) 0
def aoV (C : aP) (Λ2 J : Lam) (a0 : List (List D)) (a1 a2 : Int) (a3 : List D) : Res := lab SE C Λ2 J 144 0 [1, 1, 0, 1, 0] (aW [(3, .ptr 1000000000 0), (71, .d (.sl aG.ks a0)), (72, .d (.int .i64 a1)), (73, .d (.int .i64 a2))] [⟨34, (List.map AV.d a3)⟩] [] [] [])
def asj (C : aP) (Λ2 J : Lam) (a0 a1 : List D) : Res := lab SE C Λ2 J 144 0 [1, 1, 0, 0] (aW [(2, .ptr 1000000000 0), (3, .ptr 1000000001 0)] [⟨34, (List.map AV.d a0)⟩, ⟨34, (List.map AV.d a1)⟩] [] [] [])
section
variable (Γ : Fun)  (Λ2 J : Lam)
def ajt : aP := aQ Γ
theorem aDV (p0 p1 : aA) : bF SE (ajt Γ) Λ2 J 144 [aA.av p0, aA.av p1] [] [] =
 cond (!(p0.Topic == p1.Topic)) (
 (rB false)) (
 cond (!(p0.Payload == p1.Payload)) (
 (rB false)) (
 cond (p0.Level != p1.Level) (
 (rB false)) (
 cond (p0.Retain != p1.Retain) (
 (rB false)) (
 cond (p0.Priority != p1.Priority) (
 (rB false)) (
 cond (p0.Expires != p1.Expires) (
 (rB false)) (
 cond (!(p0.From == p1.From)) (
 (rB false)) (
 cond (p0.Seq != p1.Seq) (
 (rB false)) (
 cond ((lM aG.enc p0.Props : Int) != (lM aG.enc p1.Props : Int)) (
 (rB false)) (
 asj (ajt Γ) Λ2 J (aA.enc p0) (aA.enc p1)))))))))) := by kernel_rfl
theorem ayN (x71 : List aG) (x72 x73 : Int) (b0 : aA) : bT SE (ajt Γ) Λ2 J 144 0 [1, 1, 0, 1, 0] (aW [(3, .ptr 1000000000 0), (71, .d (.sl aG.ks (List.map aG.enc x71))), (72, .d (.int .i64 x72)), (73, .d (.int .i64 x73))] [⟨34, (List.map AV.d (aA.enc b0))⟩] [] [] []) =
 cond (decide (x73 < x72)) (
 cond (iB x73 (lM aG.enc x71 : Int)) (
  cond (iB x73 (lM aG.enc b0.Props : Int)) (
  cond (!(((bC (cE aG.enc x71 x73 0)) == (bC (cE aG.enc b0.Props x73 0))) && (((bC (cE aG.enc x71 x73 1)) == (bC (cE aG.enc b0.Props x73 1))) && true))) (
   (rB false)) (
  aoV (ajt Γ) Λ2 J (List.map aG.enc x71) x72 (w6 (x73 + 1)) (aA.enc b0))) none) none) (
 (rB true)) := by kernel_rfl
theorem ay3 (b0 b1 : aA) : bT SE (ajt Γ) Λ2 J 144 0 [1, 1, 0, 0] (aW [(2, .ptr 1000000000 0), (3, .ptr 1000000001 0)] [⟨34, (List.map AV.d (aA.enc b0))⟩, ⟨34, (List.map AV.d (aA.enc b1))⟩] [] [] []) =
 aoV (ajt Γ) Λ2 J (List.map aG.enc b0.Props) (lM aG.enc b0.Props : Int) 0 (aA.enc b1) := by kernel_rfl
end
abbrev ao1 : aP := ajt gG
theorem aqL : ao1 = aQ gG := rfl
abbrev azn := aoV ao1 (bP SE gG (SE.hl 144) (SE.hr 144)) (J0 SE ao1)
abbrev azy := asj ao1 (bP SE gG (SE.hl 144) (SE.hr 144)) (J0 SE ao1)
theorem ahu : ∀ (fu : Nat) (x71 : List aG) (x72 x73 : Int) (b0 : aA), Le (Option.map aE (lX fu x71 x72 x73 b0)) (azn (List.map aG.enc x71) x72 x73 (aA.enc b0)) := by
 intro fu
 induction fu with
 | zero => intros; exact le_none
 | succ fu ih =>
  intro x71 x72 x73 b0
  refine Le.trans ?_ (le_of_eq ((aZ aqL).trans (ayN ..)).symm)
  unfold lX
  refine lC ?_ ?_
  ·refine lG (by simp only [EN]) ?_
   refine lG (by simp only [EN]) ?_
   refine lD (by simp only [EN]) ?_ ?_
   ·exact aJ rfl
   ·exact ih x71 x72 (w6 (x73 + 1)) b0
  ·exact aJ rfl
theorem ahV (b0 b1 : aA) : Le (Option.map aE (vW b0 b1)) (azy (aA.enc b0) (aA.enc b1)) := by
 refine Le.trans ?_ (le_of_eq ((aZ aqL).trans (ay3 ..)).symm)
 unfold vW
 (try simp only [EN]); exact ahu fuel b0.Props (List.length b0.Props : Int) 0 b1
theorem akO (p0 p1 : aA) : Le (Option.map aE (wG p0 p1)) (bA SE 144 [aA.av p0, aA.av p1] [] []) := by
 refine aV aqL rfl ?_
 refine Le.trans ?_ (le_of_eq (aDV ..).symm)
 unfold wG
 refine lC ?_ ?_
 ·exact aJ rfl
 ·refine lC ?_ ?_
  ·exact aJ rfl
  ·refine lC ?_ ?_
   ·exact aJ rfl
   ·refine lC ?_ ?_
    ·exact aJ rfl
    ·refine lC ?_ ?_
     ·exact aJ rfl
     ·refine lC ?_ ?_
      ·exact aJ rfl
      ·refine lC ?_ ?_
       ·exact aJ rfl
       ·refine lC ?_ ?_
        ·exact aJ rfl
        ·refine lD (by simp only [EN]) ?_ ?_
         ·exact aJ rfl
         ·exact ahV p0 p1
section
variable (Γ : Fun) (γ144 : Gm (Bool)) (γ141 : Gm (Int)) (Λ2 J : Lam)
def C87 : aP := aY (aY (aQ Γ) 144 aE γ144) 141 aH γ141
theorem T87 (p0 : aT) : bF SE (C87 Γ γ144 γ141) Λ2 J 87 [aT.av p0] [] [] =
 cond (!p0.Set) (
 cond (p0.Delay != 0) (
  (rI 28)) (
 γ144 [aA.av p0.Message, .agg [.d (.str []), .d (.str []), .d (.int .i64 0), .d (.bool false), .d (.int .i64 0), .d (.int .i64 0), .d (.str []), .d (.int .i64 0), .d (.sl aG.ks (List.map aG.enc []))]] [] [] fun r0 =>
 cond (!r0) (
  (rI 28)) (
 (rI 0)))) (
 cond (decide (p0.Delay < 0)) (
 (rI 1)) (
 cond (decide (p0.Delay > 1099511627776)) (
 (rI 1)) (
 γ141 [aA.av p0.Message] [] [] fun r1 =>
 (rI r1)))) := by kernel_rfl
end
abbrev X87 : aP := C87 gG (cT 144 aE) (cT 141 aH)
theorem aEn : X87 = aQ gG := by unfold X87 C87; repeat rw [bB fun _ h => h]
theorem amN (p0 : aT) : Le (Option.map aH (zP p0)) (bA SE 87 [aT.av p0] [] []) := by
 refine aV aEn rfl ?_
 refine Le.trans ?_ (le_of_eq (T87 ..).symm)
 unfold zP
 refine lC ?_ ?_
 ·refine lC ?_ ?_
  ·exact aJ rfl
  ·refine lQ eX aL (by (try simp only [EN]); exact akO p0.Message ((aA.mk [] [] 0 false 0 0 [] 0 []))) fun r0 _ => ?_
   refine lC ?_ ?_
   ·exact aJ rfl
   ·exact aJ rfl
 ·refine lC ?_ ?_
  ·exact aJ rfl
  ·refine lC ?_ ?_
   ·exact aJ rfl
   ·refine lQ eX aS (uJ _) fun r1 _ => ?_
    exact aJ rfl
section
variable (Γ : Fun) (γ83 γ84 γ85 γ86 γ87 : Gm (Int)) (Λ2 J : Lam)
def C33 : aP := aY (aY (aY (aY (aY (aQ Γ) 83 aH γ83) 84 aH γ84) 85 aH γ85) 86 aH γ86) 87 aH γ87
theorem T33 (p0 : aB) : bF SE (C33 Γ γ83 γ84 γ85 γ86 γ87) Λ2 J 33 [aB.av p0] [] [] =
 γ83 [aB.av p0] [] [] fun r0 =>
 cond (r0 != 0) (
 (rI r0)) (
 γ84 [aB.av p0] [] [] fun r1 =>
 cond (r1 != 0) (
 (rI r1)) (
 γ85 [aI.av p0.Out] [] [] fun r2 =>
 cond (r2 != 0) (
 (rI r2)) (
 γ86 [bE.av p0.In] [] [] fun r3 =>
 cond (r3 != 0) (
 (rI r3)) (
 γ87 [aT.av p0.Will] [] [] fun r4 =>
 (rI r4))))) := by kernel_rfl
end
abbrev X33 : aP := C33 gG (cT 83 aH) (cT 84 aH) (cT 85 aH) (cT 86 aH) (cT 87 aH)
theorem aFe : X33 = aQ gG := by unfold X33 C33; repeat rw [bB fun _ h => h]
theorem nQ (p0 : aB) : Le (Option.map aH (hY p0)) (bA SE 33 [aB.av p0] [] []) := by
 refine aV aFe rfl ?_
 refine Le.trans ?_ (le_of_eq (T33 ..).symm)
 unfold hY
 refine lQ eX aS (af5 _) fun r0 _ => ?_
 refine lC ?_ ?_
 ·exact aJ rfl
 ·refine lQ eX aS (ae4 _) fun r1 _ => ?_
  refine lC ?_ ?_
  ·exact aJ rfl
  ·refine lQ eX aS (aiP _) fun r2 _ => ?_
   refine lC ?_ ?_
   ·exact aJ rfl
   ·refine lQ eX aS (ajB _) fun r3 _ => ?_
    refine lC ?_ ?_
    ·exact aJ rfl
    ·refine lQ eX aS (amN _) fun r4 _ => ?_
     exact aJ rfl
def au7 (C : aP) (Λ2 J : Lam) (a0 a1 : Int) (a2 a3 : List D) : Res := lab SE C Λ2 J 10 0 [1, 1, 0] (aW [(2, .d (.int .i64 a0)), (3, .d (.int .i64 a1)), (4, .ptr 1000000000 0), (5, .ptr 1000000001 0)] [⟨38, (List.map AV.d a2)⟩, ⟨49, (List.map AV.d a3)⟩] [] [] [])
section
variable (Γ : Fun) (γ18 γ14 : Gm (Bool)) (γ30 : Gm (Int)) (γ36 γ37 : Gm (aB × (List aC))) (γ23 : Gm (aB)) (γ17 γ21 : Gm (Bool)) (γ38 : Gm (aB)) (γ33 : Gm (Int)) (Λ2 J : Lam)
def C10 : aP := aY (aY (aY (aY (aY (aY (aY (aY (aY (aY (aQ Γ) 18 aE γ18) 14 aE γ14) 30 aH γ30) 36 bK γ36) 37 bK γ37) 23 bR γ23) 17 aE γ17) 21 aE γ21) 38 fV γ38) 33 aH γ33
theorem T10 (p0 : aB) (p1 : aC) (p2 p3 : Int) : bF SE (C10 Γ γ18 γ14 γ30 γ36 γ37 γ23 γ17 γ21 γ38 γ33) Λ2 J 10 [aB.av p0, aC.av p1, .d (.int .i64 p2), .d (.int .i64 p3)] [] [] =
 γ18 [aB.av p0, .d (.int .i64 p3)] [] [] fun r0 =>
 cond (!r0) (
 γ14 [] [] [] fun r1 =>
 (rB r1)) (
 cond (p1.Kind != 1) (
 γ14 [] [] [] fun r2 =>
 (rB r2)) (
 γ30 [aC.av p1] [] [] fun r3 =>
 cond (r3 != 0) (
 γ14 [] [] [] fun r4 =>
 (rB r4)) (
 au7 (C10 Γ γ18 γ14 γ30 γ36 γ37 γ23 γ17 γ21 γ38 γ33) Λ2 J p2 p3 (aB.enc p0) (aC.enc p1)))) := by kernel_rfl
theorem aDm (x2 x3 : Int) (b0 : aB) (b1 : aC) : bT SE (C10 Γ γ18 γ14 γ30 γ36 γ37 γ23 γ17 γ21 γ38 γ33) Λ2 J 10 0 [1, 1, 0] (aW [(2, .d (.int .i64 x2)), (3, .d (.int .i64 x3)), (4, .ptr 1000000000 0), (5, .ptr 1000000001 0)] [⟨38, (List.map AV.d (aB.enc b0))⟩, ⟨49, (List.map AV.d (aC.enc b1))⟩] [] [] []) =
 γ36 [aB.av b0, aC.av b1, .d (.int .i64 x2), .d (.int .i64 x3)] [] [] fun r5 =>
 γ37 [aB.av b0, aC.av b1, .d (.int .i64 x2), .d (.int .i64 x3)] [] [] fun r6 =>
 γ23 [aB.av b0, .d (.int .i64 x3)] [] [] fun r7 =>
 γ14 [] [] [] fun r8 =>
 cond r8 (
 γ17 [aB.av r5.1, aB.av r6.1] [] [] fun r9 =>
 cond r9 (
  γ21 [.d (.sl aC.ks (List.map aC.enc r5.2)), .d (.sl aC.ks (List.map aC.enc r6.2))] [] [] fun r10 =>
  cond r10 (
  γ38 [aB.av b0, .d (.int .i64 x3)] [] [] fun r11 =>
  γ17 [aB.av r7, aB.av r11] [] [] fun r12 =>
  cond r12 (
   γ33 [aB.av r5.1] [] [] fun r13 =>
   cond (r13 == 0) (
   γ33 [aB.av r7] [] [] fun r14 =>
   (rB (r14 == 0))) (
   (rB false))) (
  (rB false))) (
  (rB false))) (
 (rB false))) (
 (rB false)) := by kernel_rfl
end
abbrev X10 : aP := C10 gG (cT 18 aE) (cT 14 aE) (cT 30 aH) (cT 36 bK) (cT 37 bK) (cT 23 bR) (cT 17 aE) (cT 21 aE) (cT 38 fV) (cT 33 aH)
theorem axQ : X10 = aQ gG := by unfold X10 C10; repeat rw [bB fun _ h => h]
abbrev aAS := au7 X10 (bP SE gG (SE.hl 10) (SE.hr 10)) (J0 SE X10)
theorem yW (x2 x3 : Int) (b0 : aB) (b1 : aC) : Le (Option.map aE (jF x2 x3 b0 b1)) (aAS x2 x3 (aB.enc b0) (aC.enc b1)) := by
 refine Le.trans ?_ (le_of_eq ((aZ axQ).trans (aDm ..)).symm)
 unfold jF
 refine lQ eX dX (xP _ _ _ _) fun r5 _ => ?_
 refine lQ eX dX (afr _ _ _ _) fun r6 _ => ?_
 refine lQ eX dK (sR _ _) fun r7 _ => ?_
 refine lQ eX aL (bY) fun r8 _ => ?_
 refine lC ?_ ?_
 ·refine lQ eX aL (gJ _ _) fun r9 _ => ?_
  refine lC ?_ ?_
  ·refine lQ eX aL (sV _ _) fun r10 _ => ?_
   refine lC ?_ ?_
   ·refine lQ eX adn (aex _ _) fun r11 _ => ?_
    refine lQ eX aL (gJ _ _) fun r12 _ => ?_
    refine lC ?_ ?_
    ·refine lQ eX aS (nQ _) fun r13 _ => ?_
     refine lC ?_ ?_
     ·refine lQ eX aS (nQ _) fun r14 _ => ?_
      exact aJ rfl
     ·exact aJ rfl
    ·exact aJ rfl
   ·exact aJ rfl
  ·exact aJ rfl
 ·exact aJ rfl
theorem aaB (p0 : aB) (p1 : aC) (p2 p3 : Int) : Le (Option.map aE (kL p0 p1 p2 p3)) (bA SE 10 [aB.av p0, aC.av p1, .d (.int .i64 p2), .d (.int .i64 p3)] [] []) := by
 refine aV axQ rfl ?_
 refine Le.trans ?_ (le_of_eq (T10 ..).symm)
 unfold kL
 refine lQ eX aL (pR _ _) fun r0 _ => ?_
 refine lC ?_ ?_
 ·refine lQ eX aL (bY) fun r1 _ => ?_
  exact aJ rfl
 ·refine lC ?_ ?_
  ·refine lQ eX aL (bY) fun r2 _ => ?_
   exact aJ rfl
  ·refine lQ eX aS (zW _) fun r3 _ => ?_
   refine lC ?_ ?_
   ·refine lQ eX aL (bY) fun r4 _ => ?_
    exact aJ rfl
   ·exact yW p2 p3 p0 p1
end Te
end PX
