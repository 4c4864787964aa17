import Derived.Test.YtojlmojebnlmdaaGreatDoorTre0
set_option linter.unusedVariables false
set_option linter.unusedSimpArgs false
set_option maxRecDepth 100000
noncomputable section
namespace PX
open Go
open Md
namespace Te
def akp (C : aP) (Λ2 J : Lam) (a0 : List (List D)) (a1 : Str) (a2 a3 a4 : Int) : Res := lab SE C Λ2 J 128 0 [1, 1, 1, 0, 0] (aW [(0, .d (.sl aF.ks a0)), (1, .d (.str a1)), (2, .fn 129 [] []), (8, .d (.int .i64 a2)), (9, .d (.int .i64 a3)), (10, .d (.int .i64 a4))] [] [] [] [])
section
variable (Γ : Fun) (γ129 : Gm (Int)) (Λ2 J : Lam)
def ajs : aP := aY (aQ Γ) 129 aH γ129
theorem aEI (p0 : List aF) (p1 : Str) : bF SE (ajs Γ γ129) Λ2 J 128 [.d (.sl aF.ks (List.map aF.enc p0)), .d (.str p1), .fn 129 [] []] [] [] =
 akp (ajs Γ γ129) Λ2 J (List.map aF.enc p0) p1 (lM aF.enc p0 : Int) 0 (lM aF.enc p0 : Int) := by kernel_rfl
theorem awP (x0 : List aF) (x1 : Str) (x8 x9 x10 : Int) : bT SE (ajs Γ γ129) Λ2 J 128 0 [1, 1, 1, 0, 0] (aW [(0, .d (.sl aF.ks (List.map aF.enc x0))), (1, .d (.str x1)), (2, .fn 129 [] []), (8, .d (.int .i64 x8)), (9, .d (.int .i64 x9)), (10, .d (.int .i64 x10))] [] [] [] []) =
 cond (decide (x9 < x10)) (
 cond (iB (w6 (shr .u64 (IntKind.wrap .u64 (w6 (x9 + x10))) 1)) (lM aF.enc x0 : Int)) (
  γ129 [.agg [.d (.str (bD (cE aF.enc x0 (w6 (shr .u64 (IntKind.wrap .u64 (w6 (x9 + x10))) 1)) 0))), .d (.int .i64 (aR (cE aF.enc x0 (w6 (shr .u64 (IntKind.wrap .u64 (w6 (x9 + x10))) 1)) 1))), .d (.bool (bN (cE aF.enc x0 (w6 (shr .u64 (IntKind.wrap .u64 (w6 (x9 + x10))) 1)) 2)))], .d (.str x1)] [] [] fun r0 =>
  cond (decide (r0 < 0)) (
  akp (ajs Γ γ129) Λ2 J (List.map aF.enc x0) x1 x8 (w6 ((w6 (shr .u64 (IntKind.wrap .u64 (w6 (x9 + x10))) 1)) + 1)) x10) (
  akp (ajs Γ γ129) Λ2 J (List.map aF.enc x0) x1 x8 x9 (w6 (shr .u64 (IntKind.wrap .u64 (w6 (x9 + x10))) 1)))) none) (
 cond (decide (x9 < x8)) (
 cond (iB x9 (lM aF.enc x0 : Int)) (
  γ129 [.agg [.d (.str (bD (cE aF.enc x0 x9 0))), .d (.int .i64 (aR (cE aF.enc x0 x9 1))), .d (.bool (bN (cE aF.enc x0 x9 2)))], .d (.str x1)] [] [] fun r1 =>
  (some (.ret [.d (.int .i64 x9), .d (.bool (r1 == 0))] [] []))) none) (
 (some (.ret [.d (.int .i64 x9), .d (.bool false)] [] [])))) := by kernel_rfl
end
abbrev arF : aP := ajs gG (cT 129 aH)
theorem avd : arF = aQ gG := by unfold arF ajs; rw [bC fun _ h => h]
abbrev awD := akp arF (bP SE gG (SE.hl 128) (SE.hr 128)) (J0 SE arF)
theorem n9 : ∀ (fu : Nat) (x0 : List aF) (x1 : Str) (x8 x9 x10 : Int), Le (Option.map aX (bV fu x0 x1 x8 x9 x10)) (awD (List.map aF.enc x0) x1 x8 x9 x10) := by
 intro fu
 induction fu with
 | zero => intros; exact le_none
 | succ fu ih =>
  intro x0 x1 x8 x9 x10
  refine Le.trans ?_ (le_of_eq ((aZ avd).trans (awP ..)).symm)
  unfold bV
  refine lC ?_ ?_
  ·refine lG (by simp only [EN]) ?_
   refine lQ eX aS (by (try simp only [EN]); exact ab3 (List.getD x0 (Int.toNat (w6 (shr .u64 (IntKind.wrap .u64 (w6 (x9 + x10))) 1))) default) x1) fun r0 _ => ?_
   refine lC ?_ ?_
   ·exact ih x0 x1 x8 (w6 ((w6 (shr .u64 (IntKind.wrap .u64 (w6 (x9 + x10))) 1)) + 1)) x10
   ·exact ih x0 x1 x8 x9 (w6 (shr .u64 (IntKind.wrap .u64 (w6 (x9 + x10))) 1))
  ·refine lC ?_ ?_
   ·refine lG (by simp only [EN]) ?_
    refine lQ eX aS (by (try simp only [EN]); exact ab3 (List.getD x0 (Int.toNat x9) default) x1) fun r1 _ => ?_
    exact aJ rfl
   ·exact aJ rfl
theorem pB (p0 : List aF) (p1 : Str) : Le (Option.map aX (dK p0 p1)) (bA SE 128 [.d (.sl aF.ks (List.map aF.enc p0)), .d (.str p1), .fn 129 [] []] [] []) := by
 refine aV avd rfl ?_
 refine Le.trans ?_ (le_of_eq (aEI ..).symm)
 unfold dK
 (try simp only [EN]); exact n9 fuel p0 p1 (List.length p0 : Int) 0 (List.length p0 : Int)
section
variable (Γ : Fun) (γ128 : Gm (Int × Bool)) (Λ2 J : Lam)
def C67 : aP := aY (aQ Γ) 128 aX γ128
theorem T67 (p0 : List aF) (p1 : Str) : bF SE (C67 Γ γ128) Λ2 J 67 [.d (.sl aF.ks (List.map aF.enc p0)), .d (.str p1)] [] [] =
 γ128 [.d (.sl aF.ks (List.map aF.enc p0)), .d (.str p1), .fn 129 [] []] [] [] fun r0 =>
 (some (.ret [.d (.int .i64 r0.1), .d (.bool r0.2)] [] [])) := by kernel_rfl
end
abbrev X67 : aP := C67 gG (cT 128 aX)
theorem aEC : X67 = aQ gG := by unfold X67 C67; rw [bC fun _ h => h]
theorem ad7 (p0 : List aF) (p1 : Str) : Le (Option.map aX (tU p0 p1)) (bA SE 67 [.d (.sl aF.ks (List.map aF.enc p0)), .d (.str p1)] [] []) := by
 refine aV aEC rfl ?_
 refine Le.trans ?_ (le_of_eq (T67 ..).symm)
 unfold tU
 refine lQ eX cG (pB _ _) fun r0 _ => ?_
 exact aJ rfl
section
variable (Γ : Fun)  (Λ2 J : Lam)
def aAb : aP := aQ Γ
theorem aDF (p0 : List aF) : bF SE (aAb Γ) Λ2 J 103 [.d (.sl aF.ks (List.map aF.enc p0))] [] [] =
 cond (List.isEmpty (List.map aF.enc p0)) (
 abl (
  (some (.ret [.row 0] [] [⟨aF.ks, 60, 32, []⟩]))) (
  cond (decide ((lM aF.enc [] + lM aF.enc p0) * 32 ≤ 140737488355328)) (
  (some (.ret [.row 0] [] [⟨aF.ks, 60, 32, ((List.map aF.enc []) ++ (List.map aF.enc p0))⟩]))) none)) (
 cond (decide ((lM aF.enc [] + lM aF.enc p0) * 32 ≤ 140737488355328)) (
 (some (.ret [.row 0] [] [⟨aF.ks, 60, 32, ((List.map aF.enc []) ++ (List.map aF.enc p0))⟩]))) none) := by kernel_rfl
end
abbrev aEe : aP := aAb gG
theorem aCl : aEe = aQ gG := rfl
theorem xQ (p0 : List aF) : Le (Option.map bJ (fU p0)) (bA SE 103 [.d (.sl aF.ks (List.map aF.enc p0))] [] []) := by
 refine aV aCl rfl ?_
 refine Le.trans ?_ (le_of_eq (aDF ..).symm)
 unfold fU
 refine lD (by simp only [EN]) ?_ ?_
 ·refine alo ?_ ?_
  ·exact aJ rfl
  ·refine lG (by simp only [EN]) ?_
   exact aJ rfl
 ·refine lG (by simp only [EN]) ?_
  exact aJ rfl
section
variable (Γ : Fun)  (Λ2 J : Lam)
def azI : aP := aQ Γ
theorem aDE (p0 : List Int) : bF SE (azI Γ) Λ2 J 104 [.d (.sl [.int .i64] (List.map eI p0))] [] [] =
 cond (List.isEmpty (List.map eI p0)) (
 abl (
  (some (.ret [.row 0] [] [⟨[.int .i64], 3, 8, []⟩]))) (
  cond (decide ((lM eI [] + lM eI p0) * 8 ≤ 140737488355328)) (
  (some (.ret [.row 0] [] [⟨[.int .i64], 3, 8, ((List.map eI []) ++ (List.map eI p0))⟩]))) none)) (
 cond (decide ((lM eI [] + lM eI p0) * 8 ≤ 140737488355328)) (
 (some (.ret [.row 0] [] [⟨[.int .i64], 3, 8, ((List.map eI []) ++ (List.map eI p0))⟩]))) none) := by kernel_rfl
end
abbrev aFo : aP := azI gG
theorem aBE : aFo = aQ gG := rfl
theorem hZ (p0 : List Int) : Le (Option.map bI (dX p0)) (bA SE 104 [.d (.sl [.int .i64] (List.map eI p0))] [] []) := by
 refine aV aBE rfl ?_
 refine Le.trans ?_ (le_of_eq (aDE ..).symm)
 unfold dX
 refine lD (by simp only [EN]) ?_ ?_
 ·refine alo ?_ ?_
  ·exact aJ rfl
  ·refine lG (by simp only [EN]) ?_
   exact aJ rfl
 ·refine lG (by simp only [EN]) ?_
  exact aJ rfl
def an5 (C : aP) (Λ2 J : Lam) (a0 : List (List D)) (a1 a2 : Int) (a3 a4 : Str) (a5 : Bool) (a6 a7 a8 a9 a10 : Int) (a11 a12 : List (List D)) (a13 : Int) (a14 : List (List D)) (a15 : Bool) (a16 : Int) (a17 a18 : Str) (a19 : Int) (a20 : Bool) (a21 a22 : Int) (a23 : Str) (a24 : Int) (a25 : List (List D)) (a26 : List D) (a27 a28 a29 : List (List D)) : Res := lab SE C Λ2 J 50 0 [1, 1, 1, 1, 1, 1, 0, 1, 0] (aW [(1, .ptr 1000000000 0), (2, .ptr 1000000001 0), (6, .row 3006), (39, .d (.sl aD.ks a0)), (40, .d (.int .i64 a1)), (41, .d (.int .i64 a2))] [⟨38, [.d (.str a3), .d (.str a4), .d (.bool a5), .d (.int .i64 a6), .d (.int .i64 a7), .d (.int .i64 a8), .d (.int .i64 a9), .row 50007, .row 50008, .d (.int .i64 a10), .d (.sl aD.ks a11), .d (.sl [.int .i64] a12), .d (.int .i64 a13), .d (.sl [.int .i64] a14), .d (.bool a15), .d (.int .i64 a16), .d (.str a17), .d (.str a18), .d (.int .i64 a19), .d (.bool a20), .d (.int .i64 a21), .d (.int .i64 a22), .d (.str a23), .d (.int .i64 a24), .d (.sl aG.ks a25)]⟩, ⟨38, (List.map AV.d a26)⟩] [] [] [(3006, ⟨aD.ks, 122, 128, a27⟩), (50007, ⟨aF.ks, 60, 32, a28⟩), (50008, ⟨aA.ks, 34, 112, a29⟩)])
def aqT (C : aP) (Λ2 J : Lam) (a0 : List (List D)) (a1 a2 : Int) (a3 a4 : Str) (a5 : Bool) (a6 a7 a8 a9 : Int) (a10 : List (List D)) (a11 : Int) (a12 a13 : List (List D)) (a14 : Int) (a15 : List (List D)) (a16 : Bool) (a17 : Int) (a18 a19 : Str) (a20 : Int) (a21 : Bool) (a22 a23 : Int) (a24 : Str) (a25 : Int) (a26 : List (List D)) (a27 : List D) (a28 a29 : List (List D)) : Res := lab SE C Λ2 J 50 0 [1, 1, 1, 0, 1, 0] (aW [(1, .ptr 1000000000 0), (2, .ptr 1000000001 0), (3, .row 3003), (18, .d (.sl aA.ks a0)), (19, .d (.int .i64 a1)), (20, .d (.int .i64 a2))] [⟨38, [.d (.str a3), .d (.str a4), .d (.bool a5), .d (.int .i64 a6), .d (.int .i64 a7), .d (.int .i64 a8), .d (.int .i64 a9), .row 50007, .d (.sl aA.ks a10), .d (.int .i64 a11), .d (.sl aD.ks a12), .d (.sl [.int .i64] a13), .d (.int .i64 a14), .d (.sl [.int .i64] a15), .d (.bool a16), .d (.int .i64 a17), .d (.str a18), .d (.str a19), .d (.int .i64 a20), .d (.bool a21), .d (.int .i64 a22), .d (.int .i64 a23), .d (.str a24), .d (.int .i64 a25), .d (.sl aG.ks a26)]⟩, ⟨38, (List.map AV.d a27)⟩] [] [] [(3003, ⟨aA.ks, 34, 112, a28⟩), (50007, ⟨aF.ks, 60, 32, a29⟩)])
section
variable (Γ : Fun) (γ103 : Gm ((List aF))) (γ80 : Gm (aA)) (γ104 : Gm ((List Int))) (Λ2 J : Lam)
def C50 : aP := aY (aY (aY (aQ Γ) 103 bJ γ103) 80 bX γ80) 104 bI γ104
theorem T50 (p0 : aB) : bF SE (C50 Γ γ103 γ80 γ104) Λ2 J 50 [aB.av p0] [] [] =
 γ103 [.d (.sl aF.ks (List.map aF.enc p0.Subs))] [] [] fun r0 =>
 cond (decide (0 ≤ 0) && decide (0 ≤ (lM aA.enc p0.Queue : Int)) && decide ((lM aA.enc p0.Queue : Int) * 112 ≤ 281474976710656)) (
 aqT (C50 Γ γ103 γ80 γ104) Λ2 J (List.map aA.enc p0.Queue) (lM aA.enc p0.Queue : Int) 0 p0.Client p0.User p0.Online p0.Conn p0.Expiry p0.Until p0.Dropped (List.map aA.enc p0.Queue) p0.Out.Limit (List.map aD.enc p0.Out.Items) (List.map eI p0.Out.Pool.Used) p0.Out.Pool.Last (List.map eI p0.In.IDs) p0.Will.Set p0.Will.Delay p0.Will.Message.Topic p0.Will.Message.Payload p0.Will.Message.Level p0.Will.Message.Retain p0.Will.Message.Priority p0.Will.Message.Expires p0.Will.Message.From p0.Will.Message.Seq (List.map aG.enc p0.Will.Message.Props) [D.str [], D.str [], D.bool false, D.int .i64 0, D.int .i64 0, D.int .i64 0, D.int .i64 0, D.sl aF.ks (List.map aF.enc []), D.sl aA.ks (List.map aA.enc []), D.int .i64 0, D.sl aD.ks (List.map aD.enc []), D.sl [.int .i64] (List.map eI []), D.int .i64 0, D.sl [.int .i64] (List.map eI []), D.bool false, D.int .i64 0, D.str [], D.str [], D.int .i64 0, D.bool false, D.int .i64 0, D.int .i64 0, D.str [], D.int .i64 0, D.sl aG.ks (List.map aG.enc [])] (List.map aA.enc []) (List.map aF.enc r0)) none := by kernel_rfl
theorem ayQ (x39 : List aD) (x40 x41 : Int) (b0_0 b0_1 : Str) (b0_2 : Bool) (b0_3 b0_4 b0_5 b0_6 b0_9 : Int) (b0_10 : List aD) (b0_11 : List Int) (b0_12 : Int) (b0_13 : List Int) (b0_14 : Bool) (b0_15 : Int) (b0_16 b0_17 : Str) (b0_18 : Int) (b0_19 : Bool) (b0_20 b0_21 : Int) (b0_22 : Str) (b0_23 : Int) (b0_24 : List aG) (b1 : aB) (w3006 : List aD) (w50007 : List aF) (w50008 : List aA) : bT SE (C50 Γ γ103 γ80 γ104) Λ2 J 50 0 [1, 1, 1, 1, 1, 1, 0, 1, 0] (aW [(1, .ptr 1000000000 0), (2, .ptr 1000000001 0), (6, .row 3006), (39, .d (.sl aD.ks (List.map aD.enc x39))), (40, .d (.int .i64 x40)), (41, .d (.int .i64 x41))] [⟨38, [.d (.str b0_0), .d (.str b0_1), .d (.bool b0_2), .d (.int .i64 b0_3), .d (.int .i64 b0_4), .d (.int .i64 b0_5), .d (.int .i64 b0_6), .row 50007, .row 50008, .d (.int .i64 b0_9), .d (.sl aD.ks (List.map aD.enc b0_10)), .d (.sl [.int .i64] (List.map eI b0_11)), .d (.int .i64 b0_12), .d (.sl [.int .i64] (List.map eI b0_13)), .d (.bool b0_14), .d (.int .i64 b0_15), .d (.str b0_16), .d (.str b0_17), .d (.int .i64 b0_18), .d (.bool b0_19), .d (.int .i64 b0_20), .d (.int .i64 b0_21), .d (.str b0_22), .d (.int .i64 b0_23), .d (.sl aG.ks (List.map aG.enc b0_24))]⟩, ⟨38, (List.map AV.d (aB.enc b1))⟩] [] [] [(3006, ⟨aD.ks, 122, 128, (List.map aD.enc w3006)⟩), (50007, ⟨aF.ks, 60, 32, (List.map aF.enc w50007)⟩), (50008, ⟨aA.ks, 34, 112, (List.map aA.enc w50008)⟩)]) =
 cond (decide (x41 < x40)) (
 cond (iB x41 (lM aD.enc x39 : Int)) (
  γ80 [.agg [.d (.str (bD (cE aD.enc x39 x41 2))), .d (.str (bD (cE aD.enc x39 x41 3))), .d (.int .i64 (aR (cE aD.enc x39 x41 4))), .d (.bool (bN (cE aD.enc x39 x41 5))), .d (.int .i64 (aR (cE aD.enc x39 x41 6))), .d (.int .i64 (aR (cE aD.enc x39 x41 7))), .d (.str (bD (cE aD.enc x39 x41 8))), .d (.int .i64 (aR (cE aD.enc x39 x41 9))), .d (.sl aG.ks (dSl (cE aD.enc x39 x41 10)))]] [] [] fun r2 =>
  cond (decide ((lM aD.enc w3006 + List.length [[D.int .i64 (aR (cE aD.enc x39 x41 0)), D.int .i64 (aR (cE aD.enc x39 x41 1)), D.str r2.Topic, D.str r2.Payload, D.int .i64 r2.Level, D.bool r2.Retain, D.int .i64 r2.Priority, D.int .i64 r2.Expires, D.str r2.From, D.int .i64 r2.Seq, D.sl aG.ks (List.map aG.enc r2.Props)]]) * 128 ≤ 140737488355328)) (
  an5 (C50 Γ γ103 γ80 γ104) Λ2 J (List.map aD.enc x39) x40 (w6 (x41 + 1)) b0_0 b0_1 b0_2 b0_3 b0_4 b0_5 b0_6 b0_9 (List.map aD.enc b0_10) (List.map eI b0_11) b0_12 (List.map eI b0_13) b0_14 b0_15 b0_16 b0_17 b0_18 b0_19 b0_20 b0_21 b0_22 b0_23 (List.map aG.enc b0_24) (aB.enc b1) (((List.map aD.enc w3006) ++ [[D.int .i64 (aR (cE aD.enc x39 x41 0)), D.int .i64 (aR (cE aD.enc x39 x41 1)), D.str r2.Topic, D.str r2.Payload, D.int .i64 r2.Level, D.bool r2.Retain, D.int .i64 r2.Priority, D.int .i64 r2.Expires, D.str r2.From, D.int .i64 r2.Seq, D.sl aG.ks (List.map aG.enc r2.Props)]])) (List.map aF.enc w50007) (List.map aA.enc w50008)) none) none) (
 γ104 [.d (.sl [.int .i64] (List.map eI b0_11))] [] [] fun r3 =>
 γ104 [.d (.sl [.int .i64] (List.map eI b0_13))] [] [] fun r4 =>
 γ80 [aA.av (aA.mk b0_16 b0_17 b0_18 b0_19 b0_20 b0_21 b0_22 b0_23 b0_24)] [] [] fun r5 =>
 (some (.ret [.agg [.d (.str b0_0), .d (.str b0_1), .d (.bool b0_2), .d (.int .i64 b0_3), .d (.int .i64 b0_4), .d (.int .i64 b0_5), .d (.int .i64 b0_6), .row 0, .row 1, .d (.int .i64 b0_9), .row 2, .row 3, .d (.int .i64 b0_12), .row 4, .d (.bool b0_14), .d (.int .i64 b0_15), .d (.str r5.Topic), .d (.str r5.Payload), .d (.int .i64 r5.Level), .d (.bool r5.Retain), .d (.int .i64 r5.Priority), .d (.int .i64 r5.Expires), .d (.str r5.From), .d (.int .i64 r5.Seq), .row 5]] [] [⟨aF.ks, 60, 32, (List.map aF.enc w50007)⟩, ⟨aA.ks, 34, 112, (List.map aA.enc w50008)⟩, ⟨aD.ks, 122, 128, (List.map aD.enc w3006)⟩, ⟨[.int .i64], 3, 8, (List.map eI r3)⟩, ⟨[.int .i64], 3, 8, (List.map eI r4)⟩, ⟨aG.ks, 130, 32, (List.map aG.enc r5.Props)⟩]))) := by kernel_rfl
theorem aCv (x18 : List aA) (x19 x20 : Int) (b0_0 b0_1 : Str) (b0_2 : Bool) (b0_3 b0_4 b0_5 b0_6 : Int) (b0_8 : List aA) (b0_9 : Int) (b0_10 : List aD) (b0_11 : List Int) (b0_12 : Int) (b0_13 : List Int) (b0_14 : Bool) (b0_15 : Int) (b0_16 b0_17 : Str) (b0_18 : Int) (b0_19 : Bool) (b0_20 b0_21 : Int) (b0_22 : Str) (b0_23 : Int) (b0_24 : List aG) (b1 : aB) (w3003 : List aA) (w50007 : List aF) : bT SE (C50 Γ γ103 γ80 γ104) Λ2 J 50 0 [1, 1, 1, 0, 1, 0] (aW [(1, .ptr 1000000000 0), (2, .ptr 1000000001 0), (3, .row 3003), (18, .d (.sl aA.ks (List.map aA.enc x18))), (19, .d (.int .i64 x19)), (20, .d (.int .i64 x20))] [⟨38, [.d (.str b0_0), .d (.str b0_1), .d (.bool b0_2), .d (.int .i64 b0_3), .d (.int .i64 b0_4), .d (.int .i64 b0_5), .d (.int .i64 b0_6), .row 50007, .d (.sl aA.ks (List.map aA.enc b0_8)), .d (.int .i64 b0_9), .d (.sl aD.ks (List.map aD.enc b0_10)), .d (.sl [.int .i64] (List.map eI b0_11)), .d (.int .i64 b0_12), .d (.sl [.int .i64] (List.map eI b0_13)), .d (.bool b0_14), .d (.int .i64 b0_15), .d (.str b0_16), .d (.str b0_17), .d (.int .i64 b0_18), .d (.bool b0_19), .d (.int .i64 b0_20), .d (.int .i64 b0_21), .d (.str b0_22), .d (.int .i64 b0_23), .d (.sl aG.ks (List.map aG.enc b0_24))]⟩, ⟨38, (List.map AV.d (aB.enc b1))⟩] [] [] [(3003, ⟨aA.ks, 34, 112, (List.map aA.enc w3003)⟩), (50007, ⟨aF.ks, 60, 32, (List.map aF.enc w50007)⟩)]) =
 cond (decide (x20 < x19)) (
 cond (iB x20 (lM aA.enc x18 : Int)) (
  γ80 [.agg [.d (.str (bD (cE aA.enc x18 x20 0))), .d (.str (bD (cE aA.enc x18 x20 1))), .d (.int .i64 (aR (cE aA.enc x18 x20 2))), .d (.bool (bN (cE aA.enc x18 x20 3))), .d (.int .i64 (aR (cE aA.enc x18 x20 4))), .d (.int .i64 (aR (cE aA.enc x18 x20 5))), .d (.str (bD (cE aA.enc x18 x20 6))), .d (.int .i64 (aR (cE aA.enc x18 x20 7))), .d (.sl aG.ks (dSl (cE aA.enc x18 x20 8)))]] [] [] fun r1 =>
  cond (decide ((lM aA.enc w3003 + lM aA.enc [r1]) * 112 ≤ 140737488355328)) (
  aqT (C50 Γ γ103 γ80 γ104) Λ2 J (List.map aA.enc x18) x19 (w6 (x20 + 1)) b0_0 b0_1 b0_2 b0_3 b0_4 b0_5 b0_6 (List.map aA.enc b0_8) b0_9 (List.map aD.enc b0_10) (List.map eI b0_11) b0_12 (List.map eI b0_13) b0_14 b0_15 b0_16 b0_17 b0_18 b0_19 b0_20 b0_21 b0_22 b0_23 (List.map aG.enc b0_24) (aB.enc b1) (((List.map aA.enc w3003) ++ (List.map aA.enc [r1]))) (List.map aF.enc w50007)) none) none) (
 cond (decide (0 ≤ 0) && decide (0 ≤ (lM aD.enc b0_10 : Int)) && decide ((lM aD.enc b0_10 : Int) * 128 ≤ 281474976710656)) (
 an5 (C50 Γ γ103 γ80 γ104) Λ2 J (List.map aD.enc b0_10) (lM aD.enc b0_10 : Int) 0 b0_0 b0_1 b0_2 b0_3 b0_4 b0_5 b0_6 b0_9 (List.map aD.enc b0_10) (List.map eI b0_11) b0_12 (List.map eI b0_13) b0_14 b0_15 b0_16 b0_17 b0_18 b0_19 b0_20 b0_21 b0_22 b0_23 (List.map aG.enc b0_24) (aB.enc b1) (List.map aD.enc []) (List.map aF.enc w50007) (List.map aA.enc w3003)) none) := by kernel_rfl
end
abbrev X50 : aP := C50 gG (cT 103 bJ) (cT 80 bX) (cT 104 bI)
theorem aur : X50 = aQ gG := by unfold X50 C50; repeat rw [bC fun _ h => h]
abbrev azZ := an5 X50 (bP SE gG (SE.hl 50) (SE.hr 50)) (J0 SE X50)
abbrev aCc := aqT X50 (bP SE gG (SE.hl 50) (SE.hr 50)) (J0 SE X50)
theorem agD : ∀ (fu : Nat) (x39 : List aD) (x40 x41 : Int) (b0_0 b0_1 : Str) (b0_2 : Bool) (b0_3 b0_4 b0_5 b0_6 b0_9 : Int) (b0_10 : List aD) (b0_11 : List Int) (b0_12 : Int) (b0_13 : List Int) (b0_14 : Bool) (b0_15 : Int) (b0_16 b0_17 : Str) (b0_18 : Int) (b0_19 : Bool) (b0_20 b0_21 : Int) (b0_22 : Str) (b0_23 : Int) (b0_24 : List aG) (b1 : aB) (w3006 : List aD) (w50007 : List aF) (w50008 : List aA), Le (Option.map cB (j4 fu x39 x40 x41 b0_0 b0_1 b0_2 b0_3 b0_4 b0_5 b0_6 b0_9 b0_10 b0_11 b0_12 b0_13 b0_14 b0_15 b0_16 b0_17 b0_18 b0_19 b0_20 b0_21 b0_22 b0_23 b0_24 b1 w3006 w50007 w50008)) (azZ (List.map aD.enc x39) x40 x41 b0_0 b0_1 b0_2 b0_3 b0_4 b0_5 b0_6 b0_9 (List.map aD.enc b0_10) (List.map eI b0_11) b0_12 (List.map eI b0_13) b0_14 b0_15 b0_16 b0_17 b0_18 b0_19 b0_20 b0_21 b0_22 b0_23 (List.map aG.enc b0_24) (aB.enc b1) (List.map aD.enc w3006) (List.map aF.enc w50007) (List.map aA.enc w50008)) := by
 intro fu
 induction fu with
 | zero => intros; exact le_none
 | succ fu ih =>
  intro x39 x40 x41 b0_0 b0_1 b0_2 b0_3 b0_4 b0_5 b0_6 b0_9 b0_10 b0_11 b0_12 b0_13 b0_14 b0_15 b0_16 b0_17 b0_18 b0_19 b0_20 b0_21 b0_22 b0_23 b0_24 b1 w3006 w50007 w50008
  refine Le.trans ?_ (le_of_eq ((aZ aur).trans (ayQ ..)).symm)
  unfold j4
  refine lC ?_ ?_
  ·refine lG (by simp only [EN]) ?_
   refine lQ eX c8 (by (try simp only [EN]); exact mM ((List.getD x39 (Int.toNat x41) default).Message)) fun r2 _ => ?_
   refine lG (by simp only [EN]) ?_
   (try simp only [EN]); exact ih x39 x40 (w6 (x41 + 1)) b0_0 b0_1 b0_2 b0_3 b0_4 b0_5 b0_6 b0_9 b0_10 b0_11 b0_12 b0_13 b0_14 b0_15 b0_16 b0_17 b0_18 b0_19 b0_20 b0_21 b0_22 b0_23 b0_24 b1 ((w3006 ++ [(aD.mk (List.getD x39 (Int.toNat x41) default).ID (List.getD x39 (Int.toNat x41) default).State r2)])) w50007 w50008
  ·refine lQ eX dM (hZ _) fun r3 _ => ?_
   refine lQ eX dM (hZ _) fun r4 _ => ?_
   refine lQ eX c8 (mM _) fun r5 _ => ?_
   exact aJ rfl
theorem agO : ∀ (fu : Nat) (x18 : List aA) (x19 x20 : Int) (b0_0 b0_1 : Str) (b0_2 : Bool) (b0_3 b0_4 b0_5 b0_6 : Int) (b0_8 : List aA) (b0_9 : Int) (b0_10 : List aD) (b0_11 : List Int) (b0_12 : Int) (b0_13 : List Int) (b0_14 : Bool) (b0_15 : Int) (b0_16 b0_17 : Str) (b0_18 : Int) (b0_19 : Bool) (b0_20 b0_21 : Int) (b0_22 : Str) (b0_23 : Int) (b0_24 : List aG) (b1 : aB) (w3003 : List aA) (w50007 : List aF), Le (Option.map cB (kW fu x18 x19 x20 b0_0 b0_1 b0_2 b0_3 b0_4 b0_5 b0_6 b0_8 b0_9 b0_10 b0_11 b0_12 b0_13 b0_14 b0_15 b0_16 b0_17 b0_18 b0_19 b0_20 b0_21 b0_22 b0_23 b0_24 b1 w3003 w50007)) (aCc (List.map aA.enc x18) x19 x20 b0_0 b0_1 b0_2 b0_3 b0_4 b0_5 b0_6 (List.map aA.enc b0_8) b0_9 (List.map aD.enc b0_10) (List.map eI b0_11) b0_12 (List.map eI b0_13) b0_14 b0_15 b0_16 b0_17 b0_18 b0_19 b0_20 b0_21 b0_22 b0_23 (List.map aG.enc b0_24) (aB.enc b1) (List.map aA.enc w3003) (List.map aF.enc w50007)) := by
 intro fu
 induction fu with
 | zero => intros; exact le_none
 | succ fu ih =>
  intro x18 x19 x20 b0_0 b0_1 b0_2 b0_3 b0_4 b0_5 b0_6 b0_8 b0_9 b0_10 b0_11 b0_12 b0_13 b0_14 b0_15 b0_16 b0_17 b0_18 b0_19 b0_20 b0_21 b0_22 b0_23 b0_24 b1 w3003 w50007
  refine Le.trans ?_ (le_of_eq ((aZ aur).trans (aCv ..)).symm)
  unfold kW
  refine lC ?_ ?_
  ·refine lG (by simp only [EN]) ?_
   refine lQ eX c8 (by (try simp only [EN]); exact mM (List.getD x18 (Int.toNat x20) default)) fun r1 _ => ?_
   refine lG (by simp only [EN]) ?_
   (try simp only [EN]); exact ih x18 x19 (w6 (x20 + 1)) b0_0 b0_1 b0_2 b0_3 b0_4 b0_5 b0_6 b0_8 b0_9 b0_10 b0_11 b0_12 b0_13 b0_14 b0_15 b0_16 b0_17 b0_18 b0_19 b0_20 b0_21 b0_22 b0_23 b0_24 b1 (w3003 ++ [r1]) w50007
  ·refine lG (by simp only [EN]) ?_
   (try simp only [EN]); exact agD fuel b0_10 (List.length b0_10 : Int) 0 b0_0 b0_1 b0_2 b0_3 b0_4 b0_5 b0_6 b0_9 b0_10 b0_11 b0_12 b0_13 b0_14 b0_15 b0_16 b0_17 b0_18 b0_19 b0_20 b0_21 b0_22 b0_23 b0_24 b1 [] w50007 w3003
theorem jM (p0 : aB) : Le (Option.map cB (gO p0)) (bA SE 50 [aB.av p0] [] []) := by
 refine aV aur rfl ?_
 refine Le.trans ?_ (le_of_eq (T50 ..).symm)
 unfold gO
 refine lQ eX eE (xQ _) fun r0 _ => ?_
 refine lG (by simp only [EN]) ?_
 (try simp only [EN]); exact agO fuel p0.Queue (List.length p0.Queue : Int) 0 p0.Client p0.User p0.Online p0.Conn p0.Expiry p0.Until p0.Dropped p0.Queue p0.Out.Limit p0.Out.Items p0.Out.Pool.Used p0.Out.Pool.Last p0.In.IDs p0.Will.Set p0.Will.Delay p0.Will.Message.Topic p0.Will.Message.Payload p0.Will.Message.Level p0.Will.Message.Retain p0.Will.Message.Priority p0.Will.Message.Expires p0.Will.Message.From p0.Will.Message.Seq p0.Will.Message.Props ((aB.mk [] [] false 0 0 0 0 [] [] (aI.mk 0 [] (aO.mk [] 0)) (bE.mk []) (aU.mk false 0 (aA.mk [] [] 0 false 0 0 [] 0 [])))) [] r0
theorem wX (p0 : List aF) (p1 : Int) (p2 : List aF) : Le (Option.map bJ (kU p0 p1 p2)) (bA SE 68 [.row 2000000000, .d (.int .i64 p1), .row 2000000001] [] [⟨aF.ks, 60, 32, (List.map aF.enc p0)⟩, ⟨aF.ks, 60, 32, (List.map aF.enc p2)⟩]) := al9 (f := 68) (enc := aF.enc) rfl rfl p0 p1 p2
def aqB (C : aP) (Λ2 J : Lam) (a0 : Int) (a1 : Bool) (a2 a3 a4 : List D) : Res := lab SE C Λ2 J 26 0 [1, 1, 1, 1, 0] (aW [(2, .ptr 1000000000 0), (3, .ptr 1000000001 0), (4, .ptr 1000000002 0), (8, .d (.int .i64 a0)), (9, .d (.bool a1))] [⟨38, (List.map AV.d a2)⟩, ⟨60, (List.map AV.d a3)⟩, ⟨38, (List.map AV.d a4)⟩] [] [] [])
section
variable (Γ : Fun) (γ66 : Gm (Int)) (γ67 : Gm (Int × Bool)) (γ50 : Gm (aB)) (γ68 : Gm ((List aF))) (Λ2 J : Lam)
def C26 : aP := aY (aY (aY (aY (aQ Γ) 66 aH γ66) 67 aX γ67) 50 cB γ50) 68 bJ γ68
theorem T26 (p0 : aB) (p1 : aF) : bF SE (C26 Γ γ66 γ67 γ50 γ68) Λ2 J 26 [aB.av p0, aF.av p1] [] [] =
 γ66 [aF.av p1] [] [] fun r0 =>
 cond (r0 != 0) (
 (some (.ret [.agg [.d (.str []), .d (.str []), .d (.bool false), .d (.int .i64 0), .d (.int .i64 0), .d (.int .i64 0), .d (.int .i64 0), .row 0, .row 1, .d (.int .i64 0), .row 2, .row 3, .d (.int .i64 0), .row 4, .d (.bool false), .d (.int .i64 0), .d (.str []), .d (.str []), .d (.int .i64 0), .d (.bool false), .d (.int .i64 0), .d (.int .i64 0), .d (.str []), .d (.int .i64 0), .row 5], .d (.bool false), .d (.int .i64 r0)] [] [⟨aF.ks, 60, 32, (List.map aF.enc [])⟩, ⟨aA.ks, 34, 112, (List.map aA.enc [])⟩, ⟨aD.ks, 122, 128, (List.map aD.enc [])⟩, ⟨[.int .i64], 3, 8, (List.map eI [])⟩, ⟨[.int .i64], 3, 8, (List.map eI [])⟩, ⟨aG.ks, 130, 32, (List.map aG.enc [])⟩]))) (
 γ67 [.d (.sl aF.ks (List.map aF.enc p0.Subs)), .d (.str p1.Filter)] [] [] fun r1 =>
 cond (!r1.2) (
 cond (decide ((lM aF.enc p0.Subs : Int) ≥ 32)) (
  (some (.ret [.agg [.d (.str []), .d (.str []), .d (.bool false), .d (.int .i64 0), .d (.int .i64 0), .d (.int .i64 0), .d (.int .i64 0), .row 0, .row 1, .d (.int .i64 0), .row 2, .row 3, .d (.int .i64 0), .row 4, .d (.bool false), .d (.int .i64 0), .d (.str []), .d (.str []), .d (.int .i64 0), .d (.bool false), .d (.int .i64 0), .d (.int .i64 0), .d (.str []), .d (.int .i64 0), .row 5], .d (.bool false), .d (.int .i64 6)] [] [⟨aF.ks, 60, 32, (List.map aF.enc [])⟩, ⟨aA.ks, 34, 112, (List.map aA.enc [])⟩, ⟨aD.ks, 122, 128, (List.map aD.enc [])⟩, ⟨[.int .i64], 3, 8, (List.map eI [])⟩, ⟨[.int .i64], 3, 8, (List.map eI [])⟩, ⟨aG.ks, 130, 32, (List.map aG.enc [])⟩]))) (
 aqB (C26 Γ γ66 γ67 γ50 γ68) Λ2 J r1.1 r1.2 (aB.enc p0) (aF.enc p1) [D.str [], D.str [], D.bool false, D.int .i64 0, D.int .i64 0, D.int .i64 0, D.int .i64 0, D.sl aF.ks (List.map aF.enc []), D.sl aA.ks (List.map aA.enc []), D.int .i64 0, D.sl aD.ks (List.map aD.enc []), D.sl [.int .i64] (List.map eI []), D.int .i64 0, D.sl [.int .i64] (List.map eI []), D.bool false, D.int .i64 0, D.str [], D.str [], D.int .i64 0, D.bool false, D.int .i64 0, D.int .i64 0, D.str [], D.int .i64 0, D.sl aG.ks (List.map aG.enc [])])) (
 aqB (C26 Γ γ66 γ67 γ50 γ68) Λ2 J r1.1 r1.2 (aB.enc p0) (aF.enc p1) [D.str [], D.str [], D.bool false, D.int .i64 0, D.int .i64 0, D.int .i64 0, D.int .i64 0, D.sl aF.ks (List.map aF.enc []), D.sl aA.ks (List.map aA.enc []), D.int .i64 0, D.sl aD.ks (List.map aD.enc []), D.sl [.int .i64] (List.map eI []), D.int .i64 0, D.sl [.int .i64] (List.map eI []), D.bool false, D.int .i64 0, D.str [], D.str [], D.int .i64 0, D.bool false, D.int .i64 0, D.int .i64 0, D.str [], D.int .i64 0, D.sl aG.ks (List.map aG.enc [])])) := by kernel_rfl
theorem aBI (x8 : Int) (x9 : Bool) (b0 : aB) (b1 : aF) (b2 : aB) : bT SE (C26 Γ γ66 γ67 γ50 γ68) Λ2 J 26 0 [1, 1, 1, 1, 0] (aW [(2, .ptr 1000000000 0), (3, .ptr 1000000001 0), (4, .ptr 1000000002 0), (8, .d (.int .i64 x8)), (9, .d (.bool x9))] [⟨38, (List.map AV.d (aB.enc b0))⟩, ⟨60, (List.map AV.d (aF.enc b1))⟩, ⟨38, (List.map AV.d (aB.enc b2))⟩] [] [] []) =
 γ50 [aB.av b0] [] [] fun r2 =>
 cond x9 (
 cond (iB x8 (lM aF.enc r2.Subs : Int)) (
  (some (.ret [.agg [.d (.str r2.Client), .d (.str r2.User), .d (.bool r2.Online), .d (.int .i64 r2.Conn), .d (.int .i64 r2.Expiry), .d (.int .i64 r2.Until), .d (.int .i64 r2.Dropped), .row 0, .row 1, .d (.int .i64 r2.Out.Limit), .row 2, .row 3, .d (.int .i64 r2.Out.Pool.Last), .row 4, .d (.bool r2.Will.Set), .d (.int .i64 r2.Will.Delay), .d (.str r2.Will.Message.Topic), .d (.str r2.Will.Message.Payload), .d (.int .i64 r2.Will.Message.Level), .d (.bool r2.Will.Message.Retain), .d (.int .i64 r2.Will.Message.Priority), .d (.int .i64 r2.Will.Message.Expires), .d (.str r2.Will.Message.From), .d (.int .i64 r2.Will.Message.Seq), .row 5], .d (.bool x9), .d (.int .i64 0)] [] [⟨aF.ks, 60, 32, (m7 (List.map aF.enc r2.Subs) (Int.toNat x8) 0 (aF.enc b1))⟩, ⟨aA.ks, 34, 112, (List.map aA.enc r2.Queue)⟩, ⟨aD.ks, 122, 128, (List.map aD.enc r2.Out.Items)⟩, ⟨[.int .i64], 3, 8, (List.map eI r2.Out.Pool.Used)⟩, ⟨[.int .i64], 3, 8, (List.map eI r2.In.IDs)⟩, ⟨aG.ks, 130, 32, (List.map aG.enc r2.Will.Message.Props)⟩]))) none) (
 γ68 [.row 2000000000, .d (.int .i64 x8), .row 2000000001] [] [⟨aF.ks, 60, 32, (List.map aF.enc r2.Subs)⟩, ⟨aF.ks, 60, 32, (List.map aF.enc [b1])⟩] fun r3 =>
 (some (.ret [.agg [.d (.str r2.Client), .d (.str r2.User), .d (.bool r2.Online), .d (.int .i64 r2.Conn), .d (.int .i64 r2.Expiry), .d (.int .i64 r2.Until), .d (.int .i64 r2.Dropped), .row 0, .row 1, .d (.int .i64 r2.Out.Limit), .row 2, .row 3, .d (.int .i64 r2.Out.Pool.Last), .row 4, .d (.bool r2.Will.Set), .d (.int .i64 r2.Will.Delay), .d (.str r2.Will.Message.Topic), .d (.str r2.Will.Message.Payload), .d (.int .i64 r2.Will.Message.Level), .d (.bool r2.Will.Message.Retain), .d (.int .i64 r2.Will.Message.Priority), .d (.int .i64 r2.Will.Message.Expires), .d (.str r2.Will.Message.From), .d (.int .i64 r2.Will.Message.Seq), .row 5], .d (.bool x9), .d (.int .i64 0)] [] [⟨aF.ks, 60, 32, (List.map aF.enc r3)⟩, ⟨aA.ks, 34, 112, (List.map aA.enc r2.Queue)⟩, ⟨aD.ks, 122, 128, (List.map aD.enc r2.Out.Items)⟩, ⟨[.int .i64], 3, 8, (List.map eI r2.Out.Pool.Used)⟩, ⟨[.int .i64], 3, 8, (List.map eI r2.In.IDs)⟩, ⟨aG.ks, 130, 32, (List.map aG.enc r2.Will.Message.Props)⟩]))) := by kernel_rfl
end
abbrev X26 : aP := C26 gG (cT 66 aH) (cT 67 aX) (cT 50 cB) (cT 68 bJ)
theorem axD : X26 = aQ gG := by unfold X26 C26; repeat rw [bC fun _ h => h]
abbrev aBk := aqB X26 (bP SE gG (SE.hl 26) (SE.hr 26)) (J0 SE X26)
theorem xN (x8 : Int) (x9 : Bool) (b0 : aB) (b1 : aF) (b2 : aB) : Le (Option.map dV (mK x8 x9 b0 b1 b2)) (aBk x8 x9 (aB.enc b0) (aF.enc b1) (aB.enc b2)) := by
 refine Le.trans ?_ (le_of_eq ((aZ axD).trans (aBI ..)).symm)
 unfold mK
 refine lQ eX gA (jM _) fun r2 _ => ?_
 refine lC ?_ ?_
 ·refine lG (by simp only [EN]) ?_
  exact aJ (by first | rfl | simp only [EN, dV] <;> rfl)
 ·refine lQ eX eE (wX _ _ _) fun r3 _ => ?_
  exact aJ rfl
theorem aat (p0 : aB) (p1 : aF) : Le (Option.map dV (mO p0 p1)) (bA SE 26 [aB.av p0, aF.av p1] [] []) := by
 refine aV axD rfl ?_
 refine Le.trans ?_ (le_of_eq (T26 ..).symm)
 unfold mO
 refine lQ eX aS (aaP _) fun r0 _ => ?_
 refine lC ?_ ?_
 ·exact aJ rfl
 ·refine lQ eX cG (ad7 _ _) fun r1 _ => ?_
  refine lC ?_ ?_
  ·refine lD (by simp only [EN]) ?_ ?_
   ·exact aJ rfl
   ·(try simp only [EN]); exact xN r1.1 r1.2 p0 p1 ((aB.mk [] [] false 0 0 0 0 [] [] (aI.mk 0 [] (aO.mk [] 0)) (bE.mk []) (aU.mk false 0 (aA.mk [] [] 0 false 0 0 [] 0 []))))
  ·(try simp only [EN]); exact xN r1.1 r1.2 p0 p1 ((aB.mk [] [] false 0 0 0 0 [] [] (aI.mk 0 [] (aO.mk [] 0)) (bE.mk []) (aU.mk false 0 (aA.mk [] [] 0 false 0 0 [] 0 []))))
section
variable (Γ : Fun)  (Λ2 J : Lam)
def C51 : aP := aQ Γ
theorem T51 (p0 : aB) (p1 : Int) : bF SE (C51 Γ) Λ2 J 51 [aB.av p0, .d (.int .i64 p1)] [] [] =
 (some (.ret [aB.av (aB.mk p0.Client p0.User p0.Online p0.Conn p0.Expiry p0.Until (if 1099511627776 < (w6 (p0.Dropped + p1)) then 1099511627776 else (w6 (p0.Dropped + p1))) p0.Subs p0.Queue p0.Out p0.In p0.Will)] [] [])) := by kernel_rfl
end
abbrev X51 : aP := C51 gG
theorem aGb : X51 = aQ gG := rfl
theorem sN (p0 : aB) (p1 : Int) : Le (Option.map bQ (iY p0 p1)) (bA SE 51 [aB.av p0, .d (.int .i64 p1)] [] []) := by
 refine aV aGb rfl ?_
 refine Le.trans ?_ (le_of_eq (T51 ..).symm)
 unfold iY
 exact aJ rfl
section
variable (Γ : Fun)  (Λ2 J : Lam)
def awH : aP := aQ Γ
theorem aFc (p0 : aA) : bF SE (awH Γ) Λ2 J 106 [aA.av p0] [] [] =
 cond (decide (lM aG.enc p0.Props * 32 ≤ 140737488355328)) (
 (some (.ret [.agg [.d (.str p0.Topic), .d (.str p0.Payload), .d (.int .i64 p0.Level), .d (.bool p0.Retain), .d (.int .i64 p0.Priority), .d (.int .i64 p0.Expires), .d (.str p0.From), .d (.int .i64 p0.Seq), .row 0]] [] [⟨aG.ks, 130, 32, (List.map aG.enc p0.Props)⟩]))) none := by kernel_rfl
end
abbrev aFz : aP := awH gG
theorem aDr : aFz = aQ gG := rfl
theorem tS (p0 : aA) : Le (Option.map bX (oB p0)) (bA SE 106 [aA.av p0] [] []) := by
 refine aV aDr rfl ?_
 refine Le.trans ?_ (le_of_eq (aFc ..).symm)
 unfold oB
 refine lG (by simp only [EN]) ?_
 exact aJ rfl
def aoU (C : aP) (Λ2 J : Lam) (a0 : List (List D)) (a1 a2 : Int) (a3 : List (List D)) : Res := lab SE C Λ2 J 105 0 [1, 1, 0, 1, 0] (aW [(5, .row 3005), (13, .d (.sl aA.ks a0)), (14, .d (.int .i64 a1)), (15, .d (.int .i64 a2))] [] [] [] [(3005, ⟨aA.ks, 34, 112, a3⟩)])
section
variable (Γ : Fun) (γ106 : Gm (aA)) (Λ2 J : Lam)
def alP : aP := aY (aQ Γ) 106 bX γ106
theorem aF0 (p0 : List aA) (p1 : Int) : bF SE (alP Γ γ106) Λ2 J 105 [.d (.sl aA.ks (List.map aA.enc p0)), .d (.int .i64 p1)] [] [] =
 cond (decide (0 ≤ 0) && decide (0 ≤ (w6 ((lM aA.enc p0 : Int) + p1))) && decide ((w6 ((lM aA.enc p0 : Int) + p1)) * 112 ≤ 281474976710656)) (
 aoU (alP Γ γ106) Λ2 J (List.map aA.enc p0) (lM aA.enc p0 : Int) 0 (List.map aA.enc [])) none := by kernel_rfl
theorem axz (x13 : List aA) (x14 x15 : Int) (w3005 : List aA) : bT SE (alP Γ γ106) Λ2 J 105 0 [1, 1, 0, 1, 0] (aW [(5, .row 3005), (13, .d (.sl aA.ks (List.map aA.enc x13))), (14, .d (.int .i64 x14)), (15, .d (.int .i64 x15))] [] [] [] [(3005, ⟨aA.ks, 34, 112, (List.map aA.enc w3005)⟩)]) =
 cond (decide (x15 < x14)) (
 cond (iB x15 (lM aA.enc x13 : Int)) (
  γ106 [.agg [.d (.str (bD (cE aA.enc x13 x15 0))), .d (.str (bD (cE aA.enc x13 x15 1))), .d (.int .i64 (aR (cE aA.enc x13 x15 2))), .d (.bool (bN (cE aA.enc x13 x15 3))), .d (.int .i64 (aR (cE aA.enc x13 x15 4))), .d (.int .i64 (aR (cE aA.enc x13 x15 5))), .d (.str (bD (cE aA.enc x13 x15 6))), .d (.int .i64 (aR (cE aA.enc x13 x15 7))), .d (.sl aG.ks (dSl (cE aA.enc x13 x15 8)))]] [] [] fun r0 =>
  cond (decide ((lM aA.enc w3005 + lM aA.enc [r0]) * 112 ≤ 140737488355328)) (
  aoU (alP Γ γ106) Λ2 J (List.map aA.enc x13) x14 (w6 (x15 + 1)) (((List.map aA.enc w3005) ++ (List.map aA.enc [r0])))) none) none) (
 (some (.ret [.row 0] [] [⟨aA.ks, 34, 112, (List.map aA.enc w3005)⟩]))) := by kernel_rfl
end
abbrev aq4 : aP := alP gG (cT 106 bX)
theorem avc : aq4 = aQ gG := by unfold aq4 alP; rw [bC fun _ h => h]
abbrev axV := aoU aq4 (bP SE gG (SE.hl 105) (SE.hr 105)) (J0 SE aq4)
theorem ajM : ∀ (fu : Nat) (x13 : List aA) (x14 x15 : Int) (w3005 : List aA), Le (Option.map eW (pC fu x13 x14 x15 w3005)) (axV (List.map aA.enc x13) x14 x15 (List.map aA.enc w3005)) := by
 intro fu
 induction fu with
 | zero => intros; exact le_none
 | succ fu ih =>
  intro x13 x14 x15 w3005
  refine Le.trans ?_ (le_of_eq ((aZ avc).trans (axz ..)).symm)
  unfold pC
  refine lC ?_ ?_
  ·refine lG (by simp only [EN]) ?_
   refine lQ eX c8 (by (try simp only [EN]); exact tS (List.getD x13 (Int.toNat x15) default)) fun r0 _ => ?_
   refine lG (by simp only [EN]) ?_
   (try simp only [EN]); exact ih x13 x14 (w6 (x15 + 1)) (w3005 ++ [r0])
  ·exact aJ rfl
theorem amL (p0 : List aA) (p1 : Int) : Le (Option.map eW (aaq p0 p1)) (bA SE 105 [.d (.sl aA.ks (List.map aA.enc p0)), .d (.int .i64 p1)] [] []) := by
 refine aV avc rfl ?_
 refine Le.trans ?_ (le_of_eq (aF0 ..).symm)
 unfold aaq
 refine lG (by simp only [EN]) ?_
 (try simp only [EN]); exact ajM fuel p0 (List.length p0 : Int) 0 []
def avf (C : aP) (Λ2 J : Lam) (a0 : List D) (a1 : List (List D)) : Res := lab SE C Λ2 J 52 0 [1, 1, 1, 1, 0] (aW [(5, .ptr 1000000000 0), (11, .row 3011)] [⟨34, (List.map AV.d a0)⟩] [] [] [(3011, ⟨aA.ks, 34, 112, a1⟩)])
section
variable (Γ : Fun) (γ105 : Gm ((List aA))) (γ106 : Gm (aA)) (Λ2 J : Lam)
def C52 : aP := aY (aY (aQ Γ) 105 eW γ105) 106 bX γ106
theorem T52 (p0 : List aA) (p1 : aA) (p2 p3 : Int) : bF SE (C52 Γ γ105 γ106) Λ2 J 52 [.d (.sl aA.ks (List.map aA.enc p0)), aA.av p1, .d (.int .i64 p2), .d (.int .i64 p3)] [] [] =
 γ105 [.d (.sl aA.ks (List.map aA.enc p0)), .d (.int .i64 1)] [] [] fun r0 =>
 cond (decide ((lM aA.enc p0 : Int) < p2)) (
 γ106 [aA.av p1] [] [] fun r1 =>
 cond (decide ((lM aA.enc r0 + lM aA.enc [r1]) * 112 ≤ 140737488355328)) (
  (some (.ret [.row 0, .row 1, .d (.bool false)] [] [⟨aA.ks, 34, 112, ((List.map aA.enc r0) ++ (List.map aA.enc [r1]))⟩, ⟨aA.ks, 34, 112, []⟩]))) none) (
 cond (p3 != 1) (
 γ106 [aA.av p1] [] [] fun r2 =>
 (some (.ret [.row 0, .row 1, .d (.bool (p3 == 3))] [] [⟨aA.ks, 34, 112, (List.map aA.enc r0)⟩, ⟨aA.ks, 34, 112, (List.map aA.enc [r2])⟩]))) (
 cond (decide (p2 < 1)) (
 γ106 [aA.av p1] [] [] fun r3 =>
 (some (.ret [.row 0, .row 1, .d (.bool (p3 == 3))] [] [⟨aA.ks, 34, 112, (List.map aA.enc r0)⟩, ⟨aA.ks, 34, 112, (List.map aA.enc [r3])⟩]))) (
 avf (C52 Γ γ105 γ106) Λ2 J (aA.enc p1) (List.map aA.enc r0)))) := by kernel_rfl
theorem aBR (b0 : aA) (w3011 : List aA) : bT SE (C52 Γ γ105 γ106) Λ2 J 52 0 [1, 1, 1, 1, 0] (aW [(5, .ptr 1000000000 0), (11, .row 3011)] [⟨34, (List.map AV.d (aA.enc b0))⟩] [] [] [(3011, ⟨aA.ks, 34, 112, (List.map aA.enc w3011)⟩)]) =
 cond (decide (0 ≤ 0) && decide (0 < (lM aA.enc w3011 : Int))) (
 cond (decide (0 ≤ 1) && decide (1 ≤ ((lM aA.enc w3011) : Int))) (
  γ106 [aA.av b0] [] [] fun r4 =>
  cond (iB (w6 ((List.length (List.take (lM aA.enc w3011) (List.take ((lM aA.enc w3011) - (Int.toNat 1)) (List.drop (Int.toNat 1) (List.map aA.enc w3011))) ++ List.drop (min (List.length (List.take ((lM aA.enc w3011) - (Int.toNat 1)) (List.drop (Int.toNat 1) (List.map aA.enc w3011)))) (lM aA.enc w3011)) (List.map aA.enc w3011)) : Int) - 1)) (List.length (List.take (lM aA.enc w3011) (List.take ((lM aA.enc w3011) - (Int.toNat 1)) (List.drop (Int.toNat 1) (List.map aA.enc w3011))) ++ List.drop (min (List.length (List.take ((lM aA.enc w3011) - (Int.toNat 1)) (List.drop (Int.toNat 1) (List.map aA.enc w3011)))) (lM aA.enc w3011)) (List.map aA.enc w3011)) : Int)) (
  (some (.ret [.row 0, .row 1, .d (.bool false)] [] [⟨aA.ks, 34, 112, (m7 (List.take (lM aA.enc w3011) (List.take ((lM aA.enc w3011) - (Int.toNat 1)) (List.drop (Int.toNat 1) (List.map aA.enc w3011))) ++ List.drop (min (List.length (List.take ((lM aA.enc w3011) - (Int.toNat 1)) (List.drop (Int.toNat 1) (List.map aA.enc w3011)))) (lM aA.enc w3011)) (List.map aA.enc w3011)) (Int.toNat (w6 ((List.length (List.take (lM aA.enc w3011) (List.take ((lM aA.enc w3011) - (Int.toNat 1)) (List.drop (Int.toNat 1) (List.map aA.enc w3011))) ++ List.drop (min (List.length (List.take ((lM aA.enc w3011) - (Int.toNat 1)) (List.drop (Int.toNat 1) (List.map aA.enc w3011)))) (lM aA.enc w3011)) (List.map aA.enc w3011)) : Int) - 1))) 0 (aA.enc r4))⟩, ⟨aA.ks, 34, 112, [[D.str (bD (cE aA.enc w3011 0 0)), D.str (bD (cE aA.enc w3011 0 1)), D.int .i64 (aR (cE aA.enc w3011 0 2)), D.bool (bN (cE aA.enc w3011 0 3)), D.int .i64 (aR (cE aA.enc w3011 0 4)), D.int .i64 (aR (cE aA.enc w3011 0 5)), D.str (bD (cE aA.enc w3011 0 6)), D.int .i64 (aR (cE aA.enc w3011 0 7)), D.sl aG.ks (dSl (cE aA.enc w3011 0 8))]]⟩]))) none) none) none := by kernel_rfl
end
abbrev X52 : aP := C52 gG (cT 105 eW) (cT 106 bX)
theorem axC : X52 = aQ gG := by unfold X52 C52; repeat rw [bC fun _ h => h]
abbrev aBM := avf X52 (bP SE gG (SE.hl 52) (SE.hr 52)) (J0 SE X52)
theorem akM (b0 : aA) (w3011 : List aA) : Le (Option.map kM (aak b0 w3011)) (aBM (aA.enc b0) (List.map aA.enc w3011)) := by
 refine Le.trans ?_ (le_of_eq ((aZ axC).trans (aBR ..)).symm)
 unfold aak
 refine lG (by simp only [EN]) ?_
 refine lG (by simp only [EN]) ?_
 refine lQ eX c8 (tS _) fun r4 _ => ?_
 refine lG (by simp only [EN]) ?_
 exact aJ (by first | rfl | simp only [EN, kM] <;> rfl)
theorem aoy (p0 : List aA) (p1 : aA) (p2 p3 : Int) : Le (Option.map kM (abL p0 p1 p2 p3)) (bA SE 52 [.d (.sl aA.ks (List.map aA.enc p0)), aA.av p1, .d (.int .i64 p2), .d (.int .i64 p3)] [] []) := by
 refine aV axC rfl ?_
 refine Le.trans ?_ (le_of_eq (T52 ..).symm)
 unfold abL
 refine lQ eX ae6 (amL _ _) fun r0 _ => ?_
 refine lD (by simp only [EN]) ?_ ?_
 ·refine lQ eX c8 (tS _) fun r1 _ => ?_
  refine lG (by simp only [EN]) ?_
  exact aJ (by first | rfl | simp only [EN, kM] <;> rfl)
 ·refine lC ?_ ?_
  ·refine lQ eX c8 (tS _) fun r2 _ => ?_
   exact aJ rfl
  ·refine lC ?_ ?_
   ·refine lQ eX c8 (tS _) fun r3 _ => ?_
    exact aJ rfl
   ·exact akM p1 r0
def aq6 (C : aP) (Λ2 J : Lam) (a0 a1 : Int) (a2 a3 a4 : List D) (a5 a6 : Str) (a7 : Bool) (a8 a9 a10 a11 a12 a13 : Int) (a14 : Bool) (a15 : Int) (a16 a17 : Str) (a18 : Int) (a19 : Bool) (a20 a21 : Int) (a22 : Str) (a23 : Int) (a24 a25 a26 a27 a28 a29 : List (List D)) : Res := lab SE C Λ2 J 15 0 [1, 1, 1, 0] (aW [(2, .d (.int .i64 a0)), (3, .d (.int .i64 a1)), (4, .ptr 1000000000 0), (5, .ptr 1000000001 0), (8, .ptr 1000000002 0), (10, .ptr 1000000003 0)] [⟨38, (List.map AV.d a2)⟩, ⟨34, (List.map AV.d a3)⟩, ⟨38, (List.map AV.d a4)⟩, ⟨38, [.d (.str a5), .d (.str a6), .d (.bool a7), .d (.int .i64 a8), .d (.int .i64 a9), .d (.int .i64 a10), .d (.int .i64 a11), .row 50307, .row 50308, .d (.int .i64 a12), .row 50310, .row 50311, .d (.int .i64 a13), .row 50313, .d (.bool a14), .d (.int .i64 a15), .d (.str a16), .d (.str a17), .d (.int .i64 a18), .d (.bool a19), .d (.int .i64 a20), .d (.int .i64 a21), .d (.str a22), .d (.int .i64 a23), .row 50324]⟩] [] [] [(50307, ⟨aF.ks, 60, 32, a24⟩), (50308, ⟨aA.ks, 34, 112, a25⟩), (50310, ⟨aD.ks, 122, 128, a26⟩), (50311, ⟨[.int .i64], 3, 8, a27⟩), (50313, ⟨[.int .i64], 3, 8, a28⟩), (50324, ⟨aG.ks, 130, 32, a29⟩)])
section
variable (Γ : Fun) (γ50 γ51 : Gm (aB)) (γ52 : Gm ((List aA) × (List aA) × Bool)) (Λ2 J : Lam)
def C15 : aP := aY (aY (aY (aQ Γ) 50 cB γ50) 51 bQ γ51) 52 kM γ52
theorem T15 (p0 : aB) (p1 : aA) (p2 p3 : Int) : bF SE (C15 Γ γ50 γ51 γ52) Λ2 J 15 [aB.av p0, aA.av p1, .d (.int .i64 p2), .d (.int .i64 p3)] [] [] =
 γ50 [aB.av p0] [] [] fun r0 =>
 cond (!p0.Online) (
 cond (p1.Level == 0) (
  γ51 [aB.av r0, .d (.int .i64 1)] [] [] fun r1 =>
  (some (.ret [aB.av r1, .d (.bool false)] [] []))) (
 aq6 (C15 Γ γ50 γ51 γ52) Λ2 J p2 p3 (aB.enc p0) (aA.enc p1) [D.str [], D.str [], D.bool false, D.int .i64 0, D.int .i64 0, D.int .i64 0, D.int .i64 0, D.sl aF.ks (List.map aF.enc []), D.sl aA.ks (List.map aA.enc []), D.int .i64 0, D.sl aD.ks (List.map aD.enc []), D.sl [.int .i64] (List.map eI []), D.int .i64 0, D.sl [.int .i64] (List.map eI []), D.bool false, D.int .i64 0, D.str [], D.str [], D.int .i64 0, D.bool false, D.int .i64 0, D.int .i64 0, D.str [], D.int .i64 0, D.sl aG.ks (List.map aG.enc [])] r0.Client r0.User r0.Online r0.Conn r0.Expiry r0.Until r0.Dropped r0.Out.Limit r0.Out.Pool.Last r0.Will.Set r0.Will.Delay r0.Will.Message.Topic r0.Will.Message.Payload r0.Will.Message.Level r0.Will.Message.Retain r0.Will.Message.Priority r0.Will.Message.Expires r0.Will.Message.From r0.Will.Message.Seq (List.map aF.enc r0.Subs) (List.map aA.enc r0.Queue) (List.map aD.enc r0.Out.Items) (List.map eI r0.Out.Pool.Used) (List.map eI r0.In.IDs) (List.map aG.enc r0.Will.Message.Props))) (
 aq6 (C15 Γ γ50 γ51 γ52) Λ2 J p2 p3 (aB.enc p0) (aA.enc p1) [D.str [], D.str [], D.bool false, D.int .i64 0, D.int .i64 0, D.int .i64 0, D.int .i64 0, D.sl aF.ks (List.map aF.enc []), D.sl aA.ks (List.map aA.enc []), D.int .i64 0, D.sl aD.ks (List.map aD.enc []), D.sl [.int .i64] (List.map eI []), D.int .i64 0, D.sl [.int .i64] (List.map eI []), D.bool false, D.int .i64 0, D.str [], D.str [], D.int .i64 0, D.bool false, D.int .i64 0, D.int .i64 0, D.str [], D.int .i64 0, D.sl aG.ks (List.map aG.enc [])] r0.Client r0.User r0.Online r0.Conn r0.Expiry r0.Until r0.Dropped r0.Out.Limit r0.Out.Pool.Last r0.Will.Set r0.Will.Delay r0.Will.Message.Topic r0.Will.Message.Payload r0.Will.Message.Level r0.Will.Message.Retain r0.Will.Message.Priority r0.Will.Message.Expires r0.Will.Message.From r0.Will.Message.Seq (List.map aF.enc r0.Subs) (List.map aA.enc r0.Queue) (List.map aD.enc r0.Out.Items) (List.map eI r0.Out.Pool.Used) (List.map eI r0.In.IDs) (List.map aG.enc r0.Will.Message.Props)) := by kernel_rfl
theorem aAY (x2 x3 : Int) (b0 : aB) (b1 : aA) (b2 : aB) (b3_0 b3_1 : Str) (b3_2 : Bool) (b3_3 b3_4 b3_5 b3_6 b3_9 b3_12 : Int) (b3_14 : Bool) (b3_15 : Int) (b3_16 b3_17 : Str) (b3_18 : Int) (b3_19 : Bool) (b3_20 b3_21 : Int) (b3_22 : Str) (b3_23 : Int) (w50307 : List aF) (w50308 : List aA) (w50310 : List aD) (w50311 w50313 : List Int) (w50324 : List aG) : bT SE (C15 Γ γ50 γ51 γ52) Λ2 J 15 0 [1, 1, 1, 0] (aW [(2, .d (.int .i64 x2)), (3, .d (.int .i64 x3)), (4, .ptr 1000000000 0), (5, .ptr 1000000001 0), (8, .ptr 1000000002 0), (10, .ptr 1000000003 0)] [⟨38, (List.map AV.d (aB.enc b0))⟩, ⟨34, (List.map AV.d (aA.enc b1))⟩, ⟨38, (List.map AV.d (aB.enc b2))⟩, ⟨38, [.d (.str b3_0), .d (.str b3_1), .d (.bool b3_2), .d (.int .i64 b3_3), .d (.int .i64 b3_4), .d (.int .i64 b3_5), .d (.int .i64 b3_6), .row 50307, .row 50308, .d (.int .i64 b3_9), .row 50310, .row 50311, .d (.int .i64 b3_12), .row 50313, .d (.bool b3_14), .d (.int .i64 b3_15), .d (.str b3_16), .d (.str b3_17), .d (.int .i64 b3_18), .d (.bool b3_19), .d (.int .i64 b3_20), .d (.int .i64 b3_21), .d (.str b3_22), .d (.int .i64 b3_23), .row 50324]⟩] [] [] [(50307, ⟨aF.ks, 60, 32, (List.map aF.enc w50307)⟩), (50308, ⟨aA.ks, 34, 112, (List.map aA.enc w50308)⟩), (50310, ⟨aD.ks, 122, 128, (List.map aD.enc w50310)⟩), (50311, ⟨[.int .i64], 3, 8, (List.map eI w50311)⟩), (50313, ⟨[.int .i64], 3, 8, (List.map eI w50313)⟩), (50324, ⟨aG.ks, 130, 32, (List.map aG.enc w50324)⟩)]) =
 γ52 [.d (.sl aA.ks (List.map aA.enc w50308)), aA.av b1, .d (.int .i64 (if 256 < x2 then 256 else x2)), .d (.int .i64 x3)] [] [] fun r2 =>
 γ51 [aB.av (aB.mk b3_0 b3_1 b3_2 b3_3 b3_4 b3_5 b3_6 w50307 r2.1 (aI.mk b3_9 w50310 (aO.mk w50311 b3_12)) (bE.mk w50313) (aU.mk b3_14 b3_15 (aA.mk b3_16 b3_17 b3_18 b3_19 b3_20 b3_21 b3_22 b3_23 w50324))), .d (.int .i64 (lM aA.enc r2.2.1 : Int))] [] [] fun r3 =>
 cond r2.2.2 (
 (some (.ret [aB.av r3, .d (.bool b0.Online)] [] []))) (
 (some (.ret [aB.av r3, .d (.bool false)] [] []))) := by kernel_rfl
end
abbrev X15 : aP := C15 gG (cT 50 cB) (cT 51 bQ) (cT 52 kM)
theorem axf : X15 = aQ gG := by unfold X15 C15; repeat rw [bC fun _ h => h]
abbrev aBU := aq6 X15 (bP SE gG (SE.hl 15) (SE.hr 15)) (J0 SE X15)
theorem aaN (x2 x3 : Int) (b0 : aB) (b1 : aA) (b2 : aB) (b3_0 b3_1 : Str) (b3_2 : Bool) (b3_3 b3_4 b3_5 b3_6 b3_9 b3_12 : Int) (b3_14 : Bool) (b3_15 : Int) (b3_16 b3_17 : Str) (b3_18 : Int) (b3_19 : Bool) (b3_20 b3_21 : Int) (b3_22 : Str) (b3_23 : Int) (w50307 : List aF) (w50308 : List aA) (w50310 : List aD) (w50311 w50313 : List Int) (w50324 : List aG) : Le (Option.map cU (rJ x2 x3 b0 b1 b2 b3_0 b3_1 b3_2 b3_3 b3_4 b3_5 b3_6 b3_9 b3_12 b3_14 b3_15 b3_16 b3_17 b3_18 b3_19 b3_20 b3_21 b3_22 b3_23 w50307 w50308 w50310 w50311 w50313 w50324)) (aBU x2 x3 (aB.enc b0) (aA.enc b1) (aB.enc b2) b3_0 b3_1 b3_2 b3_3 b3_4 b3_5 b3_6 b3_9 b3_12 b3_14 b3_15 b3_16 b3_17 b3_18 b3_19 b3_20 b3_21 b3_22 b3_23 (List.map aF.enc w50307) (List.map aA.enc w50308) (List.map aD.enc w50310) (List.map eI w50311) (List.map eI w50313) (List.map aG.enc w50324)) := by
 refine Le.trans ?_ (le_of_eq ((aZ axf).trans (aAY ..)).symm)
 unfold rJ
 refine lQ eX amV (aoy _ _ _ _) fun r2 _ => ?_
 refine lQ eX dH (by (try simp only [EN]); exact sN ((aB.mk b3_0 b3_1 b3_2 b3_3 b3_4 b3_5 b3_6 w50307 r2.1 (aI.mk b3_9 w50310 (aO.mk w50311 b3_12)) (bE.mk w50313) (aU.mk b3_14 b3_15 (aA.mk b3_16 b3_17 b3_18 b3_19 b3_20 b3_21 b3_22 b3_23 w50324)))) (List.length r2.2.1 : Int)) fun r3 _ => ?_
 refine lC ?_ ?_
 ·exact aJ rfl
 ·exact aJ rfl
theorem uM (p0 : aB) (p1 : aA) (p2 p3 : Int) : Le (Option.map cU (mY p0 p1 p2 p3)) (bA SE 15 [aB.av p0, aA.av p1, .d (.int .i64 p2), .d (.int .i64 p3)] [] []) := by
 refine aV axf rfl ?_
 refine Le.trans ?_ (le_of_eq (T15 ..).symm)
 unfold mY
 refine lQ eX gA (jM _) fun r0 _ => ?_
 refine lC ?_ ?_
 ·refine lC ?_ ?_
  ·refine lQ eX dH (sN _ _) fun r1 _ => ?_
   exact aJ rfl
  ·(try simp only [EN]); exact aaN p2 p3 p0 p1 ((aB.mk [] [] false 0 0 0 0 [] [] (aI.mk 0 [] (aO.mk [] 0)) (bE.mk []) (aU.mk false 0 (aA.mk [] [] 0 false 0 0 [] 0 [])))) r0.Client r0.User r0.Online r0.Conn r0.Expiry r0.Until r0.Dropped r0.Out.Limit r0.Out.Pool.Last r0.Will.Set r0.Will.Delay r0.Will.Message.Topic r0.Will.Message.Payload r0.Will.Message.Level r0.Will.Message.Retain r0.Will.Message.Priority r0.Will.Message.Expires r0.Will.Message.From r0.Will.Message.Seq r0.Subs r0.Queue r0.Out.Items r0.Out.Pool.Used r0.In.IDs r0.Will.Message.Props
 ·(try simp only [EN]); exact aaN p2 p3 p0 p1 ((aB.mk [] [] false 0 0 0 0 [] [] (aI.mk 0 [] (aO.mk [] 0)) (bE.mk []) (aU.mk false 0 (aA.mk [] [] 0 false 0 0 [] 0 [])))) r0.Client r0.User r0.Online r0.Conn r0.Expiry r0.Until r0.Dropped r0.Out.Limit r0.Out.Pool.Last r0.Will.Set r0.Will.Delay r0.Will.Message.Topic r0.Will.Message.Payload r0.Will.Message.Level r0.Will.Message.Retain r0.Will.Message.Priority r0.Will.Message.Expires r0.Will.Message.From r0.Will.Message.Seq r0.Subs r0.Queue r0.Out.Items r0.Out.Pool.Used r0.In.IDs r0.Will.Message.Props
section
variable (Γ : Fun)  (Λ2 J : Lam)
def ayN : aP := aQ Γ
theorem aDM (p0 : aA) (p1 : Int) : bF SE (ayN Γ) Λ2 J 113 [aA.av p0, .d (.int .i64 p1)] [] [] =
 cond (p0.Expires != 0) (
 (rB (decide (p1 ≥ p0.Expires)))) (
 (rB false)) := by kernel_rfl
end
abbrev aEh : aP := ayN gG
theorem aCm : aEh = aQ gG := rfl
theorem ahp (p0 : aA) (p1 : Int) : Le (Option.map aE (sJ p0 p1)) (bA SE 113 [aA.av p0, .d (.int .i64 p1)] [] []) := by
 refine aV aCm rfl ?_
 refine Le.trans ?_ (le_of_eq (aDM ..).symm)
 unfold sJ
 refine lC ?_ ?_
 ·exact aJ rfl
 ·exact aJ rfl
section
variable (Γ : Fun)  (Λ2 J : Lam)
def aww : aP := aQ Γ
theorem aDY (p0 : aI) : bF SE (aww Γ) Λ2 J 156 [aI.av p0] [] [] =
 (rI (if 0 > (w6 (p0.Limit - (lM aD.enc p0.Items : Int))) then 0 else (w6 (p0.Limit - (lM aD.enc p0.Items : Int))))) := by kernel_rfl
end
abbrev aDU : aP := aww gG
theorem aCi : aDU = aQ gG := rfl
theorem ajm (p0 : aI) : Le (Option.map aH (uW p0)) (bA SE 156 [aI.av p0] [] []) := by
 refine aV aCi rfl ?_
 refine Le.trans ?_ (le_of_eq (aDY ..).symm)
 unfold uW
 exact aJ (by first | rfl | simp only [EN, aH] <;> rfl)
def aox (C : aP) (Λ2 J : Lam) (a0 : Str) (a1 : Nat) : Res := lab SE C Λ2 J 169 0 [1, 1, 0, 1, 0] (aW [(9, .it 4000)] [] [] [(4000, (a0, a1))] [])
section
variable (Γ : Fun) (γ161 : Gm (Bool)) (Λ2 J : Lam)
def al7 : aP := aY (aQ Γ) 161 aE γ161
theorem aFV (p0 : Str) : bF SE (al7 Γ γ161) Λ2 J 169 [.d (.str p0)] [] [] =
 γ161 [.d (.str p0)] [] [] fun r0 =>
 cond (!r0) (
 (rB false)) (
 aox (al7 Γ γ161) Λ2 J p0 0) := by kernel_rfl
theorem axT (s4000 : Str) (i4000 : Nat) : bT SE (al7 Γ γ161) Λ2 J 169 0 [1, 1, 0, 1, 0] (aW [(9, .it 4000)] [] [] [(4000, (s4000, i4000))] []) =
 cond (decide (i4000 < List.length s4000)) (
 cond (((dec s4000 i4000).1 : Int) == 43) (
  (rB false)) (
 cond (((dec s4000 i4000).1 : Int) == 35) (
  (rB false)) (
 aox (al7 Γ γ161) Λ2 J s4000 (i4000 + (dec s4000 i4000).2)))) (
 (rB true)) := by kernel_rfl
end
abbrev aq9 : aP := al7 gG (cT 161 aE)
theorem avE : aq9 = aQ gG := by unfold aq9 al7; rw [bC fun _ h => h]
abbrev azr := aox aq9 (bP SE gG (SE.hl 169) (SE.hr 169)) (J0 SE aq9)
theorem aiZ : ∀ (fu : Nat) (s4000 : Str) (i4000 : Nat), Le (Option.map aE (kZ fu s4000 i4000)) (azr s4000 i4000) := by
 intro fu
 induction fu with
 | zero => intros; exact le_none
 | succ fu ih =>
  intro s4000 i4000
  refine Le.trans ?_ (le_of_eq ((aZ avE).trans (axT ..)).symm)
  unfold kZ
  refine lC ?_ ?_
  ·refine lC ?_ ?_
   ·exact aJ rfl
   ·refine lC ?_ ?_
    ·exact aJ rfl
    ·exact ih s4000 (i4000 + (dec s4000 i4000).2)
  ·exact aJ rfl
theorem alj (p0 : Str) : Le (Option.map aE (yH p0)) (bA SE 169 [.d (.str p0)] [] []) := by
 refine aV avE rfl ?_
 refine Le.trans ?_ (le_of_eq (aFV ..).symm)
 unfold yH
 refine lQ eX aK (afG _) fun r0 _ => ?_
 refine lC ?_ ?_
 ·exact aJ rfl
 ·exact aiZ fuel p0 0
section
variable (Γ : Fun)  (Λ2 J : Lam)
def axL : aP := aQ Γ
theorem aGh (p0 p1 : Int) : bF SE (axL Γ) Λ2 J 170 [.d (.int .i64 p0), .d (.int .i64 p1)] [] [] =
 cond (decide (p0 ≥ 0)) (
 (rB (decide (p0 ≤ p1)))) (
 (rB false)) := by kernel_rfl
end
abbrev aFp : aP := axL gG
theorem aBs : aFp = aQ gG := rfl
theorem uX (p0 p1 : Int) : Le (Option.map aE (p7 p0 p1)) (bA SE 170 [.d (.int .i64 p0), .d (.int .i64 p1)] [] []) := by
 refine aV aBs rfl ?_
 refine Le.trans ?_ (le_of_eq (aGh ..).symm)
 unfold p7
 refine lC ?_ ?_
 ·exact aJ rfl
 ·exact aJ rfl
def zP (C : aP) (Λ2 J : Lam) (a0 : Str) (a1 : Int) : Res := lab SE C Λ2 J 184 0 [1, 1, 0, 1, 0] (aW [(0, .d (.str a0)), (3, .d (.int .i64 a1))] [] [] [] [])
def asR (C : aP) (Λ2 J : Lam) (a0 : Str) : Res := lab SE C Λ2 J 184 0 [1, 1, 0, 0] (aW [(0, .d (.str a0))] [] [] [] [])
section
variable (Γ : Fun)  (Λ2 J : Lam)
def aba : aP := aQ Γ
theorem aD8 (p0 : Str) : bF SE (aba Γ) Λ2 J 184 [.d (.str p0)] [] [] =
 cond (decide ((List.length p0 : Int) < 1)) (
 (rB false)) (
 cond (decide ((List.length p0 : Int) > 16)) (
 (rB false)) (
 asR (aba Γ) Λ2 J p0)) := by kernel_rfl
theorem axA (x0 : Str) (x3 : Int) : bT SE (aba Γ) Λ2 J 184 0 [1, 1, 0, 1, 0] (aW [(0, .d (.str x0)), (3, .d (.int .i64 x3))] [] [] [] []) =
 cond (decide (x3 < (List.length x0 : Int))) (
 cond (iB x3 (List.length x0 : Int)) (
  cond (decide ((UInt8.toNat (List.getD x0 (Int.toNat x3) 0) : Int) < 97)) (
  cond (decide ((UInt8.toNat (List.getD x0 (Int.toNat x3) 0) : Int) < 48)) (
   cond ((UInt8.toNat (List.getD x0 (Int.toNat x3) 0) : Int) != 45) (
   (rB false)) (
   zP (aba Γ) Λ2 J x0 (w6 (x3 + 1)))) (
  cond (decide ((UInt8.toNat (List.getD x0 (Int.toNat x3) 0) : Int) > 57)) (
   cond ((UInt8.toNat (List.getD x0 (Int.toNat x3) 0) : Int) != 45) (
   (rB false)) (
   zP (aba Γ) Λ2 J x0 (w6 (x3 + 1)))) (
  zP (aba Γ) Λ2 J x0 (w6 (x3 + 1))))) (
  cond (decide ((UInt8.toNat (List.getD x0 (Int.toNat x3) 0) : Int) > 122)) (
  cond (decide ((UInt8.toNat (List.getD x0 (Int.toNat x3) 0) : Int) < 48)) (
   cond ((UInt8.toNat (List.getD x0 (Int.toNat x3) 0) : Int) != 45) (
   (rB false)) (
   zP (aba Γ) Λ2 J x0 (w6 (x3 + 1)))) (
  cond (decide ((UInt8.toNat (List.getD x0 (Int.toNat x3) 0) : Int) > 57)) (
   cond ((UInt8.toNat (List.getD x0 (Int.toNat x3) 0) : Int) != 45) (
   (rB false)) (
   zP (aba Γ) Λ2 J x0 (w6 (x3 + 1)))) (
  zP (aba Γ) Λ2 J x0 (w6 (x3 + 1))))) (
  zP (aba Γ) Λ2 J x0 (w6 (x3 + 1))))) none) (
 (rB true)) := by kernel_rfl
theorem azj (x0 : Str) : bT SE (aba Γ) Λ2 J 184 0 [1, 1, 0, 0] (aW [(0, .d (.str x0))] [] [] [] []) =
 zP (aba Γ) Λ2 J x0 0 := by kernel_rfl
end
abbrev anQ : aP := aba gG
theorem aqh : anQ = aQ gG := rfl
abbrev ay6 := zP anQ (bP SE gG (SE.hl 184) (SE.hr 184)) (J0 SE anQ)
abbrev aw8 := asR anQ (bP SE gG (SE.hl 184) (SE.hr 184)) (J0 SE anQ)
theorem aiT : ∀ (fu : Nat) (x0 : Str) (x3 : Int), Le (Option.map aE (eV fu x0 x3)) (ay6 x0 x3) := by
 intro fu
 induction fu with
 | zero => intros; exact le_none
 | succ fu ih =>
  intro x0 x3
  refine Le.trans ?_ (le_of_eq ((aZ aqh).trans (axA ..)).symm)
  unfold eV
  refine lC ?_ ?_
  ·refine lF ?_
   refine lC ?_ ?_
   ·refine lC ?_ ?_
    ·refine lC ?_ ?_
     ·exact aJ rfl
     ·exact ih x0 (w6 (x3 + 1))
    ·refine lC ?_ ?_
     ·refine lC ?_ ?_
      ·exact aJ rfl
      ·exact ih x0 (w6 (x3 + 1))
     ·exact ih x0 (w6 (x3 + 1))
   ·refine lC ?_ ?_
    ·refine lC ?_ ?_
     ·refine lC ?_ ?_
      ·exact aJ rfl
      ·exact ih x0 (w6 (x3 + 1))
     ·refine lC ?_ ?_
      ·refine lC ?_ ?_
       ·exact aJ rfl
       ·exact ih x0 (w6 (x3 + 1))
      ·exact ih x0 (w6 (x3 + 1))
    ·exact ih x0 (w6 (x3 + 1))
  ·exact aJ rfl
theorem aiW (x0 : Str) : Le (Option.map aE (wS x0)) (aw8 x0) := by
 refine Le.trans ?_ (le_of_eq ((aZ aqh).trans (azj ..)).symm)
 unfold wS
 exact aiT fuel x0 0
theorem alx (p0 : Str) : Le (Option.map aE (xZ p0)) (bA SE 184 [.d (.str p0)] [] []) := by
 refine aV aqh rfl ?_
 refine Le.trans ?_ (le_of_eq (aD8 ..).symm)
 unfold xZ
 refine lC ?_ ?_
 ·exact aJ rfl
 ·refine lC ?_ ?_
  ·exact aJ rfl
  ·exact aiW p0
def akY (C : aP) (Λ2 J : Lam) (a0 a1 : List (List D)) (a2 a3 : Int) : Res := lab SE C Λ2 J 171 0 [1, 1, 0, 1, 0] (aW [(0, .d (.sl aG.ks a0)), (8, .d (.sl aG.ks a1)), (9, .d (.int .i64 a2)), (10, .d (.int .i64 a3))] [] [] [] [])
section
variable (Γ : Fun) (γ184 : Gm (Bool)) (Λ2 J : Lam)
def ajv : aP := aY (aQ Γ) 184 aE γ184
theorem aEL (p0 : List aG) : bF SE (ajv Γ γ184) Λ2 J 171 [.d (.sl aG.ks (List.map aG.enc p0))] [] [] =
 cond (decide ((lM aG.enc p0 : Int) > 8)) (
 (rI 5)) (
 akY (ajv Γ γ184) Λ2 J (List.map aG.enc p0) (List.map aG.enc p0) (lM aG.enc p0 : Int) 0) := by kernel_rfl
theorem aAu (x0 x8 : List aG) (x9 x10 : Int) : bT SE (ajv Γ γ184) Λ2 J 171 0 [1, 1, 0, 1, 0] (aW [(0, .d (.sl aG.ks (List.map aG.enc x0))), (8, .d (.sl aG.ks (List.map aG.enc x8))), (9, .d (.int .i64 x9)), (10, .d (.int .i64 x10))] [] [] [] []) =
 cond (decide (x10 < x9)) (
 cond (iB x10 (lM aG.enc x8 : Int)) (
  γ184 [.d (.str (bD (cE aG.enc x8 x10 0)))] [] [] fun r0 =>
  cond (!r0) (
  (rI 16)) (
  cond (decide ((List.length (bD (cE aG.enc x8 x10 1)) : Int) > 160)) (
  (rI 5)) (
  cond (decide (x10 > 0)) (
  cond (iB (w6 (x10 - 1)) (lM aG.enc x0 : Int)) (
   cond (Op.bytesLess (bD (cE aG.enc x8 x10 0)) (bD (cE aG.enc x0 (w6 (x10 - 1)) 0)) || (bD (cE aG.enc x8 x10 0)) == (bD (cE aG.enc x0 (w6 (x10 - 1)) 0))) (
   (rI 16)) (
   akY (ajv Γ γ184) Λ2 J (List.map aG.enc x0) (List.map aG.enc x8) x9 (w6 (x10 + 1)))) none) (
  akY (ajv Γ γ184) Λ2 J (List.map aG.enc x0) (List.map aG.enc x8) x9 (w6 (x10 + 1)))))) none) (
 (rI 0)) := by kernel_rfl
end
abbrev aqv : aP := ajv gG (cT 184 aE)
theorem avg : aqv = aQ gG := by unfold aqv ajv; rw [bC fun _ h => h]
abbrev axK := akY aqv (bP SE gG (SE.hl 171) (SE.hr 171)) (J0 SE aqv)
theorem ag4 : ∀ (fu : Nat) (x0 x8 : List aG) (x9 x10 : Int), Le (Option.map aH (jK fu x0 x8 x9 x10)) (axK (List.map aG.enc x0) (List.map aG.enc x8) x9 x10) := by
 intro fu
 induction fu with
 | zero => intros; exact le_none
 | succ fu ih =>
  intro x0 x8 x9 x10
  refine Le.trans ?_ (le_of_eq ((aZ avg).trans (aAu ..)).symm)
  unfold jK
  refine lC ?_ ?_
  ·refine lG (by simp only [EN]) ?_
   refine lQ eX aK (by (try simp only [EN]); exact alx ((List.getD x8 (Int.toNat x10) default).Key)) fun r0 _ => ?_
   refine lC ?_ ?_
   ·exact aJ rfl
   ·refine lD (by simp only [EN]) ?_ ?_
    ·exact aJ rfl
    ·refine lC ?_ ?_
     ·refine lG (by simp only [EN]) ?_
      refine lD (by simp only [EN]) ?_ ?_
      ·exact aJ rfl
      ·exact ih x0 x8 x9 (w6 (x10 + 1))
     ·exact ih x0 x8 x9 (w6 (x10 + 1))
  ·exact aJ rfl
theorem adq (p0 : List aG) : Le (Option.map aH (rZ p0)) (bA SE 171 [.d (.sl aG.ks (List.map aG.enc p0))] [] []) := by
 refine aV avg rfl ?_
 refine Le.trans ?_ (le_of_eq (aEL ..).symm)
 unfold rZ
 refine lD (by simp only [EN]) ?_ ?_
 ·exact aJ rfl
 ·(try simp only [EN]); exact ag4 fuel p0 p0 (List.length p0 : Int) 0
section
variable (Γ : Fun) (γ169 γ170 γ139 : Gm (Bool)) (γ171 : Gm (Int)) (Λ2 J : Lam)
def auT : aP := aY (aY (aY (aY (aQ Γ) 169 aE γ169) 170 aE γ170) 139 aE γ139) 171 aH γ171
theorem aGk (p0 : aA) : bF SE (auT Γ γ169 γ170 γ139 γ171) Λ2 J 141 [aA.av p0] [] [] =
 γ169 [.d (.str p0.Topic)] [] [] fun r0 =>
 cond (!r0) (
 (rI 12)) (
 cond (decide ((List.length p0.Payload : Int) > 256)) (
 (rI 5)) (
 γ170 [.d (.int .i64 p0.Level), .d (.int .i64 2)] [] [] fun r1 =>
 cond (!r1) (
 (rI 14)) (
 γ170 [.d (.int .i64 p0.Priority), .d (.int .i64 9)] [] [] fun r2 =>
 cond (!r2) (
 (rI 1)) (
 γ170 [.d (.int .i64 p0.Expires), .d (.int .i64 1099511627776)] [] [] fun r3 =>
 cond (!r3) (
 (rI 1)) (
 cond (!(p0.From == ([] : Str))) (
 γ139 [.d (.str p0.From)] [] [] fun r4 =>
 cond (!r4) (
  (rI 11)) (
 γ170 [.d (.int .i64 p0.Seq), .d (.int .i64 1099511627776)] [] [] fun r5 =>
 cond (!r5) (
  (rI 1)) (
 γ171 [.d (.sl aG.ks (List.map aG.enc p0.Props))] [] [] fun r6 =>
 (rI r6)))) (
 γ170 [.d (.int .i64 p0.Seq), .d (.int .i64 1099511627776)] [] [] fun r7 =>
 cond (!r7) (
 (rI 1)) (
 γ171 [.d (.sl aG.ks (List.map aG.enc p0.Props))] [] [] fun r8 =>
 (rI r8)))))))) := by kernel_rfl
end
abbrev awQ : aP := auT gG (cT 169 aE) (cT 170 aE) (cT 139 aE) (cT 171 aH)
theorem aDv : awQ = aQ gG := by unfold awQ auT; repeat rw [bC fun _ h => h]
theorem uS (p0 : aA) : Le (Option.map aH (mX p0)) (bA SE 141 [aA.av p0] [] []) := by
 refine aV aDv rfl ?_
 refine Le.trans ?_ (le_of_eq (aGk ..).symm)
 unfold mX
 refine lQ eX aK (alj _) fun r0 _ => ?_
 refine lC ?_ ?_
 ·exact aJ rfl
 ·refine lC ?_ ?_
  ·exact aJ rfl
  ·refine lQ eX aK (uX _ _) fun r1 _ => ?_
   refine lC ?_ ?_
   ·exact aJ rfl
   ·refine lQ eX aK (uX _ _) fun r2 _ => ?_
    refine lC ?_ ?_
    ·exact aJ rfl
    ·refine lQ eX aK (uX _ _) fun r3 _ => ?_
     refine lC ?_ ?_
     ·exact aJ rfl
     ·refine lC ?_ ?_
      ·refine lQ eX aK (yM _) fun r4 _ => ?_
       refine lC ?_ ?_
       ·exact aJ rfl
       ·refine lQ eX aK (uX _ _) fun r5 _ => ?_
        refine lC ?_ ?_
        ·exact aJ rfl
        ·refine lQ eX aS (adq _) fun r6 _ => ?_
         exact aJ rfl
      ·refine lQ eX aK (uX _ _) fun r7 _ => ?_
       refine lC ?_ ?_
       ·exact aJ rfl
       ·refine lQ eX aS (adq _) fun r8 _ => ?_
        exact aJ rfl
section
variable (Γ : Fun)  (Λ2 J : Lam)
def ay7 : aP := aQ Γ
theorem aF4 (p0 : Int) : bF SE (ay7 Γ) Λ2 J 177 [.d (.int .i64 p0)] [] [] =
 (rI (w6 ((Int.tmod p0 65535) + 1))) := by kernel_rfl
end
abbrev aEX : aP := ay7 gG
theorem aCX : aEX = aQ gG := rfl
theorem amT (p0 : Int) : Le (Option.map aH (zX p0)) (bA SE 177 [.d (.int .i64 p0)] [] []) := by
 refine aV aCX rfl ?_
 refine Le.trans ?_ (le_of_eq (aF4 ..).symm)
 unfold zX
 exact aJ rfl
section
variable (Γ : Fun)  (Λ2 J : Lam)
def aAi : aP := aQ Γ
theorem aFq (p0 : Int) : bF SE (aAi Γ) Λ2 J 191 [.d (.int .i64 p0)] [] [] =
 (rB (p0 != p0)) := by kernel_rfl
end
abbrev aFA : aP := aAi gG
theorem aA6 : aFA = aQ gG := rfl
theorem ab4 (p0 : Int) : Le (Option.map aE (uA p0)) (bA SE 191 [.d (.int .i64 p0)] [] []) := by
 refine aV aA6 rfl ?_
 refine Le.trans ?_ (le_of_eq (aFq ..).symm)
 unfold uA
 exact aJ rfl
section
variable (Γ : Fun) (γ191 : Gm (Bool)) (Λ2 J : Lam)
def auK : aP := aY (aQ Γ) 191 aE γ191
theorem aGc (p0 p1 : Int) : bF SE (auK Γ γ191) Λ2 J 185 [.d (.int .i64 p0), .d (.int .i64 p1)] [] [] =
 γ191 [.d (.int .i64 p0)] [] [] fun r0 =>
 cond r0 (
 γ191 [.d (.int .i64 p1)] [] [] fun r1 =>
 cond (!r1) (
  (rB true)) (
 (rB (decide (p0 < p1))))) (
 (rB (decide (p0 < p1)))) := by kernel_rfl
end
abbrev azR : aP := auK gG (cT 191 aE)
theorem aDa : azR = aQ gG := by unfold azR auK; rw [bC fun _ h => h]
theorem ajz (p0 p1 : Int) : Le (Option.map aE (vB p0 p1)) (bA SE 185 [.d (.int .i64 p0), .d (.int .i64 p1)] [] []) := by
 refine aV aDa rfl ?_
 refine Le.trans ?_ (le_of_eq (aGc ..).symm)
 unfold vB
 refine lQ eX aK (ab4 _) fun r0 _ => ?_
 refine lC ?_ ?_
 ·refine lQ eX aK (ab4 _) fun r1 _ => ?_
  refine lC ?_ ?_
  ·exact aJ rfl
  ·exact aJ rfl
 ·exact aJ rfl
section
variable (Γ : Fun)  (Λ2 J : Lam)
def azK : aP := aQ Γ
theorem aFY (p0 : Int) : bF SE (azK Γ) Λ2 J 186 [.d (.int .i64 p0)] [] [] =
 (rB (p0 != p0)) := by kernel_rfl
end
abbrev aFL : aP := azK gG
theorem aBP : aFL = aQ gG := rfl
theorem zL (p0 : Int) : Le (Option.map aE (mR p0)) (bA SE 186 [.d (.int .i64 p0)] [] []) := by
 refine aV aBP rfl ?_
 refine Le.trans ?_ (le_of_eq (aFY ..).symm)
 unfold mR
 exact aJ rfl
def akg (C : aP) (Λ2 J : Lam) (a0 : List (List D)) (a1 a2 a3 a4 : Int) : Res := lab SE C Λ2 J 175 0 [1, 1, 1, 0, 0] (aW [(0, .d (.sl [.int .i64] a0)), (1, .d (.int .i64 a1)), (6, .d (.int .i64 a2)), (7, .d (.int .i64 a3)), (8, .d (.int .i64 a4))] [] [] [] [])
section
variable (Γ : Fun) (γ185 γ186 : Gm (Bool)) (Λ2 J : Lam)
def ajY : aP := aY (aY (aQ Γ) 185 aE γ185) 186 aE γ186
theorem aFu (p0 : List Int) (p1 : Int) : bF SE (ajY Γ γ185 γ186) Λ2 J 175 [.d (.sl [.int .i64] (List.map eI p0)), .d (.int .i64 p1)] [] [] =
 akg (ajY Γ γ185 γ186) Λ2 J (List.map eI p0) p1 (lM eI p0 : Int) 0 (lM eI p0 : Int) := by kernel_rfl
theorem aw6 (x0 : List Int) (x1 x6 x7 x8 : Int) : bT SE (ajY Γ γ185 γ186) Λ2 J 175 0 [1, 1, 1, 0, 0] (aW [(0, .d (.sl [.int .i64] (List.map eI x0))), (1, .d (.int .i64 x1)), (6, .d (.int .i64 x6)), (7, .d (.int .i64 x7)), (8, .d (.int .i64 x8))] [] [] [] []) =
 cond (decide (x7 < x8)) (
 cond (iB (w6 (shr .u64 (IntKind.wrap .u64 (w6 (x7 + x8))) 1)) (lM eI x0 : Int)) (
  γ185 [.d (.int .i64 (aR (cE eI x0 (w6 (shr .u64 (IntKind.wrap .u64 (w6 (x7 + x8))) 1)) 0))), .d (.int .i64 x1)] [] [] fun r0 =>
  cond r0 (
  akg (ajY Γ γ185 γ186) Λ2 J (List.map eI x0) x1 x6 (w6 ((w6 (shr .u64 (IntKind.wrap .u64 (w6 (x7 + x8))) 1)) + 1)) x8) (
  akg (ajY Γ γ185 γ186) Λ2 J (List.map eI x0) x1 x6 x7 (w6 (shr .u64 (IntKind.wrap .u64 (w6 (x7 + x8))) 1)))) none) (
 cond (decide (x7 < x6)) (
 cond (iB x7 (lM eI x0 : Int)) (
  cond ((aR (cE eI x0 x7 0)) == x1) (
  (some (.ret [.d (.int .i64 x7), .d (.bool true)] [] []))) (
  cond (iB x7 (lM eI x0 : Int)) (
  γ186 [.d (.int .i64 (aR (cE eI x0 x7 0)))] [] [] fun r1 =>
  cond r1 (
   γ186 [.d (.int .i64 x1)] [] [] fun r2 =>
   (some (.ret [.d (.int .i64 x7), .d (.bool r2)] [] []))) (
  (some (.ret [.d (.int .i64 x7), .d (.bool false)] [] [])))) none)) none) (
 (some (.ret [.d (.int .i64 x7), .d (.bool false)] [] [])))) := by kernel_rfl
end
abbrev aqj : aP := ajY gG (cT 185 aE) (cT 186 aE)
theorem au1 : aqj = aQ gG := by unfold aqj ajY; repeat rw [bC fun _ h => h]
abbrev aAt := akg aqj (bP SE gG (SE.hl 175) (SE.hr 175)) (J0 SE aqj)
theorem v7 : ∀ (fu : Nat) (x0 : List Int) (x1 x6 x7 x8 : Int), Le (Option.map aX (cP fu x0 x1 x6 x7 x8)) (aAt (List.map eI x0) x1 x6 x7 x8) := by
 intro fu
 induction fu with
 | zero => intros; exact le_none
 | succ fu ih =>
  intro x0 x1 x6 x7 x8
  refine Le.trans ?_ (le_of_eq ((aZ au1).trans (aw6 ..)).symm)
  unfold cP
  refine lC ?_ ?_
  ·refine lG (by simp only [EN]) ?_
   refine lQ eX aK (by (try simp only [EN]); exact ajz (List.getD x0 (Int.toNat (w6 (shr .u64 (IntKind.wrap .u64 (w6 (x7 + x8))) 1))) default) x1) fun r0 _ => ?_
   refine lC ?_ ?_
   ·exact ih x0 x1 x6 (w6 ((w6 (shr .u64 (IntKind.wrap .u64 (w6 (x7 + x8))) 1)) + 1)) x8
   ·exact ih x0 x1 x6 x7 (w6 (shr .u64 (IntKind.wrap .u64 (w6 (x7 + x8))) 1))
  ·refine lC ?_ ?_
   ·refine lG (by simp only [EN]) ?_
    refine lD (by simp only [EN]) ?_ ?_
    ·exact aJ rfl
    ·refine lG (by simp only [EN]) ?_
     refine lQ eX aK (by (try simp only [EN]); exact zL (List.getD x0 (Int.toNat x7) default)) fun r1 _ => ?_
     refine lC ?_ ?_
     ·refine lQ eX aK (zL _) fun r2 _ => ?_
      exact aJ rfl
     ·exact aJ rfl
   ·exact aJ rfl
theorem kJ (p0 : List Int) (p1 : Int) : Le (Option.map aX (dQ p0 p1)) (bA SE 175 [.d (.sl [.int .i64] (List.map eI p0)), .d (.int .i64 p1)] [] []) := by
 refine aV au1 rfl ?_
 refine Le.trans ?_ (le_of_eq (aFu ..).symm)
 unfold dQ
 (try simp only [EN]); exact v7 fuel p0 p1 (List.length p0 : Int) 0 (List.length p0 : Int)
theorem abv (p0 : List Int) (p1 : Int) (p2 : List Int) : Le (Option.map bI (mF p0 p1 p2)) (bA SE 178 [.row 2000000000, .d (.int .i64 p1), .row 2000000001] [] [⟨[.int .i64], 3, 8, (List.map eI p0)⟩, ⟨[.int .i64], 3, 8, (List.map eI p2)⟩]) := al9 (f := 178) (enc := eI) rfl rfl p0 p1 p2
def anp (C : aP) (Λ2 J : Lam) (a0 a1 a2 : Int) (a3 a4 : List D) : Res := lab SE C Λ2 J 157 0 [1, 1, 1, 0, 1, 0] (aW [(1, .ptr 1000000000 0), (3, .ptr 1000000001 0), (5, .d (.int .i64 a0)), (18, .d (.int .i64 a1)), (19, .d (.int .i64 a2))] [⟨27, (List.map AV.d a3)⟩, ⟨27, (List.map AV.d a4)⟩] [] [] [])
section
variable (Γ : Fun) (γ177 : Gm (Int)) (γ175 : Gm (Int × Bool)) (γ104 γ178 : Gm ((List Int))) (Λ2 J : Lam)
def alQ : aP := aY (aY (aY (aY (aQ Γ) 177 aH γ177) 175 aX γ175) 104 bI γ104) 178 bI γ178
theorem aE0 (p0 : aO) : bF SE (alQ Γ γ177 γ175 γ104 γ178) Λ2 J 157 [aO.av p0] [] [] =
 cond (decide ((lM eI p0.Used : Int) ≥ 32)) (
 (some (.ret [.d (.int .i64 0), .agg [.row 0, .d (.int .i64 0)], .d (.int .i64 6)] [] [⟨[.int .i64], 3, 8, (List.map eI [])⟩]))) (
 anp (alQ Γ γ177 γ175 γ104 γ178) Λ2 J p0.Last (w6 ((lM eI p0.Used : Int) + 1)) 0 (aO.enc p0) [D.sl [.int .i64] (List.map eI []), D.int .i64 0]) := by kernel_rfl
theorem axh (x5 x18 x19 : Int) (b0 b1 : aO) : bT SE (alQ Γ γ177 γ175 γ104 γ178) Λ2 J 157 0 [1, 1, 1, 0, 1, 0] (aW [(1, .ptr 1000000000 0), (3, .ptr 1000000001 0), (5, .d (.int .i64 x5)), (18, .d (.int .i64 x18)), (19, .d (.int .i64 x19))] [⟨27, (List.map AV.d (aO.enc b0))⟩, ⟨27, (List.map AV.d (aO.enc b1))⟩] [] [] []) =
 cond (decide (x19 < x18)) (
 γ177 [.d (.int .i64 x5)] [] [] fun r0 =>
 γ175 [.d (.sl [.int .i64] (List.map eI b0.Used)), .d (.int .i64 r0)] [] [] fun r1 =>
 cond (!r1.2) (
  γ104 [.d (.sl [.int .i64] (List.map eI b0.Used))] [] [] fun r2 =>
  γ178 [.row 2000000000, .d (.int .i64 r1.1), .row 2000000001] [] [⟨[.int .i64], 3, 8, (List.map eI r2)⟩, ⟨[.int .i64], 3, 8, (List.map eI [r0])⟩] fun r3 =>
  (some (.ret [.d (.int .i64 r0), .agg [.row 0, .d (.int .i64 r0)], .d (.int .i64 0)] [] [⟨[.int .i64], 3, 8, (List.map eI r3)⟩]))) (
 anp (alQ Γ γ177 γ175 γ104 γ178) Λ2 J r0 x18 (w6 (x19 + 1)) (aO.enc b0) (aO.enc b1))) (
 (some (.ret [.d (.int .i64 0), .agg [.row 0, .d (.int .i64 0)], .d (.int .i64 6)] [] [⟨[.int .i64], 3, 8, (List.map eI [])⟩]))) := by kernel_rfl
end
abbrev aqo : aP := alQ gG (cT 177 aH) (cT 175 aX) (cT 104 bI) (cT 178 bI)
theorem auY : aqo = aQ gG := by unfold aqo alQ; repeat rw [bC fun _ h => h]
abbrev azC := anp aqo (bP SE gG (SE.hl 157) (SE.hr 157)) (J0 SE aqo)
theorem ajW : ∀ (fu : Nat) (x5 x18 x19 : Int) (b0 b1 : aO), Le (Option.map eZ (o9 fu x5 x18 x19 b0 b1)) (azC x5 x18 x19 (aO.enc b0) (aO.enc b1)) := by
 intro fu
 induction fu with
 | zero => intros; exact le_none
 | succ fu ih =>
  intro x5 x18 x19 b0 b1
  refine Le.trans ?_ (le_of_eq ((aZ auY).trans (axh ..)).symm)
  unfold o9
  refine lC ?_ ?_
  ·refine lQ eX aS (amT _) fun r0 _ => ?_
   refine lQ eX cG (kJ _ _) fun r1 _ => ?_
   refine lC ?_ ?_
   ·refine lQ eX dM (hZ _) fun r2 _ => ?_
    refine lQ eX dM (abv _ _ _) fun r3 _ => ?_
    exact aJ rfl
   ·exact ih r0 x18 (w6 (x19 + 1)) b0 b1
  ·exact aJ rfl
theorem am0 (p0 : aO) : Le (Option.map eZ (aaC p0)) (bA SE 157 [aO.av p0] [] []) := by
 refine aV auY rfl ?_
 refine Le.trans ?_ (le_of_eq (aE0 ..).symm)
 unfold aaC
 refine lD (by simp only [EN]) ?_ ?_
 ·exact aJ rfl
 ·(try simp only [EN]); exact ajW fuel p0.Last (w6 ((List.length p0.Used : Int) + 1)) 0 p0 (aO.mk [] 0)
section
variable (Γ : Fun) (γ138 : Gm ((List aG))) (Λ2 J : Lam)
def aut : aP := aY (aQ Γ) 138 cN γ138
theorem aEH (p0 : aA) : bF SE (aut Γ γ138) Λ2 J 153 [aA.av p0] [] [] =
 γ138 [.d (.sl aG.ks (List.map aG.enc p0.Props))] [] [] fun r0 =>
 (some (.ret [.agg [.d (.str p0.Topic), .d (.str p0.Payload), .d (.int .i64 p0.Level), .d (.bool p0.Retain), .d (.int .i64 p0.Priority), .d (.int .i64 p0.Expires), .d (.str p0.From), .d (.int .i64 p0.Seq), .row 0]] [] [⟨aG.ks, 130, 32, (List.map aG.enc r0)⟩])) := by kernel_rfl
end
abbrev ayE : aP := aut gG (cT 138 cN)
theorem aCa : ayE = aQ gG := by unfold ayE aut; rw [bC fun _ h => h]
theorem wI (p0 : aA) : Le (Option.map bX (l8 p0)) (bA SE 153 [aA.av p0] [] []) := by
 refine aV aCa rfl ?_
 refine Le.trans ?_ (le_of_eq (aEH ..).symm)
 unfold l8
 refine lQ eX n3 (oO _) fun r0 _ => ?_
 exact aJ rfl
def aom (C : aP) (Λ2 J : Lam) (a0 : List (List D)) (a1 a2 : Int) (a3 a4 : List D) (a5 : List (List D)) : Res := lab SE C Λ2 J 110 0 [1, 1, 0, 1, 0] (aW [(1, .ptr 1000000000 0), (2, .ptr 1000000001 0), (3, .row 3003), (12, .d (.sl aD.ks a0)), (13, .d (.int .i64 a1)), (14, .d (.int .i64 a2))] [⟨29, (List.map AV.d a3)⟩, ⟨29, (List.map AV.d a4)⟩] [] [] [(3003, ⟨aD.ks, 122, 128, a5⟩)])
section
variable (Γ : Fun) (γ153 : Gm (aA)) (γ104 : Gm ((List Int))) (Λ2 J : Lam)
def alL : aP := aY (aY (aQ Γ) 153 bX γ153) 104 bI γ104
theorem aDG (p0 : aI) : bF SE (alL Γ γ153 γ104) Λ2 J 110 [aI.av p0] [] [] =
 cond (decide (0 ≤ 0) && decide (0 ≤ (w6 ((lM aD.enc p0.Items : Int) + 1))) && decide ((w6 ((lM aD.enc p0.Items : Int) + 1)) * 128 ≤ 281474976710656)) (
 aom (alL Γ γ153 γ104) Λ2 J (List.map aD.enc p0.Items) (lM aD.enc p0.Items : Int) 0 (aI.enc p0) [D.int .i64 0, D.sl aD.ks (List.map aD.enc []), D.sl [.int .i64] (List.map eI []), D.int .i64 0] (List.map aD.enc [])) none := by kernel_rfl
theorem ayh (x12 : List aD) (x13 x14 : Int) (b0 b1 : aI) (w3003 : List aD) : bT SE (alL Γ γ153 γ104) Λ2 J 110 0 [1, 1, 0, 1, 0] (aW [(1, .ptr 1000000000 0), (2, .ptr 1000000001 0), (3, .row 3003), (12, .d (.sl aD.ks (List.map aD.enc x12))), (13, .d (.int .i64 x13)), (14, .d (.int .i64 x14))] [⟨29, (List.map AV.d (aI.enc b0))⟩, ⟨29, (List.map AV.d (aI.enc b1))⟩] [] [] [(3003, ⟨aD.ks, 122, 128, (List.map aD.enc w3003)⟩)]) =
 cond (decide (x14 < x13)) (
 cond (iB x14 (lM aD.enc x12 : Int)) (
  γ153 [.agg [.d (.str (bD (cE aD.enc x12 x14 2))), .d (.str (bD (cE aD.enc x12 x14 3))), .d (.int .i64 (aR (cE aD.enc x12 x14 4))), .d (.bool (bN (cE aD.enc x12 x14 5))), .d (.int .i64 (aR (cE aD.enc x12 x14 6))), .d (.int .i64 (aR (cE aD.enc x12 x14 7))), .d (.str (bD (cE aD.enc x12 x14 8))), .d (.int .i64 (aR (cE aD.enc x12 x14 9))), .d (.sl aG.ks (dSl (cE aD.enc x12 x14 10)))]] [] [] fun r0 =>
  cond (decide ((lM aD.enc w3003 + List.length [[D.int .i64 (aR (cE aD.enc x12 x14 0)), D.int .i64 (aR (cE aD.enc x12 x14 1)), D.str r0.Topic, D.str r0.Payload, D.int .i64 r0.Level, D.bool r0.Retain, D.int .i64 r0.Priority, D.int .i64 r0.Expires, D.str r0.From, D.int .i64 r0.Seq, D.sl aG.ks (List.map aG.enc r0.Props)]]) * 128 ≤ 140737488355328)) (
  aom (alL Γ γ153 γ104) Λ2 J (List.map aD.enc x12) x13 (w6 (x14 + 1)) (aI.enc b0) (aI.enc b1) (((List.map aD.enc w3003) ++ [[D.int .i64 (aR (cE aD.enc x12 x14 0)), D.int .i64 (aR (cE aD.enc x12 x14 1)), D.str r0.Topic, D.str r0.Payload, D.int .i64 r0.Level, D.bool r0.Retain, D.int .i64 r0.Priority, D.int .i64 r0.Expires, D.str r0.From, D.int .i64 r0.Seq, D.sl aG.ks (List.map aG.enc r0.Props)]]))) none) none) (
 γ104 [.d (.sl [.int .i64] (List.map eI b0.Pool.Used))] [] [] fun r1 =>
 (some (.ret [.agg [.d (.int .i64 b0.Limit), .row 0, .row 1, .d (.int .i64 b0.Pool.Last)]] [] [⟨aD.ks, 122, 128, (List.map aD.enc w3003)⟩, ⟨[.int .i64], 3, 8, (List.map eI r1)⟩]))) := by kernel_rfl
end
abbrev aqx : aP := alL gG (cT 153 bX) (cT 104 bI)
theorem avu : aqx = aQ gG := by unfold aqx alL; repeat rw [bC fun _ h => h]
abbrev ayu := aom aqx (bP SE gG (SE.hl 110) (SE.hr 110)) (J0 SE aqx)
theorem agb : ∀ (fu : Nat) (x12 : List aD) (x13 x14 : Int) (b0 b1 : aI) (w3003 : List aD), Le (Option.map bY (j0 fu x12 x13 x14 b0 b1 w3003)) (ayu (List.map aD.enc x12) x13 x14 (aI.enc b0) (aI.enc b1) (List.map aD.enc w3003)) := by
 intro fu
 induction fu with
 | zero => intros; exact le_none
 | succ fu ih =>
  intro x12 x13 x14 b0 b1 w3003
  refine Le.trans ?_ (le_of_eq ((aZ avu).trans (ayh ..)).symm)
  unfold j0
  refine lC ?_ ?_
  ·refine lG (by simp only [EN]) ?_
   refine lQ eX c8 (by (try simp only [EN]); exact wI ((List.getD x12 (Int.toNat x14) default).Message)) fun r0 _ => ?_
   refine lG (by simp only [EN]) ?_
   (try simp only [EN]); exact ih x12 x13 (w6 (x14 + 1)) b0 b1 ((w3003 ++ [(aD.mk (List.getD x12 (Int.toNat x14) default).ID (List.getD x12 (Int.toNat x14) default).State r0)]))
  ·refine lQ eX dM (hZ _) fun r1 _ => ?_
   exact aJ rfl
theorem mT (p0 : aI) : Le (Option.map bY (iE p0)) (bA SE 110 [aI.av p0] [] []) := by
 refine aV avu rfl ?_
 refine Le.trans ?_ (le_of_eq (aDG ..).symm)
 unfold iE
 refine lG (by simp only [EN]) ?_
 (try simp only [EN]); exact agb fuel p0.Items (List.length p0.Items : Int) 0 p0 ((aI.mk 0 [] (aO.mk [] 0))) []
section
variable (Γ : Fun) (γ153 : Gm (aA)) (Λ2 J : Lam)
def auf : aP := aY (aQ Γ) 153 bX γ153
theorem aEx (p0 : aD) : bF SE (auf Γ γ153) Λ2 J 147 [aD.av p0] [] [] =
 γ153 [aA.av p0.Message] [] [] fun r0 =>
 (some (.ret [.agg [.d (.int .i64 3), .d (.int .i64 p0.ID), .d (.bool false), .d (.str r0.Topic), .d (.str r0.Payload), .d (.int .i64 r0.Level), .d (.bool r0.Retain), .d (.int .i64 r0.Priority), .d (.int .i64 r0.Expires), .d (.str r0.From), .d (.int .i64 r0.Seq), .row 0, .d (.str []), .d (.str []), .d (.bool false), .d (.int .i64 0), .d (.int .i64 0), .d (.int .i64 0), .d (.bool false), .d (.int .i64 0), .d (.str []), .d (.str []), .d (.int .i64 0), .d (.bool false), .d (.int .i64 0), .d (.int .i64 0), .d (.str []), .d (.int .i64 0), .row 1, .d (.bool false), .d (.int .i64 0), .row 2, .row 3, .row 4]] [] [⟨aG.ks, 130, 32, (List.map aG.enc r0.Props)⟩, ⟨aG.ks, 130, 32, (List.map aG.enc [])⟩, ⟨aF.ks, 60, 32, (List.map aF.enc [])⟩, ⟨[.str], 9, 16, (List.map bL [])⟩, ⟨[.int .i64], 3, 8, (List.map eI [])⟩])) := by kernel_rfl
end
abbrev ayA : aP := auf gG (cT 153 bX)
theorem aBc : ayA = aQ gG := by unfold ayA auf; rw [bC fun _ h => h]
theorem aaM (p0 : aD) : Le (Option.map bW (nP p0)) (bA SE 147 [aD.av p0] [] []) := by
 refine aV aBc rfl ?_
 refine Le.trans ?_ (le_of_eq (aEx ..).symm)
 unfold nP
 refine lQ eX c8 (wI _) fun r0 _ => ?_
 exact aJ rfl
section
variable (Γ : Fun) (γ156 γ141 : Gm (Int)) (γ157 : Gm (Int × aO × Int)) (γ110 : Gm (aI)) (γ153 : Gm (aA)) (γ147 : Gm (aC)) (Λ2 J : Lam)
def atD : aP := aY (aY (aY (aY (aY (aY (aQ Γ) 156 aH γ156) 141 aH γ141) 157 eZ γ157) 110 bY γ110) 153 bX γ153) 147 bW γ147
theorem aF9 (p0 : aI) (p1 : aA) : bF SE (atD Γ γ156 γ141 γ157 γ110 γ153 γ147) Λ2 J 114 [aI.av p0, aA.av p1] [] [] =
 cond (p1.Level == 0) (
 (some (.ret [.agg [.d (.int .i64 0), .row 0, .row 1, .d (.int .i64 0)], .agg [.d (.int .i64 0), .d (.int .i64 0), .d (.bool false), .d (.str []), .d (.str []), .d (.int .i64 0), .d (.bool false), .d (.int .i64 0), .d (.int .i64 0), .d (.str []), .d (.int .i64 0), .row 2, .d (.str []), .d (.str []), .d (.bool false), .d (.int .i64 0), .d (.int .i64 0), .d (.int .i64 0), .d (.bool false), .d (.int .i64 0), .d (.str []), .d (.str []), .d (.int .i64 0), .d (.bool false), .d (.int .i64 0), .d (.int .i64 0), .d (.str []), .d (.int .i64 0), .row 3, .d (.bool false), .d (.int .i64 0), .row 4, .row 5, .row 6], .d (.int .i64 14)] [] [⟨aD.ks, 122, 128, (List.map aD.enc [])⟩, ⟨[.int .i64], 3, 8, (List.map eI [])⟩, ⟨aG.ks, 130, 32, (List.map aG.enc [])⟩, ⟨aG.ks, 130, 32, (List.map aG.enc [])⟩, ⟨aF.ks, 60, 32, (List.map aF.enc [])⟩, ⟨[.str], 9, 16, (List.map bL [])⟩, ⟨[.int .i64], 3, 8, (List.map eI [])⟩]))) (
 γ156 [aI.av p0] [] [] fun r0 =>
 cond (r0 == 0) (
 (some (.ret [.agg [.d (.int .i64 0), .row 0, .row 1, .d (.int .i64 0)], .agg [.d (.int .i64 0), .d (.int .i64 0), .d (.bool false), .d (.str []), .d (.str []), .d (.int .i64 0), .d (.bool false), .d (.int .i64 0), .d (.int .i64 0), .d (.str []), .d (.int .i64 0), .row 2, .d (.str []), .d (.str []), .d (.bool false), .d (.int .i64 0), .d (.int .i64 0), .d (.int .i64 0), .d (.bool false), .d (.int .i64 0), .d (.str []), .d (.str []), .d (.int .i64 0), .d (.bool false), .d (.int .i64 0), .d (.int .i64 0), .d (.str []), .d (.int .i64 0), .row 3, .d (.bool false), .d (.int .i64 0), .row 4, .row 5, .row 6], .d (.int .i64 6)] [] [⟨aD.ks, 122, 128, (List.map aD.enc [])⟩, ⟨[.int .i64], 3, 8, (List.map eI [])⟩, ⟨aG.ks, 130, 32, (List.map aG.enc [])⟩, ⟨aG.ks, 130, 32, (List.map aG.enc [])⟩, ⟨aF.ks, 60, 32, (List.map aF.enc [])⟩, ⟨[.str], 9, 16, (List.map bL [])⟩, ⟨[.int .i64], 3, 8, (List.map eI [])⟩]))) (
 γ141 [aA.av p1] [] [] fun r1 =>
 cond (r1 != 0) (
 (some (.ret [.agg [.d (.int .i64 0), .row 0, .row 1, .d (.int .i64 0)], .agg [.d (.int .i64 0), .d (.int .i64 0), .d (.bool false), .d (.str []), .d (.str []), .d (.int .i64 0), .d (.bool false), .d (.int .i64 0), .d (.int .i64 0), .d (.str []), .d (.int .i64 0), .row 2, .d (.str []), .d (.str []), .d (.bool false), .d (.int .i64 0), .d (.int .i64 0), .d (.int .i64 0), .d (.bool false), .d (.int .i64 0), .d (.str []), .d (.str []), .d (.int .i64 0), .d (.bool false), .d (.int .i64 0), .d (.int .i64 0), .d (.str []), .d (.int .i64 0), .row 3, .d (.bool false), .d (.int .i64 0), .row 4, .row 5, .row 6], .d (.int .i64 r1)] [] [⟨aD.ks, 122, 128, (List.map aD.enc [])⟩, ⟨[.int .i64], 3, 8, (List.map eI [])⟩, ⟨aG.ks, 130, 32, (List.map aG.enc [])⟩, ⟨aG.ks, 130, 32, (List.map aG.enc [])⟩, ⟨aF.ks, 60, 32, (List.map aF.enc [])⟩, ⟨[.str], 9, 16, (List.map bL [])⟩, ⟨[.int .i64], 3, 8, (List.map eI [])⟩]))) (
 γ157 [aO.av p0.Pool] [] [] fun r2 =>
 cond (r2.2.2 != 0) (
 (some (.ret [.agg [.d (.int .i64 0), .row 0, .row 1, .d (.int .i64 0)], .agg [.d (.int .i64 0), .d (.int .i64 0), .d (.bool false), .d (.str []), .d (.str []), .d (.int .i64 0), .d (.bool false), .d (.int .i64 0), .d (.int .i64 0), .d (.str []), .d (.int .i64 0), .row 2, .d (.str []), .d (.str []), .d (.bool false), .d (.int .i64 0), .d (.int .i64 0), .d (.int .i64 0), .d (.bool false), .d (.int .i64 0), .d (.str []), .d (.str []), .d (.int .i64 0), .d (.bool false), .d (.int .i64 0), .d (.int .i64 0), .d (.str []), .d (.int .i64 0), .row 3, .d (.bool false), .d (.int .i64 0), .row 4, .row 5, .row 6], .d (.int .i64 r2.2.2)] [] [⟨aD.ks, 122, 128, (List.map aD.enc [])⟩, ⟨[.int .i64], 3, 8, (List.map eI [])⟩, ⟨aG.ks, 130, 32, (List.map aG.enc [])⟩, ⟨aG.ks, 130, 32, (List.map aG.enc [])⟩, ⟨aF.ks, 60, 32, (List.map aF.enc [])⟩, ⟨[.str], 9, 16, (List.map bL [])⟩, ⟨[.int .i64], 3, 8, (List.map eI [])⟩]))) (
 γ110 [aI.av p0] [] [] fun r3 =>
 γ153 [aA.av p1] [] [] fun r4 =>
 cond (decide ((lM aD.enc r3.Items + lM aD.enc [(aD.mk r2.1 1 r4)]) * 128 ≤ 140737488355328)) (
 γ147 [aD.av (aD.mk r2.1 1 r4)] [] [] fun r5 =>
 (some (.ret [.agg [.d (.int .i64 r3.Limit), .row 0, .row 1, .d (.int .i64 r2.2.1.Last)], .agg [.d (.int .i64 r5.Kind), .d (.int .i64 r5.ID), .d (.bool r5.Dup), .d (.str r5.Message.Topic), .d (.str r5.Message.Payload), .d (.int .i64 r5.Message.Level), .d (.bool r5.Message.Retain), .d (.int .i64 r5.Message.Priority), .d (.int .i64 r5.Message.Expires), .d (.str r5.Message.From), .d (.int .i64 r5.Message.Seq), .row 2, .d (.str r5.Client), .d (.str r5.User), .d (.bool r5.Clean), .d (.int .i64 r5.Keep), .d (.int .i64 r5.Expiry), .d (.int .i64 r5.Window), .d (.bool r5.Will.Set), .d (.int .i64 r5.Will.Delay), .d (.str r5.Will.Message.Topic), .d (.str r5.Will.Message.Payload), .d (.int .i64 r5.Will.Message.Level), .d (.bool r5.Will.Message.Retain), .d (.int .i64 r5.Will.Message.Priority), .d (.int .i64 r5.Will.Message.Expires), .d (.str r5.Will.Message.From), .d (.int .i64 r5.Will.Message.Seq), .row 3, .d (.bool r5.Present), .d (.int .i64 r5.Code), .row 4, .row 5, .row 6], .d (.int .i64 0)] [] [⟨aD.ks, 122, 128, ((List.map aD.enc r3.Items) ++ (List.map aD.enc [(aD.mk r2.1 1 r4)]))⟩, ⟨[.int .i64], 3, 8, (List.map eI r2.2.1.Used)⟩, ⟨aG.ks, 130, 32, (List.map aG.enc r5.Message.Props)⟩, ⟨aG.ks, 130, 32, (List.map aG.enc r5.Will.Message.Props)⟩, ⟨aF.ks, 60, 32, (List.map aF.enc r5.Subs)⟩, ⟨[.str], 9, 16, (List.map bL r5.Filters)⟩, ⟨[.int .i64], 3, 8, (List.map eI r5.Codes)⟩]))) none)))) := by kernel_rfl
end
abbrev az2 : aP := atD gG (cT 156 aH) (cT 141 aH) (cT 157 eZ) (cT 110 bY) (cT 153 bX) (cT 147 bW)
theorem aBb : az2 = aQ gG := by unfold az2 atD; repeat rw [bC fun _ h => h]
theorem aiX (p0 : aI) (p1 : aA) : Le (Option.map jO (qG p0 p1)) (bA SE 114 [aI.av p0, aA.av p1] [] []) := by
 refine aV aBb rfl ?_
 refine Le.trans ?_ (le_of_eq (aF9 ..).symm)
 unfold qG
 refine lC ?_ ?_
 ·exact aJ rfl
 ·refine lQ eX aS (ajm _) fun r0 _ => ?_
  refine lC ?_ ?_
  ·exact aJ rfl
  ·refine lQ eX aS (uS _) fun r1 _ => ?_
   refine lC ?_ ?_
   ·exact aJ rfl
   ·refine lQ eX afC (am0 _) fun r2 _ => ?_
    refine lC ?_ ?_
    ·exact aJ rfl
    ·refine lQ eX fC (mT _) fun r3 _ => ?_
     refine lQ eX c8 (wI _) fun r4 _ => ?_
     refine lG (by simp only [EN]) ?_
     refine lQ eX eP (aaM _) fun r5 _ => ?_
     exact aJ (by first | rfl | simp only [EN, jO] <;> rfl)
def akt (C : aP) (Λ2 J : Lam) (a0 : Int) (a1 a2 : List D) (a3 : List (List D)) : Res := lab SE C Λ2 J 61 0 [1, 0, 0] (aW [(1, .d (.int .i64 a0)), (2, .row 3002), (3, .ptr 1000000000 0), (6, .ptr 1000000001 0)] [⟨38, (List.map AV.d a1)⟩, ⟨38, (List.map AV.d a2)⟩] [] [] [(3002, ⟨aC.ks, 49, 416, a3⟩)])
section
variable (Γ : Fun) (γ113 : Gm (Bool)) (γ51 : Gm (aB)) (γ80 : Gm (aA)) (γ114 : Gm (aI × aC × Int)) (Λ2 J : Lam)
def C61 : aP := aY (aY (aY (aY (aQ Γ) 113 aE γ113) 51 bQ γ51) 80 bX γ80) 114 jO γ114
theorem T61 (p0 : aB) (p1 : Int) (p2 : List aC) : bF SE (C61 Γ γ113 γ51 γ80 γ114) Λ2 J 61 [aB.av p0, .d (.int .i64 p1), .row 2000000000] [] [⟨aC.ks, 49, 416, (List.map aC.enc p2)⟩] =
 akt (C61 Γ γ113 γ51 γ80 γ114) Λ2 J p1 (aB.enc p0) [D.str [], D.str [], D.bool false, D.int .i64 0, D.int .i64 0, D.int .i64 0, D.int .i64 0, D.sl aF.ks (List.map aF.enc []), D.sl aA.ks (List.map aA.enc []), D.int .i64 0, D.sl aD.ks (List.map aD.enc []), D.sl [.int .i64] (List.map eI []), D.int .i64 0, D.sl [.int .i64] (List.map eI []), D.bool false, D.int .i64 0, D.str [], D.str [], D.int .i64 0, D.bool false, D.int .i64 0, D.int .i64 0, D.str [], D.int .i64 0, D.sl aG.ks (List.map aG.enc [])] (List.map aC.enc p2) := by kernel_rfl
theorem aCx (x1 : Int) (b0 b1 : aB) (w3002 : List aC) : bT SE (C61 Γ γ113 γ51 γ80 γ114) Λ2 J 61 0 [1, 0, 0] (aW [(1, .d (.int .i64 x1)), (2, .row 3002), (3, .ptr 1000000000 0), (6, .ptr 1000000001 0)] [⟨38, (List.map AV.d (aB.enc b0))⟩, ⟨38, (List.map AV.d (aB.enc b1))⟩] [] [] [(3002, ⟨aC.ks, 49, 416, (List.map aC.enc w3002)⟩)]) =
 cond (decide ((lM aA.enc b0.Queue : Int) > 0)) (
 cond (decide (0 ≤ 0) && decide (0 < (lM aA.enc b0.Queue : Int))) (
  γ113 [.agg [.d (.str (bD (cE aA.enc b0.Queue 0 0))), .d (.str (bD (cE aA.enc b0.Queue 0 1))), .d (.int .i64 (aR (cE aA.enc b0.Queue 0 2))), .d (.bool (bN (cE aA.enc b0.Queue 0 3))), .d (.int .i64 (aR (cE aA.enc b0.Queue 0 4))), .d (.int .i64 (aR (cE aA.enc b0.Queue 0 5))), .d (.str (bD (cE aA.enc b0.Queue 0 6))), .d (.int .i64 (aR (cE aA.enc b0.Queue 0 7))), .d (.sl aG.ks (dSl (cE aA.enc b0.Queue 0 8)))], .d (.int .i64 x1)] [] [] fun r0 =>
  cond r0 (
  γ51 [aB.av b0, .d (.int .i64 1)] [] [] fun r1 =>
  cond (decide (0 ≤ 1) && decide (1 ≤ ((lM aA.enc r1.Queue) : Int))) (
   akt (C61 Γ γ113 γ51 γ80 γ114) Λ2 J x1 [D.str r1.Client, D.str r1.User, D.bool r1.Online, D.int .i64 r1.Conn, D.int .i64 r1.Expiry, D.int .i64 r1.Until, D.int .i64 r1.Dropped, D.sl aF.ks (List.map aF.enc r1.Subs), D.sl aA.ks (bR (List.map aA.enc r1.Queue) (some 1) none), D.int .i64 r1.Out.Limit, D.sl aD.ks (List.map aD.enc r1.Out.Items), D.sl [.int .i64] (List.map eI r1.Out.Pool.Used), D.int .i64 r1.Out.Pool.Last, D.sl [.int .i64] (List.map eI r1.In.IDs), D.bool r1.Will.Set, D.int .i64 r1.Will.Delay, D.str r1.Will.Message.Topic, D.str r1.Will.Message.Payload, D.int .i64 r1.Will.Message.Level, D.bool r1.Will.Message.Retain, D.int .i64 r1.Will.Message.Priority, D.int .i64 r1.Will.Message.Expires, D.str r1.Will.Message.From, D.int .i64 r1.Will.Message.Seq, D.sl aG.ks (List.map aG.enc r1.Will.Message.Props)] (aB.enc b1) (List.map aC.enc w3002)) none) (
  cond ((aR (cE aA.enc b0.Queue 0 2)) == 0) (
  γ80 [.agg [.d (.str (bD (cE aA.enc b0.Queue 0 0))), .d (.str (bD (cE aA.enc b0.Queue 0 1))), .d (.int .i64 (aR (cE aA.enc b0.Queue 0 2))), .d (.bool (bN (cE aA.enc b0.Queue 0 3))), .d (.int .i64 (aR (cE aA.enc b0.Queue 0 4))), .d (.int .i64 (aR (cE aA.enc b0.Queue 0 5))), .d (.str (bD (cE aA.enc b0.Queue 0 6))), .d (.int .i64 (aR (cE aA.enc b0.Queue 0 7))), .d (.sl aG.ks (dSl (cE aA.enc b0.Queue 0 8)))]] [] [] fun r2 =>
  cond (decide ((lM aC.enc w3002 + List.length [[D.int .i64 3, D.int .i64 0, D.bool false, D.str r2.Topic, D.str r2.Payload, D.int .i64 r2.Level, D.bool r2.Retain, D.int .i64 r2.Priority, D.int .i64 r2.Expires, D.str r2.From, D.int .i64 r2.Seq, D.sl aG.ks (List.map aG.enc r2.Props), D.str [], D.str [], D.bool false, D.int .i64 0, D.int .i64 0, D.int .i64 0, D.bool false, D.int .i64 0, D.str [], D.str [], D.int .i64 0, D.bool false, D.int .i64 0, D.int .i64 0, D.str [], D.int .i64 0, D.sl aG.ks (List.map aG.enc []), D.bool false, D.int .i64 0, D.sl aF.ks (List.map aF.enc []), D.sl [.str] (List.map bL []), D.sl [.int .i64] (List.map eI [])]]) * 416 ≤ 140737488355328)) (
   cond (decide (0 ≤ 1) && decide (1 ≤ ((lM aA.enc b0.Queue) : Int))) (
   akt (C61 Γ γ113 γ51 γ80 γ114) Λ2 J x1 [D.str b0.Client, D.str b0.User, D.bool b0.Online, D.int .i64 b0.Conn, D.int .i64 b0.Expiry, D.int .i64 b0.Until, D.int .i64 b0.Dropped, D.sl aF.ks (List.map aF.enc b0.Subs), D.sl aA.ks (bR (List.map aA.enc b0.Queue) (some 1) none), D.int .i64 b0.Out.Limit, D.sl aD.ks (List.map aD.enc b0.Out.Items), D.sl [.int .i64] (List.map eI b0.Out.Pool.Used), D.int .i64 b0.Out.Pool.Last, D.sl [.int .i64] (List.map eI b0.In.IDs), D.bool b0.Will.Set, D.int .i64 b0.Will.Delay, D.str b0.Will.Message.Topic, D.str b0.Will.Message.Payload, D.int .i64 b0.Will.Message.Level, D.bool b0.Will.Message.Retain, D.int .i64 b0.Will.Message.Priority, D.int .i64 b0.Will.Message.Expires, D.str b0.Will.Message.From, D.int .i64 b0.Will.Message.Seq, D.sl aG.ks (List.map aG.enc b0.Will.Message.Props)] (aB.enc b1) (((List.map aC.enc w3002) ++ [[D.int .i64 3, D.int .i64 0, D.bool false, D.str r2.Topic, D.str r2.Payload, D.int .i64 r2.Level, D.bool r2.Retain, D.int .i64 r2.Priority, D.int .i64 r2.Expires, D.str r2.From, D.int .i64 r2.Seq, D.sl aG.ks (List.map aG.enc r2.Props), D.str [], D.str [], D.bool false, D.int .i64 0, D.int .i64 0, D.int .i64 0, D.bool false, D.int .i64 0, D.str [], D.str [], D.int .i64 0, D.bool false, D.int .i64 0, D.int .i64 0, D.str [], D.int .i64 0, D.sl aG.ks (List.map aG.enc []), D.bool false, D.int .i64 0, D.sl aF.ks (List.map aF.enc []), D.sl [.str] (List.map bL []), D.sl [.int .i64] (List.map eI [])]]))) none) none) (
  γ114 [aI.av b0.Out, .agg [.d (.str (bD (cE aA.enc b0.Queue 0 0))), .d (.str (bD (cE aA.enc b0.Queue 0 1))), .d (.int .i64 (aR (cE aA.enc b0.Queue 0 2))), .d (.bool (bN (cE aA.enc b0.Queue 0 3))), .d (.int .i64 (aR (cE aA.enc b0.Queue 0 4))), .d (.int .i64 (aR (cE aA.enc b0.Queue 0 5))), .d (.str (bD (cE aA.enc b0.Queue 0 6))), .d (.int .i64 (aR (cE aA.enc b0.Queue 0 7))), .d (.sl aG.ks (dSl (cE aA.enc b0.Queue 0 8)))]] [] [] fun r3 =>
  cond (r3.2.2 != 0) (
  (some (.ret [aB.av b0, .row 0] [] [⟨aC.ks, 49, 416, (List.map aC.enc w3002)⟩]))) (
  cond (decide ((lM aC.enc w3002 + lM aC.enc [r3.2.1]) * 416 ≤ 140737488355328)) (
  cond (decide (0 ≤ 1) && decide (1 ≤ ((lM aA.enc b0.Queue) : Int))) (
   akt (C61 Γ γ113 γ51 γ80 γ114) Λ2 J x1 [D.str b0.Client, D.str b0.User, D.bool b0.Online, D.int .i64 b0.Conn, D.int .i64 b0.Expiry, D.int .i64 b0.Until, D.int .i64 b0.Dropped, D.sl aF.ks (List.map aF.enc b0.Subs), D.sl aA.ks (bR (List.map aA.enc b0.Queue) (some 1) none), D.int .i64 r3.1.Limit, D.sl aD.ks (List.map aD.enc r3.1.Items), D.sl [.int .i64] (List.map eI r3.1.Pool.Used), D.int .i64 r3.1.Pool.Last, D.sl [.int .i64] (List.map eI b0.In.IDs), D.bool b0.Will.Set, D.int .i64 b0.Will.Delay, D.str b0.Will.Message.Topic, D.str b0.Will.Message.Payload, D.int .i64 b0.Will.Message.Level, D.bool b0.Will.Message.Retain, D.int .i64 b0.Will.Message.Priority, D.int .i64 b0.Will.Message.Expires, D.str b0.Will.Message.From, D.int .i64 b0.Will.Message.Seq, D.sl aG.ks (List.map aG.enc b0.Will.Message.Props)] (aB.enc b1) (((List.map aC.enc w3002) ++ (List.map aC.enc [r3.2.1])))) none) none)))) none) (
 (some (.ret [aB.av b0, .row 0] [] [⟨aC.ks, 49, 416, (List.map aC.enc w3002)⟩]))) := by kernel_rfl
end
abbrev X61 : aP := C61 gG (cT 113 aE) (cT 51 bQ) (cT 80 bX) (cT 114 jO)
theorem ayc : X61 = aQ gG := by unfold X61 C61; repeat rw [bC fun _ h => h]
abbrev aBO := akt X61 (bP SE gG (SE.hl 61) (SE.hr 61)) (J0 SE X61)
theorem ahM : ∀ (fu : Nat) (x1 : Int) (b0 b1 : aB) (w3002 : List aC), Le (Option.map bK (gU fu x1 b0 b1 w3002)) (aBO x1 (aB.enc b0) (aB.enc b1) (List.map aC.enc w3002)) := by
 intro fu
 induction fu with
 | zero => intros; exact le_none
 | succ fu ih =>
  intro x1 b0 b1 w3002
  refine Le.trans ?_ (le_of_eq ((aZ ayc).trans (aCx ..)).symm)
  unfold gU
  refine lD (by simp only [EN]) ?_ ?_
  ·refine lG (by simp only [EN]) ?_
   refine lQ eX aK (by (try simp only [EN]); exact ahp (List.getD b0.Queue (Int.toNat 0) default) x1) fun r0 _ => ?_
   refine lC ?_ ?_
   ·refine lQ eX dH (sN _ _) fun r1 _ => ?_
    refine lG (by simp only [EN]) ?_
    (try simp only [EN]); exact ih x1 (aB.mk r1.Client r1.User r1.Online r1.Conn r1.Expiry r1.Until r1.Dropped r1.Subs (bR r1.Queue (some 1) none) r1.Out r1.In r1.Will) b1 w3002
   ·refine lD (by simp only [EN]) ?_ ?_
    ·refine lQ eX c8 (by (try simp only [EN]); exact mM (List.getD b0.Queue (Int.toNat 0) default)) fun r2 _ => ?_
     refine lG (by simp only [EN]) ?_
     refine lG (by simp only [EN]) ?_
     (try simp only [EN]); exact ih x1 (aB.mk b0.Client b0.User b0.Online b0.Conn b0.Expiry b0.Until b0.Dropped b0.Subs (bR b0.Queue (some 1) none) b0.Out b0.In b0.Will) b1 ((w3002 ++ [(aC.mk 3 0 false r2 [] [] false 0 0 0 (aU.mk false 0 (aA.mk [] [] 0 false 0 0 [] 0 [])) false 0 [] [] [])]))
    ·refine lQ eX aii (by (try simp only [EN]); exact aiX b0.Out (List.getD b0.Queue (Int.toNat 0) default)) fun r3 _ => ?_
     refine lC ?_ ?_
     ·exact aJ rfl
     ·refine lG (by simp only [EN]) ?_
      refine lG (by simp only [EN]) ?_
      (try simp only [EN]); exact ih x1 (aB.mk b0.Client b0.User b0.Online b0.Conn b0.Expiry b0.Until b0.Dropped b0.Subs (bR b0.Queue (some 1) none) r3.1 b0.In b0.Will) b1 (w3002 ++ [r3.2.1])
  ·exact aJ rfl
theorem zM (p0 : aB) (p1 : Int) (p2 : List aC) : Le (Option.map bK (mE p0 p1 p2)) (bA SE 61 [aB.av p0, .d (.int .i64 p1), .row 2000000000] [] [⟨aC.ks, 49, 416, (List.map aC.enc p2)⟩]) := by
 refine aV ayc rfl ?_
 refine Le.trans ?_ (le_of_eq (T61 ..).symm)
 unfold mE
 (try simp only [EN]); exact ahM fuel p1 p0 ((aB.mk [] [] false 0 0 0 0 [] [] (aI.mk 0 [] (aO.mk [] 0)) (bE.mk []) (aU.mk false 0 (aA.mk [] [] 0 false 0 0 [] 0 [])))) p2
section
variable (Γ : Fun) (γ50 : Gm (aB)) (γ61 : Gm (aB × (List aC))) (Λ2 J : Lam)
def C34 : aP := aY (aY (aQ Γ) 50 cB γ50) 61 bK γ61
theorem T34 (p0 : aB) (p1 : Int) : bF SE (C34 Γ γ50 γ61) Λ2 J 34 [aB.av p0, .d (.int .i64 p1)] [] [] =
 cond (!p0.Online) (
 γ50 [aB.av p0] [] [] fun r0 =>
 (some (.ret [aB.av r0, .row 0] [] [⟨aC.ks, 49, 416, []⟩]))) (
 γ50 [aB.av p0] [] [] fun r1 =>
 γ61 [aB.av r1, .d (.int .i64 p1), .row 2000000000] [] [⟨aC.ks, 49, 416, (List.map aC.enc [])⟩] fun r2 =>
 (some (.ret [aB.av r2.1, .row 0] [] [⟨aC.ks, 49, 416, (List.map aC.enc r2.2)⟩]))) := by kernel_rfl
end
abbrev X34 : aP := C34 gG (cT 50 cB) (cT 61 bK)
theorem aF8 : X34 = aQ gG := by unfold X34 C34; repeat rw [bC fun _ h => h]
theorem aaz (p0 : aB) (p1 : Int) : Le (Option.map bK (qO p0 p1)) (bA SE 34 [aB.av p0, .d (.int .i64 p1)] [] []) := by
 refine aV aF8 rfl ?_
 refine Le.trans ?_ (le_of_eq (T34 ..).symm)
 unfold qO
 refine lC ?_ ?_
 ·refine lQ eX gA (jM _) fun r0 _ => ?_
  exact aJ rfl
 ·refine lQ eX gA (jM _) fun r1 _ => ?_
  refine lQ eX eA (by (try simp only [EN]); exact zM r1 p1 []) fun r2 _ => ?_
  exact aJ rfl
section
variable (Γ : Fun)  (Λ2 J : Lam)
def ayj : aP := aQ Γ
theorem aFS (p0 : aD) (p1 : Int) : bF SE (ayj Γ) Λ2 J 152 [aD.av p0, .ptr 2000000000 0] [⟨3, [.d (.int .i64 p1)]⟩] [] =
 (some (.ret [.d (.bool (p0.ID == p1))] [⟨3, [.d (.int .i64 p1)]⟩] [])) := by kernel_rfl
end
abbrev aFa : aP := ayj gG
theorem aDk : aFa = aQ gG := rfl
theorem ahz (p0 : aD) (p1 : Int) : Le (Option.map kE (vU p0 p1)) (bA SE 152 [aD.av p0, .ptr 2000000000 0] [⟨3, [.d (.int .i64 p1)]⟩] []) := by
 refine aV aDk rfl ?_
 refine Le.trans ?_ (le_of_eq (aFS ..).symm)
 unfold vU
 exact aJ rfl
def apq (C : aP) (Λ2 J : Lam) (a0 : List (List D)) (a1 a2 a3 : Int) : Res := lab SE C Λ2 J 151 1 [1, 0, 1, 0] (aW [(0, .d (.sl aD.ks a0)), (1, .fn 152 [] [.ptr 2000000000 0]), (7, .d (.int .i64 a1)), (8, .d (.int .i64 a2))] [] [⟨3, [.d (.int .i64 a3)]⟩] [] [])
section
variable (Γ : Fun) (γ152 : Gm (Bool × Int)) (Λ2 J : Lam)
def aly : aP := aY (aQ Γ) 152 kE γ152
theorem aEo (p0 : List aD) (p1_0 : Int) : bF SE (aly Γ γ152) Λ2 J 151 [.d (.sl aD.ks (List.map aD.enc p0)), .fn 152 [] [.ptr 2000000000 0]] [⟨3, [.d (.int .i64 p1_0)]⟩] [] =
 apq (aly Γ γ152) Λ2 J (List.map aD.enc p0) (lM aD.enc p0 : Int) 0 p1_0 := by kernel_rfl
theorem az0 (x0 : List aD) (x7 x8 q0_0 : Int) : bT SE (aly Γ γ152) Λ2 J 151 1 [1, 0, 1, 0] (aW [(0, .d (.sl aD.ks (List.map aD.enc x0))), (1, .fn 152 [] [.ptr 2000000000 0]), (7, .d (.int .i64 x7)), (8, .d (.int .i64 x8))] [] [⟨3, [.d (.int .i64 q0_0)]⟩] [] []) =
 cond (decide (x8 < x7)) (
 cond (iB x8 (lM aD.enc x0 : Int)) (
  γ152 [.agg [.d (.int .i64 (aR (cE aD.enc x0 x8 0))), .d (.int .i64 (aR (cE aD.enc x0 x8 1))), .d (.str (bD (cE aD.enc x0 x8 2))), .d (.str (bD (cE aD.enc x0 x8 3))), .d (.int .i64 (aR (cE aD.enc x0 x8 4))), .d (.bool (bN (cE aD.enc x0 x8 5))), .d (.int .i64 (aR (cE aD.enc x0 x8 6))), .d (.int .i64 (aR (cE aD.enc x0 x8 7))), .d (.str (bD (cE aD.enc x0 x8 8))), .d (.int .i64 (aR (cE aD.enc x0 x8 9))), .d (.sl aG.ks (dSl (cE aD.enc x0 x8 10)))], .ptr 2000000000 0] [⟨3, [.d (.int .i64 q0_0)]⟩] [] fun r0 =>
  cond r0.1 (
  (some (.ret [.d (.int .i64 x8)] [⟨3, [.d (.int .i64 r0.2)]⟩] []))) (
  apq (aly Γ γ152) Λ2 J (List.map aD.enc x0) x7 (w6 (x8 + 1)) r0.2)) none) (
 (some (.ret [.d (.int .i64 (-1))] [⟨3, [.d (.int .i64 q0_0)]⟩] []))) := by kernel_rfl
end
abbrev arw : aP := aly gG (cT 152 kE)
theorem avp : arw = aQ gG := by unfold arw aly; rw [bC fun _ h => h]
abbrev azX := apq arw (bP SE gG (SE.hl 151) (SE.hr 151)) (J0 SE arw)
theorem rV : ∀ (fu : Nat) (x0 : List aD) (x7 x8 q0_0 : Int), Le (Option.map cL (cM fu x0 x7 x8 q0_0)) (azX (List.map aD.enc x0) x7 x8 q0_0) := by
 intro fu
 induction fu with
 | zero => intros; exact le_none
 | succ fu ih =>
  intro x0 x7 x8 q0_0
  refine Le.trans ?_ (le_of_eq ((aZ avp).trans (az0 ..)).symm)
  unfold cM
  refine lC ?_ ?_
  ·refine lG (by simp only [EN]) ?_
   refine lQ eX agQ (by (try simp only [EN]); exact ahz (List.getD x0 (Int.toNat x8) default) q0_0) fun r0 _ => ?_
   refine lC ?_ ?_
   ·exact aJ rfl
   ·exact ih x0 x7 (w6 (x8 + 1)) r0.2
  ·exact aJ rfl
theorem tB (p0 : List aD) (p1_0 : Int) : Le (Option.map cL (eL p0 p1_0)) (bA SE 151 [.d (.sl aD.ks (List.map aD.enc p0)), .fn 152 [] [.ptr 2000000000 0]] [⟨3, [.d (.int .i64 p1_0)]⟩] []) := by
 refine aV avp rfl ?_
 refine Le.trans ?_ (le_of_eq (aEo ..).symm)
 unfold eL
 (try simp only [EN]); exact rV fuel p0 (List.length p0 : Int) 0 p1_0
section
variable (Γ : Fun) (γ151 : Gm (Int × Int)) (Λ2 J : Lam)
def atA : aP := aY (aQ Γ) 151 cL γ151
theorem aFx (p0 : List aD) (p1 : Int) : bF SE (atA Γ γ151) Λ2 J 109 [.d (.sl aD.ks (List.map aD.enc p0)), .d (.int .i64 p1)] [] [] =
 γ151 [.d (.sl aD.ks (List.map aD.enc p0)), .fn 152 [] [.ptr 2000000000 0]] [⟨3, [.d (.int .i64 p1)]⟩] [] fun r0 =>
 (rI r0.1) := by kernel_rfl
end
abbrev axc : aP := atA gG (cT 151 cL)
theorem aA0 : axc = aQ gG := by unfold axc atA; rw [bC fun _ h => h]
theorem ads (p0 : List aD) (p1 : Int) : Le (Option.map aH (sA p0 p1)) (bA SE 109 [.d (.sl aD.ks (List.map aD.enc p0)), .d (.int .i64 p1)] [] []) := by
 refine aV aA0 rfl ?_
 refine Le.trans ?_ (le_of_eq (aFx ..).symm)
 unfold sA
 refine lQ eX sX (tB _ _) fun r0 _ => ?_
 exact aJ rfl
theorem abz (p0 : List Int) (p1 p2 : Int) : Le (Option.map bI (rE p0 p1 p2)) (bA SE 176 [.row 2000000000, .d (.int .i64 p1), .d (.int .i64 p2)] [] [⟨[.int .i64], 3, 8, (List.map eI p0)⟩]) := ahx (f := 176) (enc := eI) rfl rfl p0 p1 p2
section
variable (Γ : Fun) (γ104 : Gm ((List Int))) (γ175 : Gm (Int × Bool)) (γ176 : Gm ((List Int))) (Λ2 J : Lam)
def auD : aP := aY (aY (aY (aQ Γ) 104 bI γ104) 175 aX γ175) 176 bI γ176
theorem aF6 (p0 : aO) (p1 : Int) : bF SE (auD Γ γ104 γ175 γ176) Λ2 J 154 [aO.av p0, .d (.int .i64 p1)] [] [] =
 γ104 [.d (.sl [.int .i64] (List.map eI p0.Used))] [] [] fun r0 =>
 γ175 [.d (.sl [.int .i64] (List.map eI r0)), .d (.int .i64 p1)] [] [] fun r1 =>
 cond r1.2 (
 γ176 [.row 2000000000, .d (.int .i64 r1.1), .d (.int .i64 (w6 (r1.1 + 1)))] [] [⟨[.int .i64], 3, 8, (List.map eI r0)⟩] fun r2 =>
 (some (.ret [.agg [.row 0, .d (.int .i64 p0.Last)], .d (.bool r1.2)] [] [⟨[.int .i64], 3, 8, (List.map eI r2)⟩]))) (
 (some (.ret [.agg [.row 0, .d (.int .i64 p0.Last)], .d (.bool r1.2)] [] [⟨[.int .i64], 3, 8, (List.map eI r0)⟩]))) := by kernel_rfl
end
abbrev axG : aP := auD gG (cT 104 bI) (cT 175 aX) (cT 176 bI)
theorem aC2 : axG = aQ gG := by unfold axG auD; repeat rw [bC fun _ h => h]
theorem amR (p0 : aO) (p1 : Int) : Le (Option.map fY (aag p0 p1)) (bA SE 154 [aO.av p0, .d (.int .i64 p1)] [] []) := by
 refine aV aC2 rfl ?_
 refine Le.trans ?_ (le_of_eq (aF6 ..).symm)
 unfold aag
 refine lQ eX dM (hZ _) fun r0 _ => ?_
 refine lQ eX cG (kJ _ _) fun r1 _ => ?_
 refine lC ?_ ?_
 ·refine lQ eX dM (abz _ _ _) fun r2 _ => ?_
  exact aJ rfl
 ·exact aJ rfl
theorem uB (p0 : List aD) (p1 p2 : Int) : Le (Option.map cV (iX p0 p1 p2)) (bA SE 155 [.row 2000000000, .d (.int .i64 p1), .d (.int .i64 p2)] [] [⟨aD.ks, 122, 128, (List.map aD.enc p0)⟩]) := ahx (f := 155) (enc := aD.enc) rfl rfl p0 p1 p2
section
variable (Γ : Fun) (γ154 : Gm (aO × Bool)) (γ110 : Gm (aI)) (γ155 : Gm ((List aD))) (Λ2 J : Lam)
def auL : aP := aY (aY (aY (aQ Γ) 154 fY γ154) 110 bY γ110) 155 cV γ155
theorem aFk (p0 : aI) (p1 : Int) : bF SE (auL Γ γ154 γ110 γ155) Λ2 J 111 [aI.av p0, .d (.int .i64 p1)] [] [] =
 cond (iB p1 (lM aD.enc p0.Items : Int)) (
 γ154 [aO.av p0.Pool, .d (.int .i64 (aR (cE aD.enc p0.Items p1 0)))] [] [] fun r0 =>
 γ110 [aI.av p0] [] [] fun r1 =>
 γ155 [.row 2000000000, .d (.int .i64 p1), .d (.int .i64 (w6 (p1 + 1)))] [] [⟨aD.ks, 122, 128, (List.map aD.enc r1.Items)⟩] fun r2 =>
 (some (.ret [.agg [.d (.int .i64 r1.Limit), .row 0, .row 1, .d (.int .i64 r0.1.Last)]] [] [⟨aD.ks, 122, 128, (List.map aD.enc r2)⟩, ⟨[.int .i64], 3, 8, (List.map eI r0.1.Used)⟩]))) none := by kernel_rfl
end
abbrev axP : aP := auL gG (cT 154 fY) (cT 110 bY) (cT 155 cV)
theorem aCR : axP = aQ gG := by unfold axP auL; repeat rw [bC fun _ h => h]
theorem abI (p0 : aI) (p1 : Int) : Le (Option.map bY (o5 p0 p1)) (bA SE 111 [aI.av p0, .d (.int .i64 p1)] [] []) := by
 refine aV aCR rfl ?_
 refine Le.trans ?_ (le_of_eq (aFk ..).symm)
 unfold o5
 refine lG (by simp only [EN]) ?_
 refine lQ eX afh (by (try simp only [EN]); exact amR p0.Pool ((List.getD p0.Items (Int.toNat p1) default).ID)) fun r0 _ => ?_
 refine lQ eX fC (mT _) fun r1 _ => ?_
 refine lQ eX tG (uB _ _ _) fun r2 _ => ?_
 exact aJ rfl
section
variable (Γ : Fun)  (Λ2 J : Lam)
def ax4 : aP := aQ Γ
theorem aE5 (p0 : Int) : bF SE (ax4 Γ) Λ2 J 112 [.d (.int .i64 p0)] [] [] =
 (some (.ret [.agg [.d (.int .i64 6), .d (.int .i64 p0), .d (.bool false), .d (.str []), .d (.str []), .d (.int .i64 0), .d (.bool false), .d (.int .i64 0), .d (.int .i64 0), .d (.str []), .d (.int .i64 0), .row 0, .d (.str []), .d (.str []), .d (.bool false), .d (.int .i64 0), .d (.int .i64 0), .d (.int .i64 0), .d (.bool false), .d (.int .i64 0), .d (.str []), .d (.str []), .d (.int .i64 0), .d (.bool false), .d (.int .i64 0), .d (.int .i64 0), .d (.str []), .d (.int .i64 0), .row 1, .d (.bool false), .d (.int .i64 0), .row 2, .row 3, .row 4]] [] [⟨aG.ks, 130, 32, (List.map aG.enc [])⟩, ⟨aG.ks, 130, 32, (List.map aG.enc [])⟩, ⟨aF.ks, 60, 32, (List.map aF.enc [])⟩, ⟨[.str], 9, 16, (List.map bL [])⟩, ⟨[.int .i64], 3, 8, (List.map eI [])⟩])) := by kernel_rfl
end
abbrev aGl : aP := ax4 gG
theorem aCT : aGl = aQ gG := rfl
theorem wL (p0 : Int) : Le (Option.map bW (oS p0)) (bA SE 112 [.d (.int .i64 p0)] [] []) := by
 refine aV aCT rfl ?_
 refine Le.trans ?_ (le_of_eq (aE5 ..).symm)
 unfold oS
 exact aJ rfl
end Te
end PX
