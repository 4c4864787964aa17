import Derived.Test.YtojlmojebnlmdaaGreatDoorTre0
set_option linter.unusedVariables false
set_option linter.unusedSimpArgs false
set_option maxRecDepth 100000
noncomputable section
namespace PX
open Go
open Md
namespace Te
def akx (C : aP) (Λ2 J : Lam) (a0 : List (List D)) (a1 : Str) (a2 a3 a4 : Int) : Res := lab SE C Λ2 J 128 0 [1, 1, 1, 0, 0] (aW [(0, .d (.sl aF.ks a0)), (1, .d (.str a1)), (2, .fn 129 [] []), (8, .d (.int .i64 a2)), (9, .d (.int .i64 a3)), (10, .d (.int .i64 a4))] [] [] [] [])
section
variable (Γ : Fun) (γ129 : Gm (Int)) (Λ2 J : Lam)
def aje : aP := aY (aQ Γ) 129 aH γ129
theorem aEs (p0 : List aF) (p1 : Str) : bF SE (aje Γ γ129) Λ2 J 128 [.d (.sl aF.ks (List.map aF.enc p0)), .d (.str p1), .fn 129 [] []] [] [] =
 akx (aje Γ γ129) Λ2 J (List.map aF.enc p0) p1 (lM aF.enc p0 : Int) 0 (lM aF.enc p0 : Int) := by kernel_rfl
theorem azX (x0 : List aF) (x1 : Str) (x8 x9 x10 : Int) : bT SE (aje Γ γ129) Λ2 J 128 0 [1, 1, 1, 0, 0] (aW [(0, .d (.sl aF.ks (List.map aF.enc x0))), (1, .d (.str x1)), (2, .fn 129 [] []), (8, .d (.int .i64 x8)), (9, .d (.int .i64 x9)), (10, .d (.int .i64 x10))] [] [] [] []) =
 cond (decide (x9 < x10)) (
 cond (iB (w6 (shr .u64 (IntKind.wrap .u64 (w6 (x9 + x10))) 1)) (lM aF.enc x0 : Int)) (
  γ129 [.agg [.d (.str (bC (cE aF.enc x0 (w6 (shr .u64 (IntKind.wrap .u64 (w6 (x9 + x10))) 1)) 0))), .d (.int .i64 (aR (cE aF.enc x0 (w6 (shr .u64 (IntKind.wrap .u64 (w6 (x9 + x10))) 1)) 1))), .d (.bool (bM (cE aF.enc x0 (w6 (shr .u64 (IntKind.wrap .u64 (w6 (x9 + x10))) 1)) 2)))], .d (.str x1)] [] [] fun r0 =>
  cond (decide (r0 < 0)) (
  akx (aje Γ γ129) Λ2 J (List.map aF.enc x0) x1 x8 (w6 ((w6 (shr .u64 (IntKind.wrap .u64 (w6 (x9 + x10))) 1)) + 1)) x10) (
  akx (aje Γ γ129) Λ2 J (List.map aF.enc x0) x1 x8 x9 (w6 (shr .u64 (IntKind.wrap .u64 (w6 (x9 + x10))) 1)))) none) (
 cond (decide (x9 < x8)) (
 cond (iB x9 (lM aF.enc x0 : Int)) (
  γ129 [.agg [.d (.str (bC (cE aF.enc x0 x9 0))), .d (.int .i64 (aR (cE aF.enc x0 x9 1))), .d (.bool (bM (cE aF.enc x0 x9 2)))], .d (.str x1)] [] [] fun r1 =>
  (some (.ret [.d (.int .i64 x9), .d (.bool (r1 == 0))] [] []))) none) (
 (some (.ret [.d (.int .i64 x9), .d (.bool false)] [] [])))) := by kernel_rfl
end
abbrev aqx : aP := aje gG (cT 129 aH)
theorem avb : aqx = aQ gG := by unfold aqx aje; rw [bB fun _ h => h]
abbrev aw4 := akx aqx (bP SE gG (SE.hl 128) (SE.hr 128)) (J0 SE aqx)
theorem nU : ∀ (fu : Nat) (x0 : List aF) (x1 : Str) (x8 x9 x10 : Int), Le (Option.map aX (cR fu x0 x1 x8 x9 x10)) (aw4 (List.map aF.enc x0) x1 x8 x9 x10) := by
 intro fu
 induction fu with
 | zero => intros; exact le_none
 | succ fu ih =>
  intro x0 x1 x8 x9 x10
  refine Le.trans ?_ (le_of_eq ((aZ avb).trans (azX ..)).symm)
  unfold cR
  refine lC ?_ ?_
  ·refine lG (by simp only [EN]) ?_
   refine lQ eX aS (by (try simp only [EN]); exact abT (List.getD x0 (Int.toNat (w6 (shr .u64 (IntKind.wrap .u64 (w6 (x9 + x10))) 1))) default) x1) fun r0 _ => ?_
   refine lC ?_ ?_
   ·exact ih x0 x1 x8 (w6 ((w6 (shr .u64 (IntKind.wrap .u64 (w6 (x9 + x10))) 1)) + 1)) x10
   ·exact ih x0 x1 x8 x9 (w6 (shr .u64 (IntKind.wrap .u64 (w6 (x9 + x10))) 1))
  ·refine lC ?_ ?_
   ·refine lG (by simp only [EN]) ?_
    refine lQ eX aS (by (try simp only [EN]); exact abT (List.getD x0 (Int.toNat x9) default) x1) fun r1 _ => ?_
    exact aJ rfl
   ·exact aJ rfl
theorem oV (p0 : List aF) (p1 : Str) : Le (Option.map aX (eW p0 p1)) (bA SE 128 [.d (.sl aF.ks (List.map aF.enc p0)), .d (.str p1), .fn 129 [] []] [] []) := by
 refine aV avb rfl ?_
 refine Le.trans ?_ (le_of_eq (aEs ..).symm)
 unfold eW
 (try simp only [EN]); exact nU fuel p0 p1 (List.length p0 : Int) 0 (List.length p0 : Int)
section
variable (Γ : Fun) (γ128 : Gm (Int × Bool)) (Λ2 J : Lam)
def C67 : aP := aY (aQ Γ) 128 aX γ128
theorem T67 (p0 : List aF) (p1 : Str) : bF SE (C67 Γ γ128) Λ2 J 67 [.d (.sl aF.ks (List.map aF.enc p0)), .d (.str p1)] [] [] =
 γ128 [.d (.sl aF.ks (List.map aF.enc p0)), .d (.str p1), .fn 129 [] []] [] [] fun r0 =>
 (some (.ret [.d (.int .i64 r0.1), .d (.bool r0.2)] [] [])) := by kernel_rfl
end
abbrev X67 : aP := C67 gG (cT 128 aX)
theorem aFd : X67 = aQ gG := by unfold X67 C67; rw [bB fun _ h => h]
theorem ad5 (p0 : List aF) (p1 : Str) : Le (Option.map aX (zZ p0 p1)) (bA SE 67 [.d (.sl aF.ks (List.map aF.enc p0)), .d (.str p1)] [] []) := by
 refine aV aFd rfl ?_
 refine Le.trans ?_ (le_of_eq (T67 ..).symm)
 unfold zZ
 refine lQ eX cG (oV _ _) fun r0 _ => ?_
 exact aJ rfl
section
variable (Γ : Fun)  (Λ2 J : Lam)
def ax5 : aP := aQ Γ
theorem aFK (p0 : List aF) : bF SE (ax5 Γ) Λ2 J 103 [.d (.sl aF.ks (List.map aF.enc p0))] [] [] =
 cond (List.isEmpty (List.map aF.enc p0)) (
 abh (
  (some (.ret [.row 0] [] [⟨aF.ks, 60, 32, []⟩]))) (
  cond (decide ((lM aF.enc [] + lM aF.enc p0) * 32 ≤ 140737488355328)) (
  (some (.ret [.row 0] [] [⟨aF.ks, 60, 32, ((List.map aF.enc []) ++ (List.map aF.enc p0))⟩]))) none)) (
 cond (decide ((lM aF.enc [] + lM aF.enc p0) * 32 ≤ 140737488355328)) (
 (some (.ret [.row 0] [] [⟨aF.ks, 60, 32, ((List.map aF.enc []) ++ (List.map aF.enc p0))⟩]))) none) := by kernel_rfl
end
abbrev aES : aP := ax5 gG
theorem aCB : aES = aQ gG := rfl
theorem xO (p0 : List aF) : Le (Option.map bJ (fT p0)) (bA SE 103 [.d (.sl aF.ks (List.map aF.enc p0))] [] []) := by
 refine aV aCB rfl ?_
 refine Le.trans ?_ (le_of_eq (aFK ..).symm)
 unfold fT
 refine lD (by simp only [EN]) ?_ ?_
 ·refine alH ?_ ?_
  ·exact aJ rfl
  ·refine lG (by simp only [EN]) ?_
   exact aJ rfl
 ·refine lG (by simp only [EN]) ?_
  exact aJ rfl
section
variable (Γ : Fun)  (Λ2 J : Lam)
def az7 : aP := aQ Γ
theorem aFA (p0 : List Int) : bF SE (az7 Γ) Λ2 J 104 [.d (.sl [.int .i64] (List.map eI p0))] [] [] =
 cond (List.isEmpty (List.map eI p0)) (
 abh (
  (some (.ret [.row 0] [] [⟨[.int .i64], 3, 8, []⟩]))) (
  cond (decide ((lM eI [] + lM eI p0) * 8 ≤ 140737488355328)) (
  (some (.ret [.row 0] [] [⟨[.int .i64], 3, 8, ((List.map eI []) ++ (List.map eI p0))⟩]))) none)) (
 cond (decide ((lM eI [] + lM eI p0) * 8 ≤ 140737488355328)) (
 (some (.ret [.row 0] [] [⟨[.int .i64], 3, 8, ((List.map eI []) ++ (List.map eI p0))⟩]))) none) := by kernel_rfl
end
abbrev aEH : aP := az7 gG
theorem aA1 : aEH = aQ gG := rfl
theorem hJ (p0 : List Int) : Le (Option.map bI (dV p0)) (bA SE 104 [.d (.sl [.int .i64] (List.map eI p0))] [] []) := by
 refine aV aA1 rfl ?_
 refine Le.trans ?_ (le_of_eq (aFA ..).symm)
 unfold dV
 refine lD (by simp only [EN]) ?_ ?_
 ·refine alH ?_ ?_
  ·exact aJ rfl
  ·refine lG (by simp only [EN]) ?_
   exact aJ rfl
 ·refine lG (by simp only [EN]) ?_
  exact aJ rfl
def aoD (C : aP) (Λ2 J : Lam) (a0 : List (List D)) (a1 a2 : Int) (a3 a4 : Str) (a5 : Bool) (a6 a7 a8 a9 a10 : Int) (a11 a12 : List (List D)) (a13 : Int) (a14 : List (List D)) (a15 : Bool) (a16 : Int) (a17 a18 : Str) (a19 : Int) (a20 : Bool) (a21 a22 : Int) (a23 : Str) (a24 : Int) (a25 : List (List D)) (a26 : List D) (a27 a28 a29 : List (List D)) : Res := lab SE C Λ2 J 50 0 [1, 1, 1, 1, 1, 1, 0, 1, 0] (aW [(1, .ptr 1000000000 0), (2, .ptr 1000000001 0), (6, .row 3006), (39, .d (.sl aD.ks a0)), (40, .d (.int .i64 a1)), (41, .d (.int .i64 a2))] [⟨38, [.d (.str a3), .d (.str a4), .d (.bool a5), .d (.int .i64 a6), .d (.int .i64 a7), .d (.int .i64 a8), .d (.int .i64 a9), .row 50007, .row 50008, .d (.int .i64 a10), .d (.sl aD.ks a11), .d (.sl [.int .i64] a12), .d (.int .i64 a13), .d (.sl [.int .i64] a14), .d (.bool a15), .d (.int .i64 a16), .d (.str a17), .d (.str a18), .d (.int .i64 a19), .d (.bool a20), .d (.int .i64 a21), .d (.int .i64 a22), .d (.str a23), .d (.int .i64 a24), .d (.sl aG.ks a25)]⟩, ⟨38, (List.map AV.d a26)⟩] [] [] [(3006, ⟨aD.ks, 122, 128, a27⟩), (50007, ⟨aF.ks, 60, 32, a28⟩), (50008, ⟨aA.ks, 34, 112, a29⟩)])
def arp (C : aP) (Λ2 J : Lam) (a0 : List (List D)) (a1 a2 : Int) (a3 a4 : Str) (a5 : Bool) (a6 a7 a8 a9 : Int) (a10 : List (List D)) (a11 : Int) (a12 a13 : List (List D)) (a14 : Int) (a15 : List (List D)) (a16 : Bool) (a17 : Int) (a18 a19 : Str) (a20 : Int) (a21 : Bool) (a22 a23 : Int) (a24 : Str) (a25 : Int) (a26 : List (List D)) (a27 : List D) (a28 a29 : List (List D)) : Res := lab SE C Λ2 J 50 0 [1, 1, 1, 0, 1, 0] (aW [(1, .ptr 1000000000 0), (2, .ptr 1000000001 0), (3, .row 3003), (18, .d (.sl aA.ks a0)), (19, .d (.int .i64 a1)), (20, .d (.int .i64 a2))] [⟨38, [.d (.str a3), .d (.str a4), .d (.bool a5), .d (.int .i64 a6), .d (.int .i64 a7), .d (.int .i64 a8), .d (.int .i64 a9), .row 50007, .d (.sl aA.ks a10), .d (.int .i64 a11), .d (.sl aD.ks a12), .d (.sl [.int .i64] a13), .d (.int .i64 a14), .d (.sl [.int .i64] a15), .d (.bool a16), .d (.int .i64 a17), .d (.str a18), .d (.str a19), .d (.int .i64 a20), .d (.bool a21), .d (.int .i64 a22), .d (.int .i64 a23), .d (.str a24), .d (.int .i64 a25), .d (.sl aG.ks a26)]⟩, ⟨38, (List.map AV.d a27)⟩] [] [] [(3003, ⟨aA.ks, 34, 112, a28⟩), (50007, ⟨aF.ks, 60, 32, a29⟩)])
section
variable (Γ : Fun) (γ103 : Gm ((List aF))) (γ80 : Gm (aA)) (γ104 : Gm ((List Int))) (Λ2 J : Lam)
def C50 : aP := aY (aY (aY (aQ Γ) 103 bJ γ103) 80 bW γ80) 104 bI γ104
theorem T50 (p0 : aB) : bF SE (C50 Γ γ103 γ80 γ104) Λ2 J 50 [aB.av p0] [] [] =
 γ103 [.d (.sl aF.ks (List.map aF.enc p0.Subs))] [] [] fun r0 =>
 cond (decide (0 ≤ 0) && decide (0 ≤ (lM aA.enc p0.Queue : Int)) && decide ((lM aA.enc p0.Queue : Int) * 112 ≤ 281474976710656)) (
 arp (C50 Γ γ103 γ80 γ104) Λ2 J (List.map aA.enc p0.Queue) (lM aA.enc p0.Queue : Int) 0 p0.Client p0.User p0.Online p0.Conn p0.Expiry p0.Until p0.Dropped (List.map aA.enc p0.Queue) p0.Out.Limit (List.map aD.enc p0.Out.Items) (List.map eI p0.Out.Pool.Used) p0.Out.Pool.Last (List.map eI p0.In.IDs) p0.Will.Set p0.Will.Delay p0.Will.Message.Topic p0.Will.Message.Payload p0.Will.Message.Level p0.Will.Message.Retain p0.Will.Message.Priority p0.Will.Message.Expires p0.Will.Message.From p0.Will.Message.Seq (List.map aG.enc p0.Will.Message.Props) [D.str [], D.str [], D.bool false, D.int .i64 0, D.int .i64 0, D.int .i64 0, D.int .i64 0, D.sl aF.ks (List.map aF.enc []), D.sl aA.ks (List.map aA.enc []), D.int .i64 0, D.sl aD.ks (List.map aD.enc []), D.sl [.int .i64] (List.map eI []), D.int .i64 0, D.sl [.int .i64] (List.map eI []), D.bool false, D.int .i64 0, D.str [], D.str [], D.int .i64 0, D.bool false, D.int .i64 0, D.int .i64 0, D.str [], D.int .i64 0, D.sl aG.ks (List.map aG.enc [])] (List.map aA.enc []) (List.map aF.enc r0)) none := by kernel_rfl
theorem axc (x39 : List aD) (x40 x41 : Int) (b0_0 b0_1 : Str) (b0_2 : Bool) (b0_3 b0_4 b0_5 b0_6 b0_9 : Int) (b0_10 : List aD) (b0_11 : List Int) (b0_12 : Int) (b0_13 : List Int) (b0_14 : Bool) (b0_15 : Int) (b0_16 b0_17 : Str) (b0_18 : Int) (b0_19 : Bool) (b0_20 b0_21 : Int) (b0_22 : Str) (b0_23 : Int) (b0_24 : List aG) (b1 : aB) (w3006 : List aD) (w50007 : List aF) (w50008 : List aA) : bT SE (C50 Γ γ103 γ80 γ104) Λ2 J 50 0 [1, 1, 1, 1, 1, 1, 0, 1, 0] (aW [(1, .ptr 1000000000 0), (2, .ptr 1000000001 0), (6, .row 3006), (39, .d (.sl aD.ks (List.map aD.enc x39))), (40, .d (.int .i64 x40)), (41, .d (.int .i64 x41))] [⟨38, [.d (.str b0_0), .d (.str b0_1), .d (.bool b0_2), .d (.int .i64 b0_3), .d (.int .i64 b0_4), .d (.int .i64 b0_5), .d (.int .i64 b0_6), .row 50007, .row 50008, .d (.int .i64 b0_9), .d (.sl aD.ks (List.map aD.enc b0_10)), .d (.sl [.int .i64] (List.map eI b0_11)), .d (.int .i64 b0_12), .d (.sl [.int .i64] (List.map eI b0_13)), .d (.bool b0_14), .d (.int .i64 b0_15), .d (.str b0_16), .d (.str b0_17), .d (.int .i64 b0_18), .d (.bool b0_19), .d (.int .i64 b0_20), .d (.int .i64 b0_21), .d (.str b0_22), .d (.int .i64 b0_23), .d (.sl aG.ks (List.map aG.enc b0_24))]⟩, ⟨38, (List.map AV.d (aB.enc b1))⟩] [] [] [(3006, ⟨aD.ks, 122, 128, (List.map aD.enc w3006)⟩), (50007, ⟨aF.ks, 60, 32, (List.map aF.enc w50007)⟩), (50008, ⟨aA.ks, 34, 112, (List.map aA.enc w50008)⟩)]) =
 cond (decide (x41 < x40)) (
 cond (iB x41 (lM aD.enc x39 : Int)) (
  γ80 [.agg [.d (.str (bC (cE aD.enc x39 x41 2))), .d (.str (bC (cE aD.enc x39 x41 3))), .d (.int .i64 (aR (cE aD.enc x39 x41 4))), .d (.bool (bM (cE aD.enc x39 x41 5))), .d (.int .i64 (aR (cE aD.enc x39 x41 6))), .d (.int .i64 (aR (cE aD.enc x39 x41 7))), .d (.str (bC (cE aD.enc x39 x41 8))), .d (.int .i64 (aR (cE aD.enc x39 x41 9))), .d (.sl aG.ks (dSl (cE aD.enc x39 x41 10)))]] [] [] fun r2 =>
  cond (decide ((lM aD.enc w3006 + List.length [[D.int .i64 (aR (cE aD.enc x39 x41 0)), D.int .i64 (aR (cE aD.enc x39 x41 1)), D.str r2.Topic, D.str r2.Payload, D.int .i64 r2.Level, D.bool r2.Retain, D.int .i64 r2.Priority, D.int .i64 r2.Expires, D.str r2.From, D.int .i64 r2.Seq, D.sl aG.ks (List.map aG.enc r2.Props)]]) * 128 ≤ 140737488355328)) (
  aoD (C50 Γ γ103 γ80 γ104) Λ2 J (List.map aD.enc x39) x40 (w6 (x41 + 1)) b0_0 b0_1 b0_2 b0_3 b0_4 b0_5 b0_6 b0_9 (List.map aD.enc b0_10) (List.map eI b0_11) b0_12 (List.map eI b0_13) b0_14 b0_15 b0_16 b0_17 b0_18 b0_19 b0_20 b0_21 b0_22 b0_23 (List.map aG.enc b0_24) (aB.enc b1) (((List.map aD.enc w3006) ++ [[D.int .i64 (aR (cE aD.enc x39 x41 0)), D.int .i64 (aR (cE aD.enc x39 x41 1)), D.str r2.Topic, D.str r2.Payload, D.int .i64 r2.Level, D.bool r2.Retain, D.int .i64 r2.Priority, D.int .i64 r2.Expires, D.str r2.From, D.int .i64 r2.Seq, D.sl aG.ks (List.map aG.enc r2.Props)]])) (List.map aF.enc w50007) (List.map aA.enc w50008)) none) none) (
 γ104 [.d (.sl [.int .i64] (List.map eI b0_11))] [] [] fun r3 =>
 γ104 [.d (.sl [.int .i64] (List.map eI b0_13))] [] [] fun r4 =>
 γ80 [aA.av (aA.mk b0_16 b0_17 b0_18 b0_19 b0_20 b0_21 b0_22 b0_23 b0_24)] [] [] fun r5 =>
 (some (.ret [.agg [.d (.str b0_0), .d (.str b0_1), .d (.bool b0_2), .d (.int .i64 b0_3), .d (.int .i64 b0_4), .d (.int .i64 b0_5), .d (.int .i64 b0_6), .row 0, .row 1, .d (.int .i64 b0_9), .row 2, .row 3, .d (.int .i64 b0_12), .row 4, .d (.bool b0_14), .d (.int .i64 b0_15), .d (.str r5.Topic), .d (.str r5.Payload), .d (.int .i64 r5.Level), .d (.bool r5.Retain), .d (.int .i64 r5.Priority), .d (.int .i64 r5.Expires), .d (.str r5.From), .d (.int .i64 r5.Seq), .row 5]] [] [⟨aF.ks, 60, 32, (List.map aF.enc w50007)⟩, ⟨aA.ks, 34, 112, (List.map aA.enc w50008)⟩, ⟨aD.ks, 122, 128, (List.map aD.enc w3006)⟩, ⟨[.int .i64], 3, 8, (List.map eI r3)⟩, ⟨[.int .i64], 3, 8, (List.map eI r4)⟩, ⟨aG.ks, 130, 32, (List.map aG.enc r5.Props)⟩]))) := by kernel_rfl
theorem aBU (x18 : List aA) (x19 x20 : Int) (b0_0 b0_1 : Str) (b0_2 : Bool) (b0_3 b0_4 b0_5 b0_6 : Int) (b0_8 : List aA) (b0_9 : Int) (b0_10 : List aD) (b0_11 : List Int) (b0_12 : Int) (b0_13 : List Int) (b0_14 : Bool) (b0_15 : Int) (b0_16 b0_17 : Str) (b0_18 : Int) (b0_19 : Bool) (b0_20 b0_21 : Int) (b0_22 : Str) (b0_23 : Int) (b0_24 : List aG) (b1 : aB) (w3003 : List aA) (w50007 : List aF) : bT SE (C50 Γ γ103 γ80 γ104) Λ2 J 50 0 [1, 1, 1, 0, 1, 0] (aW [(1, .ptr 1000000000 0), (2, .ptr 1000000001 0), (3, .row 3003), (18, .d (.sl aA.ks (List.map aA.enc x18))), (19, .d (.int .i64 x19)), (20, .d (.int .i64 x20))] [⟨38, [.d (.str b0_0), .d (.str b0_1), .d (.bool b0_2), .d (.int .i64 b0_3), .d (.int .i64 b0_4), .d (.int .i64 b0_5), .d (.int .i64 b0_6), .row 50007, .d (.sl aA.ks (List.map aA.enc b0_8)), .d (.int .i64 b0_9), .d (.sl aD.ks (List.map aD.enc b0_10)), .d (.sl [.int .i64] (List.map eI b0_11)), .d (.int .i64 b0_12), .d (.sl [.int .i64] (List.map eI b0_13)), .d (.bool b0_14), .d (.int .i64 b0_15), .d (.str b0_16), .d (.str b0_17), .d (.int .i64 b0_18), .d (.bool b0_19), .d (.int .i64 b0_20), .d (.int .i64 b0_21), .d (.str b0_22), .d (.int .i64 b0_23), .d (.sl aG.ks (List.map aG.enc b0_24))]⟩, ⟨38, (List.map AV.d (aB.enc b1))⟩] [] [] [(3003, ⟨aA.ks, 34, 112, (List.map aA.enc w3003)⟩), (50007, ⟨aF.ks, 60, 32, (List.map aF.enc w50007)⟩)]) =
 cond (decide (x20 < x19)) (
 cond (iB x20 (lM aA.enc x18 : Int)) (
  γ80 [.agg [.d (.str (bC (cE aA.enc x18 x20 0))), .d (.str (bC (cE aA.enc x18 x20 1))), .d (.int .i64 (aR (cE aA.enc x18 x20 2))), .d (.bool (bM (cE aA.enc x18 x20 3))), .d (.int .i64 (aR (cE aA.enc x18 x20 4))), .d (.int .i64 (aR (cE aA.enc x18 x20 5))), .d (.str (bC (cE aA.enc x18 x20 6))), .d (.int .i64 (aR (cE aA.enc x18 x20 7))), .d (.sl aG.ks (dSl (cE aA.enc x18 x20 8)))]] [] [] fun r1 =>
  cond (decide ((lM aA.enc w3003 + lM aA.enc [r1]) * 112 ≤ 140737488355328)) (
  arp (C50 Γ γ103 γ80 γ104) Λ2 J (List.map aA.enc x18) x19 (w6 (x20 + 1)) b0_0 b0_1 b0_2 b0_3 b0_4 b0_5 b0_6 (List.map aA.enc b0_8) b0_9 (List.map aD.enc b0_10) (List.map eI b0_11) b0_12 (List.map eI b0_13) b0_14 b0_15 b0_16 b0_17 b0_18 b0_19 b0_20 b0_21 b0_22 b0_23 (List.map aG.enc b0_24) (aB.enc b1) (((List.map aA.enc w3003) ++ (List.map aA.enc [r1]))) (List.map aF.enc w50007)) none) none) (
 cond (decide (0 ≤ 0) && decide (0 ≤ (lM aD.enc b0_10 : Int)) && decide ((lM aD.enc b0_10 : Int) * 128 ≤ 281474976710656)) (
 aoD (C50 Γ γ103 γ80 γ104) Λ2 J (List.map aD.enc b0_10) (lM aD.enc b0_10 : Int) 0 b0_0 b0_1 b0_2 b0_3 b0_4 b0_5 b0_6 b0_9 (List.map aD.enc b0_10) (List.map eI b0_11) b0_12 (List.map eI b0_13) b0_14 b0_15 b0_16 b0_17 b0_18 b0_19 b0_20 b0_21 b0_22 b0_23 (List.map aG.enc b0_24) (aB.enc b1) (List.map aD.enc []) (List.map aF.enc w50007) (List.map aA.enc w3003)) none) := by kernel_rfl
end
abbrev X50 : aP := C50 gG (cT 103 bJ) (cT 80 bW) (cT 104 bI)
theorem aum : X50 = aQ gG := by unfold X50 C50; repeat rw [bB fun _ h => h]
abbrev axw := aoD X50 (bP SE gG (SE.hl 50) (SE.hr 50)) (J0 SE X50)
abbrev aCP := arp X50 (bP SE gG (SE.hl 50) (SE.hr 50)) (J0 SE X50)
theorem afR : ∀ (fu : Nat) (x39 : List aD) (x40 x41 : Int) (b0_0 b0_1 : Str) (b0_2 : Bool) (b0_3 b0_4 b0_5 b0_6 b0_9 : Int) (b0_10 : List aD) (b0_11 : List Int) (b0_12 : Int) (b0_13 : List Int) (b0_14 : Bool) (b0_15 : Int) (b0_16 b0_17 : Str) (b0_18 : Int) (b0_19 : Bool) (b0_20 b0_21 : Int) (b0_22 : Str) (b0_23 : Int) (b0_24 : List aG) (b1 : aB) (w3006 : List aD) (w50007 : List aF) (w50008 : List aA), Le (Option.map cB (jW fu x39 x40 x41 b0_0 b0_1 b0_2 b0_3 b0_4 b0_5 b0_6 b0_9 b0_10 b0_11 b0_12 b0_13 b0_14 b0_15 b0_16 b0_17 b0_18 b0_19 b0_20 b0_21 b0_22 b0_23 b0_24 b1 w3006 w50007 w50008)) (axw (List.map aD.enc x39) x40 x41 b0_0 b0_1 b0_2 b0_3 b0_4 b0_5 b0_6 b0_9 (List.map aD.enc b0_10) (List.map eI b0_11) b0_12 (List.map eI b0_13) b0_14 b0_15 b0_16 b0_17 b0_18 b0_19 b0_20 b0_21 b0_22 b0_23 (List.map aG.enc b0_24) (aB.enc b1) (List.map aD.enc w3006) (List.map aF.enc w50007) (List.map aA.enc w50008)) := by
 intro fu
 induction fu with
 | zero => intros; exact le_none
 | succ fu ih =>
  intro x39 x40 x41 b0_0 b0_1 b0_2 b0_3 b0_4 b0_5 b0_6 b0_9 b0_10 b0_11 b0_12 b0_13 b0_14 b0_15 b0_16 b0_17 b0_18 b0_19 b0_20 b0_21 b0_22 b0_23 b0_24 b1 w3006 w50007 w50008
  refine Le.trans ?_ (le_of_eq ((aZ aum).trans (axc ..)).symm)
  unfold jW
  refine lC ?_ ?_
  ·refine lG (by simp only [EN]) ?_
   refine lQ eX dB (by (try simp only [EN]); exact mP ((List.getD x39 (Int.toNat x41) default).Message)) fun r2 _ => ?_
   refine lG (by simp only [EN]) ?_
   (try simp only [EN]); exact ih x39 x40 (w6 (x41 + 1)) b0_0 b0_1 b0_2 b0_3 b0_4 b0_5 b0_6 b0_9 b0_10 b0_11 b0_12 b0_13 b0_14 b0_15 b0_16 b0_17 b0_18 b0_19 b0_20 b0_21 b0_22 b0_23 b0_24 b1 ((w3006 ++ [(aD.mk (List.getD x39 (Int.toNat x41) default).ID (List.getD x39 (Int.toNat x41) default).State r2)])) w50007 w50008
  ·refine lQ eX dN (hJ _) fun r3 _ => ?_
   refine lQ eX dN (hJ _) fun r4 _ => ?_
   refine lQ eX dB (mP _) fun r5 _ => ?_
   exact aJ rfl
theorem agN : ∀ (fu : Nat) (x18 : List aA) (x19 x20 : Int) (b0_0 b0_1 : Str) (b0_2 : Bool) (b0_3 b0_4 b0_5 b0_6 : Int) (b0_8 : List aA) (b0_9 : Int) (b0_10 : List aD) (b0_11 : List Int) (b0_12 : Int) (b0_13 : List Int) (b0_14 : Bool) (b0_15 : Int) (b0_16 b0_17 : Str) (b0_18 : Int) (b0_19 : Bool) (b0_20 b0_21 : Int) (b0_22 : Str) (b0_23 : Int) (b0_24 : List aG) (b1 : aB) (w3003 : List aA) (w50007 : List aF), Le (Option.map cB (kQ fu x18 x19 x20 b0_0 b0_1 b0_2 b0_3 b0_4 b0_5 b0_6 b0_8 b0_9 b0_10 b0_11 b0_12 b0_13 b0_14 b0_15 b0_16 b0_17 b0_18 b0_19 b0_20 b0_21 b0_22 b0_23 b0_24 b1 w3003 w50007)) (aCP (List.map aA.enc x18) x19 x20 b0_0 b0_1 b0_2 b0_3 b0_4 b0_5 b0_6 (List.map aA.enc b0_8) b0_9 (List.map aD.enc b0_10) (List.map eI b0_11) b0_12 (List.map eI b0_13) b0_14 b0_15 b0_16 b0_17 b0_18 b0_19 b0_20 b0_21 b0_22 b0_23 (List.map aG.enc b0_24) (aB.enc b1) (List.map aA.enc w3003) (List.map aF.enc w50007)) := by
 intro fu
 induction fu with
 | zero => intros; exact le_none
 | succ fu ih =>
  intro x18 x19 x20 b0_0 b0_1 b0_2 b0_3 b0_4 b0_5 b0_6 b0_8 b0_9 b0_10 b0_11 b0_12 b0_13 b0_14 b0_15 b0_16 b0_17 b0_18 b0_19 b0_20 b0_21 b0_22 b0_23 b0_24 b1 w3003 w50007
  refine Le.trans ?_ (le_of_eq ((aZ aum).trans (aBU ..)).symm)
  unfold kQ
  refine lC ?_ ?_
  ·refine lG (by simp only [EN]) ?_
   refine lQ eX dB (by (try simp only [EN]); exact mP (List.getD x18 (Int.toNat x20) default)) fun r1 _ => ?_
   refine lG (by simp only [EN]) ?_
   (try simp only [EN]); exact ih x18 x19 (w6 (x20 + 1)) b0_0 b0_1 b0_2 b0_3 b0_4 b0_5 b0_6 b0_8 b0_9 b0_10 b0_11 b0_12 b0_13 b0_14 b0_15 b0_16 b0_17 b0_18 b0_19 b0_20 b0_21 b0_22 b0_23 b0_24 b1 (w3003 ++ [r1]) w50007
  ·refine lG (by simp only [EN]) ?_
   (try simp only [EN]); exact afR fuel b0_10 (List.length b0_10 : Int) 0 b0_0 b0_1 b0_2 b0_3 b0_4 b0_5 b0_6 b0_9 b0_10 b0_11 b0_12 b0_13 b0_14 b0_15 b0_16 b0_17 b0_18 b0_19 b0_20 b0_21 b0_22 b0_23 b0_24 b1 [] w50007 w3003
theorem jI (p0 : aB) : Le (Option.map cB (gO p0)) (bA SE 50 [aB.av p0] [] []) := by
 refine aV aum rfl ?_
 refine Le.trans ?_ (le_of_eq (T50 ..).symm)
 unfold gO
 refine lQ eX eD (xO _) fun r0 _ => ?_
 refine lG (by simp only [EN]) ?_
 (try simp only [EN]); exact agN fuel p0.Queue (List.length p0.Queue : Int) 0 p0.Client p0.User p0.Online p0.Conn p0.Expiry p0.Until p0.Dropped p0.Queue p0.Out.Limit p0.Out.Items p0.Out.Pool.Used p0.Out.Pool.Last p0.In.IDs p0.Will.Set p0.Will.Delay p0.Will.Message.Topic p0.Will.Message.Payload p0.Will.Message.Level p0.Will.Message.Retain p0.Will.Message.Priority p0.Will.Message.Expires p0.Will.Message.From p0.Will.Message.Seq p0.Will.Message.Props ((aB.mk [] [] false 0 0 0 0 [] [] (aI.mk 0 [] (aN.mk [] 0)) (bE.mk []) (aT.mk false 0 (aA.mk [] [] 0 false 0 0 [] 0 [])))) [] r0
theorem w7 (p0 : List aF) (p1 : Int) (p2 : List aF) : Le (Option.map bJ (qU p0 p1 p2)) (bA SE 68 [.row 2000000000, .d (.int .i64 p1), .row 2000000001] [] [⟨aF.ks, 60, 32, (List.map aF.enc p0)⟩, ⟨aF.ks, 60, 32, (List.map aF.enc p2)⟩]) := al9 (f := 68) (enc := aF.enc) rfl rfl p0 p1 p2
def aqC (C : aP) (Λ2 J : Lam) (a0 : Int) (a1 : Bool) (a2 a3 a4 : List D) : Res := lab SE C Λ2 J 26 0 [1, 1, 1, 1, 0] (aW [(2, .ptr 1000000000 0), (3, .ptr 1000000001 0), (4, .ptr 1000000002 0), (8, .d (.int .i64 a0)), (9, .d (.bool a1))] [⟨38, (List.map AV.d a2)⟩, ⟨60, (List.map AV.d a3)⟩, ⟨38, (List.map AV.d a4)⟩] [] [] [])
section
variable (Γ : Fun) (γ66 : Gm (Int)) (γ67 : Gm (Int × Bool)) (γ50 : Gm (aB)) (γ68 : Gm ((List aF))) (Λ2 J : Lam)
def C26 : aP := aY (aY (aY (aY (aQ Γ) 66 aH γ66) 67 aX γ67) 50 cB γ50) 68 bJ γ68
theorem T26 (p0 : aB) (p1 : aF) : bF SE (C26 Γ γ66 γ67 γ50 γ68) Λ2 J 26 [aB.av p0, aF.av p1] [] [] =
 γ66 [aF.av p1] [] [] fun r0 =>
 cond (r0 != 0) (
 (some (.ret [.agg [.d (.str []), .d (.str []), .d (.bool false), .d (.int .i64 0), .d (.int .i64 0), .d (.int .i64 0), .d (.int .i64 0), .row 0, .row 1, .d (.int .i64 0), .row 2, .row 3, .d (.int .i64 0), .row 4, .d (.bool false), .d (.int .i64 0), .d (.str []), .d (.str []), .d (.int .i64 0), .d (.bool false), .d (.int .i64 0), .d (.int .i64 0), .d (.str []), .d (.int .i64 0), .row 5], .d (.bool false), .d (.int .i64 r0)] [] [⟨aF.ks, 60, 32, (List.map aF.enc [])⟩, ⟨aA.ks, 34, 112, (List.map aA.enc [])⟩, ⟨aD.ks, 122, 128, (List.map aD.enc [])⟩, ⟨[.int .i64], 3, 8, (List.map eI [])⟩, ⟨[.int .i64], 3, 8, (List.map eI [])⟩, ⟨aG.ks, 130, 32, (List.map aG.enc [])⟩]))) (
 γ67 [.d (.sl aF.ks (List.map aF.enc p0.Subs)), .d (.str p1.Filter)] [] [] fun r1 =>
 cond (!r1.2) (
 cond (decide ((lM aF.enc p0.Subs : Int) ≥ 32)) (
  (some (.ret [.agg [.d (.str []), .d (.str []), .d (.bool false), .d (.int .i64 0), .d (.int .i64 0), .d (.int .i64 0), .d (.int .i64 0), .row 0, .row 1, .d (.int .i64 0), .row 2, .row 3, .d (.int .i64 0), .row 4, .d (.bool false), .d (.int .i64 0), .d (.str []), .d (.str []), .d (.int .i64 0), .d (.bool false), .d (.int .i64 0), .d (.int .i64 0), .d (.str []), .d (.int .i64 0), .row 5], .d (.bool false), .d (.int .i64 6)] [] [⟨aF.ks, 60, 32, (List.map aF.enc [])⟩, ⟨aA.ks, 34, 112, (List.map aA.enc [])⟩, ⟨aD.ks, 122, 128, (List.map aD.enc [])⟩, ⟨[.int .i64], 3, 8, (List.map eI [])⟩, ⟨[.int .i64], 3, 8, (List.map eI [])⟩, ⟨aG.ks, 130, 32, (List.map aG.enc [])⟩]))) (
 aqC (C26 Γ γ66 γ67 γ50 γ68) Λ2 J r1.1 r1.2 (aB.enc p0) (aF.enc p1) [D.str [], D.str [], D.bool false, D.int .i64 0, D.int .i64 0, D.int .i64 0, D.int .i64 0, D.sl aF.ks (List.map aF.enc []), D.sl aA.ks (List.map aA.enc []), D.int .i64 0, D.sl aD.ks (List.map aD.enc []), D.sl [.int .i64] (List.map eI []), D.int .i64 0, D.sl [.int .i64] (List.map eI []), D.bool false, D.int .i64 0, D.str [], D.str [], D.int .i64 0, D.bool false, D.int .i64 0, D.int .i64 0, D.str [], D.int .i64 0, D.sl aG.ks (List.map aG.enc [])])) (
 aqC (C26 Γ γ66 γ67 γ50 γ68) Λ2 J r1.1 r1.2 (aB.enc p0) (aF.enc p1) [D.str [], D.str [], D.bool false, D.int .i64 0, D.int .i64 0, D.int .i64 0, D.int .i64 0, D.sl aF.ks (List.map aF.enc []), D.sl aA.ks (List.map aA.enc []), D.int .i64 0, D.sl aD.ks (List.map aD.enc []), D.sl [.int .i64] (List.map eI []), D.int .i64 0, D.sl [.int .i64] (List.map eI []), D.bool false, D.int .i64 0, D.str [], D.str [], D.int .i64 0, D.bool false, D.int .i64 0, D.int .i64 0, D.str [], D.int .i64 0, D.sl aG.ks (List.map aG.enc [])])) := by kernel_rfl
theorem aBD (x8 : Int) (x9 : Bool) (b0 : aB) (b1 : aF) (b2 : aB) : bT SE (C26 Γ γ66 γ67 γ50 γ68) Λ2 J 26 0 [1, 1, 1, 1, 0] (aW [(2, .ptr 1000000000 0), (3, .ptr 1000000001 0), (4, .ptr 1000000002 0), (8, .d (.int .i64 x8)), (9, .d (.bool x9))] [⟨38, (List.map AV.d (aB.enc b0))⟩, ⟨60, (List.map AV.d (aF.enc b1))⟩, ⟨38, (List.map AV.d (aB.enc b2))⟩] [] [] []) =
 γ50 [aB.av b0] [] [] fun r2 =>
 cond x9 (
 cond (iB x8 (lM aF.enc r2.Subs : Int)) (
  (some (.ret [.agg [.d (.str r2.Client), .d (.str r2.User), .d (.bool r2.Online), .d (.int .i64 r2.Conn), .d (.int .i64 r2.Expiry), .d (.int .i64 r2.Until), .d (.int .i64 r2.Dropped), .row 0, .row 1, .d (.int .i64 r2.Out.Limit), .row 2, .row 3, .d (.int .i64 r2.Out.Pool.Last), .row 4, .d (.bool r2.Will.Set), .d (.int .i64 r2.Will.Delay), .d (.str r2.Will.Message.Topic), .d (.str r2.Will.Message.Payload), .d (.int .i64 r2.Will.Message.Level), .d (.bool r2.Will.Message.Retain), .d (.int .i64 r2.Will.Message.Priority), .d (.int .i64 r2.Will.Message.Expires), .d (.str r2.Will.Message.From), .d (.int .i64 r2.Will.Message.Seq), .row 5], .d (.bool x9), .d (.int .i64 0)] [] [⟨aF.ks, 60, 32, (mY (List.map aF.enc r2.Subs) (Int.toNat x8) 0 (aF.enc b1))⟩, ⟨aA.ks, 34, 112, (List.map aA.enc r2.Queue)⟩, ⟨aD.ks, 122, 128, (List.map aD.enc r2.Out.Items)⟩, ⟨[.int .i64], 3, 8, (List.map eI r2.Out.Pool.Used)⟩, ⟨[.int .i64], 3, 8, (List.map eI r2.In.IDs)⟩, ⟨aG.ks, 130, 32, (List.map aG.enc r2.Will.Message.Props)⟩]))) none) (
 γ68 [.row 2000000000, .d (.int .i64 x8), .row 2000000001] [] [⟨aF.ks, 60, 32, (List.map aF.enc r2.Subs)⟩, ⟨aF.ks, 60, 32, (List.map aF.enc [b1])⟩] fun r3 =>
 (some (.ret [.agg [.d (.str r2.Client), .d (.str r2.User), .d (.bool r2.Online), .d (.int .i64 r2.Conn), .d (.int .i64 r2.Expiry), .d (.int .i64 r2.Until), .d (.int .i64 r2.Dropped), .row 0, .row 1, .d (.int .i64 r2.Out.Limit), .row 2, .row 3, .d (.int .i64 r2.Out.Pool.Last), .row 4, .d (.bool r2.Will.Set), .d (.int .i64 r2.Will.Delay), .d (.str r2.Will.Message.Topic), .d (.str r2.Will.Message.Payload), .d (.int .i64 r2.Will.Message.Level), .d (.bool r2.Will.Message.Retain), .d (.int .i64 r2.Will.Message.Priority), .d (.int .i64 r2.Will.Message.Expires), .d (.str r2.Will.Message.From), .d (.int .i64 r2.Will.Message.Seq), .row 5], .d (.bool x9), .d (.int .i64 0)] [] [⟨aF.ks, 60, 32, (List.map aF.enc r3)⟩, ⟨aA.ks, 34, 112, (List.map aA.enc r2.Queue)⟩, ⟨aD.ks, 122, 128, (List.map aD.enc r2.Out.Items)⟩, ⟨[.int .i64], 3, 8, (List.map eI r2.Out.Pool.Used)⟩, ⟨[.int .i64], 3, 8, (List.map eI r2.In.IDs)⟩, ⟨aG.ks, 130, 32, (List.map aG.enc r2.Will.Message.Props)⟩]))) := by kernel_rfl
end
abbrev X26 : aP := C26 gG (cT 66 aH) (cT 67 aX) (cT 50 cB) (cT 68 bJ)
theorem ay0 : X26 = aQ gG := by unfold X26 C26; repeat rw [bB fun _ h => h]
abbrev aCr := aqC X26 (bP SE gG (SE.hl 26) (SE.hr 26)) (J0 SE X26)
theorem xM (x8 : Int) (x9 : Bool) (b0 : aB) (b1 : aF) (b2 : aB) : Le (Option.map dS (pJ x8 x9 b0 b1 b2)) (aCr x8 x9 (aB.enc b0) (aF.enc b1) (aB.enc b2)) := by
 refine Le.trans ?_ (le_of_eq ((aZ ay0).trans (aBD ..)).symm)
 unfold pJ
 refine lQ eX gB (jI _) fun r2 _ => ?_
 refine lC ?_ ?_
 ·refine lG (by simp only [EN]) ?_
  exact aJ (by first | rfl | simp only [EN, dS] <;> rfl)
 ·refine lQ eX eD (w7 _ _ _) fun r3 _ => ?_
  exact aJ rfl
theorem aak (p0 : aB) (p1 : aF) : Le (Option.map dS (s9 p0 p1)) (bA SE 26 [aB.av p0, aF.av p1] [] []) := by
 refine aV ay0 rfl ?_
 refine Le.trans ?_ (le_of_eq (T26 ..).symm)
 unfold s9
 refine lQ eX aS (aaH _) fun r0 _ => ?_
 refine lC ?_ ?_
 ·exact aJ rfl
 ·refine lQ eX cG (ad5 _ _) fun r1 _ => ?_
  refine lC ?_ ?_
  ·refine lD (by simp only [EN]) ?_ ?_
   ·exact aJ rfl
   ·(try simp only [EN]); exact xM r1.1 r1.2 p0 p1 ((aB.mk [] [] false 0 0 0 0 [] [] (aI.mk 0 [] (aN.mk [] 0)) (bE.mk []) (aT.mk false 0 (aA.mk [] [] 0 false 0 0 [] 0 []))))
  ·(try simp only [EN]); exact xM r1.1 r1.2 p0 p1 ((aB.mk [] [] false 0 0 0 0 [] [] (aI.mk 0 [] (aN.mk [] 0)) (bE.mk []) (aT.mk false 0 (aA.mk [] [] 0 false 0 0 [] 0 []))))
section
variable (Γ : Fun)  (Λ2 J : Lam)
def C51 : aP := aQ Γ
theorem T51 (p0 : aB) (p1 : Int) : bF SE (C51 Γ) Λ2 J 51 [aB.av p0, .d (.int .i64 p1)] [] [] =
 (some (.ret [aB.av (aB.mk p0.Client p0.User p0.Online p0.Conn p0.Expiry p0.Until (if 1099511627776 < (w6 (p0.Dropped + p1)) then 1099511627776 else (w6 (p0.Dropped + p1))) p0.Subs p0.Queue p0.Out p0.In p0.Will)] [] [])) := by kernel_rfl
end
abbrev X51 : aP := C51 gG
theorem aFv : X51 = aQ gG := rfl
theorem sI (p0 : aB) (p1 : Int) : Le (Option.map bR (iZ p0 p1)) (bA SE 51 [aB.av p0, .d (.int .i64 p1)] [] []) := by
 refine aV aFv rfl ?_
 refine Le.trans ?_ (le_of_eq (T51 ..).symm)
 unfold iZ
 exact aJ rfl
section
variable (Γ : Fun)  (Λ2 J : Lam)
def axX : aP := aQ Γ
theorem aDR (p0 : aA) : bF SE (axX Γ) Λ2 J 106 [aA.av p0] [] [] =
 cond (decide (lM aG.enc p0.Props * 32 ≤ 140737488355328)) (
 (some (.ret [.agg [.d (.str p0.Topic), .d (.str p0.Payload), .d (.int .i64 p0.Level), .d (.bool p0.Retain), .d (.int .i64 p0.Priority), .d (.int .i64 p0.Expires), .d (.str p0.From), .d (.int .i64 p0.Seq), .row 0]] [] [⟨aG.ks, 130, 32, (List.map aG.enc p0.Props)⟩]))) none := by kernel_rfl
end
abbrev aFV : aP := axX gG
theorem aB3 : aFV = aQ gG := rfl
theorem tE (p0 : aA) : Le (Option.map bW (nY p0)) (bA SE 106 [aA.av p0] [] []) := by
 refine aV aB3 rfl ?_
 refine Le.trans ?_ (le_of_eq (aDR ..).symm)
 unfold nY
 refine lG (by simp only [EN]) ?_
 exact aJ rfl
def ao5 (C : aP) (Λ2 J : Lam) (a0 : List (List D)) (a1 a2 : Int) (a3 : List (List D)) : Res := lab SE C Λ2 J 105 0 [1, 1, 0, 1, 0] (aW [(5, .row 3005), (13, .d (.sl aA.ks a0)), (14, .d (.int .i64 a1)), (15, .d (.int .i64 a2))] [] [] [] [(3005, ⟨aA.ks, 34, 112, a3⟩)])
section
variable (Γ : Fun) (γ106 : Gm (aA)) (Λ2 J : Lam)
def ala : aP := aY (aQ Γ) 106 bW γ106
theorem aEv (p0 : List aA) (p1 : Int) : bF SE (ala Γ γ106) Λ2 J 105 [.d (.sl aA.ks (List.map aA.enc p0)), .d (.int .i64 p1)] [] [] =
 cond (decide (0 ≤ 0) && decide (0 ≤ (w6 ((lM aA.enc p0 : Int) + p1))) && decide ((w6 ((lM aA.enc p0 : Int) + p1)) * 112 ≤ 281474976710656)) (
 ao5 (ala Γ γ106) Λ2 J (List.map aA.enc p0) (lM aA.enc p0 : Int) 0 (List.map aA.enc [])) none := by kernel_rfl
theorem ayn (x13 : List aA) (x14 x15 : Int) (w3005 : List aA) : bT SE (ala Γ γ106) Λ2 J 105 0 [1, 1, 0, 1, 0] (aW [(5, .row 3005), (13, .d (.sl aA.ks (List.map aA.enc x13))), (14, .d (.int .i64 x14)), (15, .d (.int .i64 x15))] [] [] [] [(3005, ⟨aA.ks, 34, 112, (List.map aA.enc w3005)⟩)]) =
 cond (decide (x15 < x14)) (
 cond (iB x15 (lM aA.enc x13 : Int)) (
  γ106 [.agg [.d (.str (bC (cE aA.enc x13 x15 0))), .d (.str (bC (cE aA.enc x13 x15 1))), .d (.int .i64 (aR (cE aA.enc x13 x15 2))), .d (.bool (bM (cE aA.enc x13 x15 3))), .d (.int .i64 (aR (cE aA.enc x13 x15 4))), .d (.int .i64 (aR (cE aA.enc x13 x15 5))), .d (.str (bC (cE aA.enc x13 x15 6))), .d (.int .i64 (aR (cE aA.enc x13 x15 7))), .d (.sl aG.ks (dSl (cE aA.enc x13 x15 8)))]] [] [] fun r0 =>
  cond (decide ((lM aA.enc w3005 + lM aA.enc [r0]) * 112 ≤ 140737488355328)) (
  ao5 (ala Γ γ106) Λ2 J (List.map aA.enc x13) x14 (w6 (x15 + 1)) (((List.map aA.enc w3005) ++ (List.map aA.enc [r0])))) none) none) (
 (some (.ret [.row 0] [] [⟨aA.ks, 34, 112, (List.map aA.enc w3005)⟩]))) := by kernel_rfl
end
abbrev aqV : aP := ala gG (cT 106 bW)
theorem avt : aqV = aQ gG := by unfold aqV ala; rw [bB fun _ h => h]
abbrev azj := ao5 aqV (bP SE gG (SE.hl 105) (SE.hr 105)) (J0 SE aqV)
theorem aju : ∀ (fu : Nat) (x13 : List aA) (x14 x15 : Int) (w3005 : List aA), Le (Option.map eY (oX fu x13 x14 x15 w3005)) (azj (List.map aA.enc x13) x14 x15 (List.map aA.enc w3005)) := by
 intro fu
 induction fu with
 | zero => intros; exact le_none
 | succ fu ih =>
  intro x13 x14 x15 w3005
  refine Le.trans ?_ (le_of_eq ((aZ avt).trans (ayn ..)).symm)
  unfold oX
  refine lC ?_ ?_
  ·refine lG (by simp only [EN]) ?_
   refine lQ eX dB (by (try simp only [EN]); exact tE (List.getD x13 (Int.toNat x15) default)) fun r0 _ => ?_
   refine lG (by simp only [EN]) ?_
   (try simp only [EN]); exact ih x13 x14 (w6 (x15 + 1)) (w3005 ++ [r0])
  ·exact aJ rfl
theorem amK (p0 : List aA) (p1 : Int) : Le (Option.map eY (aae p0 p1)) (bA SE 105 [.d (.sl aA.ks (List.map aA.enc p0)), .d (.int .i64 p1)] [] []) := by
 refine aV avt rfl ?_
 refine Le.trans ?_ (le_of_eq (aEv ..).symm)
 unfold aae
 refine lG (by simp only [EN]) ?_
 (try simp only [EN]); exact aju fuel p0 (List.length p0 : Int) 0 []
def avz (C : aP) (Λ2 J : Lam) (a0 : List D) (a1 : List (List D)) : Res := lab SE C Λ2 J 52 0 [1, 1, 1, 1, 0] (aW [(5, .ptr 1000000000 0), (11, .row 3011)] [⟨34, (List.map AV.d a0)⟩] [] [] [(3011, ⟨aA.ks, 34, 112, a1⟩)])
section
variable (Γ : Fun) (γ105 : Gm ((List aA))) (γ106 : Gm (aA)) (Λ2 J : Lam)
def C52 : aP := aY (aY (aQ Γ) 105 eY γ105) 106 bW γ106
theorem T52 (p0 : List aA) (p1 : aA) (p2 p3 : Int) : bF SE (C52 Γ γ105 γ106) Λ2 J 52 [.d (.sl aA.ks (List.map aA.enc p0)), aA.av p1, .d (.int .i64 p2), .d (.int .i64 p3)] [] [] =
 γ105 [.d (.sl aA.ks (List.map aA.enc p0)), .d (.int .i64 1)] [] [] fun r0 =>
 cond (decide ((lM aA.enc p0 : Int) < p2)) (
 γ106 [aA.av p1] [] [] fun r1 =>
 cond (decide ((lM aA.enc r0 + lM aA.enc [r1]) * 112 ≤ 140737488355328)) (
  (some (.ret [.row 0, .row 1, .d (.bool false)] [] [⟨aA.ks, 34, 112, ((List.map aA.enc r0) ++ (List.map aA.enc [r1]))⟩, ⟨aA.ks, 34, 112, []⟩]))) none) (
 cond (p3 != 1) (
 γ106 [aA.av p1] [] [] fun r2 =>
 (some (.ret [.row 0, .row 1, .d (.bool (p3 == 3))] [] [⟨aA.ks, 34, 112, (List.map aA.enc r0)⟩, ⟨aA.ks, 34, 112, (List.map aA.enc [r2])⟩]))) (
 cond (decide (p2 < 1)) (
 γ106 [aA.av p1] [] [] fun r3 =>
 (some (.ret [.row 0, .row 1, .d (.bool (p3 == 3))] [] [⟨aA.ks, 34, 112, (List.map aA.enc r0)⟩, ⟨aA.ks, 34, 112, (List.map aA.enc [r3])⟩]))) (
 avz (C52 Γ γ105 γ106) Λ2 J (aA.enc p1) (List.map aA.enc r0)))) := by kernel_rfl
theorem aC8 (b0 : aA) (w3011 : List aA) : bT SE (C52 Γ γ105 γ106) Λ2 J 52 0 [1, 1, 1, 1, 0] (aW [(5, .ptr 1000000000 0), (11, .row 3011)] [⟨34, (List.map AV.d (aA.enc b0))⟩] [] [] [(3011, ⟨aA.ks, 34, 112, (List.map aA.enc w3011)⟩)]) =
 cond (decide (0 ≤ 0) && decide (0 < (lM aA.enc w3011 : Int))) (
 cond (decide (0 ≤ 1) && decide (1 ≤ ((lM aA.enc w3011) : Int))) (
  γ106 [aA.av b0] [] [] fun r4 =>
  cond (iB (w6 ((List.length (List.take (lM aA.enc w3011) (List.take ((lM aA.enc w3011) - (Int.toNat 1)) (List.drop (Int.toNat 1) (List.map aA.enc w3011))) ++ List.drop (min (List.length (List.take ((lM aA.enc w3011) - (Int.toNat 1)) (List.drop (Int.toNat 1) (List.map aA.enc w3011)))) (lM aA.enc w3011)) (List.map aA.enc w3011)) : Int) - 1)) (List.length (List.take (lM aA.enc w3011) (List.take ((lM aA.enc w3011) - (Int.toNat 1)) (List.drop (Int.toNat 1) (List.map aA.enc w3011))) ++ List.drop (min (List.length (List.take ((lM aA.enc w3011) - (Int.toNat 1)) (List.drop (Int.toNat 1) (List.map aA.enc w3011)))) (lM aA.enc w3011)) (List.map aA.enc w3011)) : Int)) (
  (some (.ret [.row 0, .row 1, .d (.bool false)] [] [⟨aA.ks, 34, 112, (mY (List.take (lM aA.enc w3011) (List.take ((lM aA.enc w3011) - (Int.toNat 1)) (List.drop (Int.toNat 1) (List.map aA.enc w3011))) ++ List.drop (min (List.length (List.take ((lM aA.enc w3011) - (Int.toNat 1)) (List.drop (Int.toNat 1) (List.map aA.enc w3011)))) (lM aA.enc w3011)) (List.map aA.enc w3011)) (Int.toNat (w6 ((List.length (List.take (lM aA.enc w3011) (List.take ((lM aA.enc w3011) - (Int.toNat 1)) (List.drop (Int.toNat 1) (List.map aA.enc w3011))) ++ List.drop (min (List.length (List.take ((lM aA.enc w3011) - (Int.toNat 1)) (List.drop (Int.toNat 1) (List.map aA.enc w3011)))) (lM aA.enc w3011)) (List.map aA.enc w3011)) : Int) - 1))) 0 (aA.enc r4))⟩, ⟨aA.ks, 34, 112, [[D.str (bC (cE aA.enc w3011 0 0)), D.str (bC (cE aA.enc w3011 0 1)), D.int .i64 (aR (cE aA.enc w3011 0 2)), D.bool (bM (cE aA.enc w3011 0 3)), D.int .i64 (aR (cE aA.enc w3011 0 4)), D.int .i64 (aR (cE aA.enc w3011 0 5)), D.str (bC (cE aA.enc w3011 0 6)), D.int .i64 (aR (cE aA.enc w3011 0 7)), D.sl aG.ks (dSl (cE aA.enc w3011 0 8))]]⟩]))) none) none) none := by kernel_rfl
end
abbrev X52 : aP := C52 gG (cT 105 eY) (cT 106 bW)
theorem azO : X52 = aQ gG := by unfold X52 C52; repeat rw [bB fun _ h => h]
abbrev aAT := avz X52 (bP SE gG (SE.hl 52) (SE.hr 52)) (J0 SE X52)
theorem akH (b0 : aA) (w3011 : List aA) : Le (Option.map kM (zV b0 w3011)) (aAT (aA.enc b0) (List.map aA.enc w3011)) := by
 refine Le.trans ?_ (le_of_eq ((aZ azO).trans (aC8 ..)).symm)
 unfold zV
 refine lG (by simp only [EN]) ?_
 refine lG (by simp only [EN]) ?_
 refine lQ eX dB (tE _) fun r4 _ => ?_
 refine lG (by simp only [EN]) ?_
 exact aJ (by first | rfl | simp only [EN, kM] <;> rfl)
theorem ao0 (p0 : List aA) (p1 : aA) (p2 p3 : Int) : Le (Option.map kM (abj p0 p1 p2 p3)) (bA SE 52 [.d (.sl aA.ks (List.map aA.enc p0)), aA.av p1, .d (.int .i64 p2), .d (.int .i64 p3)] [] []) := by
 refine aV azO rfl ?_
 refine Le.trans ?_ (le_of_eq (T52 ..).symm)
 unfold abj
 refine lQ eX afp (amK _ _) fun r0 _ => ?_
 refine lD (by simp only [EN]) ?_ ?_
 ·refine lQ eX dB (tE _) fun r1 _ => ?_
  refine lG (by simp only [EN]) ?_
  exact aJ (by first | rfl | simp only [EN, kM] <;> rfl)
 ·refine lC ?_ ?_
  ·refine lQ eX dB (tE _) fun r2 _ => ?_
   exact aJ rfl
  ·refine lC ?_ ?_
   ·refine lQ eX dB (tE _) fun r3 _ => ?_
    exact aJ rfl
   ·exact akH p1 r0
def aqO (C : aP) (Λ2 J : Lam) (a0 a1 : Int) (a2 a3 a4 : List D) (a5 a6 : Str) (a7 : Bool) (a8 a9 a10 a11 a12 a13 : Int) (a14 : Bool) (a15 : Int) (a16 a17 : Str) (a18 : Int) (a19 : Bool) (a20 a21 : Int) (a22 : Str) (a23 : Int) (a24 a25 a26 a27 a28 a29 : List (List D)) : Res := lab SE C Λ2 J 15 0 [1, 1, 1, 0] (aW [(2, .d (.int .i64 a0)), (3, .d (.int .i64 a1)), (4, .ptr 1000000000 0), (5, .ptr 1000000001 0), (8, .ptr 1000000002 0), (10, .ptr 1000000003 0)] [⟨38, (List.map AV.d a2)⟩, ⟨34, (List.map AV.d a3)⟩, ⟨38, (List.map AV.d a4)⟩, ⟨38, [.d (.str a5), .d (.str a6), .d (.bool a7), .d (.int .i64 a8), .d (.int .i64 a9), .d (.int .i64 a10), .d (.int .i64 a11), .row 50307, .row 50308, .d (.int .i64 a12), .row 50310, .row 50311, .d (.int .i64 a13), .row 50313, .d (.bool a14), .d (.int .i64 a15), .d (.str a16), .d (.str a17), .d (.int .i64 a18), .d (.bool a19), .d (.int .i64 a20), .d (.int .i64 a21), .d (.str a22), .d (.int .i64 a23), .row 50324]⟩] [] [] [(50307, ⟨aF.ks, 60, 32, a24⟩), (50308, ⟨aA.ks, 34, 112, a25⟩), (50310, ⟨aD.ks, 122, 128, a26⟩), (50311, ⟨[.int .i64], 3, 8, a27⟩), (50313, ⟨[.int .i64], 3, 8, a28⟩), (50324, ⟨aG.ks, 130, 32, a29⟩)])
section
variable (Γ : Fun) (γ50 γ51 : Gm (aB)) (γ52 : Gm ((List aA) × (List aA) × Bool)) (Λ2 J : Lam)
def C15 : aP := aY (aY (aY (aQ Γ) 50 cB γ50) 51 bR γ51) 52 kM γ52
theorem T15 (p0 : aB) (p1 : aA) (p2 p3 : Int) : bF SE (C15 Γ γ50 γ51 γ52) Λ2 J 15 [aB.av p0, aA.av p1, .d (.int .i64 p2), .d (.int .i64 p3)] [] [] =
 γ50 [aB.av p0] [] [] fun r0 =>
 cond (!p0.Online) (
 cond (p1.Level == 0) (
  γ51 [aB.av r0, .d (.int .i64 1)] [] [] fun r1 =>
  (some (.ret [aB.av r1, .d (.bool false)] [] []))) (
 aqO (C15 Γ γ50 γ51 γ52) Λ2 J p2 p3 (aB.enc p0) (aA.enc p1) [D.str [], D.str [], D.bool false, D.int .i64 0, D.int .i64 0, D.int .i64 0, D.int .i64 0, D.sl aF.ks (List.map aF.enc []), D.sl aA.ks (List.map aA.enc []), D.int .i64 0, D.sl aD.ks (List.map aD.enc []), D.sl [.int .i64] (List.map eI []), D.int .i64 0, D.sl [.int .i64] (List.map eI []), D.bool false, D.int .i64 0, D.str [], D.str [], D.int .i64 0, D.bool false, D.int .i64 0, D.int .i64 0, D.str [], D.int .i64 0, D.sl aG.ks (List.map aG.enc [])] r0.Client r0.User r0.Online r0.Conn r0.Expiry r0.Until r0.Dropped r0.Out.Limit r0.Out.Pool.Last r0.Will.Set r0.Will.Delay r0.Will.Message.Topic r0.Will.Message.Payload r0.Will.Message.Level r0.Will.Message.Retain r0.Will.Message.Priority r0.Will.Message.Expires r0.Will.Message.From r0.Will.Message.Seq (List.map aF.enc r0.Subs) (List.map aA.enc r0.Queue) (List.map aD.enc r0.Out.Items) (List.map eI r0.Out.Pool.Used) (List.map eI r0.In.IDs) (List.map aG.enc r0.Will.Message.Props))) (
 aqO (C15 Γ γ50 γ51 γ52) Λ2 J p2 p3 (aB.enc p0) (aA.enc p1) [D.str [], D.str [], D.bool false, D.int .i64 0, D.int .i64 0, D.int .i64 0, D.int .i64 0, D.sl aF.ks (List.map aF.enc []), D.sl aA.ks (List.map aA.enc []), D.int .i64 0, D.sl aD.ks (List.map aD.enc []), D.sl [.int .i64] (List.map eI []), D.int .i64 0, D.sl [.int .i64] (List.map eI []), D.bool false, D.int .i64 0, D.str [], D.str [], D.int .i64 0, D.bool false, D.int .i64 0, D.int .i64 0, D.str [], D.int .i64 0, D.sl aG.ks (List.map aG.enc [])] r0.Client r0.User r0.Online r0.Conn r0.Expiry r0.Until r0.Dropped r0.Out.Limit r0.Out.Pool.Last r0.Will.Set r0.Will.Delay r0.Will.Message.Topic r0.Will.Message.Payload r0.Will.Message.Level r0.Will.Message.Retain r0.Will.Message.Priority r0.Will.Message.Expires r0.Will.Message.From r0.Will.Message.Seq (List.map aF.enc r0.Subs) (List.map aA.enc r0.Queue) (List.map aD.enc r0.Out.Items) (List.map eI r0.Out.Pool.Used) (List.map eI r0.In.IDs) (List.map aG.enc r0.Will.Message.Props)) := by kernel_rfl
theorem aDo (x2 x3 : Int) (b0 : aB) (b1 : aA) (b2 : aB) (b3_0 b3_1 : Str) (b3_2 : Bool) (b3_3 b3_4 b3_5 b3_6 b3_9 b3_12 : Int) (b3_14 : Bool) (b3_15 : Int) (b3_16 b3_17 : Str) (b3_18 : Int) (b3_19 : Bool) (b3_20 b3_21 : Int) (b3_22 : Str) (b3_23 : Int) (w50307 : List aF) (w50308 : List aA) (w50310 : List aD) (w50311 w50313 : List Int) (w50324 : List aG) : bT SE (C15 Γ γ50 γ51 γ52) Λ2 J 15 0 [1, 1, 1, 0] (aW [(2, .d (.int .i64 x2)), (3, .d (.int .i64 x3)), (4, .ptr 1000000000 0), (5, .ptr 1000000001 0), (8, .ptr 1000000002 0), (10, .ptr 1000000003 0)] [⟨38, (List.map AV.d (aB.enc b0))⟩, ⟨34, (List.map AV.d (aA.enc b1))⟩, ⟨38, (List.map AV.d (aB.enc b2))⟩, ⟨38, [.d (.str b3_0), .d (.str b3_1), .d (.bool b3_2), .d (.int .i64 b3_3), .d (.int .i64 b3_4), .d (.int .i64 b3_5), .d (.int .i64 b3_6), .row 50307, .row 50308, .d (.int .i64 b3_9), .row 50310, .row 50311, .d (.int .i64 b3_12), .row 50313, .d (.bool b3_14), .d (.int .i64 b3_15), .d (.str b3_16), .d (.str b3_17), .d (.int .i64 b3_18), .d (.bool b3_19), .d (.int .i64 b3_20), .d (.int .i64 b3_21), .d (.str b3_22), .d (.int .i64 b3_23), .row 50324]⟩] [] [] [(50307, ⟨aF.ks, 60, 32, (List.map aF.enc w50307)⟩), (50308, ⟨aA.ks, 34, 112, (List.map aA.enc w50308)⟩), (50310, ⟨aD.ks, 122, 128, (List.map aD.enc w50310)⟩), (50311, ⟨[.int .i64], 3, 8, (List.map eI w50311)⟩), (50313, ⟨[.int .i64], 3, 8, (List.map eI w50313)⟩), (50324, ⟨aG.ks, 130, 32, (List.map aG.enc w50324)⟩)]) =
 γ52 [.d (.sl aA.ks (List.map aA.enc w50308)), aA.av b1, .d (.int .i64 (if 256 < x2 then 256 else x2)), .d (.int .i64 x3)] [] [] fun r2 =>
 γ51 [aB.av (aB.mk b3_0 b3_1 b3_2 b3_3 b3_4 b3_5 b3_6 w50307 r2.1 (aI.mk b3_9 w50310 (aN.mk w50311 b3_12)) (bE.mk w50313) (aT.mk b3_14 b3_15 (aA.mk b3_16 b3_17 b3_18 b3_19 b3_20 b3_21 b3_22 b3_23 w50324))), .d (.int .i64 (lM aA.enc r2.2.1 : Int))] [] [] fun r3 =>
 cond r2.2.2 (
 (some (.ret [aB.av r3, .d (.bool b0.Online)] [] []))) (
 (some (.ret [aB.av r3, .d (.bool false)] [] []))) := by kernel_rfl
end
abbrev X15 : aP := C15 gG (cT 50 cB) (cT 51 bR) (cT 52 kM)
theorem ayb : X15 = aQ gG := by unfold X15 C15; repeat rw [bB fun _ h => h]
abbrev aBA := aqO X15 (bP SE gG (SE.hl 15) (SE.hr 15)) (J0 SE X15)
theorem aaE (x2 x3 : Int) (b0 : aB) (b1 : aA) (b2 : aB) (b3_0 b3_1 : Str) (b3_2 : Bool) (b3_3 b3_4 b3_5 b3_6 b3_9 b3_12 : Int) (b3_14 : Bool) (b3_15 : Int) (b3_16 b3_17 : Str) (b3_18 : Int) (b3_19 : Bool) (b3_20 b3_21 : Int) (b3_22 : Str) (b3_23 : Int) (w50307 : List aF) (w50308 : List aA) (w50310 : List aD) (w50311 w50313 : List Int) (w50324 : List aG) : Le (Option.map cW (qL x2 x3 b0 b1 b2 b3_0 b3_1 b3_2 b3_3 b3_4 b3_5 b3_6 b3_9 b3_12 b3_14 b3_15 b3_16 b3_17 b3_18 b3_19 b3_20 b3_21 b3_22 b3_23 w50307 w50308 w50310 w50311 w50313 w50324)) (aBA x2 x3 (aB.enc b0) (aA.enc b1) (aB.enc b2) b3_0 b3_1 b3_2 b3_3 b3_4 b3_5 b3_6 b3_9 b3_12 b3_14 b3_15 b3_16 b3_17 b3_18 b3_19 b3_20 b3_21 b3_22 b3_23 (List.map aF.enc w50307) (List.map aA.enc w50308) (List.map aD.enc w50310) (List.map eI w50311) (List.map eI w50313) (List.map aG.enc w50324)) := by
 refine Le.trans ?_ (le_of_eq ((aZ ayb).trans (aDo ..)).symm)
 unfold qL
 refine lQ eX amM (ao0 _ _ _ _) fun r2 _ => ?_
 refine lQ eX dK (by (try simp only [EN]); exact sI ((aB.mk b3_0 b3_1 b3_2 b3_3 b3_4 b3_5 b3_6 w50307 r2.1 (aI.mk b3_9 w50310 (aN.mk w50311 b3_12)) (bE.mk w50313) (aT.mk b3_14 b3_15 (aA.mk b3_16 b3_17 b3_18 b3_19 b3_20 b3_21 b3_22 b3_23 w50324)))) (List.length r2.2.1 : Int)) fun r3 _ => ?_
 refine lC ?_ ?_
 ·exact aJ rfl
 ·exact aJ rfl
theorem uK (p0 : aB) (p1 : aA) (p2 p3 : Int) : Le (Option.map cW (mV p0 p1 p2 p3)) (bA SE 15 [aB.av p0, aA.av p1, .d (.int .i64 p2), .d (.int .i64 p3)] [] []) := by
 refine aV ayb rfl ?_
 refine Le.trans ?_ (le_of_eq (T15 ..).symm)
 unfold mV
 refine lQ eX gB (jI _) fun r0 _ => ?_
 refine lC ?_ ?_
 ·refine lC ?_ ?_
  ·refine lQ eX dK (sI _ _) fun r1 _ => ?_
   exact aJ rfl
  ·(try simp only [EN]); exact aaE p2 p3 p0 p1 ((aB.mk [] [] false 0 0 0 0 [] [] (aI.mk 0 [] (aN.mk [] 0)) (bE.mk []) (aT.mk false 0 (aA.mk [] [] 0 false 0 0 [] 0 [])))) r0.Client r0.User r0.Online r0.Conn r0.Expiry r0.Until r0.Dropped r0.Out.Limit r0.Out.Pool.Last r0.Will.Set r0.Will.Delay r0.Will.Message.Topic r0.Will.Message.Payload r0.Will.Message.Level r0.Will.Message.Retain r0.Will.Message.Priority r0.Will.Message.Expires r0.Will.Message.From r0.Will.Message.Seq r0.Subs r0.Queue r0.Out.Items r0.Out.Pool.Used r0.In.IDs r0.Will.Message.Props
 ·(try simp only [EN]); exact aaE p2 p3 p0 p1 ((aB.mk [] [] false 0 0 0 0 [] [] (aI.mk 0 [] (aN.mk [] 0)) (bE.mk []) (aT.mk false 0 (aA.mk [] [] 0 false 0 0 [] 0 [])))) r0.Client r0.User r0.Online r0.Conn r0.Expiry r0.Until r0.Dropped r0.Out.Limit r0.Out.Pool.Last r0.Will.Set r0.Will.Delay r0.Will.Message.Topic r0.Will.Message.Payload r0.Will.Message.Level r0.Will.Message.Retain r0.Will.Message.Priority r0.Will.Message.Expires r0.Will.Message.From r0.Will.Message.Seq r0.Subs r0.Queue r0.Out.Items r0.Out.Pool.Used r0.In.IDs r0.Will.Message.Props
section
variable (Γ : Fun)  (Λ2 J : Lam)
def awT : aP := aQ Γ
theorem aFy (p0 : aA) (p1 : Int) : bF SE (awT Γ) Λ2 J 113 [aA.av p0, .d (.int .i64 p1)] [] [] =
 cond (p0.Expires != 0) (
 (rB (decide (p1 ≥ p0.Expires)))) (
 (rB false)) := by kernel_rfl
end
abbrev aF7 : aP := awT gG
theorem aBZ : aF7 = aQ gG := rfl
theorem ah5 (p0 : aA) (p1 : Int) : Le (Option.map aE (sQ p0 p1)) (bA SE 113 [aA.av p0, .d (.int .i64 p1)] [] []) := by
 refine aV aBZ rfl ?_
 refine Le.trans ?_ (le_of_eq (aFy ..).symm)
 unfold sQ
 refine lC ?_ ?_
 ·exact aJ rfl
 ·exact aJ rfl
section
variable (Γ : Fun)  (Λ2 J : Lam)
def ayU : aP := aQ Γ
theorem aDY (p0 : aI) : bF SE (ayU Γ) Λ2 J 156 [aI.av p0] [] [] =
 (rI (if 0 > (w6 (p0.Limit - (lM aD.enc p0.Items : Int))) then 0 else (w6 (p0.Limit - (lM aD.enc p0.Items : Int))))) := by kernel_rfl
end
abbrev aFw : aP := ayU gG
theorem aBv : aFw = aQ gG := rfl
theorem ajl (p0 : aI) : Le (Option.map aH (uW p0)) (bA SE 156 [aI.av p0] [] []) := by
 refine aV aBv rfl ?_
 refine Le.trans ?_ (le_of_eq (aDY ..).symm)
 unfold uW
 exact aJ (by first | rfl | simp only [EN, aH] <;> rfl)
def aod (C : aP) (Λ2 J : Lam) (a0 : Str) (a1 : Nat) : Res := lab SE C Λ2 J 169 0 [1, 1, 0, 1, 0] (aW [(9, .it 4000)] [] [] [(4000, (a0, a1))] [])
section
variable (Γ : Fun) (γ161 : Gm (Bool)) (Λ2 J : Lam)
def alE : aP := aY (aQ Γ) 161 aE γ161
theorem aFl (p0 : Str) : bF SE (alE Γ γ161) Λ2 J 169 [.d (.str p0)] [] [] =
 γ161 [.d (.str p0)] [] [] fun r0 =>
 cond (!r0) (
 (rB false)) (
 aod (alE Γ γ161) Λ2 J p0 0) := by kernel_rfl
theorem awX (s4000 : Str) (i4000 : Nat) : bT SE (alE Γ γ161) Λ2 J 169 0 [1, 1, 0, 1, 0] (aW [(9, .it 4000)] [] [] [(4000, (s4000, i4000))] []) =
 cond (decide (i4000 < List.length s4000)) (
 cond (((dec s4000 i4000).1 : Int) == 43) (
  (rB false)) (
 cond (((dec s4000 i4000).1 : Int) == 35) (
  (rB false)) (
 aod (alE Γ γ161) Λ2 J s4000 (i4000 + (dec s4000 i4000).2)))) (
 (rB true)) := by kernel_rfl
end
abbrev arP : aP := alE gG (cT 161 aE)
theorem au4 : arP = aQ gG := by unfold arP alE; rw [bB fun _ h => h]
abbrev axE := aod arP (bP SE gG (SE.hl 169) (SE.hr 169)) (J0 SE arP)
theorem aiS : ∀ (fu : Nat) (s4000 : Str) (i4000 : Nat), Le (Option.map aE (lA fu s4000 i4000)) (axE s4000 i4000) := by
 intro fu
 induction fu with
 | zero => intros; exact le_none
 | succ fu ih =>
  intro s4000 i4000
  refine Le.trans ?_ (le_of_eq ((aZ au4).trans (awX ..)).symm)
  unfold lA
  refine lC ?_ ?_
  ·refine lC ?_ ?_
   ·exact aJ rfl
   ·refine lC ?_ ?_
    ·exact aJ rfl
    ·exact ih s4000 (i4000 + (dec s4000 i4000).2)
  ·exact aJ rfl
theorem alg (p0 : Str) : Le (Option.map aE (yI p0)) (bA SE 169 [.d (.str p0)] [] []) := by
 refine aV au4 rfl ?_
 refine Le.trans ?_ (le_of_eq (aFl ..).symm)
 unfold yI
 refine lQ eX aL (aeR _) fun r0 _ => ?_
 refine lC ?_ ?_
 ·exact aJ rfl
 ·exact aiS fuel p0 0
section
variable (Γ : Fun)  (Λ2 J : Lam)
def ayp : aP := aQ Γ
theorem aFU (p0 p1 : Int) : bF SE (ayp Γ) Λ2 J 170 [.d (.int .i64 p0), .d (.int .i64 p1)] [] [] =
 cond (decide (p0 ≥ 0)) (
 (rB (decide (p0 ≤ p1)))) (
 (rB false)) := by kernel_rfl
end
abbrev aGa : aP := ayp gG
theorem aBt : aGa = aQ gG := rfl
theorem uS (p0 p1 : Int) : Le (Option.map aE (pV p0 p1)) (bA SE 170 [.d (.int .i64 p0), .d (.int .i64 p1)] [] []) := by
 refine aV aBt rfl ?_
 refine Le.trans ?_ (le_of_eq (aFU ..).symm)
 unfold pV
 refine lC ?_ ?_
 ·exact aJ rfl
 ·exact aJ rfl
def aaA (C : aP) (Λ2 J : Lam) (a0 : Str) (a1 : Int) : Res := lab SE C Λ2 J 184 0 [1, 1, 0, 1, 0] (aW [(0, .d (.str a0)), (3, .d (.int .i64 a1))] [] [] [] [])
def asB (C : aP) (Λ2 J : Lam) (a0 : Str) : Res := lab SE C Λ2 J 184 0 [1, 1, 0, 0] (aW [(0, .d (.str a0))] [] [] [] [])
section
variable (Γ : Fun)  (Λ2 J : Lam)
def aa0 : aP := aQ Γ
theorem aGm (p0 : Str) : bF SE (aa0 Γ) Λ2 J 184 [.d (.str p0)] [] [] =
 cond (decide ((List.length p0 : Int) < 1)) (
 (rB false)) (
 cond (decide ((List.length p0 : Int) > 16)) (
 (rB false)) (
 asB (aa0 Γ) Λ2 J p0)) := by kernel_rfl
theorem azp (x0 : Str) (x3 : Int) : bT SE (aa0 Γ) Λ2 J 184 0 [1, 1, 0, 1, 0] (aW [(0, .d (.str x0)), (3, .d (.int .i64 x3))] [] [] [] []) =
 cond (decide (x3 < (List.length x0 : Int))) (
 cond (iB x3 (List.length x0 : Int)) (
  cond (decide ((UInt8.toNat (List.getD x0 (Int.toNat x3) 0) : Int) < 97)) (
  cond (decide ((UInt8.toNat (List.getD x0 (Int.toNat x3) 0) : Int) < 48)) (
   cond ((UInt8.toNat (List.getD x0 (Int.toNat x3) 0) : Int) != 45) (
   (rB false)) (
   aaA (aa0 Γ) Λ2 J x0 (w6 (x3 + 1)))) (
  cond (decide ((UInt8.toNat (List.getD x0 (Int.toNat x3) 0) : Int) > 57)) (
   cond ((UInt8.toNat (List.getD x0 (Int.toNat x3) 0) : Int) != 45) (
   (rB false)) (
   aaA (aa0 Γ) Λ2 J x0 (w6 (x3 + 1)))) (
  aaA (aa0 Γ) Λ2 J x0 (w6 (x3 + 1))))) (
  cond (decide ((UInt8.toNat (List.getD x0 (Int.toNat x3) 0) : Int) > 122)) (
  cond (decide ((UInt8.toNat (List.getD x0 (Int.toNat x3) 0) : Int) < 48)) (
   cond ((UInt8.toNat (List.getD x0 (Int.toNat x3) 0) : Int) != 45) (
   (rB false)) (
   aaA (aa0 Γ) Λ2 J x0 (w6 (x3 + 1)))) (
  cond (decide ((UInt8.toNat (List.getD x0 (Int.toNat x3) 0) : Int) > 57)) (
   cond ((UInt8.toNat (List.getD x0 (Int.toNat x3) 0) : Int) != 45) (
   (rB false)) (
   aaA (aa0 Γ) Λ2 J x0 (w6 (x3 + 1)))) (
  aaA (aa0 Γ) Λ2 J x0 (w6 (x3 + 1))))) (
  aaA (aa0 Γ) Λ2 J x0 (w6 (x3 + 1))))) none) (
 (rB true)) := by kernel_rfl
theorem axf (x0 : Str) : bT SE (aa0 Γ) Λ2 J 184 0 [1, 1, 0, 0] (aW [(0, .d (.str x0))] [] [] [] []) =
 aaA (aa0 Γ) Λ2 J x0 0 := by kernel_rfl
end
abbrev aoO : aP := aa0 gG
theorem are : aoO = aQ gG := rfl
abbrev ay9 := aaA aoO (bP SE gG (SE.hl 184) (SE.hr 184)) (J0 SE aoO)
abbrev ayT := asB aoO (bP SE gG (SE.hl 184) (SE.hr 184)) (J0 SE aoO)
theorem aiJ : ∀ (fu : Nat) (x0 : Str) (x3 : Int), Le (Option.map aE (e9 fu x0 x3)) (ay9 x0 x3) := by
 intro fu
 induction fu with
 | zero => intros; exact le_none
 | succ fu ih =>
  intro x0 x3
  refine Le.trans ?_ (le_of_eq ((aZ are).trans (azp ..)).symm)
  unfold e9
  refine lC ?_ ?_
  ·refine lF ?_
   refine lC ?_ ?_
   ·refine lC ?_ ?_
    ·refine lC ?_ ?_
     ·exact aJ rfl
     ·exact ih x0 (w6 (x3 + 1))
    ·refine lC ?_ ?_
     ·refine lC ?_ ?_
      ·exact aJ rfl
      ·exact ih x0 (w6 (x3 + 1))
     ·exact ih x0 (w6 (x3 + 1))
   ·refine lC ?_ ?_
    ·refine lC ?_ ?_
     ·refine lC ?_ ?_
      ·exact aJ rfl
      ·exact ih x0 (w6 (x3 + 1))
     ·refine lC ?_ ?_
      ·refine lC ?_ ?_
       ·exact aJ rfl
       ·exact ih x0 (w6 (x3 + 1))
      ·exact ih x0 (w6 (x3 + 1))
    ·exact ih x0 (w6 (x3 + 1))
  ·exact aJ rfl
theorem aiK (x0 : Str) : Le (Option.map aE (wU x0)) (ayT x0) := by
 refine Le.trans ?_ (le_of_eq ((aZ are).trans (axf ..)).symm)
 unfold wU
 exact aiJ fuel x0 0
theorem alN (p0 : Str) : Le (Option.map aE (yC p0)) (bA SE 184 [.d (.str p0)] [] []) := by
 refine aV are rfl ?_
 refine Le.trans ?_ (le_of_eq (aGm ..).symm)
 unfold yC
 refine lC ?_ ?_
 ·exact aJ rfl
 ·refine lC ?_ ?_
  ·exact aJ rfl
  ·exact aiK p0
def akv (C : aP) (Λ2 J : Lam) (a0 a1 : List (List D)) (a2 a3 : Int) : Res := lab SE C Λ2 J 171 0 [1, 1, 0, 1, 0] (aW [(0, .d (.sl aG.ks a0)), (8, .d (.sl aG.ks a1)), (9, .d (.int .i64 a2)), (10, .d (.int .i64 a3))] [] [] [] [])
section
variable (Γ : Fun) (γ184 : Gm (Bool)) (Λ2 J : Lam)
def ajT : aP := aY (aQ Γ) 184 aE γ184
theorem aEZ (p0 : List aG) : bF SE (ajT Γ γ184) Λ2 J 171 [.d (.sl aG.ks (List.map aG.enc p0))] [] [] =
 cond (decide ((lM aG.enc p0 : Int) > 8)) (
 (rI 5)) (
 akv (ajT Γ γ184) Λ2 J (List.map aG.enc p0) (List.map aG.enc p0) (lM aG.enc p0 : Int) 0) := by kernel_rfl
theorem awF (x0 x8 : List aG) (x9 x10 : Int) : bT SE (ajT Γ γ184) Λ2 J 171 0 [1, 1, 0, 1, 0] (aW [(0, .d (.sl aG.ks (List.map aG.enc x0))), (8, .d (.sl aG.ks (List.map aG.enc x8))), (9, .d (.int .i64 x9)), (10, .d (.int .i64 x10))] [] [] [] []) =
 cond (decide (x10 < x9)) (
 cond (iB x10 (lM aG.enc x8 : Int)) (
  γ184 [.d (.str (bC (cE aG.enc x8 x10 0)))] [] [] fun r0 =>
  cond (!r0) (
  (rI 16)) (
  cond (decide ((List.length (bC (cE aG.enc x8 x10 1)) : Int) > 160)) (
  (rI 5)) (
  cond (decide (x10 > 0)) (
  cond (iB (w6 (x10 - 1)) (lM aG.enc x0 : Int)) (
   cond (Op.bytesLess (bC (cE aG.enc x8 x10 0)) (bC (cE aG.enc x0 (w6 (x10 - 1)) 0)) || (bC (cE aG.enc x8 x10 0)) == (bC (cE aG.enc x0 (w6 (x10 - 1)) 0))) (
   (rI 16)) (
   akv (ajT Γ γ184) Λ2 J (List.map aG.enc x0) (List.map aG.enc x8) x9 (w6 (x10 + 1)))) none) (
  akv (ajT Γ γ184) Λ2 J (List.map aG.enc x0) (List.map aG.enc x8) x9 (w6 (x10 + 1)))))) none) (
 (rI 0)) := by kernel_rfl
end
abbrev aq6 : aP := ajT gG (cT 184 aE)
theorem avu : aq6 = aQ gG := by unfold aq6 ajT; rw [bB fun _ h => h]
abbrev axr := akv aq6 (bP SE gG (SE.hl 171) (SE.hr 171)) (J0 SE aq6)
theorem agU : ∀ (fu : Nat) (x0 x8 : List aG) (x9 x10 : Int), Le (Option.map aH (jM fu x0 x8 x9 x10)) (axr (List.map aG.enc x0) (List.map aG.enc x8) x9 x10) := by
 intro fu
 induction fu with
 | zero => intros; exact le_none
 | succ fu ih =>
  intro x0 x8 x9 x10
  refine Le.trans ?_ (le_of_eq ((aZ avu).trans (awF ..)).symm)
  unfold jM
  refine lC ?_ ?_
  ·refine lG (by simp only [EN]) ?_
   refine lQ eX aL (by (try simp only [EN]); exact alN ((List.getD x8 (Int.toNat x10) default).Key)) fun r0 _ => ?_
   refine lC ?_ ?_
   ·exact aJ rfl
   ·refine lD (by simp only [EN]) ?_ ?_
    ·exact aJ rfl
    ·refine lC ?_ ?_
     ·refine lG (by simp only [EN]) ?_
      refine lD (by simp only [EN]) ?_ ?_
      ·exact aJ rfl
      ·exact ih x0 x8 x9 (w6 (x10 + 1))
     ·exact ih x0 x8 x9 (w6 (x10 + 1))
  ·exact aJ rfl
theorem ac7 (p0 : List aG) : Le (Option.map aH (rS p0)) (bA SE 171 [.d (.sl aG.ks (List.map aG.enc p0))] [] []) := by
 refine aV avu rfl ?_
 refine Le.trans ?_ (le_of_eq (aEZ ..).symm)
 unfold rS
 refine lD (by simp only [EN]) ?_ ?_
 ·exact aJ rfl
 ·(try simp only [EN]); exact agU fuel p0 p0 (List.length p0 : Int) 0
section
variable (Γ : Fun) (γ169 γ170 γ139 : Gm (Bool)) (γ171 : Gm (Int)) (Λ2 J : Lam)
def auh : aP := aY (aY (aY (aY (aQ Γ) 169 aE γ169) 170 aE γ170) 139 aE γ139) 171 aH γ171
theorem aEy (p0 : aA) : bF SE (auh Γ γ169 γ170 γ139 γ171) Λ2 J 141 [aA.av p0] [] [] =
 γ169 [.d (.str p0.Topic)] [] [] fun r0 =>
 cond (!r0) (
 (rI 12)) (
 cond (decide ((List.length p0.Payload : Int) > 256)) (
 (rI 5)) (
 γ170 [.d (.int .i64 p0.Level), .d (.int .i64 2)] [] [] fun r1 =>
 cond (!r1) (
 (rI 14)) (
 γ170 [.d (.int .i64 p0.Priority), .d (.int .i64 9)] [] [] fun r2 =>
 cond (!r2) (
 (rI 1)) (
 γ170 [.d (.int .i64 p0.Expires), .d (.int .i64 1099511627776)] [] [] fun r3 =>
 cond (!r3) (
 (rI 1)) (
 cond (!(p0.From == ([] : Str))) (
 γ139 [.d (.str p0.From)] [] [] fun r4 =>
 cond (!r4) (
  (rI 11)) (
 γ170 [.d (.int .i64 p0.Seq), .d (.int .i64 1099511627776)] [] [] fun r5 =>
 cond (!r5) (
  (rI 1)) (
 γ171 [.d (.sl aG.ks (List.map aG.enc p0.Props))] [] [] fun r6 =>
 (rI r6)))) (
 γ170 [.d (.int .i64 p0.Seq), .d (.int .i64 1099511627776)] [] [] fun r7 =>
 cond (!r7) (
 (rI 1)) (
 γ171 [.d (.sl aG.ks (List.map aG.enc p0.Props))] [] [] fun r8 =>
 (rI r8)))))))) := by kernel_rfl
end
abbrev awH : aP := auh gG (cT 169 aE) (cT 170 aE) (cT 139 aE) (cT 171 aH)
theorem aDr : awH = aQ gG := by unfold awH auh; repeat rw [bB fun _ h => h]
theorem uJ (p0 : aA) : Le (Option.map aH (mU p0)) (bA SE 141 [aA.av p0] [] []) := by
 refine aV aDr rfl ?_
 refine Le.trans ?_ (le_of_eq (aEy ..).symm)
 unfold mU
 refine lQ eX aL (alg _) fun r0 _ => ?_
 refine lC ?_ ?_
 ·exact aJ rfl
 ·refine lC ?_ ?_
  ·exact aJ rfl
  ·refine lQ eX aL (uS _ _) fun r1 _ => ?_
   refine lC ?_ ?_
   ·exact aJ rfl
   ·refine lQ eX aL (uS _ _) fun r2 _ => ?_
    refine lC ?_ ?_
    ·exact aJ rfl
    ·refine lQ eX aL (uS _ _) fun r3 _ => ?_
     refine lC ?_ ?_
     ·exact aJ rfl
     ·refine lC ?_ ?_
      ·refine lQ eX aL (yN _) fun r4 _ => ?_
       refine lC ?_ ?_
       ·exact aJ rfl
       ·refine lQ eX aL (uS _ _) fun r5 _ => ?_
        refine lC ?_ ?_
        ·exact aJ rfl
        ·refine lQ eX aS (ac7 _) fun r6 _ => ?_
         exact aJ rfl
      ·refine lQ eX aL (uS _ _) fun r7 _ => ?_
       refine lC ?_ ?_
       ·exact aJ rfl
       ·refine lQ eX aS (ac7 _) fun r8 _ => ?_
        exact aJ rfl
section
variable (Γ : Fun)  (Λ2 J : Lam)
def ayG : aP := aQ Γ
theorem aEK (p0 : Int) : bF SE (ayG Γ) Λ2 J 177 [.d (.int .i64 p0)] [] [] =
 (rI (w6 ((Int.tmod p0 65535) + 1))) := by kernel_rfl
end
abbrev aEY : aP := ayG gG
theorem aAY : aEY = aQ gG := rfl
theorem amB (p0 : Int) : Le (Option.map aH (aaf p0)) (bA SE 177 [.d (.int .i64 p0)] [] []) := by
 refine aV aAY rfl ?_
 refine Le.trans ?_ (le_of_eq (aEK ..).symm)
 unfold aaf
 exact aJ rfl
section
variable (Γ : Fun)  (Λ2 J : Lam)
def awy : aP := aQ Γ
theorem aD0 (p0 : Int) : bF SE (awy Γ) Λ2 J 191 [.d (.int .i64 p0)] [] [] =
 (rB (p0 != p0)) := by kernel_rfl
end
abbrev aEe : aP := awy gG
theorem aAX : aEe = aQ gG := rfl
theorem abV (p0 : Int) : Le (Option.map aE (tK p0)) (bA SE 191 [.d (.int .i64 p0)] [] []) := by
 refine aV aAX rfl ?_
 refine Le.trans ?_ (le_of_eq (aD0 ..).symm)
 unfold tK
 exact aJ rfl
section
variable (Γ : Fun) (γ191 : Gm (Bool)) (Λ2 J : Lam)
def auy : aP := aY (aQ Γ) 191 aE γ191
theorem aFG (p0 p1 : Int) : bF SE (auy Γ γ191) Λ2 J 185 [.d (.int .i64 p0), .d (.int .i64 p1)] [] [] =
 γ191 [.d (.int .i64 p0)] [] [] fun r0 =>
 cond r0 (
 γ191 [.d (.int .i64 p1)] [] [] fun r1 =>
 cond (!r1) (
  (rB true)) (
 (rB (decide (p0 < p1))))) (
 (rB (decide (p0 < p1)))) := by kernel_rfl
end
abbrev aw9 : aP := auy gG (cT 191 aE)
theorem aB2 : aw9 = aQ gG := by unfold aw9 auy; rw [bB fun _ h => h]
theorem ajF (p0 p1 : Int) : Le (Option.map aE (uX p0 p1)) (bA SE 185 [.d (.int .i64 p0), .d (.int .i64 p1)] [] []) := by
 refine aV aB2 rfl ?_
 refine Le.trans ?_ (le_of_eq (aFG ..).symm)
 unfold uX
 refine lQ eX aL (abV _) fun r0 _ => ?_
 refine lC ?_ ?_
 ·refine lQ eX aL (abV _) fun r1 _ => ?_
  refine lC ?_ ?_
  ·exact aJ rfl
  ·exact aJ rfl
 ·exact aJ rfl
section
variable (Γ : Fun)  (Λ2 J : Lam)
def aAx : aP := aQ Γ
theorem aEF (p0 : Int) : bF SE (aAx Γ) Λ2 J 186 [.d (.int .i64 p0)] [] [] =
 (rB (p0 != p0)) := by kernel_rfl
end
abbrev aGk : aP := aAx gG
theorem aDk : aGk = aQ gG := rfl
theorem zN (p0 : Int) : Le (Option.map aE (mN p0)) (bA SE 186 [.d (.int .i64 p0)] [] []) := by
 refine aV aDk rfl ?_
 refine Le.trans ?_ (le_of_eq (aEF ..).symm)
 unfold mN
 exact aJ rfl
def aku (C : aP) (Λ2 J : Lam) (a0 : List (List D)) (a1 a2 a3 a4 : Int) : Res := lab SE C Λ2 J 175 0 [1, 1, 1, 0, 0] (aW [(0, .d (.sl [.int .i64] a0)), (1, .d (.int .i64 a1)), (6, .d (.int .i64 a2)), (7, .d (.int .i64 a3)), (8, .d (.int .i64 a4))] [] [] [] [])
section
variable (Γ : Fun) (γ185 γ186 : Gm (Bool)) (Λ2 J : Lam)
def ajC : aP := aY (aY (aQ Γ) 185 aE γ185) 186 aE γ186
theorem aEX (p0 : List Int) (p1 : Int) : bF SE (ajC Γ γ185 γ186) Λ2 J 175 [.d (.sl [.int .i64] (List.map eI p0)), .d (.int .i64 p1)] [] [] =
 aku (ajC Γ γ185 γ186) Λ2 J (List.map eI p0) p1 (lM eI p0 : Int) 0 (lM eI p0 : Int) := by kernel_rfl
theorem aza (x0 : List Int) (x1 x6 x7 x8 : Int) : bT SE (ajC Γ γ185 γ186) Λ2 J 175 0 [1, 1, 1, 0, 0] (aW [(0, .d (.sl [.int .i64] (List.map eI x0))), (1, .d (.int .i64 x1)), (6, .d (.int .i64 x6)), (7, .d (.int .i64 x7)), (8, .d (.int .i64 x8))] [] [] [] []) =
 cond (decide (x7 < x8)) (
 cond (iB (w6 (shr .u64 (IntKind.wrap .u64 (w6 (x7 + x8))) 1)) (lM eI x0 : Int)) (
  γ185 [.d (.int .i64 (aR (cE eI x0 (w6 (shr .u64 (IntKind.wrap .u64 (w6 (x7 + x8))) 1)) 0))), .d (.int .i64 x1)] [] [] fun r0 =>
  cond r0 (
  aku (ajC Γ γ185 γ186) Λ2 J (List.map eI x0) x1 x6 (w6 ((w6 (shr .u64 (IntKind.wrap .u64 (w6 (x7 + x8))) 1)) + 1)) x8) (
  aku (ajC Γ γ185 γ186) Λ2 J (List.map eI x0) x1 x6 x7 (w6 (shr .u64 (IntKind.wrap .u64 (w6 (x7 + x8))) 1)))) none) (
 cond (decide (x7 < x6)) (
 cond (iB x7 (lM eI x0 : Int)) (
  cond ((aR (cE eI x0 x7 0)) == x1) (
  (some (.ret [.d (.int .i64 x7), .d (.bool true)] [] []))) (
  cond (iB x7 (lM eI x0 : Int)) (
  γ186 [.d (.int .i64 (aR (cE eI x0 x7 0)))] [] [] fun r1 =>
  cond r1 (
   γ186 [.d (.int .i64 x1)] [] [] fun r2 =>
   (some (.ret [.d (.int .i64 x7), .d (.bool r2)] [] []))) (
  (some (.ret [.d (.int .i64 x7), .d (.bool false)] [] [])))) none)) none) (
 (some (.ret [.d (.int .i64 x7), .d (.bool false)] [] [])))) := by kernel_rfl
end
abbrev aq0 : aP := ajC gG (cT 185 aE) (cT 186 aE)
theorem ava : aq0 = aQ gG := by unfold aq0 ajC; repeat rw [bB fun _ h => h]
abbrev axM := aku aq0 (bP SE gG (SE.hl 175) (SE.hr 175)) (J0 SE aq0)
theorem wH : ∀ (fu : Nat) (x0 : List Int) (x1 x6 x7 x8 : Int), Le (Option.map aX (cN fu x0 x1 x6 x7 x8)) (axM (List.map eI x0) x1 x6 x7 x8) := by
 intro fu
 induction fu with
 | zero => intros; exact le_none
 | succ fu ih =>
  intro x0 x1 x6 x7 x8
  refine Le.trans ?_ (le_of_eq ((aZ ava).trans (aza ..)).symm)
  unfold cN
  refine lC ?_ ?_
  ·refine lG (by simp only [EN]) ?_
   refine lQ eX aL (by (try simp only [EN]); exact ajF (List.getD x0 (Int.toNat (w6 (shr .u64 (IntKind.wrap .u64 (w6 (x7 + x8))) 1))) default) x1) fun r0 _ => ?_
   refine lC ?_ ?_
   ·exact ih x0 x1 x6 (w6 ((w6 (shr .u64 (IntKind.wrap .u64 (w6 (x7 + x8))) 1)) + 1)) x8
   ·exact ih x0 x1 x6 x7 (w6 (shr .u64 (IntKind.wrap .u64 (w6 (x7 + x8))) 1))
  ·refine lC ?_ ?_
   ·refine lG (by simp only [EN]) ?_
    refine lD (by simp only [EN]) ?_ ?_
    ·exact aJ rfl
    ·refine lG (by simp only [EN]) ?_
     refine lQ eX aL (by (try simp only [EN]); exact zN (List.getD x0 (Int.toNat x7) default)) fun r1 _ => ?_
     refine lC ?_ ?_
     ·refine lQ eX aL (zN _) fun r2 _ => ?_
      exact aJ rfl
     ·exact aJ rfl
   ·exact aJ rfl
theorem kK (p0 : List Int) (p1 : Int) : Le (Option.map aX (dP p0 p1)) (bA SE 175 [.d (.sl [.int .i64] (List.map eI p0)), .d (.int .i64 p1)] [] []) := by
 refine aV ava rfl ?_
 refine Le.trans ?_ (le_of_eq (aEX ..).symm)
 unfold dP
 (try simp only [EN]); exact wH fuel p0 p1 (List.length p0 : Int) 0 (List.length p0 : Int)
theorem abC (p0 : List Int) (p1 : Int) (p2 : List Int) : Le (Option.map bI (l8 p0 p1 p2)) (bA SE 178 [.row 2000000000, .d (.int .i64 p1), .row 2000000001] [] [⟨[.int .i64], 3, 8, (List.map eI p0)⟩, ⟨[.int .i64], 3, 8, (List.map eI p2)⟩]) := al9 (f := 178) (enc := eI) rfl rfl p0 p1 p2
def aps (C : aP) (Λ2 J : Lam) (a0 a1 a2 : Int) (a3 a4 : List D) : Res := lab SE C Λ2 J 157 0 [1, 1, 1, 0, 1, 0] (aW [(1, .ptr 1000000000 0), (3, .ptr 1000000001 0), (5, .d (.int .i64 a0)), (18, .d (.int .i64 a1)), (19, .d (.int .i64 a2))] [⟨27, (List.map AV.d a3)⟩, ⟨27, (List.map AV.d a4)⟩] [] [] [])
section
variable (Γ : Fun) (γ177 : Gm (Int)) (γ175 : Gm (Int × Bool)) (γ104 γ178 : Gm ((List Int))) (Λ2 J : Lam)
def alr : aP := aY (aY (aY (aY (aQ Γ) 177 aH γ177) 175 aX γ175) 104 bI γ104) 178 bI γ178
theorem aDP (p0 : aN) : bF SE (alr Γ γ177 γ175 γ104 γ178) Λ2 J 157 [aN.av p0] [] [] =
 cond (decide ((lM eI p0.Used : Int) ≥ 32)) (
 (some (.ret [.d (.int .i64 0), .agg [.row 0, .d (.int .i64 0)], .d (.int .i64 6)] [] [⟨[.int .i64], 3, 8, (List.map eI [])⟩]))) (
 aps (alr Γ γ177 γ175 γ104 γ178) Λ2 J p0.Last (w6 ((lM eI p0.Used : Int) + 1)) 0 (aN.enc p0) [D.sl [.int .i64] (List.map eI []), D.int .i64 0]) := by kernel_rfl
theorem ax6 (x5 x18 x19 : Int) (b0 b1 : aN) : bT SE (alr Γ γ177 γ175 γ104 γ178) Λ2 J 157 0 [1, 1, 1, 0, 1, 0] (aW [(1, .ptr 1000000000 0), (3, .ptr 1000000001 0), (5, .d (.int .i64 x5)), (18, .d (.int .i64 x18)), (19, .d (.int .i64 x19))] [⟨27, (List.map AV.d (aN.enc b0))⟩, ⟨27, (List.map AV.d (aN.enc b1))⟩] [] [] []) =
 cond (decide (x19 < x18)) (
 γ177 [.d (.int .i64 x5)] [] [] fun r0 =>
 γ175 [.d (.sl [.int .i64] (List.map eI b0.Used)), .d (.int .i64 r0)] [] [] fun r1 =>
 cond (!r1.2) (
  γ104 [.d (.sl [.int .i64] (List.map eI b0.Used))] [] [] fun r2 =>
  γ178 [.row 2000000000, .d (.int .i64 r1.1), .row 2000000001] [] [⟨[.int .i64], 3, 8, (List.map eI r2)⟩, ⟨[.int .i64], 3, 8, (List.map eI [r0])⟩] fun r3 =>
  (some (.ret [.d (.int .i64 r0), .agg [.row 0, .d (.int .i64 r0)], .d (.int .i64 0)] [] [⟨[.int .i64], 3, 8, (List.map eI r3)⟩]))) (
 aps (alr Γ γ177 γ175 γ104 γ178) Λ2 J r0 x18 (w6 (x19 + 1)) (aN.enc b0) (aN.enc b1))) (
 (some (.ret [.d (.int .i64 0), .agg [.row 0, .d (.int .i64 0)], .d (.int .i64 6)] [] [⟨[.int .i64], 3, 8, (List.map eI [])⟩]))) := by kernel_rfl
end
abbrev aqi : aP := alr gG (cT 177 aH) (cT 175 aX) (cT 104 bI) (cT 178 bI)
theorem avf : aqi = aQ gG := by unfold aqi alr; repeat rw [bB fun _ h => h]
abbrev ax0 := aps aqi (bP SE gG (SE.hl 157) (SE.hr 157)) (J0 SE aqi)
theorem ajj : ∀ (fu : Nat) (x5 x18 x19 : Int) (b0 b1 : aN), Le (Option.map eZ (oT fu x5 x18 x19 b0 b1)) (ax0 x5 x18 x19 (aN.enc b0) (aN.enc b1)) := by
 intro fu
 induction fu with
 | zero => intros; exact le_none
 | succ fu ih =>
  intro x5 x18 x19 b0 b1
  refine Le.trans ?_ (le_of_eq ((aZ avf).trans (ax6 ..)).symm)
  unfold oT
  refine lC ?_ ?_
  ·refine lQ eX aS (amB _) fun r0 _ => ?_
   refine lQ eX cG (kK _ _) fun r1 _ => ?_
   refine lC ?_ ?_
   ·refine lQ eX dN (hJ _) fun r2 _ => ?_
    refine lQ eX dN (abC _ _ _) fun r3 _ => ?_
    exact aJ rfl
   ·exact ih r0 x18 (w6 (x19 + 1)) b0 b1
  ·exact aJ rfl
theorem amE (p0 : aN) : Le (Option.map eZ (aaw p0)) (bA SE 157 [aN.av p0] [] []) := by
 refine aV avf rfl ?_
 refine Le.trans ?_ (le_of_eq (aDP ..).symm)
 unfold aaw
 refine lD (by simp only [EN]) ?_ ?_
 ·exact aJ rfl
 ·(try simp only [EN]); exact ajj fuel p0.Last (w6 ((List.length p0.Used : Int) + 1)) 0 p0 (aN.mk [] 0)
section
variable (Γ : Fun) (γ138 : Gm ((List aG))) (Λ2 J : Lam)
def atO : aP := aY (aQ Γ) 138 cM γ138
theorem aGq (p0 : aA) : bF SE (atO Γ γ138) Λ2 J 153 [aA.av p0] [] [] =
 γ138 [.d (.sl aG.ks (List.map aG.enc p0.Props))] [] [] fun r0 =>
 (some (.ret [.agg [.d (.str p0.Topic), .d (.str p0.Payload), .d (.int .i64 p0.Level), .d (.bool p0.Retain), .d (.int .i64 p0.Priority), .d (.int .i64 p0.Expires), .d (.str p0.From), .d (.int .i64 p0.Seq), .row 0]] [] [⟨aG.ks, 130, 32, (List.map aG.enc r0)⟩])) := by kernel_rfl
end
abbrev axF : aP := atO gG (cT 138 cM)
theorem aBg : axF = aQ gG := by unfold axF atO; rw [bB fun _ h => h]
theorem wD (p0 : aA) : Le (Option.map bW (lL p0)) (bA SE 153 [aA.av p0] [] []) := by
 refine aV aBg rfl ?_
 refine Le.trans ?_ (le_of_eq (aGq ..).symm)
 unfold lL
 refine lQ eX nS (oE _) fun r0 _ => ?_
 exact aJ rfl
def anp (C : aP) (Λ2 J : Lam) (a0 : List (List D)) (a1 a2 : Int) (a3 a4 : List D) (a5 : List (List D)) : Res := lab SE C Λ2 J 110 0 [1, 1, 0, 1, 0] (aW [(1, .ptr 1000000000 0), (2, .ptr 1000000001 0), (3, .row 3003), (12, .d (.sl aD.ks a0)), (13, .d (.int .i64 a1)), (14, .d (.int .i64 a2))] [⟨29, (List.map AV.d a3)⟩, ⟨29, (List.map AV.d a4)⟩] [] [] [(3003, ⟨aD.ks, 122, 128, a5⟩)])
section
variable (Γ : Fun) (γ153 : Gm (aA)) (γ104 : Gm ((List Int))) (Λ2 J : Lam)
def alR : aP := aY (aY (aQ Γ) 153 bW γ153) 104 bI γ104
theorem aGl (p0 : aI) : bF SE (alR Γ γ153 γ104) Λ2 J 110 [aI.av p0] [] [] =
 cond (decide (0 ≤ 0) && decide (0 ≤ (w6 ((lM aD.enc p0.Items : Int) + 1))) && decide ((w6 ((lM aD.enc p0.Items : Int) + 1)) * 128 ≤ 281474976710656)) (
 anp (alR Γ γ153 γ104) Λ2 J (List.map aD.enc p0.Items) (lM aD.enc p0.Items : Int) 0 (aI.enc p0) [D.int .i64 0, D.sl aD.ks (List.map aD.enc []), D.sl [.int .i64] (List.map eI []), D.int .i64 0] (List.map aD.enc [])) none := by kernel_rfl
theorem axB (x12 : List aD) (x13 x14 : Int) (b0 b1 : aI) (w3003 : List aD) : bT SE (alR Γ γ153 γ104) Λ2 J 110 0 [1, 1, 0, 1, 0] (aW [(1, .ptr 1000000000 0), (2, .ptr 1000000001 0), (3, .row 3003), (12, .d (.sl aD.ks (List.map aD.enc x12))), (13, .d (.int .i64 x13)), (14, .d (.int .i64 x14))] [⟨29, (List.map AV.d (aI.enc b0))⟩, ⟨29, (List.map AV.d (aI.enc b1))⟩] [] [] [(3003, ⟨aD.ks, 122, 128, (List.map aD.enc w3003)⟩)]) =
 cond (decide (x14 < x13)) (
 cond (iB x14 (lM aD.enc x12 : Int)) (
  γ153 [.agg [.d (.str (bC (cE aD.enc x12 x14 2))), .d (.str (bC (cE aD.enc x12 x14 3))), .d (.int .i64 (aR (cE aD.enc x12 x14 4))), .d (.bool (bM (cE aD.enc x12 x14 5))), .d (.int .i64 (aR (cE aD.enc x12 x14 6))), .d (.int .i64 (aR (cE aD.enc x12 x14 7))), .d (.str (bC (cE aD.enc x12 x14 8))), .d (.int .i64 (aR (cE aD.enc x12 x14 9))), .d (.sl aG.ks (dSl (cE aD.enc x12 x14 10)))]] [] [] fun r0 =>
  cond (decide ((lM aD.enc w3003 + List.length [[D.int .i64 (aR (cE aD.enc x12 x14 0)), D.int .i64 (aR (cE aD.enc x12 x14 1)), D.str r0.Topic, D.str r0.Payload, D.int .i64 r0.Level, D.bool r0.Retain, D.int .i64 r0.Priority, D.int .i64 r0.Expires, D.str r0.From, D.int .i64 r0.Seq, D.sl aG.ks (List.map aG.enc r0.Props)]]) * 128 ≤ 140737488355328)) (
  anp (alR Γ γ153 γ104) Λ2 J (List.map aD.enc x12) x13 (w6 (x14 + 1)) (aI.enc b0) (aI.enc b1) (((List.map aD.enc w3003) ++ [[D.int .i64 (aR (cE aD.enc x12 x14 0)), D.int .i64 (aR (cE aD.enc x12 x14 1)), D.str r0.Topic, D.str r0.Payload, D.int .i64 r0.Level, D.bool r0.Retain, D.int .i64 r0.Priority, D.int .i64 r0.Expires, D.str r0.From, D.int .i64 r0.Seq, D.sl aG.ks (List.map aG.enc r0.Props)]]))) none) none) (
 γ104 [.d (.sl [.int .i64] (List.map eI b0.Pool.Used))] [] [] fun r1 =>
 (some (.ret [.agg [.d (.int .i64 b0.Limit), .row 0, .row 1, .d (.int .i64 b0.Pool.Last)]] [] [⟨aD.ks, 122, 128, (List.map aD.enc w3003)⟩, ⟨[.int .i64], 3, 8, (List.map eI r1)⟩]))) := by kernel_rfl
end
abbrev aqM : aP := alR gG (cT 153 bW) (cT 104 bI)
theorem avN : aqM = aQ gG := by unfold aqM alR; repeat rw [bB fun _ h => h]
abbrev axy := anp aqM (bP SE gG (SE.hl 110) (SE.hr 110)) (J0 SE aqM)
theorem agk : ∀ (fu : Nat) (x12 : List aD) (x13 x14 : Int) (b0 b1 : aI) (w3003 : List aD), Le (Option.map bX (j1 fu x12 x13 x14 b0 b1 w3003)) (axy (List.map aD.enc x12) x13 x14 (aI.enc b0) (aI.enc b1) (List.map aD.enc w3003)) := by
 intro fu
 induction fu with
 | zero => intros; exact le_none
 | succ fu ih =>
  intro x12 x13 x14 b0 b1 w3003
  refine Le.trans ?_ (le_of_eq ((aZ avN).trans (axB ..)).symm)
  unfold j1
  refine lC ?_ ?_
  ·refine lG (by simp only [EN]) ?_
   refine lQ eX dB (by (try simp only [EN]); exact wD ((List.getD x12 (Int.toNat x14) default).Message)) fun r0 _ => ?_
   refine lG (by simp only [EN]) ?_
   (try simp only [EN]); exact ih x12 x13 (w6 (x14 + 1)) b0 b1 ((w3003 ++ [(aD.mk (List.getD x12 (Int.toNat x14) default).ID (List.getD x12 (Int.toNat x14) default).State r0)]))
  ·refine lQ eX dN (hJ _) fun r1 _ => ?_
   exact aJ rfl
theorem mQ (p0 : aI) : Le (Option.map bX (iA p0)) (bA SE 110 [aI.av p0] [] []) := by
 refine aV avN rfl ?_
 refine Le.trans ?_ (le_of_eq (aGl ..).symm)
 unfold iA
 refine lG (by simp only [EN]) ?_
 (try simp only [EN]); exact agk fuel p0.Items (List.length p0.Items : Int) 0 p0 ((aI.mk 0 [] (aN.mk [] 0))) []
section
variable (Γ : Fun) (γ153 : Gm (aA)) (Λ2 J : Lam)
def atK : aP := aY (aQ Γ) 153 bW γ153
theorem aGo (p0 : aD) : bF SE (atK Γ γ153) Λ2 J 147 [aD.av p0] [] [] =
 γ153 [aA.av p0.Message] [] [] fun r0 =>
 (some (.ret [.agg [.d (.int .i64 3), .d (.int .i64 p0.ID), .d (.bool false), .d (.str r0.Topic), .d (.str r0.Payload), .d (.int .i64 r0.Level), .d (.bool r0.Retain), .d (.int .i64 r0.Priority), .d (.int .i64 r0.Expires), .d (.str r0.From), .d (.int .i64 r0.Seq), .row 0, .d (.str []), .d (.str []), .d (.bool false), .d (.int .i64 0), .d (.int .i64 0), .d (.int .i64 0), .d (.bool false), .d (.int .i64 0), .d (.str []), .d (.str []), .d (.int .i64 0), .d (.bool false), .d (.int .i64 0), .d (.int .i64 0), .d (.str []), .d (.int .i64 0), .row 1, .d (.bool false), .d (.int .i64 0), .row 2, .row 3, .row 4]] [] [⟨aG.ks, 130, 32, (List.map aG.enc r0.Props)⟩, ⟨aG.ks, 130, 32, (List.map aG.enc [])⟩, ⟨aF.ks, 60, 32, (List.map aF.enc [])⟩, ⟨[.str], 9, 16, (List.map bL [])⟩, ⟨[.int .i64], 3, 8, (List.map eI [])⟩])) := by kernel_rfl
end
abbrev ays : aP := atK gG (cT 153 bW)
theorem aCU : ays = aQ gG := by unfold ays atK; rw [bB fun _ h => h]
theorem aaI (p0 : aD) : Le (Option.map bU (nK p0)) (bA SE 147 [aD.av p0] [] []) := by
 refine aV aCU rfl ?_
 refine Le.trans ?_ (le_of_eq (aGo ..).symm)
 unfold nK
 refine lQ eX dB (wD _) fun r0 _ => ?_
 exact aJ rfl
section
variable (Γ : Fun) (γ156 γ141 : Gm (Int)) (γ157 : Gm (Int × aN × Int)) (γ110 : Gm (aI)) (γ153 : Gm (aA)) (γ147 : Gm (aC)) (Λ2 J : Lam)
def atb : aP := aY (aY (aY (aY (aY (aY (aQ Γ) 156 aH γ156) 141 aH γ141) 157 eZ γ157) 110 bX γ110) 153 bW γ153) 147 bU γ147
theorem aFp (p0 : aI) (p1 : aA) : bF SE (atb Γ γ156 γ141 γ157 γ110 γ153 γ147) Λ2 J 114 [aI.av p0, aA.av p1] [] [] =
 cond (p1.Level == 0) (
 (some (.ret [.agg [.d (.int .i64 0), .row 0, .row 1, .d (.int .i64 0)], .agg [.d (.int .i64 0), .d (.int .i64 0), .d (.bool false), .d (.str []), .d (.str []), .d (.int .i64 0), .d (.bool false), .d (.int .i64 0), .d (.int .i64 0), .d (.str []), .d (.int .i64 0), .row 2, .d (.str []), .d (.str []), .d (.bool false), .d (.int .i64 0), .d (.int .i64 0), .d (.int .i64 0), .d (.bool false), .d (.int .i64 0), .d (.str []), .d (.str []), .d (.int .i64 0), .d (.bool false), .d (.int .i64 0), .d (.int .i64 0), .d (.str []), .d (.int .i64 0), .row 3, .d (.bool false), .d (.int .i64 0), .row 4, .row 5, .row 6], .d (.int .i64 14)] [] [⟨aD.ks, 122, 128, (List.map aD.enc [])⟩, ⟨[.int .i64], 3, 8, (List.map eI [])⟩, ⟨aG.ks, 130, 32, (List.map aG.enc [])⟩, ⟨aG.ks, 130, 32, (List.map aG.enc [])⟩, ⟨aF.ks, 60, 32, (List.map aF.enc [])⟩, ⟨[.str], 9, 16, (List.map bL [])⟩, ⟨[.int .i64], 3, 8, (List.map eI [])⟩]))) (
 γ156 [aI.av p0] [] [] fun r0 =>
 cond (r0 == 0) (
 (some (.ret [.agg [.d (.int .i64 0), .row 0, .row 1, .d (.int .i64 0)], .agg [.d (.int .i64 0), .d (.int .i64 0), .d (.bool false), .d (.str []), .d (.str []), .d (.int .i64 0), .d (.bool false), .d (.int .i64 0), .d (.int .i64 0), .d (.str []), .d (.int .i64 0), .row 2, .d (.str []), .d (.str []), .d (.bool false), .d (.int .i64 0), .d (.int .i64 0), .d (.int .i64 0), .d (.bool false), .d (.int .i64 0), .d (.str []), .d (.str []), .d (.int .i64 0), .d (.bool false), .d (.int .i64 0), .d (.int .i64 0), .d (.str []), .d (.int .i64 0), .row 3, .d (.bool false), .d (.int .i64 0), .row 4, .row 5, .row 6], .d (.int .i64 6)] [] [⟨aD.ks, 122, 128, (List.map aD.enc [])⟩, ⟨[.int .i64], 3, 8, (List.map eI [])⟩, ⟨aG.ks, 130, 32, (List.map aG.enc [])⟩, ⟨aG.ks, 130, 32, (List.map aG.enc [])⟩, ⟨aF.ks, 60, 32, (List.map aF.enc [])⟩, ⟨[.str], 9, 16, (List.map bL [])⟩, ⟨[.int .i64], 3, 8, (List.map eI [])⟩]))) (
 γ141 [aA.av p1] [] [] fun r1 =>
 cond (r1 != 0) (
 (some (.ret [.agg [.d (.int .i64 0), .row 0, .row 1, .d (.int .i64 0)], .agg [.d (.int .i64 0), .d (.int .i64 0), .d (.bool false), .d (.str []), .d (.str []), .d (.int .i64 0), .d (.bool false), .d (.int .i64 0), .d (.int .i64 0), .d (.str []), .d (.int .i64 0), .row 2, .d (.str []), .d (.str []), .d (.bool false), .d (.int .i64 0), .d (.int .i64 0), .d (.int .i64 0), .d (.bool false), .d (.int .i64 0), .d (.str []), .d (.str []), .d (.int .i64 0), .d (.bool false), .d (.int .i64 0), .d (.int .i64 0), .d (.str []), .d (.int .i64 0), .row 3, .d (.bool false), .d (.int .i64 0), .row 4, .row 5, .row 6], .d (.int .i64 r1)] [] [⟨aD.ks, 122, 128, (List.map aD.enc [])⟩, ⟨[.int .i64], 3, 8, (List.map eI [])⟩, ⟨aG.ks, 130, 32, (List.map aG.enc [])⟩, ⟨aG.ks, 130, 32, (List.map aG.enc [])⟩, ⟨aF.ks, 60, 32, (List.map aF.enc [])⟩, ⟨[.str], 9, 16, (List.map bL [])⟩, ⟨[.int .i64], 3, 8, (List.map eI [])⟩]))) (
 γ157 [aN.av p0.Pool] [] [] fun r2 =>
 cond (r2.2.2 != 0) (
 (some (.ret [.agg [.d (.int .i64 0), .row 0, .row 1, .d (.int .i64 0)], .agg [.d (.int .i64 0), .d (.int .i64 0), .d (.bool false), .d (.str []), .d (.str []), .d (.int .i64 0), .d (.bool false), .d (.int .i64 0), .d (.int .i64 0), .d (.str []), .d (.int .i64 0), .row 2, .d (.str []), .d (.str []), .d (.bool false), .d (.int .i64 0), .d (.int .i64 0), .d (.int .i64 0), .d (.bool false), .d (.int .i64 0), .d (.str []), .d (.str []), .d (.int .i64 0), .d (.bool false), .d (.int .i64 0), .d (.int .i64 0), .d (.str []), .d (.int .i64 0), .row 3, .d (.bool false), .d (.int .i64 0), .row 4, .row 5, .row 6], .d (.int .i64 r2.2.2)] [] [⟨aD.ks, 122, 128, (List.map aD.enc [])⟩, ⟨[.int .i64], 3, 8, (List.map eI [])⟩, ⟨aG.ks, 130, 32, (List.map aG.enc [])⟩, ⟨aG.ks, 130, 32, (List.map aG.enc [])⟩, ⟨aF.ks, 60, 32, (List.map aF.enc [])⟩, ⟨[.str], 9, 16, (List.map bL [])⟩, ⟨[.int .i64], 3, 8, (List.map eI [])⟩]))) (
 γ110 [aI.av p0] [] [] fun r3 =>
 γ153 [aA.av p1] [] [] fun r4 =>
 cond (decide ((lM aD.enc r3.Items + lM aD.enc [(aD.mk r2.1 1 r4)]) * 128 ≤ 140737488355328)) (
 γ147 [aD.av (aD.mk r2.1 1 r4)] [] [] fun r5 =>
 (some (.ret [.agg [.d (.int .i64 r3.Limit), .row 0, .row 1, .d (.int .i64 r2.2.1.Last)], .agg [.d (.int .i64 r5.Kind), .d (.int .i64 r5.ID), .d (.bool r5.Dup), .d (.str r5.Message.Topic), .d (.str r5.Message.Payload), .d (.int .i64 r5.Message.Level), .d (.bool r5.Message.Retain), .d (.int .i64 r5.Message.Priority), .d (.int .i64 r5.Message.Expires), .d (.str r5.Message.From), .d (.int .i64 r5.Message.Seq), .row 2, .d (.str r5.Client), .d (.str r5.User), .d (.bool r5.Clean), .d (.int .i64 r5.Keep), .d (.int .i64 r5.Expiry), .d (.int .i64 r5.Window), .d (.bool r5.Will.Set), .d (.int .i64 r5.Will.Delay), .d (.str r5.Will.Message.Topic), .d (.str r5.Will.Message.Payload), .d (.int .i64 r5.Will.Message.Level), .d (.bool r5.Will.Message.Retain), .d (.int .i64 r5.Will.Message.Priority), .d (.int .i64 r5.Will.Message.Expires), .d (.str r5.Will.Message.From), .d (.int .i64 r5.Will.Message.Seq), .row 3, .d (.bool r5.Present), .d (.int .i64 r5.Code), .row 4, .row 5, .row 6], .d (.int .i64 0)] [] [⟨aD.ks, 122, 128, ((List.map aD.enc r3.Items) ++ (List.map aD.enc [(aD.mk r2.1 1 r4)]))⟩, ⟨[.int .i64], 3, 8, (List.map eI r2.2.1.Used)⟩, ⟨aG.ks, 130, 32, (List.map aG.enc r5.Message.Props)⟩, ⟨aG.ks, 130, 32, (List.map aG.enc r5.Will.Message.Props)⟩, ⟨aF.ks, 60, 32, (List.map aF.enc r5.Subs)⟩, ⟨[.str], 9, 16, (List.map bL r5.Filters)⟩, ⟨[.int .i64], 3, 8, (List.map eI r5.Codes)⟩]))) none)))) := by kernel_rfl
end
abbrev axO : aP := atb gG (cT 156 aH) (cT 141 aH) (cT 157 eZ) (cT 110 bX) (cT 153 bW) (cT 147 bU)
theorem aC9 : axO = aQ gG := by unfold axO atb; repeat rw [bB fun _ h => h]
theorem aiR (p0 : aI) (p1 : aA) : Le (Option.map jH (nL p0 p1)) (bA SE 114 [aI.av p0, aA.av p1] [] []) := by
 refine aV aC9 rfl ?_
 refine Le.trans ?_ (le_of_eq (aFp ..).symm)
 unfold nL
 refine lC ?_ ?_
 ·exact aJ rfl
 ·refine lQ eX aS (ajl _) fun r0 _ => ?_
  refine lC ?_ ?_
  ·exact aJ rfl
  ·refine lQ eX aS (uJ _) fun r1 _ => ?_
   refine lC ?_ ?_
   ·exact aJ rfl
   ·refine lQ eX aeW (amE _) fun r2 _ => ?_
    refine lC ?_ ?_
    ·exact aJ rfl
    ·refine lQ eX fE (mQ _) fun r3 _ => ?_
     refine lQ eX dB (wD _) fun r4 _ => ?_
     refine lG (by simp only [EN]) ?_
     refine lQ eX eO (aaI _) fun r5 _ => ?_
     exact aJ (by first | rfl | simp only [EN, jH] <;> rfl)
def akf (C : aP) (Λ2 J : Lam) (a0 : Int) (a1 a2 : List D) (a3 : List (List D)) : Res := lab SE C Λ2 J 61 0 [1, 0, 0] (aW [(1, .d (.int .i64 a0)), (2, .row 3002), (3, .ptr 1000000000 0), (6, .ptr 1000000001 0)] [⟨38, (List.map AV.d a1)⟩, ⟨38, (List.map AV.d a2)⟩] [] [] [(3002, ⟨aC.ks, 49, 416, a3⟩)])
section
variable (Γ : Fun) (γ113 : Gm (Bool)) (γ51 : Gm (aB)) (γ80 : Gm (aA)) (γ114 : Gm (aI × aC × Int)) (Λ2 J : Lam)
def C61 : aP := aY (aY (aY (aY (aQ Γ) 113 aE γ113) 51 bR γ51) 80 bW γ80) 114 jH γ114
theorem T61 (p0 : aB) (p1 : Int) (p2 : List aC) : bF SE (C61 Γ γ113 γ51 γ80 γ114) Λ2 J 61 [aB.av p0, .d (.int .i64 p1), .row 2000000000] [] [⟨aC.ks, 49, 416, (List.map aC.enc p2)⟩] =
 akf (C61 Γ γ113 γ51 γ80 γ114) Λ2 J p1 (aB.enc p0) [D.str [], D.str [], D.bool false, D.int .i64 0, D.int .i64 0, D.int .i64 0, D.int .i64 0, D.sl aF.ks (List.map aF.enc []), D.sl aA.ks (List.map aA.enc []), D.int .i64 0, D.sl aD.ks (List.map aD.enc []), D.sl [.int .i64] (List.map eI []), D.int .i64 0, D.sl [.int .i64] (List.map eI []), D.bool false, D.int .i64 0, D.str [], D.str [], D.int .i64 0, D.bool false, D.int .i64 0, D.int .i64 0, D.str [], D.int .i64 0, D.sl aG.ks (List.map aG.enc [])] (List.map aC.enc p2) := by kernel_rfl
theorem aDv (x1 : Int) (b0 b1 : aB) (w3002 : List aC) : bT SE (C61 Γ γ113 γ51 γ80 γ114) Λ2 J 61 0 [1, 0, 0] (aW [(1, .d (.int .i64 x1)), (2, .row 3002), (3, .ptr 1000000000 0), (6, .ptr 1000000001 0)] [⟨38, (List.map AV.d (aB.enc b0))⟩, ⟨38, (List.map AV.d (aB.enc b1))⟩] [] [] [(3002, ⟨aC.ks, 49, 416, (List.map aC.enc w3002)⟩)]) =
 cond (decide ((lM aA.enc b0.Queue : Int) > 0)) (
 cond (decide (0 ≤ 0) && decide (0 < (lM aA.enc b0.Queue : Int))) (
  γ113 [.agg [.d (.str (bC (cE aA.enc b0.Queue 0 0))), .d (.str (bC (cE aA.enc b0.Queue 0 1))), .d (.int .i64 (aR (cE aA.enc b0.Queue 0 2))), .d (.bool (bM (cE aA.enc b0.Queue 0 3))), .d (.int .i64 (aR (cE aA.enc b0.Queue 0 4))), .d (.int .i64 (aR (cE aA.enc b0.Queue 0 5))), .d (.str (bC (cE aA.enc b0.Queue 0 6))), .d (.int .i64 (aR (cE aA.enc b0.Queue 0 7))), .d (.sl aG.ks (dSl (cE aA.enc b0.Queue 0 8)))], .d (.int .i64 x1)] [] [] fun r0 =>
  cond r0 (
  γ51 [aB.av b0, .d (.int .i64 1)] [] [] fun r1 =>
  cond (decide (0 ≤ 1) && decide (1 ≤ ((lM aA.enc r1.Queue) : Int))) (
   akf (C61 Γ γ113 γ51 γ80 γ114) Λ2 J x1 [D.str r1.Client, D.str r1.User, D.bool r1.Online, D.int .i64 r1.Conn, D.int .i64 r1.Expiry, D.int .i64 r1.Until, D.int .i64 r1.Dropped, D.sl aF.ks (List.map aF.enc r1.Subs), D.sl aA.ks (bQ (List.map aA.enc r1.Queue) (some 1) none), D.int .i64 r1.Out.Limit, D.sl aD.ks (List.map aD.enc r1.Out.Items), D.sl [.int .i64] (List.map eI r1.Out.Pool.Used), D.int .i64 r1.Out.Pool.Last, D.sl [.int .i64] (List.map eI r1.In.IDs), D.bool r1.Will.Set, D.int .i64 r1.Will.Delay, D.str r1.Will.Message.Topic, D.str r1.Will.Message.Payload, D.int .i64 r1.Will.Message.Level, D.bool r1.Will.Message.Retain, D.int .i64 r1.Will.Message.Priority, D.int .i64 r1.Will.Message.Expires, D.str r1.Will.Message.From, D.int .i64 r1.Will.Message.Seq, D.sl aG.ks (List.map aG.enc r1.Will.Message.Props)] (aB.enc b1) (List.map aC.enc w3002)) none) (
  cond ((aR (cE aA.enc b0.Queue 0 2)) == 0) (
  γ80 [.agg [.d (.str (bC (cE aA.enc b0.Queue 0 0))), .d (.str (bC (cE aA.enc b0.Queue 0 1))), .d (.int .i64 (aR (cE aA.enc b0.Queue 0 2))), .d (.bool (bM (cE aA.enc b0.Queue 0 3))), .d (.int .i64 (aR (cE aA.enc b0.Queue 0 4))), .d (.int .i64 (aR (cE aA.enc b0.Queue 0 5))), .d (.str (bC (cE aA.enc b0.Queue 0 6))), .d (.int .i64 (aR (cE aA.enc b0.Queue 0 7))), .d (.sl aG.ks (dSl (cE aA.enc b0.Queue 0 8)))]] [] [] fun r2 =>
  cond (decide ((lM aC.enc w3002 + List.length [[D.int .i64 3, D.int .i64 0, D.bool false, D.str r2.Topic, D.str r2.Payload, D.int .i64 r2.Level, D.bool r2.Retain, D.int .i64 r2.Priority, D.int .i64 r2.Expires, D.str r2.From, D.int .i64 r2.Seq, D.sl aG.ks (List.map aG.enc r2.Props), D.str [], D.str [], D.bool false, D.int .i64 0, D.int .i64 0, D.int .i64 0, D.bool false, D.int .i64 0, D.str [], D.str [], D.int .i64 0, D.bool false, D.int .i64 0, D.int .i64 0, D.str [], D.int .i64 0, D.sl aG.ks (List.map aG.enc []), D.bool false, D.int .i64 0, D.sl aF.ks (List.map aF.enc []), D.sl [.str] (List.map bL []), D.sl [.int .i64] (List.map eI [])]]) * 416 ≤ 140737488355328)) (
   cond (decide (0 ≤ 1) && decide (1 ≤ ((lM aA.enc b0.Queue) : Int))) (
   akf (C61 Γ γ113 γ51 γ80 γ114) Λ2 J x1 [D.str b0.Client, D.str b0.User, D.bool b0.Online, D.int .i64 b0.Conn, D.int .i64 b0.Expiry, D.int .i64 b0.Until, D.int .i64 b0.Dropped, D.sl aF.ks (List.map aF.enc b0.Subs), D.sl aA.ks (bQ (List.map aA.enc b0.Queue) (some 1) none), D.int .i64 b0.Out.Limit, D.sl aD.ks (List.map aD.enc b0.Out.Items), D.sl [.int .i64] (List.map eI b0.Out.Pool.Used), D.int .i64 b0.Out.Pool.Last, D.sl [.int .i64] (List.map eI b0.In.IDs), D.bool b0.Will.Set, D.int .i64 b0.Will.Delay, D.str b0.Will.Message.Topic, D.str b0.Will.Message.Payload, D.int .i64 b0.Will.Message.Level, D.bool b0.Will.Message.Retain, D.int .i64 b0.Will.Message.Priority, D.int .i64 b0.Will.Message.Expires, D.str b0.Will.Message.From, D.int .i64 b0.Will.Message.Seq, D.sl aG.ks (List.map aG.enc b0.Will.Message.Props)] (aB.enc b1) (((List.map aC.enc w3002) ++ [[D.int .i64 3, D.int .i64 0, D.bool false, D.str r2.Topic, D.str r2.Payload, D.int .i64 r2.Level, D.bool r2.Retain, D.int .i64 r2.Priority, D.int .i64 r2.Expires, D.str r2.From, D.int .i64 r2.Seq, D.sl aG.ks (List.map aG.enc r2.Props), D.str [], D.str [], D.bool false, D.int .i64 0, D.int .i64 0, D.int .i64 0, D.bool false, D.int .i64 0, D.str [], D.str [], D.int .i64 0, D.bool false, D.int .i64 0, D.int .i64 0, D.str [], D.int .i64 0, D.sl aG.ks (List.map aG.enc []), D.bool false, D.int .i64 0, D.sl aF.ks (List.map aF.enc []), D.sl [.str] (List.map bL []), D.sl [.int .i64] (List.map eI [])]]))) none) none) (
  γ114 [aI.av b0.Out, .agg [.d (.str (bC (cE aA.enc b0.Queue 0 0))), .d (.str (bC (cE aA.enc b0.Queue 0 1))), .d (.int .i64 (aR (cE aA.enc b0.Queue 0 2))), .d (.bool (bM (cE aA.enc b0.Queue 0 3))), .d (.int .i64 (aR (cE aA.enc b0.Queue 0 4))), .d (.int .i64 (aR (cE aA.enc b0.Queue 0 5))), .d (.str (bC (cE aA.enc b0.Queue 0 6))), .d (.int .i64 (aR (cE aA.enc b0.Queue 0 7))), .d (.sl aG.ks (dSl (cE aA.enc b0.Queue 0 8)))]] [] [] fun r3 =>
  cond (r3.2.2 != 0) (
  (some (.ret [aB.av b0, .row 0] [] [⟨aC.ks, 49, 416, (List.map aC.enc w3002)⟩]))) (
  cond (decide ((lM aC.enc w3002 + lM aC.enc [r3.2.1]) * 416 ≤ 140737488355328)) (
  cond (decide (0 ≤ 1) && decide (1 ≤ ((lM aA.enc b0.Queue) : Int))) (
   akf (C61 Γ γ113 γ51 γ80 γ114) Λ2 J x1 [D.str b0.Client, D.str b0.User, D.bool b0.Online, D.int .i64 b0.Conn, D.int .i64 b0.Expiry, D.int .i64 b0.Until, D.int .i64 b0.Dropped, D.sl aF.ks (List.map aF.enc b0.Subs), D.sl aA.ks (bQ (List.map aA.enc b0.Queue) (some 1) none), D.int .i64 r3.1.Limit, D.sl aD.ks (List.map aD.enc r3.1.Items), D.sl [.int .i64] (List.map eI r3.1.Pool.Used), D.int .i64 r3.1.Pool.Last, D.sl [.int .i64] (List.map eI b0.In.IDs), D.bool b0.Will.Set, D.int .i64 b0.Will.Delay, D.str b0.Will.Message.Topic, D.str b0.Will.Message.Payload, D.int .i64 b0.Will.Message.Level, D.bool b0.Will.Message.Retain, D.int .i64 b0.Will.Message.Priority, D.int .i64 b0.Will.Message.Expires, D.str b0.Will.Message.From, D.int .i64 b0.Will.Message.Seq, D.sl aG.ks (List.map aG.enc b0.Will.Message.Props)] (aB.enc b1) (((List.map aC.enc w3002) ++ (List.map aC.enc [r3.2.1])))) none) none)))) none) (
 (some (.ret [aB.av b0, .row 0] [] [⟨aC.ks, 49, 416, (List.map aC.enc w3002)⟩]))) := by kernel_rfl
end
abbrev X61 : aP := C61 gG (cT 113 aE) (cT 51 bR) (cT 80 bW) (cT 114 jH)
theorem azg : X61 = aQ gG := by unfold X61 C61; repeat rw [bB fun _ h => h]
abbrev aB4 := akf X61 (bP SE gG (SE.hl 61) (SE.hr 61)) (J0 SE X61)
theorem aif : ∀ (fu : Nat) (x1 : Int) (b0 b1 : aB) (w3002 : List aC), Le (Option.map bK (eE fu x1 b0 b1 w3002)) (aB4 x1 (aB.enc b0) (aB.enc b1) (List.map aC.enc w3002)) := by
 intro fu
 induction fu with
 | zero => intros; exact le_none
 | succ fu ih =>
  intro x1 b0 b1 w3002
  refine Le.trans ?_ (le_of_eq ((aZ azg).trans (aDv ..)).symm)
  unfold eE
  refine lD (by simp only [EN]) ?_ ?_
  ·refine lG (by simp only [EN]) ?_
   refine lQ eX aL (by (try simp only [EN]); exact ah5 (List.getD b0.Queue (Int.toNat 0) default) x1) fun r0 _ => ?_
   refine lC ?_ ?_
   ·refine lQ eX dK (sI _ _) fun r1 _ => ?_
    refine lG (by simp only [EN]) ?_
    (try simp only [EN]); exact ih x1 (aB.mk r1.Client r1.User r1.Online r1.Conn r1.Expiry r1.Until r1.Dropped r1.Subs (bQ r1.Queue (some 1) none) r1.Out r1.In r1.Will) b1 w3002
   ·refine lD (by simp only [EN]) ?_ ?_
    ·refine lQ eX dB (by (try simp only [EN]); exact mP (List.getD b0.Queue (Int.toNat 0) default)) fun r2 _ => ?_
     refine lG (by simp only [EN]) ?_
     refine lG (by simp only [EN]) ?_
     (try simp only [EN]); exact ih x1 (aB.mk b0.Client b0.User b0.Online b0.Conn b0.Expiry b0.Until b0.Dropped b0.Subs (bQ b0.Queue (some 1) none) b0.Out b0.In b0.Will) b1 ((w3002 ++ [(aC.mk 3 0 false r2 [] [] false 0 0 0 (aT.mk false 0 (aA.mk [] [] 0 false 0 0 [] 0 [])) false 0 [] [] [])]))
    ·refine lQ eX ahM (by (try simp only [EN]); exact aiR b0.Out (List.getD b0.Queue (Int.toNat 0) default)) fun r3 _ => ?_
     refine lC ?_ ?_
     ·exact aJ rfl
     ·refine lG (by simp only [EN]) ?_
      refine lG (by simp only [EN]) ?_
      (try simp only [EN]); exact ih x1 (aB.mk b0.Client b0.User b0.Online b0.Conn b0.Expiry b0.Until b0.Dropped b0.Subs (bQ b0.Queue (some 1) none) r3.1 b0.In b0.Will) b1 (w3002 ++ [r3.2.1])
  ·exact aJ rfl
theorem aad (p0 : aB) (p1 : Int) (p2 : List aC) : Le (Option.map bK (hR p0 p1 p2)) (bA SE 61 [aB.av p0, .d (.int .i64 p1), .row 2000000000] [] [⟨aC.ks, 49, 416, (List.map aC.enc p2)⟩]) := by
 refine aV azg rfl ?_
 refine Le.trans ?_ (le_of_eq (T61 ..).symm)
 unfold hR
 (try simp only [EN]); exact aif fuel p1 p0 ((aB.mk [] [] false 0 0 0 0 [] [] (aI.mk 0 [] (aN.mk [] 0)) (bE.mk []) (aT.mk false 0 (aA.mk [] [] 0 false 0 0 [] 0 [])))) p2
section
variable (Γ : Fun) (γ50 : Gm (aB)) (γ61 : Gm (aB × (List aC))) (Λ2 J : Lam)
def C34 : aP := aY (aY (aQ Γ) 50 cB γ50) 61 bK γ61
theorem T34 (p0 : aB) (p1 : Int) : bF SE (C34 Γ γ50 γ61) Λ2 J 34 [aB.av p0, .d (.int .i64 p1)] [] [] =
 cond (!p0.Online) (
 γ50 [aB.av p0] [] [] fun r0 =>
 (some (.ret [aB.av r0, .row 0] [] [⟨aC.ks, 49, 416, []⟩]))) (
 γ50 [aB.av p0] [] [] fun r1 =>
 γ61 [aB.av r1, .d (.int .i64 p1), .row 2000000000] [] [⟨aC.ks, 49, 416, (List.map aC.enc [])⟩] fun r2 =>
 (some (.ret [aB.av r2.1, .row 0] [] [⟨aC.ks, 49, 416, (List.map aC.enc r2.2)⟩]))) := by kernel_rfl
end
abbrev X34 : aP := C34 gG (cT 50 cB) (cT 61 bK)
theorem aGe : X34 = aQ gG := by unfold X34 C34; repeat rw [bB fun _ h => h]
theorem zM (p0 : aB) (p1 : Int) : Le (Option.map bK (lZ p0 p1)) (bA SE 34 [aB.av p0, .d (.int .i64 p1)] [] []) := by
 refine aV aGe rfl ?_
 refine Le.trans ?_ (le_of_eq (T34 ..).symm)
 unfold lZ
 refine lC ?_ ?_
 ·refine lQ eX gB (jI _) fun r0 _ => ?_
  exact aJ rfl
 ·refine lQ eX gB (jI _) fun r1 _ => ?_
  refine lQ eX dX (by (try simp only [EN]); exact aad r1 p1 []) fun r2 _ => ?_
  exact aJ rfl
section
variable (Γ : Fun)  (Λ2 J : Lam)
def ay4 : aP := aQ Γ
theorem aDZ (p0 : aD) (p1 : Int) : bF SE (ay4 Γ) Λ2 J 152 [aD.av p0, .ptr 2000000000 0] [⟨3, [.d (.int .i64 p1)]⟩] [] =
 (some (.ret [.d (.bool (p0.ID == p1))] [⟨3, [.d (.int .i64 p1)]⟩] [])) := by kernel_rfl
end
abbrev aFF : aP := ay4 gG
theorem aDs : aFF = aQ gG := rfl
theorem ahh (p0 : aD) (p1 : Int) : Le (Option.map kA (vX p0 p1)) (bA SE 152 [aD.av p0, .ptr 2000000000 0] [⟨3, [.d (.int .i64 p1)]⟩] []) := by
 refine aV aDs rfl ?_
 refine Le.trans ?_ (le_of_eq (aDZ ..).symm)
 unfold vX
 exact aJ rfl
def aoA (C : aP) (Λ2 J : Lam) (a0 : List (List D)) (a1 a2 a3 : Int) : Res := lab SE C Λ2 J 151 1 [1, 0, 1, 0] (aW [(0, .d (.sl aD.ks a0)), (1, .fn 152 [] [.ptr 2000000000 0]), (7, .d (.int .i64 a1)), (8, .d (.int .i64 a2))] [] [⟨3, [.d (.int .i64 a3)]⟩] [] [])
section
variable (Γ : Fun) (γ152 : Gm (Bool × Int)) (Λ2 J : Lam)
def alD : aP := aY (aQ Γ) 152 kA γ152
theorem aGh (p0 : List aD) (p1_0 : Int) : bF SE (alD Γ γ152) Λ2 J 151 [.d (.sl aD.ks (List.map aD.enc p0)), .fn 152 [] [.ptr 2000000000 0]] [⟨3, [.d (.int .i64 p1_0)]⟩] [] =
 aoA (alD Γ γ152) Λ2 J (List.map aD.enc p0) (lM aD.enc p0 : Int) 0 p1_0 := by kernel_rfl
theorem axz (x0 : List aD) (x7 x8 q0_0 : Int) : bT SE (alD Γ γ152) Λ2 J 151 1 [1, 0, 1, 0] (aW [(0, .d (.sl aD.ks (List.map aD.enc x0))), (1, .fn 152 [] [.ptr 2000000000 0]), (7, .d (.int .i64 x7)), (8, .d (.int .i64 x8))] [] [⟨3, [.d (.int .i64 q0_0)]⟩] [] []) =
 cond (decide (x8 < x7)) (
 cond (iB x8 (lM aD.enc x0 : Int)) (
  γ152 [.agg [.d (.int .i64 (aR (cE aD.enc x0 x8 0))), .d (.int .i64 (aR (cE aD.enc x0 x8 1))), .d (.str (bC (cE aD.enc x0 x8 2))), .d (.str (bC (cE aD.enc x0 x8 3))), .d (.int .i64 (aR (cE aD.enc x0 x8 4))), .d (.bool (bM (cE aD.enc x0 x8 5))), .d (.int .i64 (aR (cE aD.enc x0 x8 6))), .d (.int .i64 (aR (cE aD.enc x0 x8 7))), .d (.str (bC (cE aD.enc x0 x8 8))), .d (.int .i64 (aR (cE aD.enc x0 x8 9))), .d (.sl aG.ks (dSl (cE aD.enc x0 x8 10)))], .ptr 2000000000 0] [⟨3, [.d (.int .i64 q0_0)]⟩] [] fun r0 =>
  cond r0.1 (
  (some (.ret [.d (.int .i64 x8)] [⟨3, [.d (.int .i64 r0.2)]⟩] []))) (
  aoA (alD Γ γ152) Λ2 J (List.map aD.enc x0) x7 (w6 (x8 + 1)) r0.2)) none) (
 (some (.ret [.d (.int .i64 (-1))] [⟨3, [.d (.int .i64 q0_0)]⟩] []))) := by kernel_rfl
end
abbrev arL : aP := alD gG (cT 152 kA)
theorem avi : arL = aQ gG := by unfold arL alD; rw [bB fun _ h => h]
abbrev axn := aoA arL (bP SE gG (SE.hl 151) (SE.hr 151)) (J0 SE arL)
theorem rM : ∀ (fu : Nat) (x0 : List aD) (x7 x8 q0_0 : Int), Le (Option.map cK (cL fu x0 x7 x8 q0_0)) (axn (List.map aD.enc x0) x7 x8 q0_0) := by
 intro fu
 induction fu with
 | zero => intros; exact le_none
 | succ fu ih =>
  intro x0 x7 x8 q0_0
  refine Le.trans ?_ (le_of_eq ((aZ avi).trans (axz ..)).symm)
  unfold cL
  refine lC ?_ ?_
  ·refine lG (by simp only [EN]) ?_
   refine lQ eX agW (by (try simp only [EN]); exact ahh (List.getD x0 (Int.toNat x8) default) q0_0) fun r0 _ => ?_
   refine lC ?_ ?_
   ·exact aJ rfl
   ·exact ih x0 x7 (w6 (x8 + 1)) r0.2
  ·exact aJ rfl
theorem sU (p0 : List aD) (p1_0 : Int) : Le (Option.map cK (eM p0 p1_0)) (bA SE 151 [.d (.sl aD.ks (List.map aD.enc p0)), .fn 152 [] [.ptr 2000000000 0]] [⟨3, [.d (.int .i64 p1_0)]⟩] []) := by
 refine aV avi rfl ?_
 refine Le.trans ?_ (le_of_eq (aGh ..).symm)
 unfold eM
 (try simp only [EN]); exact rM fuel p0 (List.length p0 : Int) 0 p1_0
section
variable (Γ : Fun) (γ151 : Gm (Int × Int)) (Λ2 J : Lam)
def auL : aP := aY (aQ Γ) 151 cK γ151
theorem aD4 (p0 : List aD) (p1 : Int) : bF SE (auL Γ γ151) Λ2 J 109 [.d (.sl aD.ks (List.map aD.enc p0)), .d (.int .i64 p1)] [] [] =
 γ151 [.d (.sl aD.ks (List.map aD.enc p0)), .fn 152 [] [.ptr 2000000000 0]] [⟨3, [.d (.int .i64 p1)]⟩] [] fun r0 =>
 (rI r0.1) := by kernel_rfl
end
abbrev aAf : aP := auL gG (cT 151 cK)
theorem aCE : aAf = aQ gG := by unfold aAf auL; rw [bB fun _ h => h]
theorem ac6 (p0 : List aD) (p1 : Int) : Le (Option.map aH (rT p0 p1)) (bA SE 109 [.d (.sl aD.ks (List.map aD.enc p0)), .d (.int .i64 p1)] [] []) := by
 refine aV aCE rfl ?_
 refine Le.trans ?_ (le_of_eq (aD4 ..).symm)
 unfold rT
 refine lQ eX sB (sU _ _) fun r0 _ => ?_
 exact aJ rfl
theorem abk (p0 : List Int) (p1 p2 : Int) : Le (Option.map bI (qF p0 p1 p2)) (bA SE 176 [.row 2000000000, .d (.int .i64 p1), .d (.int .i64 p2)] [] [⟨[.int .i64], 3, 8, (List.map eI p0)⟩]) := ahU (f := 176) (enc := eI) rfl rfl p0 p1 p2
section
variable (Γ : Fun) (γ104 : Gm ((List Int))) (γ175 : Gm (Int × Bool)) (γ176 : Gm ((List Int))) (Λ2 J : Lam)
def atd : aP := aY (aY (aY (aQ Γ) 104 bI γ104) 175 aX γ175) 176 bI γ176
theorem aE0 (p0 : aN) (p1 : Int) : bF SE (atd Γ γ104 γ175 γ176) Λ2 J 154 [aN.av p0, .d (.int .i64 p1)] [] [] =
 γ104 [.d (.sl [.int .i64] (List.map eI p0.Used))] [] [] fun r0 =>
 γ175 [.d (.sl [.int .i64] (List.map eI r0)), .d (.int .i64 p1)] [] [] fun r1 =>
 cond r1.2 (
 γ176 [.row 2000000000, .d (.int .i64 r1.1), .d (.int .i64 (w6 (r1.1 + 1)))] [] [⟨[.int .i64], 3, 8, (List.map eI r0)⟩] fun r2 =>
 (some (.ret [.agg [.row 0, .d (.int .i64 p0.Last)], .d (.bool r1.2)] [] [⟨[.int .i64], 3, 8, (List.map eI r2)⟩]))) (
 (some (.ret [.agg [.row 0, .d (.int .i64 p0.Last)], .d (.bool r1.2)] [] [⟨[.int .i64], 3, 8, (List.map eI r0)⟩]))) := by kernel_rfl
end
abbrev aAt : aP := atd gG (cT 104 bI) (cT 175 aX) (cT 176 bI)
theorem aBc : aAt = aQ gG := by unfold aAt atd; repeat rw [bB fun _ h => h]
theorem amO (p0 : aN) (p1 : Int) : Le (Option.map fY (zT p0 p1)) (bA SE 154 [aN.av p0, .d (.int .i64 p1)] [] []) := by
 refine aV aBc rfl ?_
 refine Le.trans ?_ (le_of_eq (aE0 ..).symm)
 unfold zT
 refine lQ eX dN (hJ _) fun r0 _ => ?_
 refine lQ eX cG (kK _ _) fun r1 _ => ?_
 refine lC ?_ ?_
 ·refine lQ eX dN (abk _ _ _) fun r2 _ => ?_
  exact aJ rfl
 ·exact aJ rfl
theorem tX (p0 : List aD) (p1 p2 : Int) : Le (Option.map cX (iO p0 p1 p2)) (bA SE 155 [.row 2000000000, .d (.int .i64 p1), .d (.int .i64 p2)] [] [⟨aD.ks, 122, 128, (List.map aD.enc p0)⟩]) := ahU (f := 155) (enc := aD.enc) rfl rfl p0 p1 p2
section
variable (Γ : Fun) (γ154 : Gm (aN × Bool)) (γ110 : Gm (aI)) (γ155 : Gm ((List aD))) (Λ2 J : Lam)
def atn : aP := aY (aY (aY (aQ Γ) 154 fY γ154) 110 bX γ110) 155 cX γ155
theorem aDT (p0 : aI) (p1 : Int) : bF SE (atn Γ γ154 γ110 γ155) Λ2 J 111 [aI.av p0, .d (.int .i64 p1)] [] [] =
 cond (iB p1 (lM aD.enc p0.Items : Int)) (
 γ154 [aN.av p0.Pool, .d (.int .i64 (aR (cE aD.enc p0.Items p1 0)))] [] [] fun r0 =>
 γ110 [aI.av p0] [] [] fun r1 =>
 γ155 [.row 2000000000, .d (.int .i64 p1), .d (.int .i64 (w6 (p1 + 1)))] [] [⟨aD.ks, 122, 128, (List.map aD.enc r1.Items)⟩] fun r2 =>
 (some (.ret [.agg [.d (.int .i64 r1.Limit), .row 0, .row 1, .d (.int .i64 r0.1.Last)]] [] [⟨aD.ks, 122, 128, (List.map aD.enc r2)⟩, ⟨[.int .i64], 3, 8, (List.map eI r0.1.Used)⟩]))) none := by kernel_rfl
end
abbrev ayZ : aP := atn gG (cT 154 fY) (cT 110 bX) (cT 155 cX)
theorem aCM : ayZ = aQ gG := by unfold ayZ atn; repeat rw [bB fun _ h => h]
theorem abl (p0 : aI) (p1 : Int) : Le (Option.map bX (oM p0 p1)) (bA SE 111 [aI.av p0, .d (.int .i64 p1)] [] []) := by
 refine aV aCM rfl ?_
 refine Le.trans ?_ (le_of_eq (aDT ..).symm)
 unfold oM
 refine lG (by simp only [EN]) ?_
 refine lQ eX afy (by (try simp only [EN]); exact amO p0.Pool ((List.getD p0.Items (Int.toNat p1) default).ID)) fun r0 _ => ?_
 refine lQ eX fE (mQ _) fun r1 _ => ?_
 refine lQ eX tU (tX _ _ _) fun r2 _ => ?_
 exact aJ rfl
section
variable (Γ : Fun)  (Λ2 J : Lam)
def axg : aP := aQ Γ
theorem aEt (p0 : Int) : bF SE (axg Γ) Λ2 J 112 [.d (.int .i64 p0)] [] [] =
 (some (.ret [.agg [.d (.int .i64 6), .d (.int .i64 p0), .d (.bool false), .d (.str []), .d (.str []), .d (.int .i64 0), .d (.bool false), .d (.int .i64 0), .d (.int .i64 0), .d (.str []), .d (.int .i64 0), .row 0, .d (.str []), .d (.str []), .d (.bool false), .d (.int .i64 0), .d (.int .i64 0), .d (.int .i64 0), .d (.bool false), .d (.int .i64 0), .d (.str []), .d (.str []), .d (.int .i64 0), .d (.bool false), .d (.int .i64 0), .d (.int .i64 0), .d (.str []), .d (.int .i64 0), .row 1, .d (.bool false), .d (.int .i64 0), .row 2, .row 3, .row 4]] [] [⟨aG.ks, 130, 32, (List.map aG.enc [])⟩, ⟨aG.ks, 130, 32, (List.map aG.enc [])⟩, ⟨aF.ks, 60, 32, (List.map aF.enc [])⟩, ⟨[.str], 9, 16, (List.map bL [])⟩, ⟨[.int .i64], 3, 8, (List.map eI [])⟩])) := by kernel_rfl
end
abbrev aD8 : aP := axg gG
theorem aBL : aD8 = aQ gG := rfl
theorem wF (p0 : Int) : Le (Option.map bU (oO p0)) (bA SE 112 [.d (.int .i64 p0)] [] []) := by
 refine aV aBL rfl ?_
 refine Le.trans ?_ (le_of_eq (aEt ..).symm)
 unfold oO
 exact aJ rfl
end Te
end PX
