import Derived.Test.YtahbfpamckocmaaGreatDoorTab
set_option linter.unusedVariables false
set_option linter.unusedSimpArgs false
set_option maxRecDepth 100000
noncomputable section
namespace PX
open Go
open Md
namespace Te
abbrev cE {α : Type} (f : α → List D) (l : List α) (i : Int) (k : Nat) : D := cellAt (elemAt (List.map f l) (Int.toNat i)) k
abbrev lM {α : Type} (f : α → List D) (l : List α) : Nat := List.length (List.map f l)
abbrev iB (i n : Int) : Bool := decide (0 ≤ i) && decide (i < n)
abbrev w6 (x : Int) : Int := IntKind.wrap .i64 x
abbrev eI : Int → List D := encI .i64
abbrev rB (b : Bool) : Res := some (.ret [.d (.bool b)] [] [])
abbrev rI (n : Int) : Res := some (.ret [.d (.int .i64 n)] [] [])
theorem lQ {g : FuncId} {R S : Type} {out : R → Out} {e : S → Out} {x : Option R} {M : R → Option S} {a : List AV} {b : List Bx} {r : List Rw} {κ : R → Res} (hg : ∀ y, good g (out y)) (hi : ∀ y z, out y = out z → y = z) (h : Le (x.map out) (bA SE g a b r)) (hk : ∀ y, x = some y → Le ((M y).map e) (κ y)) : Le ((x.bind M).map e) (afo SE good g out a b r κ) := arn (good := good) hg hi h hk
section
variable (Γ : Fun)  (Λ2 J : Lam)
def C49 : aP := aR Γ
theorem T49 (p0 : List aD) : bL SE (C49 Γ) Λ2 J 49 [.d (.sl aD.ks (List.map aD.enc p0))] [] [] =
 cond (List.isEmpty (List.map aD.enc p0)) (
 yH (
  (some (.ret [.row 0] [] [⟨aD.ks, 104, 32, []⟩]))) (
  cond (decide ((lM aD.enc [] + lM aD.enc p0) * 32 ≤ 140737488355328)) (
  (some (.ret [.row 0] [] [⟨aD.ks, 104, 32, ((List.map aD.enc []) ++ (List.map aD.enc p0))⟩]))) none)) (
 cond (decide ((lM aD.enc [] + lM aD.enc p0) * 32 ≤ 140737488355328)) (
 (some (.ret [.row 0] [] [⟨aD.ks, 104, 32, ((List.map aD.enc []) ++ (List.map aD.enc p0))⟩]))) none) := by kernel_rfl
end
abbrev X49 : aP := C49 gG
theorem aw8 : X49 = aR gG := rfl
theorem mL (p0 : List aD) : Le (Option.map cM (eB p0)) (bA SE 49 [.d (.sl aD.ks (List.map aD.enc p0))] [] []) := by
 refine aX aw8 rfl ?_
 refine Le.trans ?_ (le_of_eq (T49 ..).symm)
 unfold eB
 refine lD (by simp only [EN]) ?_ ?_
 ·refine ah9 ?_ ?_
  ·exact aK rfl
  ·refine lG (by simp only [EN]) ?_
   exact aK rfl
 ·refine lG (by simp only [EN]) ?_
  exact aK rfl
section
variable (Γ : Fun) (γ49 : Gm ((List aD))) (Λ2 J : Lam)
def C14 : aP := aZ (aR Γ) 49 cM γ49
theorem T14 (p0 : aA) : bL SE (C14 Γ γ49) Λ2 J 14 [aA.av p0] [] [] =
 γ49 [.d (.sl aD.ks (List.map aD.enc p0.Props))] [] [] fun r0 =>
 (some (.ret [.agg [.d (.str p0.Topic), .d (.str p0.Payload), .d (.int .i64 p0.Level), .d (.bool p0.Retain), .d (.int .i64 p0.Priority), .d (.int .i64 p0.Expires), .d (.str p0.From), .d (.int .i64 p0.Seq), .row 0]] [] [⟨aD.ks, 104, 32, (List.map aD.enc r0)⟩])) := by kernel_rfl
end
abbrev X14 : aP := C14 gG (cT 49 cM)
theorem axQ : X14 = aR gG := by unfold X14 C14; rw [bB fun _ h => h]
theorem k9 (p0 : aA) : Le (Option.map bR (hY p0)) (bA SE 14 [aA.av p0] [] []) := by
 refine aX axQ rfl ?_
 refine Le.trans ?_ (le_of_eq (T14 ..).symm)
 unfold hY
 refine lQ eX mD (mL _) fun r0 _ => ?_
 exact aK rfl
section
variable (Γ : Fun)  (Λ2 J : Lam)
def C15 : aP := aR Γ
theorem T15 (p0 : Int) : bL SE (C15 Γ) Λ2 J 15 [.d (.int .i64 p0)] [] [] =
 cond (decide (p0 < 0)) (
 (some (.ret [.agg [.d (.int .i64 (if 32 < 0 then 32 else 0)), .row 0, .row 1, .d (.int .i64 0)]] [] [⟨aB.ks, 79, 128, (List.map aB.enc [])⟩, ⟨[.int .i64], 3, 8, (List.map eI [])⟩]))) (
 (some (.ret [.agg [.d (.int .i64 (if 32 < p0 then 32 else p0)), .row 0, .row 1, .d (.int .i64 0)]] [] [⟨aB.ks, 79, 128, (List.map aB.enc [])⟩, ⟨[.int .i64], 3, 8, (List.map eI [])⟩]))) := by kernel_rfl
end
abbrev X15 : aP := C15 gG
theorem axG : X15 = aR gG := rfl
theorem agQ (p0 : Int) : Le (Option.map cR (wB p0)) (bA SE 15 [.d (.int .i64 p0)] [] []) := by
 refine aX axG rfl ?_
 refine Le.trans ?_ (le_of_eq (T15 ..).symm)
 unfold wB
 refine lC ?_ ?_
 ·exact aK rfl
 ·exact aK rfl
section
variable (Γ : Fun) (γ14 : Gm (aA)) (γ15 : Gm (aH)) (Λ2 J : Lam)
def C4 : aP := aZ (aZ (aR Γ) 14 bR γ14) 15 cR γ15
theorem T4 (p0 : aF) (p1 : Int) : bL SE (C4 Γ γ14 γ15) Λ2 J 4 [aF.av p0, .d (.int .i64 p1)] [] [] =
 γ14 [aA.av p0.Will.Message] [] [] fun r0 =>
 γ15 [.d (.int .i64 p0.Window)] [] [] fun r1 =>
 (some (.ret [.agg [.d (.str p0.Client), .d (.str p0.User), .d (.bool true), .d (.int .i64 p1), .d (.int .i64 p0.Expiry), .d (.int .i64 0), .d (.int .i64 0), .row 0, .row 1, .d (.int .i64 r1.Limit), .row 2, .row 3, .d (.int .i64 r1.Pool.Last), .row 4, .d (.bool p0.Will.Set), .d (.int .i64 p0.Will.Delay), .d (.str r0.Topic), .d (.str r0.Payload), .d (.int .i64 r0.Level), .d (.bool r0.Retain), .d (.int .i64 r0.Priority), .d (.int .i64 r0.Expires), .d (.str r0.From), .d (.int .i64 r0.Seq), .row 5]] [] [⟨aG.ks, 73, 32, (List.map aG.enc [])⟩, ⟨aA.ks, 26, 112, (List.map aA.enc [])⟩, ⟨aB.ks, 79, 128, (List.map aB.enc r1.Items)⟩, ⟨[.int .i64], 3, 8, (List.map eI r1.Pool.Used)⟩, ⟨[.int .i64], 3, 8, (List.map eI [])⟩, ⟨aD.ks, 104, 32, (List.map aD.enc r0.Props)⟩])) := by kernel_rfl
end
abbrev X4 : aP := C4 gG (cT 14 bR) (cT 15 cR)
theorem Cr4 : X4 = aR gG := by unfold X4 C4; repeat rw [bB fun _ h => h]
theorem aiy (p0 : aF) (p1 : Int) : Le (Option.map cW (rY p0 p1)) (bA SE 4 [aF.av p0, .d (.int .i64 p1)] [] []) := by
 refine aX Cr4 rfl ?_
 refine Le.trans ?_ (le_of_eq (T4 ..).symm)
 unfold rY
 refine lQ eX dG (k9 _) fun r0 _ => ?_
 refine lQ eX gZ (agQ _) fun r1 _ => ?_
 exact aK rfl
section
variable (Γ : Fun)  (Λ2 J : Lam)
def C50 : aP := aR Γ
theorem T50 (p0 : List aG) : bL SE (C50 Γ) Λ2 J 50 [.d (.sl aG.ks (List.map aG.enc p0))] [] [] =
 cond (List.isEmpty (List.map aG.enc p0)) (
 yH (
  (some (.ret [.row 0] [] [⟨aG.ks, 73, 32, []⟩]))) (
  cond (decide ((lM aG.enc [] + lM aG.enc p0) * 32 ≤ 140737488355328)) (
  (some (.ret [.row 0] [] [⟨aG.ks, 73, 32, ((List.map aG.enc []) ++ (List.map aG.enc p0))⟩]))) none)) (
 cond (decide ((lM aG.enc [] + lM aG.enc p0) * 32 ≤ 140737488355328)) (
 (some (.ret [.row 0] [] [⟨aG.ks, 73, 32, ((List.map aG.enc []) ++ (List.map aG.enc p0))⟩]))) none) := by kernel_rfl
end
abbrev X50 : aP := C50 gG
theorem awA : X50 = aR gG := rfl
theorem uB (p0 : List aG) : Le (Option.map dS (fP p0)) (bA SE 50 [.d (.sl aG.ks (List.map aG.enc p0))] [] []) := by
 refine aX awA rfl ?_
 refine Le.trans ?_ (le_of_eq (T50 ..).symm)
 unfold fP
 refine lD (by simp only [EN]) ?_ ?_
 ·refine ah9 ?_ ?_
  ·exact aK rfl
  ·refine lG (by simp only [EN]) ?_
   exact aK rfl
 ·refine lG (by simp only [EN]) ?_
  exact aK rfl
section
variable (Γ : Fun)  (Λ2 J : Lam)
def C51 : aP := aR Γ
theorem T51 (p0 : List Int) : bL SE (C51 Γ) Λ2 J 51 [.d (.sl [.int .i64] (List.map eI p0))] [] [] =
 cond (List.isEmpty (List.map eI p0)) (
 yH (
  (some (.ret [.row 0] [] [⟨[.int .i64], 3, 8, []⟩]))) (
  cond (decide ((lM eI [] + lM eI p0) * 8 ≤ 140737488355328)) (
  (some (.ret [.row 0] [] [⟨[.int .i64], 3, 8, ((List.map eI []) ++ (List.map eI p0))⟩]))) none)) (
 cond (decide ((lM eI [] + lM eI p0) * 8 ≤ 140737488355328)) (
 (some (.ret [.row 0] [] [⟨[.int .i64], 3, 8, ((List.map eI []) ++ (List.map eI p0))⟩]))) none) := by kernel_rfl
end
abbrev X51 : aP := C51 gG
theorem axx : X51 = aR gG := rfl
theorem hR (p0 : List Int) : Le (Option.map bM (eC p0)) (bA SE 51 [.d (.sl [.int .i64] (List.map eI p0))] [] []) := by
 refine aX axx rfl ?_
 refine Le.trans ?_ (le_of_eq (T51 ..).symm)
 unfold eC
 refine lD (by simp only [EN]) ?_ ?_
 ·refine ah9 ?_ ?_
  ·exact aK rfl
  ·refine lG (by simp only [EN]) ?_
   exact aK rfl
 ·refine lG (by simp only [EN]) ?_
  exact aK rfl
def ak8 (C : aP) (Λ2 J : Lam) (a0 : List (List D)) (a1 a2 : Int) (a3 a4 : Str) (a5 : Bool) (a6 a7 a8 a9 a10 : Int) (a11 a12 : List (List D)) (a13 : Int) (a14 : List (List D)) (a15 : Bool) (a16 : Int) (a17 a18 : Str) (a19 : Int) (a20 : Bool) (a21 a22 : Int) (a23 : Str) (a24 : Int) (a25 : List (List D)) (a26 : List D) (a27 a28 a29 : List (List D)) : Res := lab SE C Λ2 J 16 0 [1, 1, 1, 1, 1, 1, 0, 1, 0] (bC [(1, .ptr 1000000000 0), (2, .ptr 1000000001 0), (6, .row 3006), (39, .d (.sl aB.ks a0)), (40, .d (.int .i64 a1)), (41, .d (.int .i64 a2))] [⟨42, [.d (.str a3), .d (.str a4), .d (.bool a5), .d (.int .i64 a6), .d (.int .i64 a7), .d (.int .i64 a8), .d (.int .i64 a9), .row 50007, .row 50008, .d (.int .i64 a10), .d (.sl aB.ks a11), .d (.sl [.int .i64] a12), .d (.int .i64 a13), .d (.sl [.int .i64] a14), .d (.bool a15), .d (.int .i64 a16), .d (.str a17), .d (.str a18), .d (.int .i64 a19), .d (.bool a20), .d (.int .i64 a21), .d (.int .i64 a22), .d (.str a23), .d (.int .i64 a24), .d (.sl aD.ks a25)]⟩, ⟨42, (List.map AV.d a26)⟩] [] [] [(3006, ⟨aB.ks, 79, 128, a27⟩), (50007, ⟨aG.ks, 73, 32, a28⟩), (50008, ⟨aA.ks, 26, 112, a29⟩)])
def amm (C : aP) (Λ2 J : Lam) (a0 : List (List D)) (a1 a2 : Int) (a3 a4 : Str) (a5 : Bool) (a6 a7 a8 a9 : Int) (a10 : List (List D)) (a11 : Int) (a12 a13 : List (List D)) (a14 : Int) (a15 : List (List D)) (a16 : Bool) (a17 : Int) (a18 a19 : Str) (a20 : Int) (a21 : Bool) (a22 a23 : Int) (a24 : Str) (a25 : Int) (a26 : List (List D)) (a27 : List D) (a28 a29 : List (List D)) : Res := lab SE C Λ2 J 16 0 [1, 1, 1, 0, 1, 0] (bC [(1, .ptr 1000000000 0), (2, .ptr 1000000001 0), (3, .row 3003), (18, .d (.sl aA.ks a0)), (19, .d (.int .i64 a1)), (20, .d (.int .i64 a2))] [⟨42, [.d (.str a3), .d (.str a4), .d (.bool a5), .d (.int .i64 a6), .d (.int .i64 a7), .d (.int .i64 a8), .d (.int .i64 a9), .row 50007, .d (.sl aA.ks a10), .d (.int .i64 a11), .d (.sl aB.ks a12), .d (.sl [.int .i64] a13), .d (.int .i64 a14), .d (.sl [.int .i64] a15), .d (.bool a16), .d (.int .i64 a17), .d (.str a18), .d (.str a19), .d (.int .i64 a20), .d (.bool a21), .d (.int .i64 a22), .d (.int .i64 a23), .d (.str a24), .d (.int .i64 a25), .d (.sl aD.ks a26)]⟩, ⟨42, (List.map AV.d a27)⟩] [] [] [(3003, ⟨aA.ks, 26, 112, a28⟩), (50007, ⟨aG.ks, 73, 32, a29⟩)])
section
variable (Γ : Fun) (γ50 : Gm ((List aG))) (γ14 : Gm (aA)) (γ51 : Gm ((List Int))) (Λ2 J : Lam)
def C16 : aP := aZ (aZ (aZ (aR Γ) 50 dS γ50) 14 bR γ14) 51 bM γ51
theorem T16 (p0 : aC) : bL SE (C16 Γ γ50 γ14 γ51) Λ2 J 16 [aC.av p0] [] [] =
 γ50 [.d (.sl aG.ks (List.map aG.enc p0.Subs))] [] [] fun r0 =>
 cond (decide (0 ≤ 0) && decide (0 ≤ (lM aA.enc p0.Queue : Int)) && decide ((lM aA.enc p0.Queue : Int) * 112 ≤ 281474976710656)) (
 amm (C16 Γ γ50 γ14 γ51) Λ2 J (List.map aA.enc p0.Queue) (lM aA.enc p0.Queue : Int) 0 p0.Client p0.User p0.Online p0.Conn p0.Expiry p0.Until p0.Dropped (List.map aA.enc p0.Queue) p0.Out.Limit (List.map aB.enc p0.Out.Items) (List.map eI p0.Out.Pool.Used) p0.Out.Pool.Last (List.map eI p0.In.IDs) p0.Will.Set p0.Will.Delay p0.Will.Message.Topic p0.Will.Message.Payload p0.Will.Message.Level p0.Will.Message.Retain p0.Will.Message.Priority p0.Will.Message.Expires p0.Will.Message.From p0.Will.Message.Seq (List.map aD.enc p0.Will.Message.Props) [D.str [], D.str [], D.bool false, D.int .i64 0, D.int .i64 0, D.int .i64 0, D.int .i64 0, D.sl aG.ks (List.map aG.enc []), D.sl aA.ks (List.map aA.enc []), D.int .i64 0, D.sl aB.ks (List.map aB.enc []), D.sl [.int .i64] (List.map eI []), D.int .i64 0, D.sl [.int .i64] (List.map eI []), D.bool false, D.int .i64 0, D.str [], D.str [], D.int .i64 0, D.bool false, D.int .i64 0, D.int .i64 0, D.str [], D.int .i64 0, D.sl aD.ks (List.map aD.enc [])] (List.map aA.enc []) (List.map aG.enc r0)) none := by kernel_rfl
theorem ar6 (x39 : List aB) (x40 x41 : Int) (b0_0 b0_1 : Str) (b0_2 : Bool) (b0_3 b0_4 b0_5 b0_6 b0_9 : Int) (b0_10 : List aB) (b0_11 : List Int) (b0_12 : Int) (b0_13 : List Int) (b0_14 : Bool) (b0_15 : Int) (b0_16 b0_17 : Str) (b0_18 : Int) (b0_19 : Bool) (b0_20 b0_21 : Int) (b0_22 : Str) (b0_23 : Int) (b0_24 : List aD) (b1 : aC) (w3006 : List aB) (w50007 : List aG) (w50008 : List aA) : cY SE (C16 Γ γ50 γ14 γ51) Λ2 J 16 0 [1, 1, 1, 1, 1, 1, 0, 1, 0] (bC [(1, .ptr 1000000000 0), (2, .ptr 1000000001 0), (6, .row 3006), (39, .d (.sl aB.ks (List.map aB.enc x39))), (40, .d (.int .i64 x40)), (41, .d (.int .i64 x41))] [⟨42, [.d (.str b0_0), .d (.str b0_1), .d (.bool b0_2), .d (.int .i64 b0_3), .d (.int .i64 b0_4), .d (.int .i64 b0_5), .d (.int .i64 b0_6), .row 50007, .row 50008, .d (.int .i64 b0_9), .d (.sl aB.ks (List.map aB.enc b0_10)), .d (.sl [.int .i64] (List.map eI b0_11)), .d (.int .i64 b0_12), .d (.sl [.int .i64] (List.map eI b0_13)), .d (.bool b0_14), .d (.int .i64 b0_15), .d (.str b0_16), .d (.str b0_17), .d (.int .i64 b0_18), .d (.bool b0_19), .d (.int .i64 b0_20), .d (.int .i64 b0_21), .d (.str b0_22), .d (.int .i64 b0_23), .d (.sl aD.ks (List.map aD.enc b0_24))]⟩, ⟨42, (List.map AV.d (aC.enc b1))⟩] [] [] [(3006, ⟨aB.ks, 79, 128, (List.map aB.enc w3006)⟩), (50007, ⟨aG.ks, 73, 32, (List.map aG.enc w50007)⟩), (50008, ⟨aA.ks, 26, 112, (List.map aA.enc w50008)⟩)]) =
 cond (decide (x41 < x40)) (
 cond (iB x41 (lM aB.enc x39 : Int)) (
  γ14 [.agg [.d (.str (bI (cE aB.enc x39 x41 2))), .d (.str (bI (cE aB.enc x39 x41 3))), .d (.int .i64 (aS (cE aB.enc x39 x41 4))), .d (.bool (bZ (cE aB.enc x39 x41 5))), .d (.int .i64 (aS (cE aB.enc x39 x41 6))), .d (.int .i64 (aS (cE aB.enc x39 x41 7))), .d (.str (bI (cE aB.enc x39 x41 8))), .d (.int .i64 (aS (cE aB.enc x39 x41 9))), .d (.sl aD.ks (dSl (cE aB.enc x39 x41 10)))]] [] [] fun r2 =>
  cond (decide ((lM aB.enc w3006 + List.length [[D.int .i64 (aS (cE aB.enc x39 x41 0)), D.int .i64 (aS (cE aB.enc x39 x41 1)), D.str r2.Topic, D.str r2.Payload, D.int .i64 r2.Level, D.bool r2.Retain, D.int .i64 r2.Priority, D.int .i64 r2.Expires, D.str r2.From, D.int .i64 r2.Seq, D.sl aD.ks (List.map aD.enc r2.Props)]]) * 128 ≤ 140737488355328)) (
  ak8 (C16 Γ γ50 γ14 γ51) Λ2 J (List.map aB.enc x39) x40 (w6 (x41 + 1)) b0_0 b0_1 b0_2 b0_3 b0_4 b0_5 b0_6 b0_9 (List.map aB.enc b0_10) (List.map eI b0_11) b0_12 (List.map eI b0_13) b0_14 b0_15 b0_16 b0_17 b0_18 b0_19 b0_20 b0_21 b0_22 b0_23 (List.map aD.enc b0_24) (aC.enc b1) (((List.map aB.enc w3006) ++ [[D.int .i64 (aS (cE aB.enc x39 x41 0)), D.int .i64 (aS (cE aB.enc x39 x41 1)), D.str r2.Topic, D.str r2.Payload, D.int .i64 r2.Level, D.bool r2.Retain, D.int .i64 r2.Priority, D.int .i64 r2.Expires, D.str r2.From, D.int .i64 r2.Seq, D.sl aD.ks (List.map aD.enc r2.Props)]])) (List.map aG.enc w50007) (List.map aA.enc w50008)) none) none) (
 γ51 [.d (.sl [.int .i64] (List.map eI b0_11))] [] [] fun r3 =>
 γ51 [.d (.sl [.int .i64] (List.map eI b0_13))] [] [] fun r4 =>
 γ14 [aA.av (aA.mk b0_16 b0_17 b0_18 b0_19 b0_20 b0_21 b0_22 b0_23 b0_24)] [] [] fun r5 =>
 (some (.ret [.agg [.d (.str b0_0), .d (.str b0_1), .d (.bool b0_2), .d (.int .i64 b0_3), .d (.int .i64 b0_4), .d (.int .i64 b0_5), .d (.int .i64 b0_6), .row 0, .row 1, .d (.int .i64 b0_9), .row 2, .row 3, .d (.int .i64 b0_12), .row 4, .d (.bool b0_14), .d (.int .i64 b0_15), .d (.str r5.Topic), .d (.str r5.Payload), .d (.int .i64 r5.Level), .d (.bool r5.Retain), .d (.int .i64 r5.Priority), .d (.int .i64 r5.Expires), .d (.str r5.From), .d (.int .i64 r5.Seq), .row 5]] [] [⟨aG.ks, 73, 32, (List.map aG.enc w50007)⟩, ⟨aA.ks, 26, 112, (List.map aA.enc w50008)⟩, ⟨aB.ks, 79, 128, (List.map aB.enc w3006)⟩, ⟨[.int .i64], 3, 8, (List.map eI r3)⟩, ⟨[.int .i64], 3, 8, (List.map eI r4)⟩, ⟨aD.ks, 104, 32, (List.map aD.enc r5.Props)⟩]))) := by kernel_rfl
theorem avf (x18 : List aA) (x19 x20 : Int) (b0_0 b0_1 : Str) (b0_2 : Bool) (b0_3 b0_4 b0_5 b0_6 : Int) (b0_8 : List aA) (b0_9 : Int) (b0_10 : List aB) (b0_11 : List Int) (b0_12 : Int) (b0_13 : List Int) (b0_14 : Bool) (b0_15 : Int) (b0_16 b0_17 : Str) (b0_18 : Int) (b0_19 : Bool) (b0_20 b0_21 : Int) (b0_22 : Str) (b0_23 : Int) (b0_24 : List aD) (b1 : aC) (w3003 : List aA) (w50007 : List aG) : cY SE (C16 Γ γ50 γ14 γ51) Λ2 J 16 0 [1, 1, 1, 0, 1, 0] (bC [(1, .ptr 1000000000 0), (2, .ptr 1000000001 0), (3, .row 3003), (18, .d (.sl aA.ks (List.map aA.enc x18))), (19, .d (.int .i64 x19)), (20, .d (.int .i64 x20))] [⟨42, [.d (.str b0_0), .d (.str b0_1), .d (.bool b0_2), .d (.int .i64 b0_3), .d (.int .i64 b0_4), .d (.int .i64 b0_5), .d (.int .i64 b0_6), .row 50007, .d (.sl aA.ks (List.map aA.enc b0_8)), .d (.int .i64 b0_9), .d (.sl aB.ks (List.map aB.enc b0_10)), .d (.sl [.int .i64] (List.map eI b0_11)), .d (.int .i64 b0_12), .d (.sl [.int .i64] (List.map eI b0_13)), .d (.bool b0_14), .d (.int .i64 b0_15), .d (.str b0_16), .d (.str b0_17), .d (.int .i64 b0_18), .d (.bool b0_19), .d (.int .i64 b0_20), .d (.int .i64 b0_21), .d (.str b0_22), .d (.int .i64 b0_23), .d (.sl aD.ks (List.map aD.enc b0_24))]⟩, ⟨42, (List.map AV.d (aC.enc b1))⟩] [] [] [(3003, ⟨aA.ks, 26, 112, (List.map aA.enc w3003)⟩), (50007, ⟨aG.ks, 73, 32, (List.map aG.enc w50007)⟩)]) =
 cond (decide (x20 < x19)) (
 cond (iB x20 (lM aA.enc x18 : Int)) (
  γ14 [.agg [.d (.str (bI (cE aA.enc x18 x20 0))), .d (.str (bI (cE aA.enc x18 x20 1))), .d (.int .i64 (aS (cE aA.enc x18 x20 2))), .d (.bool (bZ (cE aA.enc x18 x20 3))), .d (.int .i64 (aS (cE aA.enc x18 x20 4))), .d (.int .i64 (aS (cE aA.enc x18 x20 5))), .d (.str (bI (cE aA.enc x18 x20 6))), .d (.int .i64 (aS (cE aA.enc x18 x20 7))), .d (.sl aD.ks (dSl (cE aA.enc x18 x20 8)))]] [] [] fun r1 =>
  cond (decide ((lM aA.enc w3003 + lM aA.enc [r1]) * 112 ≤ 140737488355328)) (
  amm (C16 Γ γ50 γ14 γ51) Λ2 J (List.map aA.enc x18) x19 (w6 (x20 + 1)) b0_0 b0_1 b0_2 b0_3 b0_4 b0_5 b0_6 (List.map aA.enc b0_8) b0_9 (List.map aB.enc b0_10) (List.map eI b0_11) b0_12 (List.map eI b0_13) b0_14 b0_15 b0_16 b0_17 b0_18 b0_19 b0_20 b0_21 b0_22 b0_23 (List.map aD.enc b0_24) (aC.enc b1) (((List.map aA.enc w3003) ++ (List.map aA.enc [r1]))) (List.map aG.enc w50007)) none) none) (
 cond (decide (0 ≤ 0) && decide (0 ≤ (lM aB.enc b0_10 : Int)) && decide ((lM aB.enc b0_10 : Int) * 128 ≤ 281474976710656)) (
 ak8 (C16 Γ γ50 γ14 γ51) Λ2 J (List.map aB.enc b0_10) (lM aB.enc b0_10 : Int) 0 b0_0 b0_1 b0_2 b0_3 b0_4 b0_5 b0_6 b0_9 (List.map aB.enc b0_10) (List.map eI b0_11) b0_12 (List.map eI b0_13) b0_14 b0_15 b0_16 b0_17 b0_18 b0_19 b0_20 b0_21 b0_22 b0_23 (List.map aD.enc b0_24) (aC.enc b1) (List.map aB.enc []) (List.map aG.enc w50007) (List.map aA.enc w3003)) none) := by kernel_rfl
end
abbrev X16 : aP := C16 gG (cT 50 dS) (cT 14 bR) (cT 51 bM)
theorem ap7 : X16 = aR gG := by unfold X16 C16; repeat rw [bB fun _ h => h]
abbrev atP := ak8 X16 (cU SE gG (SE.hl 16) (SE.hr 16)) (J0 SE X16)
abbrev auo := amm X16 (cU SE gG (SE.hl 16) (SE.hr 16)) (J0 SE X16)
theorem adh : ∀ (fu : Nat) (x39 : List aB) (x40 x41 : Int) (b0_0 b0_1 : Str) (b0_2 : Bool) (b0_3 b0_4 b0_5 b0_6 b0_9 : Int) (b0_10 : List aB) (b0_11 : List Int) (b0_12 : Int) (b0_13 : List Int) (b0_14 : Bool) (b0_15 : Int) (b0_16 b0_17 : Str) (b0_18 : Int) (b0_19 : Bool) (b0_20 b0_21 : Int) (b0_22 : Str) (b0_23 : Int) (b0_24 : List aD) (b1 : aC) (w3006 : List aB) (w50007 : List aG) (w50008 : List aA), Le (Option.map cW (jL fu x39 x40 x41 b0_0 b0_1 b0_2 b0_3 b0_4 b0_5 b0_6 b0_9 b0_10 b0_11 b0_12 b0_13 b0_14 b0_15 b0_16 b0_17 b0_18 b0_19 b0_20 b0_21 b0_22 b0_23 b0_24 b1 w3006 w50007 w50008)) (atP (List.map aB.enc x39) x40 x41 b0_0 b0_1 b0_2 b0_3 b0_4 b0_5 b0_6 b0_9 (List.map aB.enc b0_10) (List.map eI b0_11) b0_12 (List.map eI b0_13) b0_14 b0_15 b0_16 b0_17 b0_18 b0_19 b0_20 b0_21 b0_22 b0_23 (List.map aD.enc b0_24) (aC.enc b1) (List.map aB.enc w3006) (List.map aG.enc w50007) (List.map aA.enc w50008)) := by
 intro fu
 induction fu with
 | zero => intros; exact le_none
 | succ fu ih =>
  intro x39 x40 x41 b0_0 b0_1 b0_2 b0_3 b0_4 b0_5 b0_6 b0_9 b0_10 b0_11 b0_12 b0_13 b0_14 b0_15 b0_16 b0_17 b0_18 b0_19 b0_20 b0_21 b0_22 b0_23 b0_24 b1 w3006 w50007 w50008
  refine Le.trans ?_ (le_of_eq ((bF ap7).trans (ar6 ..)).symm)
  unfold jL
  refine lC ?_ ?_
  ·refine lG (by simp only [EN]) ?_
   refine lQ eX dG (by (try simp only [EN]); exact k9 ((List.getD x39 (Int.toNat x41) default).Message)) fun r2 _ => ?_
   refine lG (by simp only [EN]) ?_
   (try simp only [EN]); exact ih x39 x40 (w6 (x41 + 1)) b0_0 b0_1 b0_2 b0_3 b0_4 b0_5 b0_6 b0_9 b0_10 b0_11 b0_12 b0_13 b0_14 b0_15 b0_16 b0_17 b0_18 b0_19 b0_20 b0_21 b0_22 b0_23 b0_24 b1 ((w3006 ++ [(aB.mk (List.getD x39 (Int.toNat x41) default).ID (List.getD x39 (Int.toNat x41) default).State r2)])) w50007 w50008
  ·refine lQ eX eJ (hR _) fun r3 _ => ?_
   refine lQ eX eJ (hR _) fun r4 _ => ?_
   refine lQ eX dG (k9 _) fun r5 _ => ?_
   exact aK rfl
theorem adE : ∀ (fu : Nat) (x18 : List aA) (x19 x20 : Int) (b0_0 b0_1 : Str) (b0_2 : Bool) (b0_3 b0_4 b0_5 b0_6 : Int) (b0_8 : List aA) (b0_9 : Int) (b0_10 : List aB) (b0_11 : List Int) (b0_12 : Int) (b0_13 : List Int) (b0_14 : Bool) (b0_15 : Int) (b0_16 b0_17 : Str) (b0_18 : Int) (b0_19 : Bool) (b0_20 b0_21 : Int) (b0_22 : Str) (b0_23 : Int) (b0_24 : List aD) (b1 : aC) (w3003 : List aA) (w50007 : List aG), Le (Option.map cW (j0 fu x18 x19 x20 b0_0 b0_1 b0_2 b0_3 b0_4 b0_5 b0_6 b0_8 b0_9 b0_10 b0_11 b0_12 b0_13 b0_14 b0_15 b0_16 b0_17 b0_18 b0_19 b0_20 b0_21 b0_22 b0_23 b0_24 b1 w3003 w50007)) (auo (List.map aA.enc x18) x19 x20 b0_0 b0_1 b0_2 b0_3 b0_4 b0_5 b0_6 (List.map aA.enc b0_8) b0_9 (List.map aB.enc b0_10) (List.map eI b0_11) b0_12 (List.map eI b0_13) b0_14 b0_15 b0_16 b0_17 b0_18 b0_19 b0_20 b0_21 b0_22 b0_23 (List.map aD.enc b0_24) (aC.enc b1) (List.map aA.enc w3003) (List.map aG.enc w50007)) := by
 intro fu
 induction fu with
 | zero => intros; exact le_none
 | succ fu ih =>
  intro x18 x19 x20 b0_0 b0_1 b0_2 b0_3 b0_4 b0_5 b0_6 b0_8 b0_9 b0_10 b0_11 b0_12 b0_13 b0_14 b0_15 b0_16 b0_17 b0_18 b0_19 b0_20 b0_21 b0_22 b0_23 b0_24 b1 w3003 w50007
  refine Le.trans ?_ (le_of_eq ((bF ap7).trans (avf ..)).symm)
  unfold j0
  refine lC ?_ ?_
  ·refine lG (by simp only [EN]) ?_
   refine lQ eX dG (by (try simp only [EN]); exact k9 (List.getD x18 (Int.toNat x20) default)) fun r1 _ => ?_
   refine lG (by simp only [EN]) ?_
   (try simp only [EN]); exact ih x18 x19 (w6 (x20 + 1)) b0_0 b0_1 b0_2 b0_3 b0_4 b0_5 b0_6 b0_8 b0_9 b0_10 b0_11 b0_12 b0_13 b0_14 b0_15 b0_16 b0_17 b0_18 b0_19 b0_20 b0_21 b0_22 b0_23 b0_24 b1 (w3003 ++ [r1]) w50007
  ·refine lG (by simp only [EN]) ?_
   (try simp only [EN]); exact adh fuel b0_10 (List.length b0_10 : Int) 0 b0_0 b0_1 b0_2 b0_3 b0_4 b0_5 b0_6 b0_9 b0_10 b0_11 b0_12 b0_13 b0_14 b0_15 b0_16 b0_17 b0_18 b0_19 b0_20 b0_21 b0_22 b0_23 b0_24 b1 [] w50007 w3003
theorem lZ (p0 : aC) : Le (Option.map cW (jA p0)) (bA SE 16 [aC.av p0] [] []) := by
 refine aX ap7 rfl ?_
 refine Le.trans ?_ (le_of_eq (T16 ..).symm)
 unfold jA
 refine lQ eX tL (uB _) fun r0 _ => ?_
 refine lG (by simp only [EN]) ?_
 (try simp only [EN]); exact adE fuel p0.Queue (List.length p0.Queue : Int) 0 p0.Client p0.User p0.Online p0.Conn p0.Expiry p0.Until p0.Dropped p0.Queue p0.Out.Limit p0.Out.Items p0.Out.Pool.Used p0.Out.Pool.Last p0.In.IDs p0.Will.Set p0.Will.Delay p0.Will.Message.Topic p0.Will.Message.Payload p0.Will.Message.Level p0.Will.Message.Retain p0.Will.Message.Priority p0.Will.Message.Expires p0.Will.Message.From p0.Will.Message.Seq p0.Will.Message.Props ((aC.mk [] [] false 0 0 0 0 [] [] (aH.mk 0 [] (aQ.mk [] 0)) (bG.mk []) (aV.mk false 0 (aA.mk [] [] 0 false 0 0 [] 0 [])))) [] r0
section
variable (Γ : Fun)  (Λ2 J : Lam)
def C54 : aP := aR Γ
theorem T54 (p0 : aA) (p1 : Int) : bL SE (C54 Γ) Λ2 J 54 [aA.av p0, .d (.int .i64 p1)] [] [] =
 cond (p0.Expires != 0) (
 (rB (decide (p1 ≥ p0.Expires)))) (
 (rB false)) := by kernel_rfl
end
abbrev X54 : aP := C54 gG
theorem axd : X54 = aR gG := rfl
theorem ae7 (p0 : aA) (p1 : Int) : Le (Option.map aI (pH p0 p1)) (bA SE 54 [aA.av p0, .d (.int .i64 p1)] [] []) := by
 refine aX axd rfl ?_
 refine Le.trans ?_ (le_of_eq (T54 ..).symm)
 unfold pH
 refine lC ?_ ?_
 ·exact aK rfl
 ·exact aK rfl
section
variable (Γ : Fun)  (Λ2 J : Lam)
def C17 : aP := aR Γ
theorem T17 (p0 : aC) (p1 : Int) : bL SE (C17 Γ) Λ2 J 17 [aC.av p0, .d (.int .i64 p1)] [] [] =
 (some (.ret [aC.av (aC.mk p0.Client p0.User p0.Online p0.Conn p0.Expiry p0.Until (if 1099511627776 < (w6 (p0.Dropped + p1)) then 1099511627776 else (w6 (p0.Dropped + p1))) p0.Subs p0.Queue p0.Out p0.In p0.Will)] [] [])) := by kernel_rfl
end
abbrev X17 : aP := C17 gG
theorem awX : X17 = aR gG := rfl
theorem o8 (p0 : aC) (p1 : Int) : Le (Option.map dB (kU p0 p1)) (bA SE 17 [aC.av p0, .d (.int .i64 p1)] [] []) := by
 refine aX awX rfl ?_
 refine Le.trans ?_ (le_of_eq (T17 ..).symm)
 unfold kU
 exact aK rfl
section
variable (Γ : Fun)  (Λ2 J : Lam)
def C75 : aP := aR Γ
theorem T75 (p0 : aH) : bL SE (C75 Γ) Λ2 J 75 [aH.av p0] [] [] =
 (rI (if 0 > (w6 (p0.Limit - (lM aB.enc p0.Items : Int))) then 0 else (w6 (p0.Limit - (lM aB.enc p0.Items : Int))))) := by kernel_rfl
end
abbrev X75 : aP := C75 gG
theorem aw3 : X75 = aR gG := rfl
theorem agG (p0 : aH) : Le (Option.map aJ (rL p0)) (bA SE 75 [aH.av p0] [] []) := by
 refine aX aw3 rfl ?_
 refine Le.trans ?_ (le_of_eq (T75 ..).symm)
 unfold rL
 exact aK (by first | rfl | simp only [EN, aJ] <;> rfl)
def aho (C : aP) (Λ2 J : Lam) (a0 : Int) (a1 : Str) (a2 : Nat) : Res := lab SE C Λ2 J 100 0 [1, 1, 1, 0, 1, 0] (bC [(3, .d (.int .i64 a0)), (15, .it 4000)] [] [] [(4000, (a1, a2))] [])
def aoq (C : aP) (Λ2 J : Lam) (a0 : Str) : Res := lab SE C Λ2 J 100 0 [1, 1, 0] (bC [(0, .d (.str a0))] [] [] [] [])
section
variable (Γ : Fun)  (Λ2 J : Lam)
def adM : aP := aR Γ
theorem axA (p0 : Str) : bL SE (adM Γ) Λ2 J 100 [.d (.str p0)] [] [] =
 cond (decide ((List.length p0 : Int) < 1)) (
 (rB false)) (
 cond (decide ((List.length p0 : Int) > 64)) (
 (rB false)) (
 aoq (adM Γ) Λ2 J p0)) := by kernel_rfl
theorem asM (x3 : Int) (s4000 : Str) (i4000 : Nat) : cY SE (adM Γ) Λ2 J 100 0 [1, 1, 1, 0, 1, 0] (bC [(3, .d (.int .i64 x3)), (15, .it 4000)] [] [] [(4000, (s4000, i4000))] []) =
 cond (decide (i4000 < List.length s4000)) (
 cond (((dec s4000 i4000).1 : Int) == 0) (
  (rB false)) (
 cond (((dec s4000 i4000).1 : Int) == 47) (
  aho (adM Γ) Λ2 J (w6 (x3 + 1)) s4000 (i4000 + (dec s4000 i4000).2)) (
 aho (adM Γ) Λ2 J x3 s4000 (i4000 + (dec s4000 i4000).2)))) (
 (rB (decide (x3 ≤ 8)))) := by kernel_rfl
theorem asO (x0 : Str) : cY SE (adM Γ) Λ2 J 100 0 [1, 1, 0] (bC [(0, .d (.str x0))] [] [] [] []) =
 aho (adM Γ) Λ2 J 1 x0 0 := by kernel_rfl
end
abbrev aka : aP := adM gG
theorem ant : aka = aR gG := rfl
abbrev asn := aho aka (cU SE gG (SE.hl 100) (SE.hr 100)) (J0 SE aka)
abbrev atF := aoq aka (cU SE gG (SE.hl 100) (SE.hr 100)) (J0 SE aka)
theorem afx : ∀ (fu : Nat) (x3 : Int) (s4000 : Str) (i4000 : Nat), Le (Option.map aI (jD fu x3 s4000 i4000)) (asn x3 s4000 i4000) := by
 intro fu
 induction fu with
 | zero => intros; exact le_none
 | succ fu ih =>
  intro x3 s4000 i4000
  refine Le.trans ?_ (le_of_eq ((bF ant).trans (asM ..)).symm)
  unfold jD
  refine lC ?_ ?_
  ·refine lC ?_ ?_
   ·exact aK rfl
   ·refine lC ?_ ?_
    ·exact ih (w6 (x3 + 1)) s4000 (i4000 + (dec s4000 i4000).2)
    ·exact ih x3 s4000 (i4000 + (dec s4000 i4000).2)
  ·exact aK rfl
theorem afA (x0 : Str) : Le (Option.map aI (tQ x0)) (atF x0) := by
 refine Le.trans ?_ (le_of_eq ((bF ant).trans (asO ..)).symm)
 unfold tQ
 exact afx fuel 1 x0 0
theorem ab5 (p0 : Str) : Le (Option.map aI (rV p0)) (bA SE 100 [.d (.str p0)] [] []) := by
 refine aX ant rfl ?_
 refine Le.trans ?_ (le_of_eq (axA ..).symm)
 unfold rV
 refine lC ?_ ?_
 ·exact aK rfl
 ·refine lC ?_ ?_
  ·exact aK rfl
  ·exact afA p0
def am6 (C : aP) (Λ2 J : Lam) (a0 : Str) (a1 : Nat) : Res := lab SE C Λ2 J 88 0 [1, 1, 0, 1, 0] (bC [(9, .it 4000)] [] [] [(4000, (a0, a1))] [])
section
variable (Γ : Fun) (γ100 : Gm (Bool)) (Λ2 J : Lam)
def C88 : aP := aZ (aR Γ) 100 aI γ100
theorem T88 (p0 : Str) : bL SE (C88 Γ γ100) Λ2 J 88 [.d (.str p0)] [] [] =
 γ100 [.d (.str p0)] [] [] fun r0 =>
 cond (!r0) (
 (rB false)) (
 am6 (C88 Γ γ100) Λ2 J p0 0) := by kernel_rfl
theorem avj (s4000 : Str) (i4000 : Nat) : cY SE (C88 Γ γ100) Λ2 J 88 0 [1, 1, 0, 1, 0] (bC [(9, .it 4000)] [] [] [(4000, (s4000, i4000))] []) =
 cond (decide (i4000 < List.length s4000)) (
 cond (((dec s4000 i4000).1 : Int) == 43) (
  (rB false)) (
 cond (((dec s4000 i4000).1 : Int) == 35) (
  (rB false)) (
 am6 (C88 Γ γ100) Λ2 J s4000 (i4000 + (dec s4000 i4000).2)))) (
 (rB true)) := by kernel_rfl
end
abbrev X88 : aP := C88 gG (cT 100 aI)
theorem ath : X88 = aR gG := by unfold X88 C88; rw [bB fun _ h => h]
abbrev awa := am6 X88 (cU SE gG (SE.hl 88) (SE.hr 88)) (J0 SE X88)
theorem afD : ∀ (fu : Nat) (s4000 : Str) (i4000 : Nat), Le (Option.map aI (kA fu s4000 i4000)) (awa s4000 i4000) := by
 intro fu
 induction fu with
 | zero => intros; exact le_none
 | succ fu ih =>
  intro s4000 i4000
  refine Le.trans ?_ (le_of_eq ((bF ath).trans (avj ..)).symm)
  unfold kA
  refine lC ?_ ?_
  ·refine lC ?_ ?_
   ·exact aK rfl
   ·refine lC ?_ ?_
    ·exact aK rfl
    ·exact ih s4000 (i4000 + (dec s4000 i4000).2)
  ·exact aK rfl
theorem aiE (p0 : Str) : Le (Option.map aI (uF p0)) (bA SE 88 [.d (.str p0)] [] []) := by
 refine aX ath rfl ?_
 refine Le.trans ?_ (le_of_eq (T88 ..).symm)
 unfold uF
 refine lQ eX bE (ab5 _) fun r0 _ => ?_
 refine lC ?_ ?_
 ·exact aK rfl
 ·exact afD fuel p0 0
section
variable (Γ : Fun)  (Λ2 J : Lam)
def C83 : aP := aR Γ
theorem T83 (p0 p1 : Int) : bL SE (C83 Γ) Λ2 J 83 [.d (.int .i64 p0), .d (.int .i64 p1)] [] [] =
 cond (decide (p0 ≥ 0)) (
 (rB (decide (p0 ≤ p1)))) (
 (rB false)) := by kernel_rfl
end
abbrev X83 : aP := C83 gG
theorem axp : X83 = aR gG := rfl
theorem oZ (p0 p1 : Int) : Le (Option.map aI (jB p0 p1)) (bA SE 83 [.d (.int .i64 p0), .d (.int .i64 p1)] [] []) := by
 refine aX axp rfl ?_
 refine Le.trans ?_ (le_of_eq (T83 ..).symm)
 unfold jB
 refine lC ?_ ?_
 ·exact aK rfl
 ·exact aK rfl
def amq (C : aP) (Λ2 J : Lam) (a0 a1 : Int) (a2 : Bool) (a3 : Str) (a4 : Nat) : Res := lab SE C Λ2 J 65 0 [1, 1, 0, 1, 0, 0, 1, 1, 0, 1, 1, 0] (bC [(3, .d (.int .i64 a0)), (4, .d (.int .i32 a1)), (5, .d (.bool a2)), (15, .it 4000)] [] [] [(4000, (a3, a4))] [])
def ahE (C : aP) (Λ2 J : Lam) (a0 : Str) (a1 : Nat) : Res := lab SE C Λ2 J 65 0 [1, 1, 0, 1, 0] (bC [(15, .it 4000)] [] [] [(4000, (a0, a1))] [])
def aq0 (C : aP) (Λ2 J : Lam) (a0 : Str) : Res := lab SE C Λ2 J 65 0 [1, 1, 0, 0] (bC [(0, .d (.str a0))] [] [] [] [])
section
variable (Γ : Fun)  (Λ2 J : Lam)
def C65 : aP := aR Γ
theorem T65 (p0 : Str) : bL SE (C65 Γ) Λ2 J 65 [.d (.str p0)] [] [] =
 cond (decide ((List.length p0 : Int) < 1)) (
 (rB false)) (
 cond (decide ((List.length p0 : Int) > 16)) (
 (rB false)) (
 aq0 (C65 Γ) Λ2 J p0)) := by kernel_rfl
theorem avl (x3 x4 : Int) (x5 : Bool) (s4000 : Str) (i4000 : Nat) : cY SE (C65 Γ) Λ2 J 65 0 [1, 1, 0, 1, 0, 0, 1, 1, 0, 1, 1, 0] (bC [(3, .d (.int .i64 x3)), (4, .d (.int .i32 x4)), (5, .d (.bool x5)), (15, .it 4000)] [] [] [(4000, (s4000, i4000))] []) =
 cond (!x5) (
 cond (x3 == 0) (
  (rB false)) (
 cond (x4 != 45) (
  cond (decide (x4 < 48)) (
  (rB false)) (
  cond (decide (x4 > 57)) (
  (rB false)) (
  ahE (C65 Γ) Λ2 J s4000 i4000))) (
 ahE (C65 Γ) Λ2 J s4000 i4000))) (
 ahE (C65 Γ) Λ2 J s4000 i4000) := by kernel_rfl
theorem avg (s4000 : Str) (i4000 : Nat) : cY SE (C65 Γ) Λ2 J 65 0 [1, 1, 0, 1, 0] (bC [(15, .it 4000)] [] [] [(4000, (s4000, i4000))] []) =
 cond (decide (i4000 < List.length s4000)) (
 cond (decide (((dec s4000 i4000).1 : Int) ≥ 97)) (
  amq (C65 Γ) Λ2 J (i4000 : Int) ((dec s4000 i4000).1 : Int) (decide (((dec s4000 i4000).1 : Int) ≤ 122)) s4000 (i4000 + (dec s4000 i4000).2)) (
 amq (C65 Γ) Λ2 J (i4000 : Int) ((dec s4000 i4000).1 : Int) false s4000 (i4000 + (dec s4000 i4000).2))) (
 (rB true)) := by kernel_rfl
theorem auq (x0 : Str) : cY SE (C65 Γ) Λ2 J 65 0 [1, 1, 0, 0] (bC [(0, .d (.str x0))] [] [] [] []) =
 ahE (C65 Γ) Λ2 J x0 0 := by kernel_rfl
end
abbrev X65 : aP := C65 gG
theorem anj : X65 = aR gG := rfl
abbrev auJ := amq X65 (cU SE gG (SE.hl 65) (SE.hr 65)) (J0 SE X65)
abbrev aqU := ahE X65 (cU SE gG (SE.hl 65) (SE.hr 65)) (J0 SE X65)
abbrev auT := aq0 X65 (cU SE gG (SE.hl 65) (SE.hr 65)) (J0 SE X65)
theorem aa5 (k4 : Str → Nat → Option (Bool)) (hk4 : ∀ (s4000 : Str) (i4000 : Nat), Le (Option.map aI (k4 s4000 i4000)) (aqU s4000 i4000)) (x3 x4 : Int) (x5 : Bool) (s4000 : Str) (i4000 : Nat) : Le (Option.map aI (nI k4 x3 x4 x5 s4000 i4000)) (auJ x3 x4 x5 s4000 i4000) := by
 refine Le.trans ?_ (le_of_eq ((bF anj).trans (avl ..)).symm)
 unfold nI
 refine lC ?_ ?_
 ·refine lC ?_ ?_
  ·exact aK rfl
  ·refine lC ?_ ?_
   ·refine lC ?_ ?_
    ·exact aK rfl
    ·refine lC ?_ ?_
     ·exact aK rfl
     ·exact hk4 s4000 i4000
   ·exact hk4 s4000 i4000
 ·exact hk4 s4000 i4000
theorem af9 : ∀ (fu : Nat) (s4000 : Str) (i4000 : Nat), Le (Option.map aI (jY fu s4000 i4000)) (aqU s4000 i4000) := by
 intro fu
 induction fu with
 | zero => intros; exact le_none
 | succ fu ih =>
  intro s4000 i4000
  refine Le.trans ?_ (le_of_eq ((bF anj).trans (avg ..)).symm)
  unfold jY
  refine lC ?_ ?_
  ·refine lC ?_ ?_
   ·exact aa5 _ (ih) (i4000 : Int) ((dec s4000 i4000).1 : Int) (decide (((dec s4000 i4000).1 : Int) ≤ 122)) s4000 (i4000 + (dec s4000 i4000).2)
   ·exact aa5 _ (ih) (i4000 : Int) ((dec s4000 i4000).1 : Int) false s4000 (i4000 + (dec s4000 i4000).2)
  ·exact aK rfl
theorem agI (x0 : Str) : Le (Option.map aI (uU x0)) (auT x0) := by
 refine Le.trans ?_ (le_of_eq ((bF anj).trans (auq ..)).symm)
 unfold uU
 exact af9 fuel x0 0
theorem uQ (p0 : Str) : Le (Option.map aI (mH p0)) (bA SE 65 [.d (.str p0)] [] []) := by
 refine aX anj rfl ?_
 refine Le.trans ?_ (le_of_eq (T65 ..).symm)
 unfold mH
 refine lC ?_ ?_
 ·exact aK rfl
 ·refine lC ?_ ?_
  ·exact aK rfl
  ·exact agI p0
def vV (C : aP) (Λ2 J : Lam) (a0 : Str) (a1 : Int) : Res := lab SE C Λ2 J 103 0 [1, 1, 0, 1, 0] (bC [(0, .d (.str a0)), (3, .d (.int .i64 a1))] [] [] [] [])
def aoa (C : aP) (Λ2 J : Lam) (a0 : Str) : Res := lab SE C Λ2 J 103 0 [1, 1, 0, 0] (bC [(0, .d (.str a0))] [] [] [] [])
section
variable (Γ : Fun)  (Λ2 J : Lam)
def yA : aP := aR Γ
theorem axX (p0 : Str) : bL SE (yA Γ) Λ2 J 103 [.d (.str p0)] [] [] =
 cond (decide ((List.length p0 : Int) < 1)) (
 (rB false)) (
 cond (decide ((List.length p0 : Int) > 16)) (
 (rB false)) (
 aoa (yA Γ) Λ2 J p0)) := by kernel_rfl
theorem atG (x0 : Str) (x3 : Int) : cY SE (yA Γ) Λ2 J 103 0 [1, 1, 0, 1, 0] (bC [(0, .d (.str x0)), (3, .d (.int .i64 x3))] [] [] [] []) =
 cond (decide (x3 < (List.length x0 : Int))) (
 cond (iB x3 (List.length x0 : Int)) (
  cond (decide ((UInt8.toNat (List.getD x0 (Int.toNat x3) 0) : Int) < 97)) (
  cond (decide ((UInt8.toNat (List.getD x0 (Int.toNat x3) 0) : Int) < 48)) (
   cond ((UInt8.toNat (List.getD x0 (Int.toNat x3) 0) : Int) != 45) (
   (rB false)) (
   vV (yA Γ) Λ2 J x0 (w6 (x3 + 1)))) (
  cond (decide ((UInt8.toNat (List.getD x0 (Int.toNat x3) 0) : Int) > 57)) (
   cond ((UInt8.toNat (List.getD x0 (Int.toNat x3) 0) : Int) != 45) (
   (rB false)) (
   vV (yA Γ) Λ2 J x0 (w6 (x3 + 1)))) (
  vV (yA Γ) Λ2 J x0 (w6 (x3 + 1))))) (
  cond (decide ((UInt8.toNat (List.getD x0 (Int.toNat x3) 0) : Int) > 122)) (
  cond (decide ((UInt8.toNat (List.getD x0 (Int.toNat x3) 0) : Int) < 48)) (
   cond ((UInt8.toNat (List.getD x0 (Int.toNat x3) 0) : Int) != 45) (
   (rB false)) (
   vV (yA Γ) Λ2 J x0 (w6 (x3 + 1)))) (
  cond (decide ((UInt8.toNat (List.getD x0 (Int.toNat x3) 0) : Int) > 57)) (
   cond ((UInt8.toNat (List.getD x0 (Int.toNat x3) 0) : Int) != 45) (
   (rB false)) (
   vV (yA Γ) Λ2 J x0 (w6 (x3 + 1)))) (
  vV (yA Γ) Λ2 J x0 (w6 (x3 + 1))))) (
  vV (yA Γ) Λ2 J x0 (w6 (x3 + 1))))) none) (
 (rB true)) := by kernel_rfl
theorem arX (x0 : Str) : cY SE (yA Γ) Λ2 J 103 0 [1, 1, 0, 0] (bC [(0, .d (.str x0))] [] [] [] []) =
 vV (yA Γ) Λ2 J x0 0 := by kernel_rfl
end
abbrev akc : aP := yA gG
theorem anw : akc = aR gG := rfl
abbrev asA := vV akc (cU SE gG (SE.hl 103) (SE.hr 103)) (J0 SE akc)
abbrev asP := aoa akc (cU SE gG (SE.hl 103) (SE.hr 103)) (J0 SE akc)
theorem afz : ∀ (fu : Nat) (x0 : Str) (x3 : Int), Le (Option.map aI (eZ fu x0 x3)) (asA x0 x3) := by
 intro fu
 induction fu with
 | zero => intros; exact le_none
 | succ fu ih =>
  intro x0 x3
  refine Le.trans ?_ (le_of_eq ((bF anw).trans (atG ..)).symm)
  unfold eZ
  refine lC ?_ ?_
  ·refine lF ?_
   refine lC ?_ ?_
   ·refine lC ?_ ?_
    ·refine lC ?_ ?_
     ·exact aK rfl
     ·exact ih x0 (w6 (x3 + 1))
    ·refine lC ?_ ?_
     ·refine lC ?_ ?_
      ·exact aK rfl
      ·exact ih x0 (w6 (x3 + 1))
     ·exact ih x0 (w6 (x3 + 1))
   ·refine lC ?_ ?_
    ·refine lC ?_ ?_
     ·refine lC ?_ ?_
      ·exact aK rfl
      ·exact ih x0 (w6 (x3 + 1))
     ·refine lC ?_ ?_
      ·refine lC ?_ ?_
       ·exact aK rfl
       ·exact ih x0 (w6 (x3 + 1))
      ·exact ih x0 (w6 (x3 + 1))
    ·exact ih x0 (w6 (x3 + 1))
  ·exact aK rfl
theorem afv (x0 : Str) : Le (Option.map aI (tS x0)) (asP x0) := by
 refine Le.trans ?_ (le_of_eq ((bF anw).trans (arX ..)).symm)
 unfold tS
 exact afz fuel x0 0
theorem aiz (p0 : Str) : Le (Option.map aI (uP p0)) (bA SE 103 [.d (.str p0)] [] []) := by
 refine aX anw rfl ?_
 refine Le.trans ?_ (le_of_eq (axX ..).symm)
 unfold uP
 refine lC ?_ ?_
 ·exact aK rfl
 ·refine lC ?_ ?_
  ·exact aK rfl
  ·exact afv p0
def ajR (C : aP) (Λ2 J : Lam) (a0 a1 : List (List D)) (a2 a3 : Int) : Res := lab SE C Λ2 J 89 0 [1, 1, 0, 1, 0] (bC [(0, .d (.sl aD.ks a0)), (8, .d (.sl aD.ks a1)), (9, .d (.int .i64 a2)), (10, .d (.int .i64 a3))] [] [] [] [])
section
variable (Γ : Fun) (γ103 : Gm (Bool)) (Λ2 J : Lam)
def C89 : aP := aZ (aR Γ) 103 aI γ103
theorem T89 (p0 : List aD) : bL SE (C89 Γ γ103) Λ2 J 89 [.d (.sl aD.ks (List.map aD.enc p0))] [] [] =
 cond (decide ((lM aD.enc p0 : Int) > 8)) (
 (rI 5)) (
 ajR (C89 Γ γ103) Λ2 J (List.map aD.enc p0) (List.map aD.enc p0) (lM aD.enc p0 : Int) 0) := by kernel_rfl
theorem aur (x0 x8 : List aD) (x9 x10 : Int) : cY SE (C89 Γ γ103) Λ2 J 89 0 [1, 1, 0, 1, 0] (bC [(0, .d (.sl aD.ks (List.map aD.enc x0))), (8, .d (.sl aD.ks (List.map aD.enc x8))), (9, .d (.int .i64 x9)), (10, .d (.int .i64 x10))] [] [] [] []) =
 cond (decide (x10 < x9)) (
 cond (iB x10 (lM aD.enc x8 : Int)) (
  γ103 [.d (.str (bI (cE aD.enc x8 x10 0)))] [] [] fun r0 =>
  cond (!r0) (
  (rI 16)) (
  cond (decide ((List.length (bI (cE aD.enc x8 x10 1)) : Int) > 160)) (
  (rI 5)) (
  cond (decide (x10 > 0)) (
  cond (iB (w6 (x10 - 1)) (lM aD.enc x0 : Int)) (
   cond (Op.bytesLess (bI (cE aD.enc x8 x10 0)) (bI (cE aD.enc x0 (w6 (x10 - 1)) 0)) || (bI (cE aD.enc x8 x10 0)) == (bI (cE aD.enc x0 (w6 (x10 - 1)) 0))) (
   (rI 16)) (
   ajR (C89 Γ γ103) Λ2 J (List.map aD.enc x0) (List.map aD.enc x8) x9 (w6 (x10 + 1)))) none) (
  ajR (C89 Γ γ103) Λ2 J (List.map aD.enc x0) (List.map aD.enc x8) x9 (w6 (x10 + 1)))))) none) (
 (rI 0)) := by kernel_rfl
end
abbrev X89 : aP := C89 gG (cT 103 aI)
theorem ar4 : X89 = aR gG := by unfold X89 C89; rw [bB fun _ h => h]
abbrev avR := ajR X89 (cU SE gG (SE.hl 89) (SE.hr 89)) (J0 SE X89)
theorem adD : ∀ (fu : Nat) (x0 x8 : List aD) (x9 x10 : Int), Le (Option.map aJ (iU fu x0 x8 x9 x10)) (avR (List.map aD.enc x0) (List.map aD.enc x8) x9 x10) := by
 intro fu
 induction fu with
 | zero => intros; exact le_none
 | succ fu ih =>
  intro x0 x8 x9 x10
  refine Le.trans ?_ (le_of_eq ((bF ar4).trans (aur ..)).symm)
  unfold iU
  refine lC ?_ ?_
  ·refine lG (by simp only [EN]) ?_
   refine lQ eX bE (by (try simp only [EN]); exact aiz ((List.getD x8 (Int.toNat x10) default).Key)) fun r0 _ => ?_
   refine lC ?_ ?_
   ·exact aK rfl
   ·refine lD (by simp only [EN]) ?_ ?_
    ·exact aK rfl
    ·refine lC ?_ ?_
     ·refine lG (by simp only [EN]) ?_
      refine lD (by simp only [EN]) ?_ ?_
      ·exact aK rfl
      ·exact ih x0 x8 x9 (w6 (x10 + 1))
     ·exact ih x0 x8 x9 (w6 (x10 + 1))
  ·exact aK rfl
theorem aaI (p0 : List aD) : Le (Option.map aJ (o5 p0)) (bA SE 89 [.d (.sl aD.ks (List.map aD.enc p0))] [] []) := by
 refine aX ar4 rfl ?_
 refine Le.trans ?_ (le_of_eq (T89 ..).symm)
 unfold o5
 refine lD (by simp only [EN]) ?_ ?_
 ·exact aK rfl
 ·(try simp only [EN]); exact adD fuel p0 p0 (List.length p0 : Int) 0
section
variable (Γ : Fun) (γ88 γ83 γ65 : Gm (Bool)) (γ89 : Gm (Int)) (Λ2 J : Lam)
def C68 : aP := aZ (aZ (aZ (aZ (aR Γ) 88 aI γ88) 83 aI γ83) 65 aI γ65) 89 aJ γ89
theorem T68 (p0 : aA) : bL SE (C68 Γ γ88 γ83 γ65 γ89) Λ2 J 68 [aA.av p0] [] [] =
 γ88 [.d (.str p0.Topic)] [] [] fun r0 =>
 cond (!r0) (
 (rI 12)) (
 cond (decide ((List.length p0.Payload : Int) > 256)) (
 (rI 5)) (
 γ83 [.d (.int .i64 p0.Level), .d (.int .i64 2)] [] [] fun r1 =>
 cond (!r1) (
 (rI 14)) (
 γ83 [.d (.int .i64 p0.Priority), .d (.int .i64 9)] [] [] fun r2 =>
 cond (!r2) (
 (rI 1)) (
 γ83 [.d (.int .i64 p0.Expires), .d (.int .i64 1099511627776)] [] [] fun r3 =>
 cond (!r3) (
 (rI 1)) (
 cond (!(p0.From == ([] : Str))) (
 γ65 [.d (.str p0.From)] [] [] fun r4 =>
 cond (!r4) (
  (rI 11)) (
 γ83 [.d (.int .i64 p0.Seq), .d (.int .i64 1099511627776)] [] [] fun r5 =>
 cond (!r5) (
  (rI 1)) (
 γ89 [.d (.sl aD.ks (List.map aD.enc p0.Props))] [] [] fun r6 =>
 (rI r6)))) (
 γ83 [.d (.int .i64 p0.Seq), .d (.int .i64 1099511627776)] [] [] fun r7 =>
 cond (!r7) (
 (rI 1)) (
 γ89 [.d (.sl aD.ks (List.map aD.enc p0.Props))] [] [] fun r8 =>
 (rI r8)))))))) := by kernel_rfl
end
abbrev X68 : aP := C68 gG (cT 88 aI) (cT 83 aI) (cT 65 aI) (cT 89 aJ)
theorem axR : X68 = aR gG := by unfold X68 C68; repeat rw [bB fun _ h => h]
theorem oU (p0 : aA) : Le (Option.map aJ (hI p0)) (bA SE 68 [aA.av p0] [] []) := by
 refine aX axR rfl ?_
 refine Le.trans ?_ (le_of_eq (T68 ..).symm)
 unfold hI
 refine lQ eX bE (aiE _) fun r0 _ => ?_
 refine lC ?_ ?_
 ·exact aK rfl
 ·refine lC ?_ ?_
  ·exact aK rfl
  ·refine lQ eX bE (oZ _ _) fun r1 _ => ?_
   refine lC ?_ ?_
   ·exact aK rfl
   ·refine lQ eX bE (oZ _ _) fun r2 _ => ?_
    refine lC ?_ ?_
    ·exact aK rfl
    ·refine lQ eX bE (oZ _ _) fun r3 _ => ?_
     refine lC ?_ ?_
     ·exact aK rfl
     ·refine lC ?_ ?_
      ·refine lQ eX bE (uQ _) fun r4 _ => ?_
       refine lC ?_ ?_
       ·exact aK rfl
       ·refine lQ eX bE (oZ _ _) fun r5 _ => ?_
        refine lC ?_ ?_
        ·exact aK rfl
        ·refine lQ eX bK (aaI _) fun r6 _ => ?_
         exact aK rfl
      ·refine lQ eX bE (oZ _ _) fun r7 _ => ?_
       refine lC ?_ ?_
       ·exact aK rfl
       ·refine lQ eX bK (aaI _) fun r8 _ => ?_
        exact aK rfl
section
variable (Γ : Fun)  (Λ2 J : Lam)
def C95 : aP := aR Γ
theorem T95 (p0 : Int) : bL SE (C95 Γ) Λ2 J 95 [.d (.int .i64 p0)] [] [] =
 (rI (w6 ((Int.tmod p0 65535) + 1))) := by kernel_rfl
end
abbrev X95 : aP := C95 gG
theorem axq : X95 = aR gG := rfl
theorem ajG (p0 : Int) : Le (Option.map aJ (wY p0)) (bA SE 95 [.d (.int .i64 p0)] [] []) := by
 refine aX axq rfl ?_
 refine Le.trans ?_ (le_of_eq (T95 ..).symm)
 unfold wY
 exact aK rfl
section
variable (Γ : Fun)  (Λ2 J : Lam)
def atA : aP := aR Γ
theorem awK (p0 : Int) : bL SE (atA Γ) Λ2 J 112 [.d (.int .i64 p0)] [] [] =
 (rB (p0 != p0)) := by kernel_rfl
end
abbrev axn : aP := atA gG
theorem awg : axn = aR gG := rfl
theorem zK (p0 : Int) : Le (Option.map aI (qF p0)) (bA SE 112 [.d (.int .i64 p0)] [] []) := by
 refine aX awg rfl ?_
 refine Le.trans ?_ (le_of_eq (awK ..).symm)
 unfold qF
 exact aK rfl
section
variable (Γ : Fun) (γ112 : Gm (Bool)) (Λ2 J : Lam)
def apu : aP := aZ (aR Γ) 112 aI γ112
theorem awB (p0 p1 : Int) : bL SE (apu Γ γ112) Λ2 J 105 [.d (.int .i64 p0), .d (.int .i64 p1)] [] [] =
 γ112 [.d (.int .i64 p0)] [] [] fun r0 =>
 cond r0 (
 γ112 [.d (.int .i64 p1)] [] [] fun r1 =>
 cond (!r1) (
  (rB true)) (
 (rB (decide (p0 < p1))))) (
 (rB (decide (p0 < p1)))) := by kernel_rfl
end
abbrev atu : aP := apu gG (cT 112 aI)
theorem au6 : atu = aR gG := by unfold atu apu; rw [bB fun _ h => h]
theorem agO (p0 p1 : Int) : Le (Option.map aI (rJ p0 p1)) (bA SE 105 [.d (.int .i64 p0), .d (.int .i64 p1)] [] []) := by
 refine aX au6 rfl ?_
 refine Le.trans ?_ (le_of_eq (awB ..).symm)
 unfold rJ
 refine lQ eX bE (zK _) fun r0 _ => ?_
 refine lC ?_ ?_
 ·refine lQ eX bE (zK _) fun r1 _ => ?_
  refine lC ?_ ?_
  ·exact aK rfl
  ·exact aK rfl
 ·exact aK rfl
section
variable (Γ : Fun)  (Λ2 J : Lam)
def asD : aP := aR Γ
theorem awE (p0 : Int) : bL SE (asD Γ) Λ2 J 106 [.d (.int .i64 p0)] [] [] =
 (rB (p0 != p0)) := by kernel_rfl
end
abbrev axH : aP := asD gG
theorem au9 : axH = aR gG := rfl
theorem wA (p0 : Int) : Le (Option.map aI (kX p0)) (bA SE 106 [.d (.int .i64 p0)] [] []) := by
 refine aX au9 rfl ?_
 refine Le.trans ?_ (le_of_eq (awE ..).symm)
 unfold kX
 exact aK rfl
def aj7 (C : aP) (Λ2 J : Lam) (a0 : List (List D)) (a1 a2 a3 a4 : Int) : Res := lab SE C Λ2 J 96 0 [1, 1, 1, 0, 0] (bC [(0, .d (.sl [.int .i64] a0)), (1, .d (.int .i64 a1)), (6, .d (.int .i64 a2)), (7, .d (.int .i64 a3)), (8, .d (.int .i64 a4))] [] [] [] [])
section
variable (Γ : Fun) (γ105 γ106 : Gm (Bool)) (Λ2 J : Lam)
def C96 : aP := aZ (aZ (aR Γ) 105 aI γ105) 106 aI γ106
theorem T96 (p0 : List Int) (p1 : Int) : bL SE (C96 Γ γ105 γ106) Λ2 J 96 [.d (.sl [.int .i64] (List.map eI p0)), .d (.int .i64 p1)] [] [] =
 aj7 (C96 Γ γ105 γ106) Λ2 J (List.map eI p0) p1 (lM eI p0 : Int) 0 (lM eI p0 : Int) := by kernel_rfl
theorem aun (x0 : List Int) (x1 x6 x7 x8 : Int) : cY SE (C96 Γ γ105 γ106) Λ2 J 96 0 [1, 1, 1, 0, 0] (bC [(0, .d (.sl [.int .i64] (List.map eI x0))), (1, .d (.int .i64 x1)), (6, .d (.int .i64 x6)), (7, .d (.int .i64 x7)), (8, .d (.int .i64 x8))] [] [] [] []) =
 cond (decide (x7 < x8)) (
 cond (iB (w6 (shr .u64 (IntKind.wrap .u64 (w6 (x7 + x8))) 1)) (lM eI x0 : Int)) (
  γ105 [.d (.int .i64 (aS (cE eI x0 (w6 (shr .u64 (IntKind.wrap .u64 (w6 (x7 + x8))) 1)) 0))), .d (.int .i64 x1)] [] [] fun r0 =>
  cond r0 (
  aj7 (C96 Γ γ105 γ106) Λ2 J (List.map eI x0) x1 x6 (w6 ((w6 (shr .u64 (IntKind.wrap .u64 (w6 (x7 + x8))) 1)) + 1)) x8) (
  aj7 (C96 Γ γ105 γ106) Λ2 J (List.map eI x0) x1 x6 x7 (w6 (shr .u64 (IntKind.wrap .u64 (w6 (x7 + x8))) 1)))) none) (
 cond (decide (x7 < x6)) (
 cond (iB x7 (lM eI x0 : Int)) (
  cond ((aS (cE eI x0 x7 0)) == x1) (
  (some (.ret [.d (.int .i64 x7), .d (.bool true)] [] []))) (
  cond (iB x7 (lM eI x0 : Int)) (
  γ106 [.d (.int .i64 (aS (cE eI x0 x7 0)))] [] [] fun r1 =>
  cond r1 (
   γ106 [.d (.int .i64 x1)] [] [] fun r2 =>
   (some (.ret [.d (.int .i64 x7), .d (.bool r2)] [] []))) (
  (some (.ret [.d (.int .i64 x7), .d (.bool false)] [] [])))) none)) none) (
 (some (.ret [.d (.int .i64 x7), .d (.bool false)] [] [])))) := by kernel_rfl
end
abbrev X96 : aP := C96 gG (cT 105 aI) (cT 106 aI)
theorem atj : X96 = aR gG := by unfold X96 C96; repeat rw [bB fun _ h => h]
abbrev aul := aj7 X96 (cU SE gG (SE.hl 96) (SE.hr 96)) (J0 SE X96)
theorem sS : ∀ (fu : Nat) (x0 : List Int) (x1 x6 x7 x8 : Int), Le (Option.map bX (cN fu x0 x1 x6 x7 x8)) (aul (List.map eI x0) x1 x6 x7 x8) := by
 intro fu
 induction fu with
 | zero => intros; exact le_none
 | succ fu ih =>
  intro x0 x1 x6 x7 x8
  refine Le.trans ?_ (le_of_eq ((bF atj).trans (aun ..)).symm)
  unfold cN
  refine lC ?_ ?_
  ·refine lG (by simp only [EN]) ?_
   refine lQ eX bE (by (try simp only [EN]); exact agO (List.getD x0 (Int.toNat (w6 (shr .u64 (IntKind.wrap .u64 (w6 (x7 + x8))) 1))) default) x1) fun r0 _ => ?_
   refine lC ?_ ?_
   ·exact ih x0 x1 x6 (w6 ((w6 (shr .u64 (IntKind.wrap .u64 (w6 (x7 + x8))) 1)) + 1)) x8
   ·exact ih x0 x1 x6 x7 (w6 (shr .u64 (IntKind.wrap .u64 (w6 (x7 + x8))) 1))
  ·refine lC ?_ ?_
   ·refine lG (by simp only [EN]) ?_
    refine lD (by simp only [EN]) ?_ ?_
    ·exact aK rfl
    ·refine lG (by simp only [EN]) ?_
     refine lQ eX bE (by (try simp only [EN]); exact wA (List.getD x0 (Int.toNat x7) default)) fun r1 _ => ?_
     refine lC ?_ ?_
     ·refine lQ eX bE (wA _) fun r2 _ => ?_
      exact aK rfl
     ·exact aK rfl
   ·exact aK rfl
theorem jT (p0 : List Int) (p1 : Int) : Le (Option.map bX (dW p0 p1)) (bA SE 96 [.d (.sl [.int .i64] (List.map eI p0)), .d (.int .i64 p1)] [] []) := by
 refine aX atj rfl ?_
 refine Le.trans ?_ (le_of_eq (T96 ..).symm)
 unfold dW
 (try simp only [EN]); exact sS fuel p0 p1 (List.length p0 : Int) 0 (List.length p0 : Int)
theorem yP (p0 : List Int) (p1 : Int) (p2 : List Int) : Le (Option.map bM (kK p0 p1 p2)) (bA SE 97 [.row 2000000000, .d (.int .i64 p1), .row 2000000001] [] [⟨[.int .i64], 3, 8, (List.map eI p0)⟩, ⟨[.int .i64], 3, 8, (List.map eI p2)⟩]) := aos (f := 97) (enc := eI) rfl rfl p0 p1 p2
def am0 (C : aP) (Λ2 J : Lam) (a0 a1 a2 : Int) (a3 a4 : List D) : Res := lab SE C Λ2 J 76 0 [1, 1, 1, 0, 1, 0] (bC [(1, .ptr 1000000000 0), (3, .ptr 1000000001 0), (5, .d (.int .i64 a0)), (18, .d (.int .i64 a1)), (19, .d (.int .i64 a2))] [⟨36, (List.map AV.d a3)⟩, ⟨36, (List.map AV.d a4)⟩] [] [] [])
section
variable (Γ : Fun) (γ95 : Gm (Int)) (γ96 : Gm (Int × Bool)) (γ51 γ97 : Gm ((List Int))) (Λ2 J : Lam)
def C76 : aP := aZ (aZ (aZ (aZ (aR Γ) 95 aJ γ95) 96 bX γ96) 51 bM γ51) 97 bM γ97
theorem T76 (p0 : aQ) : bL SE (C76 Γ γ95 γ96 γ51 γ97) Λ2 J 76 [aQ.av p0] [] [] =
 cond (decide ((lM eI p0.Used : Int) ≥ 32)) (
 (some (.ret [.d (.int .i64 0), .agg [.row 0, .d (.int .i64 0)], .d (.int .i64 6)] [] [⟨[.int .i64], 3, 8, (List.map eI [])⟩]))) (
 am0 (C76 Γ γ95 γ96 γ51 γ97) Λ2 J p0.Last (w6 ((lM eI p0.Used : Int) + 1)) 0 (aQ.enc p0) [D.sl [.int .i64] (List.map eI []), D.int .i64 0]) := by kernel_rfl
theorem auC (x5 x18 x19 : Int) (b0 b1 : aQ) : cY SE (C76 Γ γ95 γ96 γ51 γ97) Λ2 J 76 0 [1, 1, 1, 0, 1, 0] (bC [(1, .ptr 1000000000 0), (3, .ptr 1000000001 0), (5, .d (.int .i64 x5)), (18, .d (.int .i64 x18)), (19, .d (.int .i64 x19))] [⟨36, (List.map AV.d (aQ.enc b0))⟩, ⟨36, (List.map AV.d (aQ.enc b1))⟩] [] [] []) =
 cond (decide (x19 < x18)) (
 γ95 [.d (.int .i64 x5)] [] [] fun r0 =>
 γ96 [.d (.sl [.int .i64] (List.map eI b0.Used)), .d (.int .i64 r0)] [] [] fun r1 =>
 cond (!r1.2) (
  γ51 [.d (.sl [.int .i64] (List.map eI b0.Used))] [] [] fun r2 =>
  γ97 [.row 2000000000, .d (.int .i64 r1.1), .row 2000000001] [] [⟨[.int .i64], 3, 8, (List.map eI r2)⟩, ⟨[.int .i64], 3, 8, (List.map eI [r0])⟩] fun r3 =>
  (some (.ret [.d (.int .i64 r0), .agg [.row 0, .d (.int .i64 r0)], .d (.int .i64 0)] [] [⟨[.int .i64], 3, 8, (List.map eI r3)⟩]))) (
 am0 (C76 Γ γ95 γ96 γ51 γ97) Λ2 J r0 x18 (w6 (x19 + 1)) (aQ.enc b0) (aQ.enc b1))) (
 (some (.ret [.d (.int .i64 0), .agg [.row 0, .d (.int .i64 0)], .d (.int .i64 6)] [] [⟨[.int .i64], 3, 8, (List.map eI [])⟩]))) := by kernel_rfl
end
abbrev X76 : aP := C76 gG (cT 95 aJ) (cT 96 bX) (cT 51 bM) (cT 97 bM)
theorem atg : X76 = aR gG := by unfold X76 C76; repeat rw [bB fun _ h => h]
abbrev awb := am0 X76 (cU SE gG (SE.hl 76) (SE.hr 76)) (J0 SE X76)
theorem agj : ∀ (fu : Nat) (x5 x18 x19 : Int) (b0 b1 : aQ), Le (Option.map mC (nJ fu x5 x18 x19 b0 b1)) (awb x5 x18 x19 (aQ.enc b0) (aQ.enc b1)) := by
 intro fu
 induction fu with
 | zero => intros; exact le_none
 | succ fu ih =>
  intro x5 x18 x19 b0 b1
  refine Le.trans ?_ (le_of_eq ((bF atg).trans (auC ..)).symm)
  unfold nJ
  refine lC ?_ ?_
  ·refine lQ eX bK (ajG _) fun r0 _ => ?_
   refine lQ eX jH (jT _ _) fun r1 _ => ?_
   refine lC ?_ ?_
   ·refine lQ eX eJ (hR _) fun r2 _ => ?_
    refine lQ eX eJ (yP _ _ _) fun r3 _ => ?_
    exact aK rfl
   ·exact ih r0 x18 (w6 (x19 + 1)) b0 b1
  ·exact aK rfl
theorem ajy (p0 : aQ) : Le (Option.map mC (wG p0)) (bA SE 76 [aQ.av p0] [] []) := by
 refine aX atg rfl ?_
 refine Le.trans ?_ (le_of_eq (T76 ..).symm)
 unfold wG
 refine lD (by simp only [EN]) ?_ ?_
 ·exact aK rfl
 ·(try simp only [EN]); exact agj fuel p0.Last (w6 ((List.length p0.Used : Int) + 1)) 0 p0 (aQ.mk [] 0)
section
variable (Γ : Fun) (γ49 : Gm ((List aD))) (Λ2 J : Lam)
def C77 : aP := aZ (aR Γ) 49 cM γ49
theorem T77 (p0 : aA) : bL SE (C77 Γ γ49) Λ2 J 77 [aA.av p0] [] [] =
 γ49 [.d (.sl aD.ks (List.map aD.enc p0.Props))] [] [] fun r0 =>
 (some (.ret [.agg [.d (.str p0.Topic), .d (.str p0.Payload), .d (.int .i64 p0.Level), .d (.bool p0.Retain), .d (.int .i64 p0.Priority), .d (.int .i64 p0.Expires), .d (.str p0.From), .d (.int .i64 p0.Seq), .row 0]] [] [⟨aD.ks, 104, 32, (List.map aD.enc r0)⟩])) := by kernel_rfl
end
abbrev X77 : aP := C77 gG (cT 49 cM)
theorem axg : X77 = aR gG := by unfold X77 C77; rw [bB fun _ h => h]
theorem tF (p0 : aA) : Le (Option.map bR (kM p0)) (bA SE 77 [aA.av p0] [] []) := by
 refine aX axg rfl ?_
 refine Le.trans ?_ (le_of_eq (T77 ..).symm)
 unfold kM
 refine lQ eX mD (mL _) fun r0 _ => ?_
 exact aK rfl
def amR (C : aP) (Λ2 J : Lam) (a0 : List (List D)) (a1 a2 : Int) (a3 a4 : List D) (a5 : List (List D)) : Res := lab SE C Λ2 J 73 0 [1, 1, 0, 1, 0] (bC [(1, .ptr 1000000000 0), (2, .ptr 1000000001 0), (3, .row 3003), (12, .d (.sl aB.ks a0)), (13, .d (.int .i64 a1)), (14, .d (.int .i64 a2))] [⟨38, (List.map AV.d a3)⟩, ⟨38, (List.map AV.d a4)⟩] [] [] [(3003, ⟨aB.ks, 79, 128, a5⟩)])
section
variable (Γ : Fun) (γ77 : Gm (aA)) (γ51 : Gm ((List Int))) (Λ2 J : Lam)
def C73 : aP := aZ (aZ (aR Γ) 77 bR γ77) 51 bM γ51
theorem T73 (p0 : aH) : bL SE (C73 Γ γ77 γ51) Λ2 J 73 [aH.av p0] [] [] =
 cond (decide (0 ≤ 0) && decide (0 ≤ (w6 ((lM aB.enc p0.Items : Int) + 1))) && decide ((w6 ((lM aB.enc p0.Items : Int) + 1)) * 128 ≤ 281474976710656)) (
 amR (C73 Γ γ77 γ51) Λ2 J (List.map aB.enc p0.Items) (lM aB.enc p0.Items : Int) 0 (aH.enc p0) [D.int .i64 0, D.sl aB.ks (List.map aB.enc []), D.sl [.int .i64] (List.map eI []), D.int .i64 0] (List.map aB.enc [])) none := by kernel_rfl
theorem av5 (x12 : List aB) (x13 x14 : Int) (b0 b1 : aH) (w3003 : List aB) : cY SE (C73 Γ γ77 γ51) Λ2 J 73 0 [1, 1, 0, 1, 0] (bC [(1, .ptr 1000000000 0), (2, .ptr 1000000001 0), (3, .row 3003), (12, .d (.sl aB.ks (List.map aB.enc x12))), (13, .d (.int .i64 x13)), (14, .d (.int .i64 x14))] [⟨38, (List.map AV.d (aH.enc b0))⟩, ⟨38, (List.map AV.d (aH.enc b1))⟩] [] [] [(3003, ⟨aB.ks, 79, 128, (List.map aB.enc w3003)⟩)]) =
 cond (decide (x14 < x13)) (
 cond (iB x14 (lM aB.enc x12 : Int)) (
  γ77 [.agg [.d (.str (bI (cE aB.enc x12 x14 2))), .d (.str (bI (cE aB.enc x12 x14 3))), .d (.int .i64 (aS (cE aB.enc x12 x14 4))), .d (.bool (bZ (cE aB.enc x12 x14 5))), .d (.int .i64 (aS (cE aB.enc x12 x14 6))), .d (.int .i64 (aS (cE aB.enc x12 x14 7))), .d (.str (bI (cE aB.enc x12 x14 8))), .d (.int .i64 (aS (cE aB.enc x12 x14 9))), .d (.sl aD.ks (dSl (cE aB.enc x12 x14 10)))]] [] [] fun r0 =>
  cond (decide ((lM aB.enc w3003 + List.length [[D.int .i64 (aS (cE aB.enc x12 x14 0)), D.int .i64 (aS (cE aB.enc x12 x14 1)), D.str r0.Topic, D.str r0.Payload, D.int .i64 r0.Level, D.bool r0.Retain, D.int .i64 r0.Priority, D.int .i64 r0.Expires, D.str r0.From, D.int .i64 r0.Seq, D.sl aD.ks (List.map aD.enc r0.Props)]]) * 128 ≤ 140737488355328)) (
  amR (C73 Γ γ77 γ51) Λ2 J (List.map aB.enc x12) x13 (w6 (x14 + 1)) (aH.enc b0) (aH.enc b1) (((List.map aB.enc w3003) ++ [[D.int .i64 (aS (cE aB.enc x12 x14 0)), D.int .i64 (aS (cE aB.enc x12 x14 1)), D.str r0.Topic, D.str r0.Payload, D.int .i64 r0.Level, D.bool r0.Retain, D.int .i64 r0.Priority, D.int .i64 r0.Expires, D.str r0.From, D.int .i64 r0.Seq, D.sl aD.ks (List.map aD.enc r0.Props)]]))) none) none) (
 γ51 [.d (.sl [.int .i64] (List.map eI b0.Pool.Used))] [] [] fun r1 =>
 (some (.ret [.agg [.d (.int .i64 b0.Limit), .row 0, .row 1, .d (.int .i64 b0.Pool.Last)]] [] [⟨aB.ks, 79, 128, (List.map aB.enc w3003)⟩, ⟨[.int .i64], 3, 8, (List.map eI r1)⟩]))) := by kernel_rfl
end
abbrev X73 : aP := C73 gG (cT 77 bR) (cT 51 bM)
theorem asw : X73 = aR gG := by unfold X73 C73; repeat rw [bB fun _ h => h]
abbrev auD := amR X73 (cU SE gG (SE.hl 73) (SE.hr 73)) (J0 SE X73)
theorem adm : ∀ (fu : Nat) (x12 : List aB) (x13 x14 : Int) (b0 b1 : aH) (w3003 : List aB), Le (Option.map cR (jI fu x12 x13 x14 b0 b1 w3003)) (auD (List.map aB.enc x12) x13 x14 (aH.enc b0) (aH.enc b1) (List.map aB.enc w3003)) := by
 intro fu
 induction fu with
 | zero => intros; exact le_none
 | succ fu ih =>
  intro x12 x13 x14 b0 b1 w3003
  refine Le.trans ?_ (le_of_eq ((bF asw).trans (av5 ..)).symm)
  unfold jI
  refine lC ?_ ?_
  ·refine lG (by simp only [EN]) ?_
   refine lQ eX dG (by (try simp only [EN]); exact tF ((List.getD x12 (Int.toNat x14) default).Message)) fun r0 _ => ?_
   refine lG (by simp only [EN]) ?_
   (try simp only [EN]); exact ih x12 x13 (w6 (x14 + 1)) b0 b1 ((w3003 ++ [(aB.mk (List.getD x12 (Int.toNat x14) default).ID (List.getD x12 (Int.toNat x14) default).State r0)]))
  ·refine lQ eX eJ (hR _) fun r1 _ => ?_
   exact aK rfl
theorem k8 (p0 : aH) : Le (Option.map cR (hZ p0)) (bA SE 73 [aH.av p0] [] []) := by
 refine aX asw rfl ?_
 refine Le.trans ?_ (le_of_eq (T73 ..).symm)
 unfold hZ
 refine lG (by simp only [EN]) ?_
 (try simp only [EN]); exact adm fuel p0.Items (List.length p0.Items : Int) 0 p0 ((aH.mk 0 [] (aQ.mk [] 0))) []
section
variable (Γ : Fun) (γ77 : Gm (aA)) (Λ2 J : Lam)
def C64 : aP := aZ (aR Γ) 77 bR γ77
theorem T64 (p0 : aB) : bL SE (C64 Γ γ77) Λ2 J 64 [aB.av p0] [] [] =
 γ77 [aA.av p0.Message] [] [] fun r0 =>
 (some (.ret [.agg [.d (.int .i64 3), .d (.int .i64 p0.ID), .d (.bool false), .d (.str r0.Topic), .d (.str r0.Payload), .d (.int .i64 r0.Level), .d (.bool r0.Retain), .d (.int .i64 r0.Priority), .d (.int .i64 r0.Expires), .d (.str r0.From), .d (.int .i64 r0.Seq), .row 0, .d (.str []), .d (.str []), .d (.bool false), .d (.int .i64 0), .d (.int .i64 0), .d (.int .i64 0), .d (.bool false), .d (.int .i64 0), .d (.str []), .d (.str []), .d (.int .i64 0), .d (.bool false), .d (.int .i64 0), .d (.int .i64 0), .d (.str []), .d (.int .i64 0), .row 1, .d (.bool false), .d (.int .i64 0), .row 2, .row 3, .row 4]] [] [⟨aD.ks, 104, 32, (List.map aD.enc r0.Props)⟩, ⟨aD.ks, 104, 32, (List.map aD.enc [])⟩, ⟨aG.ks, 73, 32, (List.map aG.enc [])⟩, ⟨[.str], 9, 16, (List.map bU [])⟩, ⟨[.int .i64], 3, 8, (List.map eI [])⟩])) := by kernel_rfl
end
abbrev X64 : aP := C64 gG (cT 77 bR)
theorem awW : X64 = aR gG := by unfold X64 C64; rw [bB fun _ h => h]
theorem xB (p0 : aB) : Le (Option.map cX (lV p0)) (bA SE 64 [aB.av p0] [] []) := by
 refine aX awW rfl ?_
 refine Le.trans ?_ (le_of_eq (T64 ..).symm)
 unfold lV
 refine lQ eX dG (tF _) fun r0 _ => ?_
 exact aK rfl
section
variable (Γ : Fun) (γ75 γ68 : Gm (Int)) (γ76 : Gm (Int × aQ × Int)) (γ73 : Gm (aH)) (γ77 : Gm (aA)) (γ64 : Gm (aF)) (Λ2 J : Lam)
def C55 : aP := aZ (aZ (aZ (aZ (aZ (aZ (aR Γ) 75 aJ γ75) 68 aJ γ68) 76 mC γ76) 73 cR γ73) 77 bR γ77) 64 cX γ64
theorem T55 (p0 : aH) (p1 : aA) : bL SE (C55 Γ γ75 γ68 γ76 γ73 γ77 γ64) Λ2 J 55 [aH.av p0, aA.av p1] [] [] =
 cond (p1.Level == 0) (
 (some (.ret [.agg [.d (.int .i64 0), .row 0, .row 1, .d (.int .i64 0)], .agg [.d (.int .i64 0), .d (.int .i64 0), .d (.bool false), .d (.str []), .d (.str []), .d (.int .i64 0), .d (.bool false), .d (.int .i64 0), .d (.int .i64 0), .d (.str []), .d (.int .i64 0), .row 2, .d (.str []), .d (.str []), .d (.bool false), .d (.int .i64 0), .d (.int .i64 0), .d (.int .i64 0), .d (.bool false), .d (.int .i64 0), .d (.str []), .d (.str []), .d (.int .i64 0), .d (.bool false), .d (.int .i64 0), .d (.int .i64 0), .d (.str []), .d (.int .i64 0), .row 3, .d (.bool false), .d (.int .i64 0), .row 4, .row 5, .row 6], .d (.int .i64 14)] [] [⟨aB.ks, 79, 128, (List.map aB.enc [])⟩, ⟨[.int .i64], 3, 8, (List.map eI [])⟩, ⟨aD.ks, 104, 32, (List.map aD.enc [])⟩, ⟨aD.ks, 104, 32, (List.map aD.enc [])⟩, ⟨aG.ks, 73, 32, (List.map aG.enc [])⟩, ⟨[.str], 9, 16, (List.map bU [])⟩, ⟨[.int .i64], 3, 8, (List.map eI [])⟩]))) (
 γ75 [aH.av p0] [] [] fun r0 =>
 cond (r0 == 0) (
 (some (.ret [.agg [.d (.int .i64 0), .row 0, .row 1, .d (.int .i64 0)], .agg [.d (.int .i64 0), .d (.int .i64 0), .d (.bool false), .d (.str []), .d (.str []), .d (.int .i64 0), .d (.bool false), .d (.int .i64 0), .d (.int .i64 0), .d (.str []), .d (.int .i64 0), .row 2, .d (.str []), .d (.str []), .d (.bool false), .d (.int .i64 0), .d (.int .i64 0), .d (.int .i64 0), .d (.bool false), .d (.int .i64 0), .d (.str []), .d (.str []), .d (.int .i64 0), .d (.bool false), .d (.int .i64 0), .d (.int .i64 0), .d (.str []), .d (.int .i64 0), .row 3, .d (.bool false), .d (.int .i64 0), .row 4, .row 5, .row 6], .d (.int .i64 6)] [] [⟨aB.ks, 79, 128, (List.map aB.enc [])⟩, ⟨[.int .i64], 3, 8, (List.map eI [])⟩, ⟨aD.ks, 104, 32, (List.map aD.enc [])⟩, ⟨aD.ks, 104, 32, (List.map aD.enc [])⟩, ⟨aG.ks, 73, 32, (List.map aG.enc [])⟩, ⟨[.str], 9, 16, (List.map bU [])⟩, ⟨[.int .i64], 3, 8, (List.map eI [])⟩]))) (
 γ68 [aA.av p1] [] [] fun r1 =>
 cond (r1 != 0) (
 (some (.ret [.agg [.d (.int .i64 0), .row 0, .row 1, .d (.int .i64 0)], .agg [.d (.int .i64 0), .d (.int .i64 0), .d (.bool false), .d (.str []), .d (.str []), .d (.int .i64 0), .d (.bool false), .d (.int .i64 0), .d (.int .i64 0), .d (.str []), .d (.int .i64 0), .row 2, .d (.str []), .d (.str []), .d (.bool false), .d (.int .i64 0), .d (.int .i64 0), .d (.int .i64 0), .d (.bool false), .d (.int .i64 0), .d (.str []), .d (.str []), .d (.int .i64 0), .d (.bool false), .d (.int .i64 0), .d (.int .i64 0), .d (.str []), .d (.int .i64 0), .row 3, .d (.bool false), .d (.int .i64 0), .row 4, .row 5, .row 6], .d (.int .i64 r1)] [] [⟨aB.ks, 79, 128, (List.map aB.enc [])⟩, ⟨[.int .i64], 3, 8, (List.map eI [])⟩, ⟨aD.ks, 104, 32, (List.map aD.enc [])⟩, ⟨aD.ks, 104, 32, (List.map aD.enc [])⟩, ⟨aG.ks, 73, 32, (List.map aG.enc [])⟩, ⟨[.str], 9, 16, (List.map bU [])⟩, ⟨[.int .i64], 3, 8, (List.map eI [])⟩]))) (
 γ76 [aQ.av p0.Pool] [] [] fun r2 =>
 cond (r2.2.2 != 0) (
 (some (.ret [.agg [.d (.int .i64 0), .row 0, .row 1, .d (.int .i64 0)], .agg [.d (.int .i64 0), .d (.int .i64 0), .d (.bool false), .d (.str []), .d (.str []), .d (.int .i64 0), .d (.bool false), .d (.int .i64 0), .d (.int .i64 0), .d (.str []), .d (.int .i64 0), .row 2, .d (.str []), .d (.str []), .d (.bool false), .d (.int .i64 0), .d (.int .i64 0), .d (.int .i64 0), .d (.bool false), .d (.int .i64 0), .d (.str []), .d (.str []), .d (.int .i64 0), .d (.bool false), .d (.int .i64 0), .d (.int .i64 0), .d (.str []), .d (.int .i64 0), .row 3, .d (.bool false), .d (.int .i64 0), .row 4, .row 5, .row 6], .d (.int .i64 r2.2.2)] [] [⟨aB.ks, 79, 128, (List.map aB.enc [])⟩, ⟨[.int .i64], 3, 8, (List.map eI [])⟩, ⟨aD.ks, 104, 32, (List.map aD.enc [])⟩, ⟨aD.ks, 104, 32, (List.map aD.enc [])⟩, ⟨aG.ks, 73, 32, (List.map aG.enc [])⟩, ⟨[.str], 9, 16, (List.map bU [])⟩, ⟨[.int .i64], 3, 8, (List.map eI [])⟩]))) (
 γ73 [aH.av p0] [] [] fun r3 =>
 γ77 [aA.av p1] [] [] fun r4 =>
 cond (decide ((lM aB.enc r3.Items + lM aB.enc [(aB.mk r2.1 1 r4)]) * 128 ≤ 140737488355328)) (
 γ64 [aB.av (aB.mk r2.1 1 r4)] [] [] fun r5 =>
 (some (.ret [.agg [.d (.int .i64 r3.Limit), .row 0, .row 1, .d (.int .i64 r2.2.1.Last)], .agg [.d (.int .i64 r5.Kind), .d (.int .i64 r5.ID), .d (.bool r5.Dup), .d (.str r5.Message.Topic), .d (.str r5.Message.Payload), .d (.int .i64 r5.Message.Level), .d (.bool r5.Message.Retain), .d (.int .i64 r5.Message.Priority), .d (.int .i64 r5.Message.Expires), .d (.str r5.Message.From), .d (.int .i64 r5.Message.Seq), .row 2, .d (.str r5.Client), .d (.str r5.User), .d (.bool r5.Clean), .d (.int .i64 r5.Keep), .d (.int .i64 r5.Expiry), .d (.int .i64 r5.Window), .d (.bool r5.Will.Set), .d (.int .i64 r5.Will.Delay), .d (.str r5.Will.Message.Topic), .d (.str r5.Will.Message.Payload), .d (.int .i64 r5.Will.Message.Level), .d (.bool r5.Will.Message.Retain), .d (.int .i64 r5.Will.Message.Priority), .d (.int .i64 r5.Will.Message.Expires), .d (.str r5.Will.Message.From), .d (.int .i64 r5.Will.Message.Seq), .row 3, .d (.bool r5.Present), .d (.int .i64 r5.Code), .row 4, .row 5, .row 6], .d (.int .i64 0)] [] [⟨aB.ks, 79, 128, ((List.map aB.enc r3.Items) ++ (List.map aB.enc [(aB.mk r2.1 1 r4)]))⟩, ⟨[.int .i64], 3, 8, (List.map eI r2.2.1.Used)⟩, ⟨aD.ks, 104, 32, (List.map aD.enc r5.Message.Props)⟩, ⟨aD.ks, 104, 32, (List.map aD.enc r5.Will.Message.Props)⟩, ⟨aG.ks, 73, 32, (List.map aG.enc r5.Subs)⟩, ⟨[.str], 9, 16, (List.map bU r5.Filters)⟩, ⟨[.int .i64], 3, 8, (List.map eI r5.Codes)⟩]))) none)))) := by kernel_rfl
end
abbrev X55 : aP := C55 gG (cT 75 aJ) (cT 68 aJ) (cT 76 mC) (cT 73 cR) (cT 77 bR) (cT 64 cX)
theorem axZ : X55 = aR gG := by unfold X55 C55; repeat rw [bB fun _ h => h]
theorem afr (p0 : aH) (p1 : aA) : Le (Option.map iS (n8 p0 p1)) (bA SE 55 [aH.av p0, aA.av p1] [] []) := by
 refine aX axZ rfl ?_
 refine Le.trans ?_ (le_of_eq (T55 ..).symm)
 unfold n8
 refine lC ?_ ?_
 ·exact aK rfl
 ·refine lQ eX bK (agG _) fun r0 _ => ?_
  refine lC ?_ ?_
  ·exact aK rfl
  ·refine lQ eX bK (oU _) fun r1 _ => ?_
   refine lC ?_ ?_
   ·exact aK rfl
   ·refine lQ eX ah3 (ajy _) fun r2 _ => ?_
    refine lC ?_ ?_
    ·exact aK rfl
    ·refine lQ eX gZ (k8 _) fun r3 _ => ?_
     refine lQ eX dG (tF _) fun r4 _ => ?_
     refine lG (by simp only [EN]) ?_
     refine lQ eX kW (xB _) fun r5 _ => ?_
     exact aK (by first | rfl | simp only [EN, iS] <;> rfl)
def agW (C : aP) (Λ2 J : Lam) (a0 : Int) (a1 a2 : List D) (a3 : List (List D)) : Res := lab SE C Λ2 J 19 0 [1, 0, 0] (bC [(1, .d (.int .i64 a0)), (2, .row 3002), (3, .ptr 1000000000 0), (6, .ptr 1000000001 0)] [⟨42, (List.map AV.d a1)⟩, ⟨42, (List.map AV.d a2)⟩] [] [] [(3002, ⟨aF.ks, 32, 416, a3⟩)])
section
variable (Γ : Fun) (γ54 : Gm (Bool)) (γ17 : Gm (aC)) (γ14 : Gm (aA)) (γ55 : Gm (aH × aF × Int)) (Λ2 J : Lam)
def C19 : aP := aZ (aZ (aZ (aZ (aR Γ) 54 aI γ54) 17 dB γ17) 14 bR γ14) 55 iS γ55
theorem T19 (p0 : aC) (p1 : Int) (p2 : List aF) : bL SE (C19 Γ γ54 γ17 γ14 γ55) Λ2 J 19 [aC.av p0, .d (.int .i64 p1), .row 2000000000] [] [⟨aF.ks, 32, 416, (List.map aF.enc p2)⟩] =
 agW (C19 Γ γ54 γ17 γ14 γ55) Λ2 J p1 (aC.enc p0) [D.str [], D.str [], D.bool false, D.int .i64 0, D.int .i64 0, D.int .i64 0, D.int .i64 0, D.sl aG.ks (List.map aG.enc []), D.sl aA.ks (List.map aA.enc []), D.int .i64 0, D.sl aB.ks (List.map aB.enc []), D.sl [.int .i64] (List.map eI []), D.int .i64 0, D.sl [.int .i64] (List.map eI []), D.bool false, D.int .i64 0, D.str [], D.str [], D.int .i64 0, D.bool false, D.int .i64 0, D.int .i64 0, D.str [], D.int .i64 0, D.sl aD.ks (List.map aD.enc [])] (List.map aF.enc p2) := by kernel_rfl
theorem auW (x1 : Int) (b0 b1 : aC) (w3002 : List aF) : cY SE (C19 Γ γ54 γ17 γ14 γ55) Λ2 J 19 0 [1, 0, 0] (bC [(1, .d (.int .i64 x1)), (2, .row 3002), (3, .ptr 1000000000 0), (6, .ptr 1000000001 0)] [⟨42, (List.map AV.d (aC.enc b0))⟩, ⟨42, (List.map AV.d (aC.enc b1))⟩] [] [] [(3002, ⟨aF.ks, 32, 416, (List.map aF.enc w3002)⟩)]) =
 cond (decide ((lM aA.enc b0.Queue : Int) > 0)) (
 cond (decide (0 ≤ 0) && decide (0 < (lM aA.enc b0.Queue : Int))) (
  γ54 [.agg [.d (.str (bI (cE aA.enc b0.Queue 0 0))), .d (.str (bI (cE aA.enc b0.Queue 0 1))), .d (.int .i64 (aS (cE aA.enc b0.Queue 0 2))), .d (.bool (bZ (cE aA.enc b0.Queue 0 3))), .d (.int .i64 (aS (cE aA.enc b0.Queue 0 4))), .d (.int .i64 (aS (cE aA.enc b0.Queue 0 5))), .d (.str (bI (cE aA.enc b0.Queue 0 6))), .d (.int .i64 (aS (cE aA.enc b0.Queue 0 7))), .d (.sl aD.ks (dSl (cE aA.enc b0.Queue 0 8)))], .d (.int .i64 x1)] [] [] fun r0 =>
  cond r0 (
  γ17 [aC.av b0, .d (.int .i64 1)] [] [] fun r1 =>
  cond (decide (0 ≤ 1) && decide (1 ≤ ((lM aA.enc r1.Queue) : Int))) (
   agW (C19 Γ γ54 γ17 γ14 γ55) Λ2 J x1 [D.str r1.Client, D.str r1.User, D.bool r1.Online, D.int .i64 r1.Conn, D.int .i64 r1.Expiry, D.int .i64 r1.Until, D.int .i64 r1.Dropped, D.sl aG.ks (List.map aG.enc r1.Subs), D.sl aA.ks (eF (List.map aA.enc r1.Queue) (some 1) none), D.int .i64 r1.Out.Limit, D.sl aB.ks (List.map aB.enc r1.Out.Items), D.sl [.int .i64] (List.map eI r1.Out.Pool.Used), D.int .i64 r1.Out.Pool.Last, D.sl [.int .i64] (List.map eI r1.In.IDs), D.bool r1.Will.Set, D.int .i64 r1.Will.Delay, D.str r1.Will.Message.Topic, D.str r1.Will.Message.Payload, D.int .i64 r1.Will.Message.Level, D.bool r1.Will.Message.Retain, D.int .i64 r1.Will.Message.Priority, D.int .i64 r1.Will.Message.Expires, D.str r1.Will.Message.From, D.int .i64 r1.Will.Message.Seq, D.sl aD.ks (List.map aD.enc r1.Will.Message.Props)] (aC.enc b1) (List.map aF.enc w3002)) none) (
  cond ((aS (cE aA.enc b0.Queue 0 2)) == 0) (
  γ14 [.agg [.d (.str (bI (cE aA.enc b0.Queue 0 0))), .d (.str (bI (cE aA.enc b0.Queue 0 1))), .d (.int .i64 (aS (cE aA.enc b0.Queue 0 2))), .d (.bool (bZ (cE aA.enc b0.Queue 0 3))), .d (.int .i64 (aS (cE aA.enc b0.Queue 0 4))), .d (.int .i64 (aS (cE aA.enc b0.Queue 0 5))), .d (.str (bI (cE aA.enc b0.Queue 0 6))), .d (.int .i64 (aS (cE aA.enc b0.Queue 0 7))), .d (.sl aD.ks (dSl (cE aA.enc b0.Queue 0 8)))]] [] [] fun r2 =>
  cond (decide ((lM aF.enc w3002 + List.length [[D.int .i64 3, D.int .i64 0, D.bool false, D.str r2.Topic, D.str r2.Payload, D.int .i64 r2.Level, D.bool r2.Retain, D.int .i64 r2.Priority, D.int .i64 r2.Expires, D.str r2.From, D.int .i64 r2.Seq, D.sl aD.ks (List.map aD.enc r2.Props), D.str [], D.str [], D.bool false, D.int .i64 0, D.int .i64 0, D.int .i64 0, D.bool false, D.int .i64 0, D.str [], D.str [], D.int .i64 0, D.bool false, D.int .i64 0, D.int .i64 0, D.str [], D.int .i64 0, D.sl aD.ks (List.map aD.enc []), D.bool false, D.int .i64 0, D.sl aG.ks (List.map aG.enc []), D.sl [.str] (List.map bU []), D.sl [.int .i64] (List.map eI [])]]) * 416 ≤ 140737488355328)) (
   cond (decide (0 ≤ 1) && decide (1 ≤ ((lM aA.enc b0.Queue) : Int))) (
   agW (C19 Γ γ54 γ17 γ14 γ55) Λ2 J x1 [D.str b0.Client, D.str b0.User, D.bool b0.Online, D.int .i64 b0.Conn, D.int .i64 b0.Expiry, D.int .i64 b0.Until, D.int .i64 b0.Dropped, D.sl aG.ks (List.map aG.enc b0.Subs), D.sl aA.ks (eF (List.map aA.enc b0.Queue) (some 1) none), D.int .i64 b0.Out.Limit, D.sl aB.ks (List.map aB.enc b0.Out.Items), D.sl [.int .i64] (List.map eI b0.Out.Pool.Used), D.int .i64 b0.Out.Pool.Last, D.sl [.int .i64] (List.map eI b0.In.IDs), D.bool b0.Will.Set, D.int .i64 b0.Will.Delay, D.str b0.Will.Message.Topic, D.str b0.Will.Message.Payload, D.int .i64 b0.Will.Message.Level, D.bool b0.Will.Message.Retain, D.int .i64 b0.Will.Message.Priority, D.int .i64 b0.Will.Message.Expires, D.str b0.Will.Message.From, D.int .i64 b0.Will.Message.Seq, D.sl aD.ks (List.map aD.enc b0.Will.Message.Props)] (aC.enc b1) (((List.map aF.enc w3002) ++ [[D.int .i64 3, D.int .i64 0, D.bool false, D.str r2.Topic, D.str r2.Payload, D.int .i64 r2.Level, D.bool r2.Retain, D.int .i64 r2.Priority, D.int .i64 r2.Expires, D.str r2.From, D.int .i64 r2.Seq, D.sl aD.ks (List.map aD.enc r2.Props), D.str [], D.str [], D.bool false, D.int .i64 0, D.int .i64 0, D.int .i64 0, D.bool false, D.int .i64 0, D.str [], D.str [], D.int .i64 0, D.bool false, D.int .i64 0, D.int .i64 0, D.str [], D.int .i64 0, D.sl aD.ks (List.map aD.enc []), D.bool false, D.int .i64 0, D.sl aG.ks (List.map aG.enc []), D.sl [.str] (List.map bU []), D.sl [.int .i64] (List.map eI [])]]))) none) none) (
  γ55 [aH.av b0.Out, .agg [.d (.str (bI (cE aA.enc b0.Queue 0 0))), .d (.str (bI (cE aA.enc b0.Queue 0 1))), .d (.int .i64 (aS (cE aA.enc b0.Queue 0 2))), .d (.bool (bZ (cE aA.enc b0.Queue 0 3))), .d (.int .i64 (aS (cE aA.enc b0.Queue 0 4))), .d (.int .i64 (aS (cE aA.enc b0.Queue 0 5))), .d (.str (bI (cE aA.enc b0.Queue 0 6))), .d (.int .i64 (aS (cE aA.enc b0.Queue 0 7))), .d (.sl aD.ks (dSl (cE aA.enc b0.Queue 0 8)))]] [] [] fun r3 =>
  cond (r3.2.2 != 0) (
  (some (.ret [aC.av b0, .row 0] [] [⟨aF.ks, 32, 416, (List.map aF.enc w3002)⟩]))) (
  cond (decide ((lM aF.enc w3002 + lM aF.enc [r3.2.1]) * 416 ≤ 140737488355328)) (
  cond (decide (0 ≤ 1) && decide (1 ≤ ((lM aA.enc b0.Queue) : Int))) (
   agW (C19 Γ γ54 γ17 γ14 γ55) Λ2 J x1 [D.str b0.Client, D.str b0.User, D.bool b0.Online, D.int .i64 b0.Conn, D.int .i64 b0.Expiry, D.int .i64 b0.Until, D.int .i64 b0.Dropped, D.sl aG.ks (List.map aG.enc b0.Subs), D.sl aA.ks (eF (List.map aA.enc b0.Queue) (some 1) none), D.int .i64 r3.1.Limit, D.sl aB.ks (List.map aB.enc r3.1.Items), D.sl [.int .i64] (List.map eI r3.1.Pool.Used), D.int .i64 r3.1.Pool.Last, D.sl [.int .i64] (List.map eI b0.In.IDs), D.bool b0.Will.Set, D.int .i64 b0.Will.Delay, D.str b0.Will.Message.Topic, D.str b0.Will.Message.Payload, D.int .i64 b0.Will.Message.Level, D.bool b0.Will.Message.Retain, D.int .i64 b0.Will.Message.Priority, D.int .i64 b0.Will.Message.Expires, D.str b0.Will.Message.From, D.int .i64 b0.Will.Message.Seq, D.sl aD.ks (List.map aD.enc b0.Will.Message.Props)] (aC.enc b1) (((List.map aF.enc w3002) ++ (List.map aF.enc [r3.2.1])))) none) none)))) none) (
 (some (.ret [aC.av b0, .row 0] [] [⟨aF.ks, 32, 416, (List.map aF.enc w3002)⟩]))) := by kernel_rfl
end
abbrev X19 : aP := C19 gG (cT 54 aI) (cT 17 dB) (cT 14 bR) (cT 55 iS)
theorem asi : X19 = aR gG := by unfold X19 C19; repeat rw [bB fun _ h => h]
abbrev au1 := agW X19 (cU SE gG (SE.hl 19) (SE.hr 19)) (J0 SE X19)
theorem aer : ∀ (fu : Nat) (x1 : Int) (b0 b1 : aC) (w3002 : List aF), Le (Option.map cQ (fC fu x1 b0 b1 w3002)) (au1 x1 (aC.enc b0) (aC.enc b1) (List.map aF.enc w3002)) := by
 intro fu
 induction fu with
 | zero => intros; exact le_none
 | succ fu ih =>
  intro x1 b0 b1 w3002
  refine Le.trans ?_ (le_of_eq ((bF asi).trans (auW ..)).symm)
  unfold fC
  refine lD (by simp only [EN]) ?_ ?_
  ·refine lG (by simp only [EN]) ?_
   refine lQ eX bE (by (try simp only [EN]); exact ae7 (List.getD b0.Queue (Int.toNat 0) default) x1) fun r0 _ => ?_
   refine lC ?_ ?_
   ·refine lQ eX lU (o8 _ _) fun r1 _ => ?_
    refine lG (by simp only [EN]) ?_
    (try simp only [EN]); exact ih x1 (aC.mk r1.Client r1.User r1.Online r1.Conn r1.Expiry r1.Until r1.Dropped r1.Subs (eF r1.Queue (some 1) none) r1.Out r1.In r1.Will) b1 w3002
   ·refine lD (by simp only [EN]) ?_ ?_
    ·refine lQ eX dG (by (try simp only [EN]); exact k9 (List.getD b0.Queue (Int.toNat 0) default)) fun r2 _ => ?_
     refine lG (by simp only [EN]) ?_
     refine lG (by simp only [EN]) ?_
     (try simp only [EN]); exact ih x1 (aC.mk b0.Client b0.User b0.Online b0.Conn b0.Expiry b0.Until b0.Dropped b0.Subs (eF b0.Queue (some 1) none) b0.Out b0.In b0.Will) b1 ((w3002 ++ [(aF.mk 3 0 false r2 [] [] false 0 0 0 (aV.mk false 0 (aA.mk [] [] 0 false 0 0 [] 0 [])) false 0 [] [] [])]))
    ·refine lQ eX ad5 (by (try simp only [EN]); exact afr b0.Out (List.getD b0.Queue (Int.toNat 0) default)) fun r3 _ => ?_
     refine lC ?_ ?_
     ·exact aK rfl
     ·refine lG (by simp only [EN]) ?_
      refine lG (by simp only [EN]) ?_
      (try simp only [EN]); exact ih x1 (aC.mk b0.Client b0.User b0.Online b0.Conn b0.Expiry b0.Until b0.Dropped b0.Subs (eF b0.Queue (some 1) none) r3.1 b0.In b0.Will) b1 (w3002 ++ [r3.2.1])
  ·exact aK rfl
theorem wV (p0 : aC) (p1 : Int) (p2 : List aF) : Le (Option.map cQ (kP p0 p1 p2)) (bA SE 19 [aC.av p0, .d (.int .i64 p1), .row 2000000000] [] [⟨aF.ks, 32, 416, (List.map aF.enc p2)⟩]) := by
 refine aX asi rfl ?_
 refine Le.trans ?_ (le_of_eq (T19 ..).symm)
 unfold kP
 (try simp only [EN]); exact aer fuel p1 p0 ((aC.mk [] [] false 0 0 0 0 [] [] (aH.mk 0 [] (aQ.mk [] 0)) (bG.mk []) (aV.mk false 0 (aA.mk [] [] 0 false 0 0 [] 0 [])))) p2
section
variable (Γ : Fun) (γ16 : Gm (aC)) (γ19 : Gm (aC × (List aF))) (Λ2 J : Lam)
def C6 : aP := aZ (aZ (aR Γ) 16 cW γ16) 19 cQ γ19
theorem T6 (p0 : aC) (p1 : Int) : bL SE (C6 Γ γ16 γ19) Λ2 J 6 [aC.av p0, .d (.int .i64 p1)] [] [] =
 cond (!p0.Online) (
 γ16 [aC.av p0] [] [] fun r0 =>
 (some (.ret [aC.av r0, .row 0] [] [⟨aF.ks, 32, 416, []⟩]))) (
 γ16 [aC.av p0] [] [] fun r1 =>
 γ19 [aC.av r1, .d (.int .i64 p1), .row 2000000000] [] [⟨aF.ks, 32, 416, (List.map aF.enc [])⟩] fun r2 =>
 (some (.ret [aC.av r2.1, .row 0] [] [⟨aF.ks, 32, 416, (List.map aF.enc r2.2)⟩]))) := by kernel_rfl
end
abbrev X6 : aP := C6 gG (cT 16 cW) (cT 19 cQ)
theorem Cr6 : X6 = aR gG := by unfold X6 C6; repeat rw [bB fun _ h => h]
theorem ahc (p0 : aC) (p1 : Int) : Le (Option.map cQ (mP p0 p1)) (bA SE 6 [aC.av p0, .d (.int .i64 p1)] [] []) := by
 refine aX Cr6 rfl ?_
 refine Le.trans ?_ (le_of_eq (T6 ..).symm)
 unfold mP
 refine lC ?_ ?_
 ·refine lQ eX kV (lZ _) fun r0 _ => ?_
  exact aK rfl
 ·refine lQ eX kV (lZ _) fun r1 _ => ?_
  refine lQ eX lW (by (try simp only [EN]); exact wV r1 p1 []) fun r2 _ => ?_
  exact aK rfl
section
variable (Γ : Fun)  (Λ2 J : Lam)
def C21 : aP := aR Γ
theorem T21 (p0 : aA) : bL SE (C21 Γ) Λ2 J 21 [aA.av p0] [] [] =
 (rB (p0.Level == 0)) := by kernel_rfl
end
abbrev X21 : aP := C21 gG
theorem awG : X21 = aR gG := rfl
theorem wH (p0 : aA) : Le (Option.map aI (lA p0)) (bA SE 21 [aA.av p0] [] []) := by
 refine aX awG rfl ?_
 refine Le.trans ?_ (le_of_eq (T21 ..).symm)
 unfold lA
 exact aK rfl
def amX (C : aP) (Λ2 J : Lam) (a0 : List (List D)) (a1 a2 : Int) : Res := lab SE C Λ2 J 56 0 [1, 0, 1, 0] (bC [(0, .d (.sl aA.ks a0)), (1, .fn 21 [] []), (7, .d (.int .i64 a1)), (8, .d (.int .i64 a2))] [] [] [] [])
section
variable (Γ : Fun) (γ21 : Gm (Bool)) (Λ2 J : Lam)
def C56 : aP := aZ (aR Γ) 21 aI γ21
theorem T56 (p0 : List aA) : bL SE (C56 Γ γ21) Λ2 J 56 [.d (.sl aA.ks (List.map aA.enc p0)), .fn 21 [] []] [] [] =
 amX (C56 Γ γ21) Λ2 J (List.map aA.enc p0) (lM aA.enc p0 : Int) 0 := by kernel_rfl
theorem at4 (x0 : List aA) (x7 x8 : Int) : cY SE (C56 Γ γ21) Λ2 J 56 0 [1, 0, 1, 0] (bC [(0, .d (.sl aA.ks (List.map aA.enc x0))), (1, .fn 21 [] []), (7, .d (.int .i64 x7)), (8, .d (.int .i64 x8))] [] [] [] []) =
 cond (decide (x8 < x7)) (
 cond (iB x8 (lM aA.enc x0 : Int)) (
  γ21 [.agg [.d (.str (bI (cE aA.enc x0 x8 0))), .d (.str (bI (cE aA.enc x0 x8 1))), .d (.int .i64 (aS (cE aA.enc x0 x8 2))), .d (.bool (bZ (cE aA.enc x0 x8 3))), .d (.int .i64 (aS (cE aA.enc x0 x8 4))), .d (.int .i64 (aS (cE aA.enc x0 x8 5))), .d (.str (bI (cE aA.enc x0 x8 6))), .d (.int .i64 (aS (cE aA.enc x0 x8 7))), .d (.sl aD.ks (dSl (cE aA.enc x0 x8 8)))]] [] [] fun r0 =>
  cond r0 (
  (rI x8)) (
  amX (C56 Γ γ21) Λ2 J (List.map aA.enc x0) x7 (w6 (x8 + 1)))) none) (
 (rI (-1))) := by kernel_rfl
end
abbrev X56 : aP := C56 gG (cT 21 aI)
theorem as6 : X56 = aR gG := by unfold X56 C56; rw [bB fun _ h => h]
abbrev avB := amX X56 (cU SE gG (SE.hl 56) (SE.hr 56)) (J0 SE X56)
theorem oB : ∀ (fu : Nat) (x0 : List aA) (x7 x8 : Int), Le (Option.map aJ (cD fu x0 x7 x8)) (avB (List.map aA.enc x0) x7 x8) := by
 intro fu
 induction fu with
 | zero => intros; exact le_none
 | succ fu ih =>
  intro x0 x7 x8
  refine Le.trans ?_ (le_of_eq ((bF as6).trans (at4 ..)).symm)
  unfold cD
  refine lC ?_ ?_
  ·refine lG (by simp only [EN]) ?_
   refine lQ eX bE (by (try simp only [EN]); exact wH (List.getD x0 (Int.toNat x8) default)) fun r0 _ => ?_
   refine lC ?_ ?_
   ·exact aK rfl
   ·exact ih x0 x7 (w6 (x8 + 1))
  ·exact aK rfl
theorem oY (p0 : List aA) : Le (Option.map aJ (dM p0)) (bA SE 56 [.d (.sl aA.ks (List.map aA.enc p0)), .fn 21 [] []] [] []) := by
 refine aX as6 rfl ?_
 refine Le.trans ?_ (le_of_eq (T56 ..).symm)
 unfold dM
 (try simp only [EN]); exact oB fuel p0 (List.length p0 : Int) 0
def aj4 (C : aP) (Λ2 J : Lam) (a0 a1 : Int) (a2 : List (List D)) : Res := lab SE C Λ2 J 20 0 [1, 1, 1, 0, 1, 0] (bC [(0, .row 3000), (1, .fn 21 [] []), (5, .d (.int .i64 a0)), (6, .d (.int .i64 a1))] [] [] [] [(3000, ⟨aA.ks, 26, 112, a2⟩)])
section
variable (Γ : Fun) (γ56 : Gm (Int)) (γ21 : Gm (Bool)) (Λ2 J : Lam)
def C20 : aP := aZ (aZ (aR Γ) 56 aJ γ56) 21 aI γ21
theorem T20 (p0 : List aA) : bL SE (C20 Γ γ56 γ21) Λ2 J 20 [.row 2000000000, .fn 21 [] []] [] [⟨aA.ks, 26, 112, (List.map aA.enc p0)⟩] =
 γ56 [.d (.sl aA.ks (List.map aA.enc p0)), .fn 21 [] []] [] [] fun r0 =>
 cond (r0 == (-1)) (
 (some (.ret [.row 0] [] [⟨aA.ks, 26, 112, (List.map aA.enc p0)⟩]))) (
 aj4 (C20 Γ γ56 γ21) Λ2 J r0 (w6 (r0 + 1)) (List.map aA.enc p0)) := by kernel_rfl
theorem aus (x5 x6 : Int) (w3000 : List aA) : cY SE (C20 Γ γ56 γ21) Λ2 J 20 0 [1, 1, 1, 0, 1, 0] (bC [(0, .row 3000), (1, .fn 21 [] []), (5, .d (.int .i64 x5)), (6, .d (.int .i64 x6))] [] [] [] [(3000, ⟨aA.ks, 26, 112, (List.map aA.enc w3000)⟩)]) =
 cond (decide (x6 < (lM aA.enc w3000 : Int))) (
 cond (iB x6 (lM aA.enc w3000 : Int)) (
  γ21 [.agg [.d (.str (bI (cE aA.enc w3000 x6 0))), .d (.str (bI (cE aA.enc w3000 x6 1))), .d (.int .i64 (aS (cE aA.enc w3000 x6 2))), .d (.bool (bZ (cE aA.enc w3000 x6 3))), .d (.int .i64 (aS (cE aA.enc w3000 x6 4))), .d (.int .i64 (aS (cE aA.enc w3000 x6 5))), .d (.str (bI (cE aA.enc w3000 x6 6))), .d (.int .i64 (aS (cE aA.enc w3000 x6 7))), .d (.sl aD.ks (dSl (cE aA.enc w3000 x6 8)))]] [] [] fun r1 =>
  cond (!r1) (
  cond (iB x5 (lM aA.enc w3000 : Int)) (
   aj4 (C20 Γ γ56 γ21) Λ2 J (w6 (x5 + 1)) (w6 (x6 + 1)) ((nD (List.map aA.enc w3000) (Int.toNat x5) 0 [D.str (bI (cE aA.enc w3000 x6 0)), D.str (bI (cE aA.enc w3000 x6 1)), D.int .i64 (aS (cE aA.enc w3000 x6 2)), D.bool (bZ (cE aA.enc w3000 x6 3)), D.int .i64 (aS (cE aA.enc w3000 x6 4)), D.int .i64 (aS (cE aA.enc w3000 x6 5)), D.str (bI (cE aA.enc w3000 x6 6)), D.int .i64 (aS (cE aA.enc w3000 x6 7)), D.sl aD.ks (dSl (cE aA.enc w3000 x6 8))]))) none) (
  aj4 (C20 Γ γ56 γ21) Λ2 J x5 (w6 (x6 + 1)) (List.map aA.enc w3000))) none) (
 cond (decide (0 ≤ x5) && decide (x5 ≤ ((lM aA.enc w3000) : Int))) (
 cond (decide (0 ≤ x5) && decide (x5 ≤ (List.length (List.take (Int.toNat x5) (List.map aA.enc w3000) ++ List.replicate ((lM aA.enc w3000) - (Int.toNat x5)) [D.str [], D.str [], D.int .i64 0, D.bool false, D.int .i64 0, D.int .i64 0, D.str [], D.int .i64 0, D.sl aD.ks (List.map aD.enc [])] ++ List.drop ((Int.toNat x5) + ((lM aA.enc w3000) - (Int.toNat x5))) (List.map aA.enc w3000)) : Int))) (
  (some (.ret [.row 0] [] [⟨aA.ks, 26, 112, (List.take (Int.toNat x5) (List.take (Int.toNat x5) (List.map aA.enc w3000) ++ List.replicate ((lM aA.enc w3000) - (Int.toNat x5)) [D.str [], D.str [], D.int .i64 0, D.bool false, D.int .i64 0, D.int .i64 0, D.str [], D.int .i64 0, D.sl aD.ks (List.map aD.enc [])] ++ List.drop ((Int.toNat x5) + ((lM aA.enc w3000) - (Int.toNat x5))) (List.map aA.enc w3000)))⟩]))) none) none) := by kernel_rfl
end
abbrev X20 : aP := C20 gG (cT 56 aJ) (cT 21 aI)
theorem as4 : X20 = aR gG := by unfold X20 C20; repeat rw [bB fun _ h => h]
abbrev avU := aj4 X20 (cU SE gG (SE.hl 20) (SE.hr 20)) (J0 SE X20)
theorem nS : ∀ (fu : Nat) (x5 x6 : Int) (w3000 : List aA), Le (Option.map bD (bV fu x5 x6 w3000)) (avU x5 x6 (List.map aA.enc w3000)) := by
 intro fu
 induction fu with
 | zero => intros; exact le_none
 | succ fu ih =>
  intro x5 x6 w3000
  refine Le.trans ?_ (le_of_eq ((bF as4).trans (aus ..)).symm)
  unfold bV
  refine lD (by simp only [EN]) ?_ ?_
  ·refine lG (by simp only [EN]) ?_
   refine lQ eX bE (by (try simp only [EN]); exact wH (List.getD w3000 (Int.toNat x6) default)) fun r1 _ => ?_
   refine lC ?_ ?_
   ·refine lG (by simp only [EN]) ?_
    (try simp only [EN]); exact ih (w6 (x5 + 1)) (w6 (x6 + 1)) ((List.set w3000 (Int.toNat x5) (List.getD w3000 (Int.toNat x6) default)))
   ·exact ih x5 (w6 (x6 + 1)) w3000
  ·refine lG (by simp only [EN]) ?_
   refine lG (by simp only [EN]) ?_
   exact aK (by first | rfl | simp only [EN, bD] <;> rfl)
theorem oX (p0 : List aA) : Le (Option.map bD (dJ p0)) (bA SE 20 [.row 2000000000, .fn 21 [] []] [] [⟨aA.ks, 26, 112, (List.map aA.enc p0)⟩]) := by
 refine aX as4 rfl ?_
 refine Le.trans ?_ (le_of_eq (T20 ..).symm)
 unfold dJ
 refine lQ eX bK (oY _) fun r0 _ => ?_
 refine lC ?_ ?_
 ·exact aK rfl
 ·exact nS fuel r0 (w6 (r0 + 1)) p0
section
variable (Γ : Fun) (γ16 : Gm (aC)) (γ20 : Gm ((List aA))) (γ17 : Gm (aC)) (Λ2 J : Lam)
def C7 : aP := aZ (aZ (aZ (aR Γ) 16 cW γ16) 20 bD γ20) 17 dB γ17
theorem T7 (p0 : aC) (p1 : Int) : bL SE (C7 Γ γ16 γ20 γ17) Λ2 J 7 [aC.av p0, .d (.int .i64 p1)] [] [] =
 γ16 [aC.av p0] [] [] fun r0 =>
 γ20 [.row 2000000000, .fn 21 [] []] [] [⟨aA.ks, 26, 112, (List.map aA.enc r0.Queue)⟩] fun r1 =>
 γ17 [aC.av (aC.mk r0.Client r0.User false 0 r0.Expiry (if 1099511627776 < (w6 (p1 + p0.Expiry)) then 1099511627776 else (w6 (p1 + p0.Expiry))) r0.Dropped r0.Subs r1 r0.Out r0.In r0.Will), .d (.int .i64 (w6 ((lM aA.enc r0.Queue : Int) - (lM aA.enc r1 : Int))))] [] [] fun r2 =>
 (some (.ret [aC.av r2] [] [])) := by kernel_rfl
end
abbrev X7 : aP := C7 gG (cT 16 cW) (cT 20 bD) (cT 17 dB)
theorem Cr7 : X7 = aR gG := by unfold X7 C7; repeat rw [bB fun _ h => h]
theorem adU (p0 : aC) (p1 : Int) : Le (Option.map dB (m7 p0 p1)) (bA SE 7 [aC.av p0, .d (.int .i64 p1)] [] []) := by
 refine aX Cr7 rfl ?_
 refine Le.trans ?_ (le_of_eq (T7 ..).symm)
 unfold m7
 refine lQ eX kV (lZ _) fun r0 _ => ?_
 refine lQ eX iZ (oX _) fun r1 _ => ?_
 refine lQ eX lU (by (try simp only [EN]); exact o8 ((aC.mk r0.Client r0.User false 0 r0.Expiry (if 1099511627776 < (w6 (p1 + p0.Expiry)) then 1099511627776 else (w6 (p1 + p0.Expiry))) r0.Dropped r0.Subs r1 r0.Out r0.In r0.Will)) ((w6 ((List.length r0.Queue : Int) - (List.length r1 : Int))))) fun r2 _ => ?_
 exact aK rfl
section
variable (Γ : Fun)  (Λ2 J : Lam)
def C66 : aP := aR Γ
theorem T66 (p0 : Int) : bL SE (C66 Γ) Λ2 J 66 [.d (.int .i64 p0)] [] [] =
 cond (decide (p0 ≥ 0)) (
 (rB (decide (p0 ≤ 1099511627776)))) (
 (rB false)) := by kernel_rfl
end
abbrev X66 : aP := C66 gG
theorem aw2 : X66 = aR gG := rfl
theorem abw (p0 : Int) : Le (Option.map aI (qG p0)) (bA SE 66 [.d (.int .i64 p0)] [] []) := by
 refine aX aw2 rfl ?_
 refine Le.trans ?_ (le_of_eq (T66 ..).symm)
 unfold qG
 refine lC ?_ ?_
 ·exact aK rfl
 ·exact aK rfl
def ahd (C : aP) (Λ2 J : Lam) (a0 : List D) : Res := lab SE C Λ2 J 43 0 [1, 1, 1, 0, 0] (bC [(1, .ptr 1000000000 0)] [⟨42, (List.map AV.d a0)⟩] [] [] [])
def amJ (C : aP) (Λ2 J : Lam) (a0 : List D) : Res := lab SE C Λ2 J 43 0 [1, 1, 0, 0] (bC [(1, .ptr 1000000000 0)] [⟨42, (List.map AV.d a0)⟩] [] [] [])
section
variable (Γ : Fun) (γ65 γ66 : Gm (Bool)) (Λ2 J : Lam)
def C43 : aP := aZ (aZ (aR Γ) 65 aI γ65) 66 aI γ66
theorem T43 (p0 : aC) : bL SE (C43 Γ γ65 γ66) Λ2 J 43 [aC.av p0] [] [] =
 γ65 [.d (.str p0.Client)] [] [] fun r0 =>
 cond (!r0) (
 (rI 11)) (
 cond (!(p0.User == ([] : Str))) (
 γ65 [.d (.str p0.User)] [] [] fun r1 =>
 cond (!r1) (
  (rI 11)) (
 amJ (C43 Γ γ65 γ66) Λ2 J (aC.enc p0))) (
 amJ (C43 Γ γ65 γ66) Λ2 J (aC.enc p0))) := by kernel_rfl
theorem avh (b0 : aC) : cY SE (C43 Γ γ65 γ66) Λ2 J 43 0 [1, 1, 1, 0, 0] (bC [(1, .ptr 1000000000 0)] [⟨42, (List.map AV.d (aC.enc b0))⟩] [] [] []) =
 γ66 [.d (.int .i64 b0.Expiry)] [] [] fun r2 =>
 cond (!r2) (
 (rI 1)) (
 γ66 [.d (.int .i64 b0.Until)] [] [] fun r3 =>
 cond (!r3) (
 (rI 1)) (
 cond (decide (b0.Dropped < 0)) (
 (rI 1)) (
 cond (decide (b0.Dropped > 1099511627776)) (
 (rI 1)) (
 (rI 0))))) := by kernel_rfl
theorem avt (b0 : aC) : cY SE (C43 Γ γ65 γ66) Λ2 J 43 0 [1, 1, 0, 0] (bC [(1, .ptr 1000000000 0)] [⟨42, (List.map AV.d (aC.enc b0))⟩] [] [] []) =
 cond (!b0.Online) (
 cond (b0.Conn != 0) (
  (rI 9)) (
 cond b0.Online (
  cond (b0.Until != 0) (
  (rI 9)) (
  ahd (C43 Γ γ65 γ66) Λ2 J (aC.enc b0))) (
 ahd (C43 Γ γ65 γ66) Λ2 J (aC.enc b0)))) (
 cond b0.Online (
 cond (b0.Until != 0) (
  (rI 9)) (
 ahd (C43 Γ γ65 γ66) Λ2 J (aC.enc b0))) (
 ahd (C43 Γ γ65 γ66) Λ2 J (aC.enc b0))) := by kernel_rfl
end
abbrev X43 : aP := C43 gG (cT 65 aI) (cT 66 aI)
theorem apa : X43 = aR gG := by unfold X43 C43; repeat rw [bB fun _ h => h]
abbrev auB := ahd X43 (cU SE gG (SE.hl 43) (SE.hr 43)) (J0 SE X43)
abbrev avY := amJ X43 (cU SE gG (SE.hl 43) (SE.hr 43)) (J0 SE X43)
theorem lR (b0 : aC) : Le (Option.map aJ (gY b0)) (auB (aC.enc b0)) := by
 refine Le.trans ?_ (le_of_eq ((bF apa).trans (avh ..)).symm)
 unfold gY
 refine lQ eX bE (abw _) fun r2 _ => ?_
 refine lC ?_ ?_
 ·exact aK rfl
 ·refine lQ eX bE (abw _) fun r3 _ => ?_
  refine lC ?_ ?_
  ·exact aK rfl
  ·refine lC ?_ ?_
   ·exact aK rfl
   ·refine lC ?_ ?_
    ·exact aK rfl
    ·exact aK rfl
theorem tY (b0 : aC) : Le (Option.map aJ (kO b0)) (avY (aC.enc b0)) := by
 refine Le.trans ?_ (le_of_eq ((bF apa).trans (avt ..)).symm)
 unfold kO
 refine lC ?_ ?_
 ·refine lC ?_ ?_
  ·exact aK rfl
  ·refine lC ?_ ?_
   ·refine lC ?_ ?_
    ·exact aK rfl
    ·exact lR b0
   ·exact lR b0
 ·refine lC ?_ ?_
  ·refine lC ?_ ?_
   ·exact aK rfl
   ·exact lR b0
  ·exact lR b0
theorem ac0 (p0 : aC) : Le (Option.map aJ (nO p0)) (bA SE 43 [aC.av p0] [] []) := by
 refine aX apa rfl ?_
 refine Le.trans ?_ (le_of_eq (T43 ..).symm)
 unfold nO
 refine lQ eX bE (uQ _) fun r0 _ => ?_
 refine lC ?_ ?_
 ·exact aK rfl
 ·refine lC ?_ ?_
  ·refine lQ eX bE (uQ _) fun r1 _ => ?_
   refine lC ?_ ?_
   ·exact aK rfl
   ·exact tY p0
  ·exact tY p0
section
variable (Γ : Fun)  (Λ2 J : Lam)
def ar0 : aP := aR Γ
theorem axk (p0 p1 : Str) : bL SE (ar0 Γ) Λ2 J 102 [.d (.str p0), .d (.str p1)] [] [] =
 cond (decide ((List.length p0 : Int) ≥ (List.length p1 : Int))) (
 cond (decide (0 ≤ (List.length p1 : Int)) && decide ((List.length p1 : Int) ≤ ((List.length p0) : Int))) (
  (rB ((eF p0 none (some (List.length p1 : Int))) == p1))) none) (
 (rB false)) := by kernel_rfl
end
abbrev axL : aP := ar0 gG
theorem avZ : axL = aR gG := rfl
theorem s0 (p0 p1 : Str) : Le (Option.map aI (iO p0 p1)) (bA SE 102 [.d (.str p0), .d (.str p1)] [] []) := by
 refine aX avZ rfl ?_
 refine Le.trans ?_ (le_of_eq (axk ..).symm)
 unfold iO
 refine lC ?_ ?_
 ·refine lF ?_
  exact aK rfl
 ·exact aK rfl
section
variable (Γ : Fun) (γ102 : Gm (Bool)) (Λ2 J : Lam)
def apX : aP := aZ (aR Γ) 102 aI γ102
theorem awC (p0 p1 : Str) : bL SE (apX Γ γ102) Λ2 J 109 [.d (.str p0), .d (.str p1)] [] [] =
 γ102 [.d (.str p0), .d (.str p1)] [] [] fun r0 =>
 cond (!r0) (
 (some (.ret [.d (.str p0), .d (.bool false)] [] []))) (
 cond (decide (0 ≤ (List.length p1 : Int)) && decide ((List.length p1 : Int) ≤ ((List.length p0) : Int))) (
 (some (.ret [.d (.str (eF p0 (some (List.length p1 : Int)) none)), .d (.bool true)] [] []))) none) := by kernel_rfl
end
abbrev as7 : aP := apX gG (cT 102 aI)
theorem avN : as7 = aR gG := by unfold as7 apX; rw [bB fun _ h => h]
theorem aba (p0 p1 : Str) : Le (Option.map dF (mX p0 p1)) (bA SE 109 [.d (.str p0), .d (.str p1)] [] []) := by
 refine aX avN rfl ?_
 refine Le.trans ?_ (le_of_eq (awC ..).symm)
 unfold mX
 refine lQ eX bE (s0 _ _) fun r0 _ => ?_
 refine lC ?_ ?_
 ·exact aK rfl
 ·refine lF ?_
  exact aK rfl
section
variable (Γ : Fun) (γ109 : Gm (Str × Bool)) (Λ2 J : Lam)
def C98 : aP := aZ (aR Γ) 109 dF γ109
theorem T98 (p0 p1 : Str) : bL SE (C98 Γ γ109) Λ2 J 98 [.d (.str p0), .d (.str p1)] [] [] =
 γ109 [.d (.str p0), .d (.str p1)] [] [] fun r0 =>
 (some (.ret [.d (.str r0.1), .d (.bool r0.2)] [] [])) := by kernel_rfl
end
abbrev X98 : aP := C98 gG (cT 109 dF)
theorem awx : X98 = aR gG := by unfold X98 C98; rw [bB fun _ h => h]
theorem adj (p0 p1 : Str) : Le (Option.map dF (nL p0 p1)) (bA SE 98 [.d (.str p0), .d (.str p1)] [] []) := by
 refine aX awx rfl ?_
 refine Le.trans ?_ (le_of_eq (T98 ..).symm)
 unfold nL
 refine lQ eX sE (aba _ _) fun r0 _ => ?_
 exact aK rfl
section
variable (Γ : Fun)  (Λ2 J : Lam)
def asR : aP := aR Γ
theorem axY (p0 : Str) (p1 : Int) : bL SE (asR Γ) Λ2 J 117 [.d (.str p0), .d (.int .u8 p1)] [] [] =
 (rI (Lib.indexByte p0 (UInt8.ofNat (Int.toNat p1)) : Int)) := by kernel_rfl
end
abbrev awv : aP := asR gG
theorem au7 : awv = aR gG := rfl
theorem aaV (p0 : Str) (p1 : Int) : Le (Option.map aJ (qD p0 p1)) (bA SE 117 [.d (.str p0), .d (.int .u8 p1)] [] []) := by
 refine aX au7 rfl ?_
 refine Le.trans ?_ (le_of_eq (axY ..).symm)
 unfold qD
 exact aK rfl
section
variable (Γ : Fun) (γ117 : Gm (Int)) (Λ2 J : Lam)
def aqp : aP := aZ (aR Γ) 117 aJ γ117
theorem aw6 (p0 p1 : Str) : bL SE (aqp Γ γ117) Λ2 J 114 [.d (.str p0), .d (.str p1)] [] [] =
 cond ((List.length p1 : Int) == 0) (
 (rI 0)) (
 cond (p1 == p0) (
 (rI 0)) (
 cond ((List.length p1 : Int) == 1) (
 cond (decide (0 ≤ 0) && decide (0 < (List.length p1 : Int))) (
  γ117 [.d (.str p0), .d (.int .u8 (UInt8.toNat (List.getD p1 (Int.toNat 0) 0) : Int))] [] [] fun r0 =>
  (rI r0)) none) (
 cond (decide ((List.length p1 : Int) ≥ (List.length p0 : Int))) (
 (rI (-1))) none))) := by kernel_rfl
end
abbrev atf : aP := aqp gG (cT 117 aJ)
theorem at7 : atf = aR gG := by unfold atf aqp; rw [bB fun _ h => h]
theorem vW (p0 p1 : Str) : Le (Option.map aJ (jJ p0 p1)) (bA SE 114 [.d (.str p0), .d (.str p1)] [] []) := by
 refine aX at7 rfl ?_
 refine Le.trans ?_ (le_of_eq (aw6 ..).symm)
 unfold jJ
 refine lC ?_ ?_
 ·exact aK rfl
 ·refine lC ?_ ?_
  ·exact aK rfl
  ·refine lC ?_ ?_
   ·refine lF ?_
    refine lQ eX bK (aaV _ _) fun r0 _ => ?_
    exact aK rfl
   ·refine lF ?_
    exact aK rfl
section
variable (Γ : Fun) (γ114 : Gm (Int)) (Λ2 J : Lam)
def ao5 : aP := aZ (aR Γ) 114 aJ γ114
theorem axM (p0 p1 : Str) : bL SE (ao5 Γ γ114) Λ2 J 110 [.d (.str p0), .d (.str p1)] [] [] =
 γ114 [.d (.str p0), .d (.str p1)] [] [] fun r0 =>
 cond (decide (r0 ≥ 0)) (
 cond (decide (0 ≤ r0) && decide (r0 ≤ ((List.length p0) : Int))) (
  cond (decide (0 ≤ (w6 (r0 + (List.length p1 : Int)))) && decide ((w6 (r0 + (List.length p1 : Int))) ≤ ((List.length p0) : Int))) (
  (some (.ret [.d (.str (eF p0 none (some r0))), .d (.str (eF p0 (some (w6 (r0 + (List.length p1 : Int)))) none)), .d (.bool true)] [] []))) none) none) (
 (some (.ret [.d (.str p0), .d (.str []), .d (.bool false)] [] []))) := by kernel_rfl
end
abbrev ast : aP := ao5 gG (cT 114 aJ)
theorem auk : ast = aR gG := by unfold ast ao5; rw [bB fun _ h => h]
theorem adV (p0 p1 : Str) : Le (Option.map dA (sD p0 p1)) (bA SE 110 [.d (.str p0), .d (.str p1)] [] []) := by
 refine aX auk rfl ?_
 refine Le.trans ?_ (le_of_eq (axM ..).symm)
 unfold sD
 refine lQ eX bK (vW _ _) fun r0 _ => ?_
 refine lC ?_ ?_
 ·refine lF ?_
  refine lF ?_
  exact aK rfl
 ·exact aK rfl
section
variable (Γ : Fun) (γ110 : Gm (Str × Str × Bool)) (Λ2 J : Lam)
def C99 : aP := aZ (aR Γ) 110 dA γ110
theorem T99 (p0 p1 : Str) : bL SE (C99 Γ γ110) Λ2 J 99 [.d (.str p0), .d (.str p1)] [] [] =
 γ110 [.d (.str p0), .d (.str p1)] [] [] fun r0 =>
 (some (.ret [.d (.str r0.1), .d (.str r0.2.1), .d (.bool r0.2.2)] [] [])) := by kernel_rfl
end
abbrev X99 : aP := C99 gG (cT 110 dA)
theorem aw0 : X99 = aR gG := by unfold X99 C99; rw [bB fun _ h => h]
theorem aiu (p0 p1 : Str) : Le (Option.map dA (uN p0 p1)) (bA SE 99 [.d (.str p0), .d (.str p1)] [] []) := by
 refine aX aw0 rfl ?_
 refine Le.trans ?_ (le_of_eq (T99 ..).symm)
 unfold uN
 refine lQ eX sA (adV _ _) fun r0 _ => ?_
 exact aK rfl
section
variable (Γ : Fun) (γ114 : Gm (Int)) (Λ2 J : Lam)
def apI : aP := aZ (aR Γ) 114 aJ γ114
theorem axa (p0 p1 : Str) : bL SE (apI Γ γ114) Λ2 J 123 [.d (.str p0), .d (.str p1)] [] [] =
 γ114 [.d (.str p0), .d (.str p1)] [] [] fun r0 =>
 (rI r0) := by kernel_rfl
end
abbrev aty : aP := apI gG (cT 114 aJ)
theorem auU : aty = aR gG := by unfold aty apI; rw [bB fun _ h => h]
theorem aaN (p0 p1 : Str) : Le (Option.map aJ (lH p0 p1)) (bA SE 123 [.d (.str p0), .d (.str p1)] [] []) := by
 refine aX auU rfl ?_
 refine Le.trans ?_ (le_of_eq (axa ..).symm)
 unfold lH
 refine lQ eX bK (vW _ _) fun r0 _ => ?_
 exact aK rfl
def akH (C : aP) (Λ2 J : Lam) (a0 a1 : Str) (a2 : Int) : Res := lab SE C Λ2 J 122 0 [1, 1, 1, 1, 0] (bC [(0, .d (.str a0)), (1, .d (.str a1)), (5, .d (.int .i64 a2))] [] [] [] [])
section
variable (Γ : Fun) (γ123 : Gm (Int)) (Λ2 J : Lam)
def ahZ : aP := aZ (aR Γ) 123 aJ γ123
theorem aw1 (p0 p1 : Str) : bL SE (ahZ Γ γ123) Λ2 J 122 [.d (.str p0), .d (.str p1)] [] [] =
 cond ((List.length p1 : Int) == 0) (
 none) (
 cond ((List.length p1 : Int) == 1) (
 cond (decide (0 ≤ 0) && decide (0 < (List.length p1 : Int))) (
  (rI (Lib.countByte p0 (UInt8.ofNat (Int.toNat (UInt8.toNat (List.getD p1 (Int.toNat 0) 0) : Int))) : Int))) none) (
 akH (ahZ Γ γ123) Λ2 J p0 p1 0)) := by kernel_rfl
theorem asx (x0 x1 : Str) (x5 : Int) : cY SE (ahZ Γ γ123) Λ2 J 122 0 [1, 1, 1, 1, 0] (bC [(0, .d (.str x0)), (1, .d (.str x1)), (5, .d (.int .i64 x5))] [] [] [] []) =
 γ123 [.d (.str x0), .d (.str x1)] [] [] fun r0 =>
 cond (r0 == (-1)) (
 (rI x5)) (
 cond (decide (0 ≤ (w6 (r0 + (List.length x1 : Int)))) && decide ((w6 (r0 + (List.length x1 : Int))) ≤ ((List.length x0) : Int))) (
 akH (ahZ Γ γ123) Λ2 J (eF x0 (some (w6 (r0 + (List.length x1 : Int)))) none) x1 (w6 (x5 + 1))) none) := by kernel_rfl
end
abbrev amY : aP := ahZ gG (cT 123 aJ)
theorem aqP : amY = aR gG := by unfold amY ahZ; rw [bB fun _ h => h]
abbrev asr := akH amY (cU SE gG (SE.hl 122) (SE.hr 122)) (J0 SE amY)
theorem adF : ∀ (fu : Nat) (x0 x1 : Str) (x5 : Int), Le (Option.map aJ (qY fu x0 x1 x5)) (asr x0 x1 x5) := by
 intro fu
 induction fu with
 | zero => intros; exact le_none
 | succ fu ih =>
  intro x0 x1 x5
  refine Le.trans ?_ (le_of_eq ((bF aqP).trans (asx ..)).symm)
  unfold qY
  refine lQ eX bK (aaN _ _) fun r0 _ => ?_
  refine lC ?_ ?_
  ·exact aK rfl
  ·refine lF ?_
   exact ih (eF x0 (some (w6 (r0 + (List.length x1 : Int)))) none) x1 (w6 (x5 + 1))
theorem agf (p0 p1 : Str) : Le (Option.map aJ (rR p0 p1)) (bA SE 122 [.d (.str p0), .d (.str p1)] [] []) := by
 refine aX aqP rfl ?_
 refine Le.trans ?_ (le_of_eq (aw1 ..).symm)
 unfold rR
 refine lC ?_ ?_
 ·exact le_none
 ·refine lC ?_ ?_
  ·refine lF ?_
   exact aK rfl
  ·exact adF fuel p0 p1 0
def aij (C : aP) (Λ2 J : Lam) (a0 : Str) (a1 : Int) (a2 : List (List D)) : Res := lab SE C Λ2 J 115 0 [1, 1, 1, 1, 1, 1, 1, 1, 1, 0] (bC [(0, .d (.str a0)), (9, .row 3009), (10, .d (.int .i64 a1))] [] [] [] [(3009, ⟨[.str], 9, 16, a2⟩)])
def aiC (C : aP) (Λ2 J : Lam) (a0 a1 : Str) (a2 a3 a4 : Int) (a5 : List (List D)) : Res := lab SE C Λ2 J 115 0 [1, 1, 1, 1, 1, 1, 1, 1, 0, 0] (bC [(0, .d (.str a0)), (1, .d (.str a1)), (2, .d (.int .i64 a2)), (3, .d (.int .i64 a3)), (9, .row 3009), (10, .d (.int .i64 a4))] [] [] [] [(3009, ⟨[.str], 9, 16, a5⟩)])
def akG (C : aP) (Λ2 J : Lam) (a0 a1 : Str) (a2 a3 : Int) : Res := lab SE C Λ2 J 115 0 [1, 1, 1, 1, 0] (bC [(0, .d (.str a0)), (1, .d (.str a1)), (2, .d (.int .i64 a2)), (3, .d (.int .i64 a3))] [] [] [] [])
section
variable (Γ : Fun) (γ122 γ123 : Gm (Int)) (Λ2 J : Lam)
def zE : aP := aZ (aZ (aR Γ) 122 aJ γ122) 123 aJ γ123
theorem awV (p0 p1 : Str) (p2 p3 : Int) : bL SE (zE Γ γ122 γ123) Λ2 J 115 [.d (.str p0), .d (.str p1), .d (.int .i64 p2), .d (.int .i64 p3)] [] [] =
 cond (p3 == 0) (
 (some (.ret [.d (.sl [.str] (List.map bU []))] [] []))) (
 cond (p1 == ([] : Str)) (
 none) (
 cond (decide (p3 < 0)) (
 γ122 [.d (.str p0), .d (.str p1)] [] [] fun r0 =>
 akG (zE Γ γ122 γ123) Λ2 J p0 p1 p2 (w6 (r0 + 1))) (
 akG (zE Γ γ122 γ123) Λ2 J p0 p1 p2 p3))) := by kernel_rfl
theorem ary (x0 : Str) (x10 : Int) (w3009 : List Str) : cY SE (zE Γ γ122 γ123) Λ2 J 115 0 [1, 1, 1, 1, 1, 1, 1, 1, 1, 0] (bC [(0, .d (.str x0)), (9, .row 3009), (10, .d (.int .i64 x10))] [] [] [] [(3009, ⟨[.str], 9, 16, (List.map bU w3009)⟩)]) =
 cond (iB x10 (lM bU w3009 : Int)) (
 cond (decide (0 ≤ (w6 (x10 + 1))) && decide ((w6 (x10 + 1)) ≤ ((List.length (nD (List.map bU w3009) (Int.toNat x10) 0 [D.str x0])) : Int))) (
  (some (.ret [.d (.sl [.str] (List.take ((Int.toNat (w6 (x10 + 1))) - 0) (List.drop 0 (nD (List.map bU w3009) (Int.toNat x10) 0 [D.str x0]))))] [] []))) none) none := by kernel_rfl
theorem arK (x0 x1 : Str) (x2 x3 x10 : Int) (w3009 : List Str) : cY SE (zE Γ γ122 γ123) Λ2 J 115 0 [1, 1, 1, 1, 1, 1, 1, 1, 0, 0] (bC [(0, .d (.str x0)), (1, .d (.str x1)), (2, .d (.int .i64 x2)), (3, .d (.int .i64 x3)), (9, .row 3009), (10, .d (.int .i64 x10))] [] [] [] [(3009, ⟨[.str], 9, 16, (List.map bU w3009)⟩)]) =
 cond (decide (x10 < x3)) (
 γ123 [.d (.str x0), .d (.str x1)] [] [] fun r1 =>
 cond (decide (r1 < 0)) (
  aij (zE Γ γ122 γ123) Λ2 J x0 x10 (List.map bU w3009)) (
 cond (decide (0 ≤ (w6 (r1 + x2))) && decide ((w6 (r1 + x2)) ≤ ((List.length x0) : Int))) (
  cond (iB x10 (lM bU w3009 : Int)) (
  cond (decide (0 ≤ (w6 (r1 + (List.length x1 : Int)))) && decide ((w6 (r1 + (List.length x1 : Int))) ≤ ((List.length x0) : Int))) (
   aiC (zE Γ γ122 γ123) Λ2 J (eF x0 (some (w6 (r1 + (List.length x1 : Int)))) none) x1 x2 x3 (w6 (x10 + 1)) ((nD (List.map bU w3009) (Int.toNat x10) 0 [D.str (eF x0 none (some (w6 (r1 + x2))))]))) none) none) none)) (
 aij (zE Γ γ122 γ123) Λ2 J x0 x10 (List.map bU w3009)) := by kernel_rfl
theorem atv (x0 x1 : Str) (x2 x3 : Int) : cY SE (zE Γ γ122 γ123) Λ2 J 115 0 [1, 1, 1, 1, 0] (bC [(0, .d (.str x0)), (1, .d (.str x1)), (2, .d (.int .i64 x2)), (3, .d (.int .i64 x3))] [] [] [] []) =
 cond (decide (0 ≤ (if (w6 ((List.length x0 : Int) + 1)) < x3 then (w6 ((List.length x0 : Int) + 1)) else x3)) && decide ((if (w6 ((List.length x0 : Int) + 1)) < x3 then (w6 ((List.length x0 : Int) + 1)) else x3) ≤ (if (w6 ((List.length x0 : Int) + 1)) < x3 then (w6 ((List.length x0 : Int) + 1)) else x3)) && decide ((if (w6 ((List.length x0 : Int) + 1)) < x3 then (w6 ((List.length x0 : Int) + 1)) else x3) * 16 ≤ 281474976710656)) (
 aiC (zE Γ γ122 γ123) Λ2 J x0 x1 x2 ((w6 ((if (w6 ((List.length x0 : Int) + 1)) < x3 then (w6 ((List.length x0 : Int) + 1)) else x3) - 1))) 0 ((List.replicate (Int.toNat (if (w6 ((List.length x0 : Int) + 1)) < x3 then (w6 ((List.length x0 : Int) + 1)) else x3)) [D.str []]))) none := by kernel_rfl
end
abbrev aeW : aP := zE gG (cT 122 aJ) (cT 123 aJ)
theorem aj6 : aeW = aR gG := by unfold aeW zE; repeat rw [bB fun _ h => h]
abbrev arP := aij aeW (cU SE gG (SE.hl 115) (SE.hr 115)) (J0 SE aeW)
abbrev arp := aiC aeW (cU SE gG (SE.hl 115) (SE.hr 115)) (J0 SE aeW)
abbrev ash := akG aeW (cU SE gG (SE.hl 115) (SE.hr 115)) (J0 SE aeW)
theorem tX (x0 : Str) (x10 : Int) (w3009 : List Str) : Le (Option.map cB (kL x0 x10 w3009)) (arP x0 x10 (List.map bU w3009)) := by
 refine Le.trans ?_ (le_of_eq ((bF aj6).trans (ary ..)).symm)
 unfold kL
 refine lG (by simp only [EN]) ?_
 refine lG (by simp only [EN]) ?_
 exact aK (by first | rfl | simp only [EN, cB] <;> rfl)
theorem abe : ∀ (fu : Nat) (x0 x1 : Str) (x2 x3 x10 : Int) (w3009 : List Str), Le (Option.map cB (gX fu x0 x1 x2 x3 x10 w3009)) (arp x0 x1 x2 x3 x10 (List.map bU w3009)) := by
 intro fu
 induction fu with
 | zero => intros; exact le_none
 | succ fu ih =>
  intro x0 x1 x2 x3 x10 w3009
  refine Le.trans ?_ (le_of_eq ((bF aj6).trans (arK ..)).symm)
  unfold gX
  refine lC ?_ ?_
  ·refine lQ eX bK (aaN _ _) fun r1 _ => ?_
   refine lC ?_ ?_
   ·exact tX x0 x10 w3009
   ·refine lF ?_
    refine lG (by simp only [EN]) ?_
    refine lF ?_
    (try simp only [EN]); exact ih (eF x0 (some (w6 (r1 + (List.length x1 : Int)))) none) x1 x2 x3 (w6 (x10 + 1)) ((List.set w3009 (Int.toNat x10) (eF x0 none (some (w6 (r1 + x2))))))
  ·exact tX x0 x10 w3009
theorem uI (x0 x1 : Str) (x2 x3 : Int) : Le (Option.map cB (lT x0 x1 x2 x3)) (ash x0 x1 x2 x3) := by
 refine Le.trans ?_ (le_of_eq ((bF aj6).trans (atv ..)).symm)
 unfold lT
 refine lF ?_
 (try simp only [EN]); exact abe fuel x0 x1 x2 ((w6 ((if (w6 ((List.length x0 : Int) + 1)) < x3 then (w6 ((List.length x0 : Int) + 1)) else x3) - 1))) 0 ((List.replicate (Int.toNat (if (w6 ((List.length x0 : Int) + 1)) < x3 then (w6 ((List.length x0 : Int) + 1)) else x3)) (default : Str)))
theorem adK (p0 p1 : Str) (p2 p3 : Int) : Le (Option.map cB (qW p0 p1 p2 p3)) (bA SE 115 [.d (.str p0), .d (.str p1), .d (.int .i64 p2), .d (.int .i64 p3)] [] []) := by
 refine aX aj6 rfl ?_
 refine Le.trans ?_ (le_of_eq (awV ..).symm)
 unfold qW
 refine lC ?_ ?_
 ·exact aK rfl
 ·refine lC ?_ ?_
  ·exact le_none
  ·refine lC ?_ ?_
   ·refine lQ eX bK (agf _ _) fun r0 _ => ?_
    exact uI p0 p1 p2 (w6 (r0 + 1))
   ·exact uI p0 p1 p2 p3
section
variable (Γ : Fun) (γ115 : Gm ((List Str))) (Λ2 J : Lam)
def aph : aP := aZ (aR Γ) 115 cB γ115
theorem awS (p0 p1 : Str) : bL SE (aph Γ γ115) Λ2 J 111 [.d (.str p0), .d (.str p1)] [] [] =
 γ115 [.d (.str p0), .d (.str p1), .d (.int .i64 0), .d (.int .i64 (-1))] [] [] fun r0 =>
 (some (.ret [.d (.sl [.str] (List.map bU r0))] [] [])) := by kernel_rfl
end
abbrev atN : aP := aph gG (cT 115 cB)
theorem au5 : atN = aR gG := by unfold atN aph; rw [bB fun _ h => h]
theorem agv (p0 p1 : Str) : Le (Option.map cB (rM p0 p1)) (bA SE 111 [.d (.str p0), .d (.str p1)] [] []) := by
 refine aX au5 rfl ?_
 refine Le.trans ?_ (le_of_eq (awS ..).symm)
 unfold rM
 refine lQ eX qQ (adK _ _ _ _) fun r0 _ => ?_
 exact aK rfl
section
variable (Γ : Fun) (γ111 : Gm ((List Str))) (Λ2 J : Lam)
def apY : aP := aZ (aR Γ) 111 cB γ111
theorem axf (p0 : Str) : bL SE (apY Γ γ111) Λ2 J 101 [.d (.str p0)] [] [] =
 γ111 [.d (.str p0), .d (.str ([47] : Str))] [] [] fun r0 =>
 (some (.ret [.d (.sl [.str] (List.map bU r0))] [] [])) := by kernel_rfl
end
abbrev asz : aP := apY gG (cT 111 cB)
theorem auL : asz = aR gG := by unfold asz apY; rw [bB fun _ h => h]
theorem ahx (p0 : Str) : Le (Option.map cB (sW p0)) (bA SE 101 [.d (.str p0)] [] []) := by
 refine aX auL rfl ?_
 refine Le.trans ?_ (le_of_eq (axf ..).symm)
 unfold sW
 refine lQ eX qQ (agv _ _) fun r0 _ => ?_
 exact aK rfl
end Te
end PX
