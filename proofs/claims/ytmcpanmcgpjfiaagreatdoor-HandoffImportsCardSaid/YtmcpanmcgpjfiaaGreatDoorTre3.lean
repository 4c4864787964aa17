import Derived.Test.YtmcpanmcgpjfiaaGreatDoorTre2
set_option linter.unusedVariables false
set_option linter.unusedSimpArgs false
set_option maxRecDepth 100000
noncomputable section
namespace PX
open Go
open Md
namespace Te
section
variable (Γ : Fun) (γ71 γ72 γ73 γ74 γ75 γ76 γ70 : Gm (Int)) (Λ2 J : Lam)
def C24 : aP := bB (bB (bB (bB (bB (bB (bB (aR Γ) 71 aB γ71) 72 aB γ72) 73 aB γ73) 74 aB γ74) 75 aB γ75) 76 aB γ76) 70 aB γ70
theorem T24 (p0 : aI) : bG SE (C24 Γ γ71 γ72 γ73 γ74 γ75 γ76 γ70) Λ2 J 24 [aI.av p0] [] [] =
 γ71 [aI.av p0] [] [] fun r0 =>
 γ72 [.d (.sl aK.ks (List.map aK.enc p0.Subs))] [] [] fun r1 =>
 γ73 [.d (.sl aC.ks (List.map aC.enc p0.Queue))] [] [] fun r2 =>
 γ74 [aO.av p0.Out] [] [] fun r3 =>
 γ75 [bO.av p0.In] [] [] fun r4 =>
 γ76 [bM.av p0.Will] [] [] fun r5 =>
 γ70 [.d (.sl [.int .i64] (List.map eI [r0, r1, r2, r3, r4, r5]))] [] [] fun r6 =>
 (rI r6) := by kernel_rfl
end
abbrev X24 : aP := C24 gG (cT 71 aB) (cT 72 aB) (cT 73 aB) (cT 74 aB) (cT 75 aB) (cT 76 aB) (cT 70 aB)
theorem aHB : X24 = aR gG := by unfold X24 C24; repeat rw [bD fun _ h => h]
theorem wA (p0 : aI) : Le (Option.map aB (fU p0)) (bF SE 24 [aI.av p0] [] []) := by
 refine aW aHB rfl ?_
 refine Le.trans ?_ (le_of_eq (T24 ..).symm)
 unfold fU
 refine lQ eX aM (aii _) fun r0 _ => ?_
 refine lQ eX aM (aic _) fun r1 _ => ?_
 refine lQ eX aM (ag9 _) fun r2 _ => ?_
 refine lQ eX aM (ahe _) fun r3 _ => ?_
 refine lQ eX aM (ahu _) fun r4 _ => ?_
 refine lQ eX aM (ahC _) fun r5 _ => ?_
 refine lQ eX aM (agT _) fun r6 _ => ?_
 exact aJ rfl
def aun (C : aP) (Λ2 J : Lam) (a0 : List (List D)) (a1 a2 a3 : Int) (a4 : Bool) (a5 a6 : List D) (a7 a8 : Str) (a9 : Bool) (a10 a11 a12 a13 a14 : Int) (a15 a16 : List (List D)) (a17 : Int) (a18 : List (List D)) (a19 : Bool) (a20 : Int) (a21 a22 : Str) (a23 : Int) (a24 : Bool) (a25 a26 : Int) (a27 : Str) (a28 : Int) (a29 a30 a31 : List (List D)) : Res := lab SE C Λ2 J 22 0 [1, 1, 1, 1, 1, 1, 1, 1, 1, 1, 0, 1, 0, 0, 1, 0, 0] (aV [(0, .d (.sl [.int .u8] a0)), (2, .ptr 1000000000 0), (4, .ptr 1000000001 0), (5, .ptr 1000000002 0), (6, .d (.int .i64 a1)), (7, .d (.int .i64 a2)), (36, .ptr 1000000001 0), (37, .ptr 1000000001 0), (38, .ptr 1000000001 2), (39, .d (.int .i64 a3)), (40, .d (.bool a4))] [⟨46, (List.map AV.d a5)⟩, ⟨97, (List.map AV.d a6)⟩, ⟨46, [.d (.str a7), .d (.str a8), .d (.bool a9), .d (.int .i64 a10), .d (.int .i64 a11), .d (.int .i64 a12), .d (.int .i64 a13), .row 50207, .row 50208, .d (.int .i64 a14), .d (.sl aE.ks a15), .d (.sl [.int .i64] a16), .d (.int .i64 a17), .d (.sl [.int .i64] a18), .d (.bool a19), .d (.int .i64 a20), .d (.str a21), .d (.str a22), .d (.int .i64 a23), .d (.bool a24), .d (.int .i64 a25), .d (.int .i64 a26), .d (.str a27), .d (.int .i64 a28), .d (.sl aG.ks a29)]⟩] [] [] [(50207, ⟨aK.ks, 72, 32, a30⟩), (50208, ⟨aC.ks, 42, 112, a31⟩)])
def apz (C : aP) (Λ2 J : Lam) (a0 a1 : List D) (a2 a3 : Str) (a4 : Bool) (a5 a6 a7 a8 a9 a10 : Int) (a11 : Bool) (a12 : Int) (a13 a14 : Str) (a15 : Int) (a16 : Bool) (a17 a18 : Int) (a19 : Str) (a20 : Int) (a21 a22 a23 a24 a25 a26 : List (List D)) : Res := lab SE C Λ2 J 22 0 [1, 1, 1, 1, 1, 1, 1, 1, 1, 1, 1, 1, 1, 1, 1, 1, 1, 0, 0] (aV [(2, .ptr 1000000000 0), (4, .ptr 1000000001 0), (5, .ptr 1000000002 0)] [⟨46, (List.map AV.d a0)⟩, ⟨97, (List.map AV.d a1)⟩, ⟨46, [.d (.str a2), .d (.str a3), .d (.bool a4), .d (.int .i64 a5), .d (.int .i64 a6), .d (.int .i64 a7), .d (.int .i64 a8), .row 50207, .row 50208, .d (.int .i64 a9), .row 50210, .row 50211, .d (.int .i64 a10), .row 50213, .d (.bool a11), .d (.int .i64 a12), .d (.str a13), .d (.str a14), .d (.int .i64 a15), .d (.bool a16), .d (.int .i64 a17), .d (.int .i64 a18), .d (.str a19), .d (.int .i64 a20), .d (.sl aG.ks a21)]⟩] [] [] [(50207, ⟨aK.ks, 72, 32, a22⟩), (50208, ⟨aC.ks, 42, 112, a23⟩), (50210, ⟨aE.ks, 78, 128, a24⟩), (50211, ⟨[.int .i64], 3, 8, a25⟩), (50213, ⟨[.int .i64], 3, 8, a26⟩)])
def alp (C : aP) (Λ2 J : Lam) (a0 a1 : List D) (a2 a3 : Str) (a4 : Bool) (a5 a6 a7 a8 a9 a10 : Int) (a11 : Bool) (a12 : Int) (a13 a14 : Str) (a15 : Int) (a16 : Bool) (a17 a18 : Int) (a19 : Str) (a20 : Int) (a21 a22 a23 a24 a25 a26 : List (List D)) : Res := lab SE C Λ2 J 22 0 [1, 1, 1, 1, 1, 1, 1, 1, 1, 1, 1, 1, 1, 1, 1, 1, 0, 0] (aV [(2, .ptr 1000000000 0), (4, .ptr 1000000001 0), (5, .ptr 1000000002 0)] [⟨46, (List.map AV.d a0)⟩, ⟨97, (List.map AV.d a1)⟩, ⟨46, [.d (.str a2), .d (.str a3), .d (.bool a4), .d (.int .i64 a5), .d (.int .i64 a6), .d (.int .i64 a7), .d (.int .i64 a8), .row 50207, .row 50208, .d (.int .i64 a9), .row 50210, .row 50211, .d (.int .i64 a10), .row 50213, .d (.bool a11), .d (.int .i64 a12), .d (.str a13), .d (.str a14), .d (.int .i64 a15), .d (.bool a16), .d (.int .i64 a17), .d (.int .i64 a18), .d (.str a19), .d (.int .i64 a20), .d (.sl aG.ks a21)]⟩] [] [] [(50207, ⟨aK.ks, 72, 32, a22⟩), (50208, ⟨aC.ks, 42, 112, a23⟩), (50210, ⟨aE.ks, 78, 128, a24⟩), (50211, ⟨[.int .i64], 3, 8, a25⟩), (50213, ⟨[.int .i64], 3, 8, a26⟩)])
def aqw (C : aP) (Λ2 J : Lam) (a0 : List (List D)) (a1 a2 : List D) (a3 a4 : Str) (a5 : Bool) (a6 a7 a8 a9 a10 a11 : Int) (a12 : Bool) (a13 : Int) (a14 a15 : Str) (a16 : Int) (a17 : Bool) (a18 a19 : Int) (a20 : Str) (a21 : Int) (a22 a23 a24 a25 a26 a27 : List (List D)) : Res := lab SE C Λ2 J 22 0 [1, 1, 1, 1, 1, 1, 1, 1, 1, 1, 1, 1, 1, 1, 1, 0, 0] (aV [(0, .d (.sl [.int .u8] a0)), (2, .ptr 1000000000 0), (4, .ptr 1000000001 0), (5, .ptr 1000000002 0)] [⟨46, (List.map AV.d a1)⟩, ⟨97, (List.map AV.d a2)⟩, ⟨46, [.d (.str a3), .d (.str a4), .d (.bool a5), .d (.int .i64 a6), .d (.int .i64 a7), .d (.int .i64 a8), .d (.int .i64 a9), .row 50207, .row 50208, .d (.int .i64 a10), .row 50210, .row 50211, .d (.int .i64 a11), .row 50213, .d (.bool a12), .d (.int .i64 a13), .d (.str a14), .d (.str a15), .d (.int .i64 a16), .d (.bool a17), .d (.int .i64 a18), .d (.int .i64 a19), .d (.str a20), .d (.int .i64 a21), .d (.sl aG.ks a22)]⟩] [] [] [(50207, ⟨aK.ks, 72, 32, a23⟩), (50208, ⟨aC.ks, 42, 112, a24⟩), (50210, ⟨aE.ks, 78, 128, a25⟩), (50211, ⟨[.int .i64], 3, 8, a26⟩), (50213, ⟨[.int .i64], 3, 8, a27⟩)])
def apC (C : aP) (Λ2 J : Lam) (a0 : List (List D)) (a1 a2 : List D) (a3 a4 : Str) (a5 : Bool) (a6 a7 a8 a9 a10 : Int) (a11 a12 : List (List D)) (a13 : Int) (a14 : List (List D)) (a15 : Bool) (a16 : Int) (a17 a18 : Str) (a19 : Int) (a20 : Bool) (a21 a22 : Int) (a23 : Str) (a24 : Int) (a25 a26 a27 : List (List D)) : Res := lab SE C Λ2 J 22 0 [1, 1, 1, 1, 1, 1, 1, 1, 1, 1, 1, 0] (aV [(0, .d (.sl [.int .u8] a0)), (2, .ptr 1000000000 0), (4, .ptr 1000000001 0), (5, .ptr 1000000002 0)] [⟨46, (List.map AV.d a1)⟩, ⟨97, (List.map AV.d a2)⟩, ⟨46, [.d (.str a3), .d (.str a4), .d (.bool a5), .d (.int .i64 a6), .d (.int .i64 a7), .d (.int .i64 a8), .d (.int .i64 a9), .row 50207, .row 50208, .d (.int .i64 a10), .d (.sl aE.ks a11), .d (.sl [.int .i64] a12), .d (.int .i64 a13), .d (.sl [.int .i64] a14), .d (.bool a15), .d (.int .i64 a16), .d (.str a17), .d (.str a18), .d (.int .i64 a19), .d (.bool a20), .d (.int .i64 a21), .d (.int .i64 a22), .d (.str a23), .d (.int .i64 a24), .d (.sl aG.ks a25)]⟩] [] [] [(50207, ⟨aK.ks, 72, 32, a26⟩), (50208, ⟨aC.ks, 42, 112, a27⟩)])
def aqj (C : aP) (Λ2 J : Lam) (a0 : List (List D)) (a1 a2 : Int) (a3 a4 : List D) (a5 a6 : Str) (a7 : Bool) (a8 a9 a10 a11 a12 : Int) (a13 a14 : List (List D)) (a15 : Int) (a16 : List (List D)) (a17 : Bool) (a18 : Int) (a19 a20 : Str) (a21 : Int) (a22 : Bool) (a23 a24 : Int) (a25 : Str) (a26 : Int) (a27 a28 a29 : List (List D)) : Res := lab SE C Λ2 J 22 0 [1, 1, 1, 1, 1, 1, 1, 1, 1, 1, 0, 1, 0] (aV [(0, .d (.sl [.int .u8] a0)), (2, .ptr 1000000000 0), (4, .ptr 1000000001 0), (5, .ptr 1000000002 0), (6, .d (.int .i64 a1)), (7, .d (.int .i64 a2))] [⟨46, (List.map AV.d a3)⟩, ⟨97, (List.map AV.d a4)⟩, ⟨46, [.d (.str a5), .d (.str a6), .d (.bool a7), .d (.int .i64 a8), .d (.int .i64 a9), .d (.int .i64 a10), .d (.int .i64 a11), .row 50207, .row 50208, .d (.int .i64 a12), .d (.sl aE.ks a13), .d (.sl [.int .i64] a14), .d (.int .i64 a15), .d (.sl [.int .i64] a16), .d (.bool a17), .d (.int .i64 a18), .d (.str a19), .d (.str a20), .d (.int .i64 a21), .d (.bool a22), .d (.int .i64 a23), .d (.int .i64 a24), .d (.str a25), .d (.int .i64 a26), .d (.sl aG.ks a27)]⟩] [] [] [(50207, ⟨aK.ks, 72, 32, a28⟩), (50208, ⟨aC.ks, 42, 112, a29⟩)])
section
variable (Γ : Fun) (γ57 : Gm (Str × aD)) (γ58 : Gm (Int × aD)) (γ59 : Gm ((List aK) × aD)) (γ60 : Gm (Int × aD)) (γ61 : Gm (aC × aD)) (γ62 : Gm (aO × aD)) (γ63 : Gm ((List Int) × aD)) (γ64 : Gm (Int × aD)) (γ24 : Gm (Int)) (Λ2 J : Lam)
def C22 : aP := bB (bB (bB (bB (bB (bB (bB (bB (bB (aR Γ) 57 dG γ57) 58 bC γ58) 59 fX γ59) 60 bC γ60) 61 bY γ61) 62 eQ γ62) 63 dW γ63) 64 bC γ64) 24 aB γ24
theorem T22 (p0 : List Int) : bG SE (C22 Γ γ57 γ58 γ59 γ60 γ61 γ62 γ63 γ64 γ24) Λ2 J 22 [.d (.sl [.int .u8] (List.map (encI .u8) p0))] [] [] =
 γ57 [.ptr 2000000000 0, .d (.int .i64 16)] [⟨97, (aD.avs (aD.mk p0 0 0))⟩] [] fun r0 =>
 γ57 [.ptr 2000000000 0, .d (.int .i64 16)] [⟨97, (aD.avs r0.2)⟩] [] fun r1 =>
 γ58 [.ptr 2000000000 0] [⟨97, (aD.avs r1.2)⟩] [] fun r2 =>
 γ58 [.ptr 2000000000 0] [⟨97, (aD.avs r2.2)⟩] [] fun r3 =>
 γ58 [.ptr 2000000000 0] [⟨97, (aD.avs r3.2)⟩] [] fun r4 =>
 γ59 [.ptr 2000000000 0] [⟨97, (aD.avs r4.2)⟩] [] fun r5 =>
 γ60 [.ptr 2000000000 0, .d (.int .i64 256)] [⟨97, (aD.avs r5.2)⟩] [] fun r6 =>
 aqj (C22 Γ γ57 γ58 γ59 γ60 γ61 γ62 γ63 γ64 γ24) Λ2 J (List.map (encI .u8) p0) r6.1 0 [D.str [], D.str [], D.bool false, D.int .i64 0, D.int .i64 0, D.int .i64 0, D.int .i64 0, D.sl aK.ks (List.map aK.enc []), D.sl aC.ks (List.map aC.enc []), D.int .i64 0, D.sl aE.ks (List.map aE.enc []), D.sl [.int .i64] (List.map eI []), D.int .i64 0, D.sl [.int .i64] (List.map eI []), D.bool false, D.int .i64 0, D.str [], D.str [], D.int .i64 0, D.bool false, D.int .i64 0, D.int .i64 0, D.str [], D.int .i64 0, D.sl aG.ks (List.map aG.enc [])] (aD.enc r6.2) r0.1 r1.1 false 0 r2.1 r3.1 r4.1 0 (List.map aE.enc []) (List.map eI []) 0 (List.map eI []) false 0 [] [] 0 false 0 0 [] 0 (List.map aG.enc []) (List.map aK.enc r5.1) (List.map aC.enc []) := by kernel_rfl
theorem az1 (x0 : List Int) (x6 x7 x39 : Int) (x40 : Bool) (b0 : aI) (b1 : aD) (b2_0 b2_1 : Str) (b2_2 : Bool) (b2_3 b2_4 b2_5 b2_6 b2_9 : Int) (b2_10 : List aE) (b2_11 : List Int) (b2_12 : Int) (b2_13 : List Int) (b2_14 : Bool) (b2_15 : Int) (b2_16 b2_17 : Str) (b2_18 : Int) (b2_19 : Bool) (b2_20 b2_21 : Int) (b2_22 : Str) (b2_23 : Int) (b2_24 : List aG) (w50207 : List aK) (w50208 : List aC) : bW SE (C22 Γ γ57 γ58 γ59 γ60 γ61 γ62 γ63 γ64 γ24) Λ2 J 22 0 [1, 1, 1, 1, 1, 1, 1, 1, 1, 1, 0, 1, 0, 0, 1, 0, 0] (aV [(0, .d (.sl [.int .u8] (List.map (encI .u8) x0))), (2, .ptr 1000000000 0), (4, .ptr 1000000001 0), (5, .ptr 1000000002 0), (6, .d (.int .i64 x6)), (7, .d (.int .i64 x7)), (36, .ptr 1000000001 0), (37, .ptr 1000000001 0), (38, .ptr 1000000001 2), (39, .d (.int .i64 x39)), (40, .d (.bool x40))] [⟨46, (List.map AV.d (aI.enc b0))⟩, ⟨97, (List.map AV.d (aD.enc b1))⟩, ⟨46, [.d (.str b2_0), .d (.str b2_1), .d (.bool b2_2), .d (.int .i64 b2_3), .d (.int .i64 b2_4), .d (.int .i64 b2_5), .d (.int .i64 b2_6), .row 50207, .row 50208, .d (.int .i64 b2_9), .d (.sl aE.ks (List.map aE.enc b2_10)), .d (.sl [.int .i64] (List.map eI b2_11)), .d (.int .i64 b2_12), .d (.sl [.int .i64] (List.map eI b2_13)), .d (.bool b2_14), .d (.int .i64 b2_15), .d (.str b2_16), .d (.str b2_17), .d (.int .i64 b2_18), .d (.bool b2_19), .d (.int .i64 b2_20), .d (.int .i64 b2_21), .d (.str b2_22), .d (.int .i64 b2_23), .d (.sl aG.ks (List.map aG.enc b2_24))]⟩] [] [] [(50207, ⟨aK.ks, 72, 32, (List.map aK.enc w50207)⟩), (50208, ⟨aC.ks, 42, 112, (List.map aC.enc w50208)⟩)]) =
 γ61 [.ptr 2000000000 0] [⟨97, (aD.avs b1)⟩] [] fun r7 =>
 cond (decide ((lM aC.enc w50208 + lM aC.enc [r7.1]) * 112 ≤ 140737488355328)) (
 aqj (C22 Γ γ57 γ58 γ59 γ60 γ61 γ62 γ63 γ64 γ24) Λ2 J (List.map (encI .u8) x0) x6 (w6 (x7 + 1)) (aI.enc b0) (aD.enc r7.2) b2_0 b2_1 b2_2 b2_3 b2_4 b2_5 b2_6 b2_9 (List.map aE.enc b2_10) (List.map eI b2_11) b2_12 (List.map eI b2_13) b2_14 b2_15 b2_16 b2_17 b2_18 b2_19 b2_20 b2_21 b2_22 b2_23 (List.map aG.enc b2_24) (List.map aK.enc w50207) (((List.map aC.enc w50208) ++ (List.map aC.enc [r7.1])))) none := by kernel_rfl
theorem aAg (b0 : aI) (b1 : aD) (b2_0 b2_1 : Str) (b2_2 : Bool) (b2_3 b2_4 b2_5 b2_6 b2_9 b2_12 : Int) (b2_14 : Bool) (b2_15 : Int) (b2_16 b2_17 : Str) (b2_18 : Int) (b2_19 : Bool) (b2_20 b2_21 : Int) (b2_22 : Str) (b2_23 : Int) (b2_24 : List aG) (w50207 : List aK) (w50208 : List aC) (w50210 : List aE) (w50211 w50213 : List Int) : bW SE (C22 Γ γ57 γ58 γ59 γ60 γ61 γ62 γ63 γ64 γ24) Λ2 J 22 0 [1, 1, 1, 1, 1, 1, 1, 1, 1, 1, 1, 1, 1, 1, 1, 1, 1, 0, 0] (aV [(2, .ptr 1000000000 0), (4, .ptr 1000000001 0), (5, .ptr 1000000002 0)] [⟨46, (List.map AV.d (aI.enc b0))⟩, ⟨97, (List.map AV.d (aD.enc b1))⟩, ⟨46, [.d (.str b2_0), .d (.str b2_1), .d (.bool b2_2), .d (.int .i64 b2_3), .d (.int .i64 b2_4), .d (.int .i64 b2_5), .d (.int .i64 b2_6), .row 50207, .row 50208, .d (.int .i64 b2_9), .row 50210, .row 50211, .d (.int .i64 b2_12), .row 50213, .d (.bool b2_14), .d (.int .i64 b2_15), .d (.str b2_16), .d (.str b2_17), .d (.int .i64 b2_18), .d (.bool b2_19), .d (.int .i64 b2_20), .d (.int .i64 b2_21), .d (.str b2_22), .d (.int .i64 b2_23), .d (.sl aG.ks (List.map aG.enc b2_24))]⟩] [] [] [(50207, ⟨aK.ks, 72, 32, (List.map aK.enc w50207)⟩), (50208, ⟨aC.ks, 42, 112, (List.map aC.enc w50208)⟩), (50210, ⟨aE.ks, 78, 128, (List.map aE.enc w50210)⟩), (50211, ⟨[.int .i64], 3, 8, (List.map eI w50211)⟩), (50213, ⟨[.int .i64], 3, 8, (List.map eI w50213)⟩)]) =
 cond (b1.E != 0) (
 (some (.ret [.agg [.d (.str []), .d (.str []), .d (.bool false), .d (.int .i64 0), .d (.int .i64 0), .d (.int .i64 0), .d (.int .i64 0), .row 0, .row 1, .d (.int .i64 0), .row 2, .row 3, .d (.int .i64 0), .row 4, .d (.bool false), .d (.int .i64 0), .d (.str []), .d (.str []), .d (.int .i64 0), .d (.bool false), .d (.int .i64 0), .d (.int .i64 0), .d (.str []), .d (.int .i64 0), .d (.sl aG.ks (List.map aG.enc []))], .d (.int .i64 b1.E)] [] [⟨aK.ks, 72, 32, (List.map aK.enc [])⟩, ⟨aC.ks, 42, 112, (List.map aC.enc [])⟩, ⟨aE.ks, 78, 128, (List.map aE.enc [])⟩, ⟨[.int .i64], 3, 8, (List.map eI [])⟩, ⟨[.int .i64], 3, 8, (List.map eI [])⟩]))) (
 (some (.ret [.agg [.d (.str b2_0), .d (.str b2_1), .d (.bool b2_2), .d (.int .i64 b2_3), .d (.int .i64 b2_4), .d (.int .i64 b2_5), .d (.int .i64 b2_6), .row 0, .row 1, .d (.int .i64 b2_9), .row 2, .row 3, .d (.int .i64 b2_12), .row 4, .d (.bool b2_14), .d (.int .i64 b2_15), .d (.str b2_16), .d (.str b2_17), .d (.int .i64 b2_18), .d (.bool b2_19), .d (.int .i64 b2_20), .d (.int .i64 b2_21), .d (.str b2_22), .d (.int .i64 b2_23), .d (.sl aG.ks (List.map aG.enc b2_24))], .d (.int .i64 0)] [] [⟨aK.ks, 72, 32, (List.map aK.enc w50207)⟩, ⟨aC.ks, 42, 112, (List.map aC.enc w50208)⟩, ⟨aE.ks, 78, 128, (List.map aE.enc w50210)⟩, ⟨[.int .i64], 3, 8, (List.map eI w50211)⟩, ⟨[.int .i64], 3, 8, (List.map eI w50213)⟩]))) := by kernel_rfl
theorem aA2 (b0 : aI) (b1 : aD) (b2_0 b2_1 : Str) (b2_2 : Bool) (b2_3 b2_4 b2_5 b2_6 b2_9 b2_12 : Int) (b2_14 : Bool) (b2_15 : Int) (b2_16 b2_17 : Str) (b2_18 : Int) (b2_19 : Bool) (b2_20 b2_21 : Int) (b2_22 : Str) (b2_23 : Int) (b2_24 : List aG) (w50207 : List aK) (w50208 : List aC) (w50210 : List aE) (w50211 w50213 : List Int) : bW SE (C22 Γ γ57 γ58 γ59 γ60 γ61 γ62 γ63 γ64 γ24) Λ2 J 22 0 [1, 1, 1, 1, 1, 1, 1, 1, 1, 1, 1, 1, 1, 1, 1, 1, 0, 0] (aV [(2, .ptr 1000000000 0), (4, .ptr 1000000001 0), (5, .ptr 1000000002 0)] [⟨46, (List.map AV.d (aI.enc b0))⟩, ⟨97, (List.map AV.d (aD.enc b1))⟩, ⟨46, [.d (.str b2_0), .d (.str b2_1), .d (.bool b2_2), .d (.int .i64 b2_3), .d (.int .i64 b2_4), .d (.int .i64 b2_5), .d (.int .i64 b2_6), .row 50207, .row 50208, .d (.int .i64 b2_9), .row 50210, .row 50211, .d (.int .i64 b2_12), .row 50213, .d (.bool b2_14), .d (.int .i64 b2_15), .d (.str b2_16), .d (.str b2_17), .d (.int .i64 b2_18), .d (.bool b2_19), .d (.int .i64 b2_20), .d (.int .i64 b2_21), .d (.str b2_22), .d (.int .i64 b2_23), .d (.sl aG.ks (List.map aG.enc b2_24))]⟩] [] [] [(50207, ⟨aK.ks, 72, 32, (List.map aK.enc w50207)⟩), (50208, ⟨aC.ks, 42, 112, (List.map aC.enc w50208)⟩), (50210, ⟨aE.ks, 78, 128, (List.map aE.enc w50210)⟩), (50211, ⟨[.int .i64], 3, 8, (List.map eI w50211)⟩), (50213, ⟨[.int .i64], 3, 8, (List.map eI w50213)⟩)]) =
 cond (b1.E == 0) (
 γ24 [aI.av (aI.mk b2_0 b2_1 b2_2 b2_3 b2_4 b2_5 b2_6 w50207 w50208 (aO.mk b2_9 w50210 (bE.mk w50211 b2_12)) (bO.mk w50213) (bM.mk b2_14 b2_15 (aC.mk b2_16 b2_17 b2_18 b2_19 b2_20 b2_21 b2_22 b2_23 b2_24)))] [] [] fun r13 =>
 apz (C22 Γ γ57 γ58 γ59 γ60 γ61 γ62 γ63 γ64 γ24) Λ2 J (aI.enc b0) (aD.enc (aD.mk b1.B b1.At r13)) b2_0 b2_1 b2_2 b2_3 b2_4 b2_5 b2_6 b2_9 b2_12 b2_14 b2_15 b2_16 b2_17 b2_18 b2_19 b2_20 b2_21 b2_22 b2_23 (List.map aG.enc b2_24) (List.map aK.enc w50207) (List.map aC.enc w50208) (List.map aE.enc w50210) (List.map eI w50211) (List.map eI w50213)) (
 apz (C22 Γ γ57 γ58 γ59 γ60 γ61 γ62 γ63 γ64 γ24) Λ2 J (aI.enc b0) (aD.enc b1) b2_0 b2_1 b2_2 b2_3 b2_4 b2_5 b2_6 b2_9 b2_12 b2_14 b2_15 b2_16 b2_17 b2_18 b2_19 b2_20 b2_21 b2_22 b2_23 (List.map aG.enc b2_24) (List.map aK.enc w50207) (List.map aC.enc w50208) (List.map aE.enc w50210) (List.map eI w50211) (List.map eI w50213)) := by kernel_rfl
theorem azh (x0 : List Int) (b0 : aI) (b1 : aD) (b2_0 b2_1 : Str) (b2_2 : Bool) (b2_3 b2_4 b2_5 b2_6 b2_9 b2_12 : Int) (b2_14 : Bool) (b2_15 : Int) (b2_16 b2_17 : Str) (b2_18 : Int) (b2_19 : Bool) (b2_20 b2_21 : Int) (b2_22 : Str) (b2_23 : Int) (b2_24 : List aG) (w50207 : List aK) (w50208 : List aC) (w50210 : List aE) (w50211 w50213 : List Int) : bW SE (C22 Γ γ57 γ58 γ59 γ60 γ61 γ62 γ63 γ64 γ24) Λ2 J 22 0 [1, 1, 1, 1, 1, 1, 1, 1, 1, 1, 1, 1, 1, 1, 1, 0, 0] (aV [(0, .d (.sl [.int .u8] (List.map (encI .u8) x0))), (2, .ptr 1000000000 0), (4, .ptr 1000000001 0), (5, .ptr 1000000002 0)] [⟨46, (List.map AV.d (aI.enc b0))⟩, ⟨97, (List.map AV.d (aD.enc b1))⟩, ⟨46, [.d (.str b2_0), .d (.str b2_1), .d (.bool b2_2), .d (.int .i64 b2_3), .d (.int .i64 b2_4), .d (.int .i64 b2_5), .d (.int .i64 b2_6), .row 50207, .row 50208, .d (.int .i64 b2_9), .row 50210, .row 50211, .d (.int .i64 b2_12), .row 50213, .d (.bool b2_14), .d (.int .i64 b2_15), .d (.str b2_16), .d (.str b2_17), .d (.int .i64 b2_18), .d (.bool b2_19), .d (.int .i64 b2_20), .d (.int .i64 b2_21), .d (.str b2_22), .d (.int .i64 b2_23), .d (.sl aG.ks (List.map aG.enc b2_24))]⟩] [] [] [(50207, ⟨aK.ks, 72, 32, (List.map aK.enc w50207)⟩), (50208, ⟨aC.ks, 42, 112, (List.map aC.enc w50208)⟩), (50210, ⟨aE.ks, 78, 128, (List.map aE.enc w50210)⟩), (50211, ⟨[.int .i64], 3, 8, (List.map eI w50211)⟩), (50213, ⟨[.int .i64], 3, 8, (List.map eI w50213)⟩)]) =
 cond (b1.E == 0) (
 cond (b1.At != (lM (encI .u8) x0 : Int)) (
  alp (C22 Γ γ57 γ58 γ59 γ60 γ61 γ62 γ63 γ64 γ24) Λ2 J (aI.enc b0) (aD.enc (aD.mk b1.B b1.At 2)) b2_0 b2_1 b2_2 b2_3 b2_4 b2_5 b2_6 b2_9 b2_12 b2_14 b2_15 b2_16 b2_17 b2_18 b2_19 b2_20 b2_21 b2_22 b2_23 (List.map aG.enc b2_24) (List.map aK.enc w50207) (List.map aC.enc w50208) (List.map aE.enc w50210) (List.map eI w50211) (List.map eI w50213)) (
 alp (C22 Γ γ57 γ58 γ59 γ60 γ61 γ62 γ63 γ64 γ24) Λ2 J (aI.enc b0) (aD.enc b1) b2_0 b2_1 b2_2 b2_3 b2_4 b2_5 b2_6 b2_9 b2_12 b2_14 b2_15 b2_16 b2_17 b2_18 b2_19 b2_20 b2_21 b2_22 b2_23 (List.map aG.enc b2_24) (List.map aK.enc w50207) (List.map aC.enc w50208) (List.map aE.enc w50210) (List.map eI w50211) (List.map eI w50213))) (
 alp (C22 Γ γ57 γ58 γ59 γ60 γ61 γ62 γ63 γ64 γ24) Λ2 J (aI.enc b0) (aD.enc b1) b2_0 b2_1 b2_2 b2_3 b2_4 b2_5 b2_6 b2_9 b2_12 b2_14 b2_15 b2_16 b2_17 b2_18 b2_19 b2_20 b2_21 b2_22 b2_23 (List.map aG.enc b2_24) (List.map aK.enc w50207) (List.map aC.enc w50208) (List.map aE.enc w50210) (List.map eI w50211) (List.map eI w50213)) := by kernel_rfl
theorem azc (x0 : List Int) (b0 : aI) (b1 : aD) (b2_0 b2_1 : Str) (b2_2 : Bool) (b2_3 b2_4 b2_5 b2_6 b2_9 : Int) (b2_10 : List aE) (b2_11 : List Int) (b2_12 : Int) (b2_13 : List Int) (b2_14 : Bool) (b2_15 : Int) (b2_16 b2_17 : Str) (b2_18 : Int) (b2_19 : Bool) (b2_20 b2_21 : Int) (b2_22 : Str) (b2_23 : Int) (b2_24 : List aG) (w50207 : List aK) (w50208 : List aC) : bW SE (C22 Γ γ57 γ58 γ59 γ60 γ61 γ62 γ63 γ64 γ24) Λ2 J 22 0 [1, 1, 1, 1, 1, 1, 1, 1, 1, 1, 1, 0] (aV [(0, .d (.sl [.int .u8] (List.map (encI .u8) x0))), (2, .ptr 1000000000 0), (4, .ptr 1000000001 0), (5, .ptr 1000000002 0)] [⟨46, (List.map AV.d (aI.enc b0))⟩, ⟨97, (List.map AV.d (aD.enc b1))⟩, ⟨46, [.d (.str b2_0), .d (.str b2_1), .d (.bool b2_2), .d (.int .i64 b2_3), .d (.int .i64 b2_4), .d (.int .i64 b2_5), .d (.int .i64 b2_6), .row 50207, .row 50208, .d (.int .i64 b2_9), .d (.sl aE.ks (List.map aE.enc b2_10)), .d (.sl [.int .i64] (List.map eI b2_11)), .d (.int .i64 b2_12), .d (.sl [.int .i64] (List.map eI b2_13)), .d (.bool b2_14), .d (.int .i64 b2_15), .d (.str b2_16), .d (.str b2_17), .d (.int .i64 b2_18), .d (.bool b2_19), .d (.int .i64 b2_20), .d (.int .i64 b2_21), .d (.str b2_22), .d (.int .i64 b2_23), .d (.sl aG.ks (List.map aG.enc b2_24))]⟩] [] [] [(50207, ⟨aK.ks, 72, 32, (List.map aK.enc w50207)⟩), (50208, ⟨aC.ks, 42, 112, (List.map aC.enc w50208)⟩)]) =
 γ62 [.ptr 2000000000 0] [⟨97, (aD.avs b1)⟩] [] fun r8 =>
 γ63 [.ptr 2000000000 0] [⟨97, (aD.avs r8.2)⟩] [] fun r9 =>
 γ64 [.ptr 2000000000 0, .d (.int .i64 2)] [⟨97, (aD.avs r9.2)⟩] [] fun r10 =>
 cond (r10.1 == 1) (
 γ58 [.ptr 2000000000 0] [⟨97, (aD.avs r10.2)⟩] [] fun r11 =>
 γ61 [.ptr 2000000000 0] [⟨97, (aD.avs r11.2)⟩] [] fun r12 =>
 aqw (C22 Γ γ57 γ58 γ59 γ60 γ61 γ62 γ63 γ64 γ24) Λ2 J (List.map (encI .u8) x0) (aI.enc b0) (aD.enc r12.2) b2_0 b2_1 b2_2 b2_3 b2_4 b2_5 b2_6 r8.1.Limit r8.1.Pool.Last (r10.1 == 1) r11.1 r12.1.Topic r12.1.Payload r12.1.Level r12.1.Retain r12.1.Priority r12.1.Expires r12.1.From r12.1.Seq (List.map aG.enc r12.1.Props) (List.map aK.enc w50207) (List.map aC.enc w50208) (List.map aE.enc r8.1.Items) (List.map eI r8.1.Pool.Used) (List.map eI r9.1)) (
 aqw (C22 Γ γ57 γ58 γ59 γ60 γ61 γ62 γ63 γ64 γ24) Λ2 J (List.map (encI .u8) x0) (aI.enc b0) (aD.enc r10.2) b2_0 b2_1 b2_2 b2_3 b2_4 b2_5 b2_6 r8.1.Limit r8.1.Pool.Last (r10.1 == 1) b2_15 b2_16 b2_17 b2_18 b2_19 b2_20 b2_21 b2_22 b2_23 (List.map aG.enc b2_24) (List.map aK.enc w50207) (List.map aC.enc w50208) (List.map aE.enc r8.1.Items) (List.map eI r8.1.Pool.Used) (List.map eI r9.1)) := by kernel_rfl
theorem aA5 (x0 : List Int) (x6 x7 : Int) (b0 : aI) (b1 : aD) (b2_0 b2_1 : Str) (b2_2 : Bool) (b2_3 b2_4 b2_5 b2_6 b2_9 : Int) (b2_10 : List aE) (b2_11 : List Int) (b2_12 : Int) (b2_13 : List Int) (b2_14 : Bool) (b2_15 : Int) (b2_16 b2_17 : Str) (b2_18 : Int) (b2_19 : Bool) (b2_20 b2_21 : Int) (b2_22 : Str) (b2_23 : Int) (b2_24 : List aG) (w50207 : List aK) (w50208 : List aC) : bW SE (C22 Γ γ57 γ58 γ59 γ60 γ61 γ62 γ63 γ64 γ24) Λ2 J 22 0 [1, 1, 1, 1, 1, 1, 1, 1, 1, 1, 0, 1, 0] (aV [(0, .d (.sl [.int .u8] (List.map (encI .u8) x0))), (2, .ptr 1000000000 0), (4, .ptr 1000000001 0), (5, .ptr 1000000002 0), (6, .d (.int .i64 x6)), (7, .d (.int .i64 x7))] [⟨46, (List.map AV.d (aI.enc b0))⟩, ⟨97, (List.map AV.d (aD.enc b1))⟩, ⟨46, [.d (.str b2_0), .d (.str b2_1), .d (.bool b2_2), .d (.int .i64 b2_3), .d (.int .i64 b2_4), .d (.int .i64 b2_5), .d (.int .i64 b2_6), .row 50207, .row 50208, .d (.int .i64 b2_9), .d (.sl aE.ks (List.map aE.enc b2_10)), .d (.sl [.int .i64] (List.map eI b2_11)), .d (.int .i64 b2_12), .d (.sl [.int .i64] (List.map eI b2_13)), .d (.bool b2_14), .d (.int .i64 b2_15), .d (.str b2_16), .d (.str b2_17), .d (.int .i64 b2_18), .d (.bool b2_19), .d (.int .i64 b2_20), .d (.int .i64 b2_21), .d (.str b2_22), .d (.int .i64 b2_23), .d (.sl aG.ks (List.map aG.enc b2_24))]⟩] [] [] [(50207, ⟨aK.ks, 72, 32, (List.map aK.enc w50207)⟩), (50208, ⟨aC.ks, 42, 112, (List.map aC.enc w50208)⟩)]) =
 cond (decide (x7 < x6)) (
 cond (b1.E == 0) (
  aun (C22 Γ γ57 γ58 γ59 γ60 γ61 γ62 γ63 γ64 γ24) Λ2 J (List.map (encI .u8) x0) x6 x7 b1.E (b1.E == 0) (aI.enc b0) (aD.enc b1) b2_0 b2_1 b2_2 b2_3 b2_4 b2_5 b2_6 b2_9 (List.map aE.enc b2_10) (List.map eI b2_11) b2_12 (List.map eI b2_13) b2_14 b2_15 b2_16 b2_17 b2_18 b2_19 b2_20 b2_21 b2_22 b2_23 (List.map aG.enc b2_24) (List.map aK.enc w50207) (List.map aC.enc w50208)) (
 apC (C22 Γ γ57 γ58 γ59 γ60 γ61 γ62 γ63 γ64 γ24) Λ2 J (List.map (encI .u8) x0) (aI.enc b0) (aD.enc b1) b2_0 b2_1 b2_2 b2_3 b2_4 b2_5 b2_6 b2_9 (List.map aE.enc b2_10) (List.map eI b2_11) b2_12 (List.map eI b2_13) b2_14 b2_15 b2_16 b2_17 b2_18 b2_19 b2_20 b2_21 b2_22 b2_23 (List.map aG.enc b2_24) (List.map aK.enc w50207) (List.map aC.enc w50208))) (
 apC (C22 Γ γ57 γ58 γ59 γ60 γ61 γ62 γ63 γ64 γ24) Λ2 J (List.map (encI .u8) x0) (aI.enc b0) (aD.enc b1) b2_0 b2_1 b2_2 b2_3 b2_4 b2_5 b2_6 b2_9 (List.map aE.enc b2_10) (List.map eI b2_11) b2_12 (List.map eI b2_13) b2_14 b2_15 b2_16 b2_17 b2_18 b2_19 b2_20 b2_21 b2_22 b2_23 (List.map aG.enc b2_24) (List.map aK.enc w50207) (List.map aC.enc w50208)) := by kernel_rfl
end
abbrev X22 : aP := C22 gG (cT 57 dG) (cT 58 bC) (cT 59 fX) (cT 60 bC) (cT 61 bY) (cT 62 eQ) (cT 63 dW) (cT 64 bC) (cT 24 aB)
theorem alg : X22 = aR gG := by unfold X22 C22; repeat rw [bD fun _ h => h]
abbrev aAm := aun X22 (bV SE gG (SE.hl 22) (SE.hr 22)) (J0 SE X22)
abbrev aBr := apz X22 (bV SE gG (SE.hl 22) (SE.hr 22)) (J0 SE X22)
abbrev aCa := alp X22 (bV SE gG (SE.hl 22) (SE.hr 22)) (J0 SE X22)
abbrev aBB := aqw X22 (bV SE gG (SE.hl 22) (SE.hr 22)) (J0 SE X22)
abbrev aBy := apC X22 (bV SE gG (SE.hl 22) (SE.hr 22)) (J0 SE X22)
abbrev atX := aqj X22 (bV SE gG (SE.hl 22) (SE.hr 22)) (J0 SE X22)
theorem adh (k11 : (List Int) → Int → Int → aI → aD → Str → Str → Bool → Int → Int → Int → Int → Int → (List aE) → (List Int) → Int → (List Int) → Bool → Int → Str → Str → Int → Bool → Int → Int → Str → Int → (List aG) → (List aK) → (List aC) → Option (aI × Int)) (hk11 : ∀ (x0 : List Int) (x6 x7 : Int) (b0 : aI) (b1 : aD) (b2_0 b2_1 : Str) (b2_2 : Bool) (b2_3 b2_4 b2_5 b2_6 b2_9 : Int) (b2_10 : List aE) (b2_11 : List Int) (b2_12 : Int) (b2_13 : List Int) (b2_14 : Bool) (b2_15 : Int) (b2_16 b2_17 : Str) (b2_18 : Int) (b2_19 : Bool) (b2_20 b2_21 : Int) (b2_22 : Str) (b2_23 : Int) (b2_24 : List aG) (w50207 : List aK) (w50208 : List aC), Le (Option.map dN (k11 x0 x6 x7 b0 b1 b2_0 b2_1 b2_2 b2_3 b2_4 b2_5 b2_6 b2_9 b2_10 b2_11 b2_12 b2_13 b2_14 b2_15 b2_16 b2_17 b2_18 b2_19 b2_20 b2_21 b2_22 b2_23 b2_24 w50207 w50208)) (atX (List.map (encI .u8) x0) x6 x7 (aI.enc b0) (aD.enc b1) b2_0 b2_1 b2_2 b2_3 b2_4 b2_5 b2_6 b2_9 (List.map aE.enc b2_10) (List.map eI b2_11) b2_12 (List.map eI b2_13) b2_14 b2_15 b2_16 b2_17 b2_18 b2_19 b2_20 b2_21 b2_22 b2_23 (List.map aG.enc b2_24) (List.map aK.enc w50207) (List.map aC.enc w50208))) (x0 : List Int) (x6 x7 x39 : Int) (x40 : Bool) (b0 : aI) (b1 : aD) (b2_0 b2_1 : Str) (b2_2 : Bool) (b2_3 b2_4 b2_5 b2_6 b2_9 : Int) (b2_10 : List aE) (b2_11 : List Int) (b2_12 : Int) (b2_13 : List Int) (b2_14 : Bool) (b2_15 : Int) (b2_16 b2_17 : Str) (b2_18 : Int) (b2_19 : Bool) (b2_20 b2_21 : Int) (b2_22 : Str) (b2_23 : Int) (b2_24 : List aG) (w50207 : List aK) (w50208 : List aC) : Le (Option.map dN (pR k11 x0 x6 x7 x39 x40 b0 b1 b2_0 b2_1 b2_2 b2_3 b2_4 b2_5 b2_6 b2_9 b2_10 b2_11 b2_12 b2_13 b2_14 b2_15 b2_16 b2_17 b2_18 b2_19 b2_20 b2_21 b2_22 b2_23 b2_24 w50207 w50208)) (aAm (List.map (encI .u8) x0) x6 x7 x39 x40 (aI.enc b0) (aD.enc b1) b2_0 b2_1 b2_2 b2_3 b2_4 b2_5 b2_6 b2_9 (List.map aE.enc b2_10) (List.map eI b2_11) b2_12 (List.map eI b2_13) b2_14 b2_15 b2_16 b2_17 b2_18 b2_19 b2_20 b2_21 b2_22 b2_23 (List.map aG.enc b2_24) (List.map aK.enc w50207) (List.map aC.enc w50208)) := by
 refine Le.trans ?_ (le_of_eq ((aZ alg).trans (az1 ..)).symm)
 unfold pR
 refine lQ eX jO (uX _) fun r7 _ => ?_
 refine lG (by simp only [EN]) ?_
 (try simp only [EN]); exact hk11 x0 x6 (w6 (x7 + 1)) b0 r7.2 b2_0 b2_1 b2_2 b2_3 b2_4 b2_5 b2_6 b2_9 b2_10 b2_11 b2_12 b2_13 b2_14 b2_15 b2_16 b2_17 b2_18 b2_19 b2_20 b2_21 b2_22 b2_23 b2_24 w50207 (w50208 ++ [r7.1])
theorem xR (b0 : aI) (b1 : aD) (b2_0 b2_1 : Str) (b2_2 : Bool) (b2_3 b2_4 b2_5 b2_6 b2_9 b2_12 : Int) (b2_14 : Bool) (b2_15 : Int) (b2_16 b2_17 : Str) (b2_18 : Int) (b2_19 : Bool) (b2_20 b2_21 : Int) (b2_22 : Str) (b2_23 : Int) (b2_24 : List aG) (w50207 : List aK) (w50208 : List aC) (w50210 : List aE) (w50211 w50213 : List Int) : Le (Option.map dN (kB b0 b1 b2_0 b2_1 b2_2 b2_3 b2_4 b2_5 b2_6 b2_9 b2_12 b2_14 b2_15 b2_16 b2_17 b2_18 b2_19 b2_20 b2_21 b2_22 b2_23 b2_24 w50207 w50208 w50210 w50211 w50213)) (aBr (aI.enc b0) (aD.enc b1) b2_0 b2_1 b2_2 b2_3 b2_4 b2_5 b2_6 b2_9 b2_12 b2_14 b2_15 b2_16 b2_17 b2_18 b2_19 b2_20 b2_21 b2_22 b2_23 (List.map aG.enc b2_24) (List.map aK.enc w50207) (List.map aC.enc w50208) (List.map aE.enc w50210) (List.map eI w50211) (List.map eI w50213)) := by
 refine Le.trans ?_ (le_of_eq ((aZ alg).trans (aAg ..)).symm)
 unfold kB
 refine lC ?_ ?_
 ·exact aJ rfl
 ·exact aJ rfl
theorem sE (b0 : aI) (b1 : aD) (b2_0 b2_1 : Str) (b2_2 : Bool) (b2_3 b2_4 b2_5 b2_6 b2_9 b2_12 : Int) (b2_14 : Bool) (b2_15 : Int) (b2_16 b2_17 : Str) (b2_18 : Int) (b2_19 : Bool) (b2_20 b2_21 : Int) (b2_22 : Str) (b2_23 : Int) (b2_24 : List aG) (w50207 : List aK) (w50208 : List aC) (w50210 : List aE) (w50211 w50213 : List Int) : Le (Option.map dN (iL b0 b1 b2_0 b2_1 b2_2 b2_3 b2_4 b2_5 b2_6 b2_9 b2_12 b2_14 b2_15 b2_16 b2_17 b2_18 b2_19 b2_20 b2_21 b2_22 b2_23 b2_24 w50207 w50208 w50210 w50211 w50213)) (aCa (aI.enc b0) (aD.enc b1) b2_0 b2_1 b2_2 b2_3 b2_4 b2_5 b2_6 b2_9 b2_12 b2_14 b2_15 b2_16 b2_17 b2_18 b2_19 b2_20 b2_21 b2_22 b2_23 (List.map aG.enc b2_24) (List.map aK.enc w50207) (List.map aC.enc w50208) (List.map aE.enc w50210) (List.map eI w50211) (List.map eI w50213)) := by
 refine Le.trans ?_ (le_of_eq ((aZ alg).trans (aA2 ..)).symm)
 unfold iL
 refine lC ?_ ?_
 ·refine lQ eX aM (wA _) fun r13 _ => ?_
  exact xR b0 (aD.mk b1.B b1.At r13) b2_0 b2_1 b2_2 b2_3 b2_4 b2_5 b2_6 b2_9 b2_12 b2_14 b2_15 b2_16 b2_17 b2_18 b2_19 b2_20 b2_21 b2_22 b2_23 b2_24 w50207 w50208 w50210 w50211 w50213
 ·exact xR b0 b1 b2_0 b2_1 b2_2 b2_3 b2_4 b2_5 b2_6 b2_9 b2_12 b2_14 b2_15 b2_16 b2_17 b2_18 b2_19 b2_20 b2_21 b2_22 b2_23 b2_24 w50207 w50208 w50210 w50211 w50213
theorem xU (x0 : List Int) (b0 : aI) (b1 : aD) (b2_0 b2_1 : Str) (b2_2 : Bool) (b2_3 b2_4 b2_5 b2_6 b2_9 b2_12 : Int) (b2_14 : Bool) (b2_15 : Int) (b2_16 b2_17 : Str) (b2_18 : Int) (b2_19 : Bool) (b2_20 b2_21 : Int) (b2_22 : Str) (b2_23 : Int) (b2_24 : List aG) (w50207 : List aK) (w50208 : List aC) (w50210 : List aE) (w50211 w50213 : List Int) : Le (Option.map dN (iO x0 b0 b1 b2_0 b2_1 b2_2 b2_3 b2_4 b2_5 b2_6 b2_9 b2_12 b2_14 b2_15 b2_16 b2_17 b2_18 b2_19 b2_20 b2_21 b2_22 b2_23 b2_24 w50207 w50208 w50210 w50211 w50213)) (aBB (List.map (encI .u8) x0) (aI.enc b0) (aD.enc b1) b2_0 b2_1 b2_2 b2_3 b2_4 b2_5 b2_6 b2_9 b2_12 b2_14 b2_15 b2_16 b2_17 b2_18 b2_19 b2_20 b2_21 b2_22 b2_23 (List.map aG.enc b2_24) (List.map aK.enc w50207) (List.map aC.enc w50208) (List.map aE.enc w50210) (List.map eI w50211) (List.map eI w50213)) := by
 refine Le.trans ?_ (le_of_eq ((aZ alg).trans (azh ..)).symm)
 unfold iO
 refine lC ?_ ?_
 ·refine lD (by simp only [EN]) ?_ ?_
  ·exact sE b0 (aD.mk b1.B b1.At 2) b2_0 b2_1 b2_2 b2_3 b2_4 b2_5 b2_6 b2_9 b2_12 b2_14 b2_15 b2_16 b2_17 b2_18 b2_19 b2_20 b2_21 b2_22 b2_23 b2_24 w50207 w50208 w50210 w50211 w50213
  ·exact sE b0 b1 b2_0 b2_1 b2_2 b2_3 b2_4 b2_5 b2_6 b2_9 b2_12 b2_14 b2_15 b2_16 b2_17 b2_18 b2_19 b2_20 b2_21 b2_22 b2_23 b2_24 w50207 w50208 w50210 w50211 w50213
 ·exact sE b0 b1 b2_0 b2_1 b2_2 b2_3 b2_4 b2_5 b2_6 b2_9 b2_12 b2_14 b2_15 b2_16 b2_17 b2_18 b2_19 b2_20 b2_21 b2_22 b2_23 b2_24 w50207 w50208 w50210 w50211 w50213
theorem xP (x0 : List Int) (b0 : aI) (b1 : aD) (b2_0 b2_1 : Str) (b2_2 : Bool) (b2_3 b2_4 b2_5 b2_6 b2_9 : Int) (b2_10 : List aE) (b2_11 : List Int) (b2_12 : Int) (b2_13 : List Int) (b2_14 : Bool) (b2_15 : Int) (b2_16 b2_17 : Str) (b2_18 : Int) (b2_19 : Bool) (b2_20 b2_21 : Int) (b2_22 : Str) (b2_23 : Int) (b2_24 : List aG) (w50207 : List aK) (w50208 : List aC) : Le (Option.map dN (kC x0 b0 b1 b2_0 b2_1 b2_2 b2_3 b2_4 b2_5 b2_6 b2_9 b2_10 b2_11 b2_12 b2_13 b2_14 b2_15 b2_16 b2_17 b2_18 b2_19 b2_20 b2_21 b2_22 b2_23 b2_24 w50207 w50208)) (aBy (List.map (encI .u8) x0) (aI.enc b0) (aD.enc b1) b2_0 b2_1 b2_2 b2_3 b2_4 b2_5 b2_6 b2_9 (List.map aE.enc b2_10) (List.map eI b2_11) b2_12 (List.map eI b2_13) b2_14 b2_15 b2_16 b2_17 b2_18 b2_19 b2_20 b2_21 b2_22 b2_23 (List.map aG.enc b2_24) (List.map aK.enc w50207) (List.map aC.enc w50208)) := by
 refine Le.trans ?_ (le_of_eq ((aZ alg).trans (azc ..)).symm)
 unfold kC
 refine lQ eX afA (agh _) fun r8 _ => ?_
 refine lQ eX zU (aad _) fun r9 _ => ?_
 refine lQ eX bQ (oF _ _) fun r10 _ => ?_
 refine lC ?_ ?_
 ·refine lQ eX bQ (cJ _) fun r11 _ => ?_
  refine lQ eX jO (uX _) fun r12 _ => ?_
  exact xU x0 b0 r12.2 b2_0 b2_1 b2_2 b2_3 b2_4 b2_5 b2_6 r8.1.Limit r8.1.Pool.Last (r10.1 == 1) r11.1 r12.1.Topic r12.1.Payload r12.1.Level r12.1.Retain r12.1.Priority r12.1.Expires r12.1.From r12.1.Seq r12.1.Props w50207 w50208 r8.1.Items r8.1.Pool.Used r9.1
 ·exact xU x0 b0 r10.2 b2_0 b2_1 b2_2 b2_3 b2_4 b2_5 b2_6 r8.1.Limit r8.1.Pool.Last (r10.1 == 1) b2_15 b2_16 b2_17 b2_18 b2_19 b2_20 b2_21 b2_22 b2_23 b2_24 w50207 w50208 r8.1.Items r8.1.Pool.Used r9.1
theorem adr : ∀ (fu : Nat) (x0 : List Int) (x6 x7 : Int) (b0 : aI) (b1 : aD) (b2_0 b2_1 : Str) (b2_2 : Bool) (b2_3 b2_4 b2_5 b2_6 b2_9 : Int) (b2_10 : List aE) (b2_11 : List Int) (b2_12 : Int) (b2_13 : List Int) (b2_14 : Bool) (b2_15 : Int) (b2_16 b2_17 : Str) (b2_18 : Int) (b2_19 : Bool) (b2_20 b2_21 : Int) (b2_22 : Str) (b2_23 : Int) (b2_24 : List aG) (w50207 : List aK) (w50208 : List aC), Le (Option.map dN (iP fu x0 x6 x7 b0 b1 b2_0 b2_1 b2_2 b2_3 b2_4 b2_5 b2_6 b2_9 b2_10 b2_11 b2_12 b2_13 b2_14 b2_15 b2_16 b2_17 b2_18 b2_19 b2_20 b2_21 b2_22 b2_23 b2_24 w50207 w50208)) (atX (List.map (encI .u8) x0) x6 x7 (aI.enc b0) (aD.enc b1) b2_0 b2_1 b2_2 b2_3 b2_4 b2_5 b2_6 b2_9 (List.map aE.enc b2_10) (List.map eI b2_11) b2_12 (List.map eI b2_13) b2_14 b2_15 b2_16 b2_17 b2_18 b2_19 b2_20 b2_21 b2_22 b2_23 (List.map aG.enc b2_24) (List.map aK.enc w50207) (List.map aC.enc w50208)) := by
 intro fu
 induction fu with
 | zero => intros; exact le_none
 | succ fu ih =>
  intro x0 x6 x7 b0 b1 b2_0 b2_1 b2_2 b2_3 b2_4 b2_5 b2_6 b2_9 b2_10 b2_11 b2_12 b2_13 b2_14 b2_15 b2_16 b2_17 b2_18 b2_19 b2_20 b2_21 b2_22 b2_23 b2_24 w50207 w50208
  refine Le.trans ?_ (le_of_eq ((aZ alg).trans (aA5 ..)).symm)
  unfold iP
  refine lC ?_ ?_
  ·refine lC ?_ ?_
   ·exact adh _ (ih) x0 x6 x7 b1.E (b1.E == 0) b0 b1 b2_0 b2_1 b2_2 b2_3 b2_4 b2_5 b2_6 b2_9 b2_10 b2_11 b2_12 b2_13 b2_14 b2_15 b2_16 b2_17 b2_18 b2_19 b2_20 b2_21 b2_22 b2_23 b2_24 w50207 w50208
   ·exact xP x0 b0 b1 b2_0 b2_1 b2_2 b2_3 b2_4 b2_5 b2_6 b2_9 b2_10 b2_11 b2_12 b2_13 b2_14 b2_15 b2_16 b2_17 b2_18 b2_19 b2_20 b2_21 b2_22 b2_23 b2_24 w50207 w50208
  ·exact xP x0 b0 b1 b2_0 b2_1 b2_2 b2_3 b2_4 b2_5 b2_6 b2_9 b2_10 b2_11 b2_12 b2_13 b2_14 b2_15 b2_16 b2_17 b2_18 b2_19 b2_20 b2_21 b2_22 b2_23 b2_24 w50207 w50208
theorem agL (p0 : List Int) : Le (Option.map dN (nI p0)) (bF SE 22 [.d (.sl [.int .u8] (List.map (encI .u8) p0))] [] []) := by
 refine aW alg rfl ?_
 refine Le.trans ?_ (le_of_eq (T22 ..).symm)
 unfold nI
 refine lQ eX eA (eF _ _) fun r0 _ => ?_
 refine lQ eX eA (eF _ _) fun r1 _ => ?_
 refine lQ eX bQ (cJ _) fun r2 _ => ?_
 refine lQ eX bQ (cJ _) fun r3 _ => ?_
 refine lQ eX bQ (cJ _) fun r4 _ => ?_
 refine lQ eX ahw (ain _) fun r5 _ => ?_
 refine lQ eX bQ (iC _ _) fun r6 _ => ?_
 (try simp only [EN]); exact adr fuel p0 r6.1 0 ((aI.mk [] [] false 0 0 0 0 [] [] (aO.mk 0 [] (bE.mk [] 0)) (bO.mk []) (bM.mk false 0 (aC.mk [] [] 0 false 0 0 [] 0 [])))) r6.2 r0.1 r1.1 false 0 r2.1 r3.1 r4.1 0 [] [] 0 [] false 0 [] [] 0 false 0 0 [] 0 [] r5.1 []
def atl (C : aP) (Λ2 J : Lam) (a0 a1 : List (List D)) (a2 : Int) : Res := lab SE C Λ2 J 65 0 [1, 1, 0, 1, 0] (aV [(0, .d (.sl aK.ks a0)), (1, .d (.sl aK.ks a1)), (5, .d (.int .i64 a2))] [] [] [] [])
section
variable (Γ : Fun)  (Λ2 J : Lam)
def C65 : aP := aR Γ
theorem T65 (p0 p1 : List aK) : bG SE (C65 Γ) Λ2 J 65 [.d (.sl aK.ks (List.map aK.enc p0)), .d (.sl aK.ks (List.map aK.enc p1))] [] [] =
 cond ((lM aK.enc p0 : Int) != (lM aK.enc p1 : Int)) (
 (rB false)) (
 atl (C65 Γ) Λ2 J (List.map aK.enc p0) (List.map aK.enc p1) 0) := by kernel_rfl
theorem aEr (x0 x1 : List aK) (x5 : Int) : bW SE (C65 Γ) Λ2 J 65 0 [1, 1, 0, 1, 0] (aV [(0, .d (.sl aK.ks (List.map aK.enc x0))), (1, .d (.sl aK.ks (List.map aK.enc x1))), (5, .d (.int .i64 x5))] [] [] [] []) =
 cond (decide (x5 < (lM aK.enc x0 : Int))) (
 cond (iB x5 (lM aK.enc x0 : Int)) (
  cond (iB x5 (lM aK.enc x1 : Int)) (
  cond (!((bL (cE aK.enc x0 x5 0)) == (bL (cE aK.enc x1 x5 0)))) (
   (rB false)) (
  cond (iB x5 (lM aK.enc x0 : Int)) (
   cond (iB x5 (lM aK.enc x1 : Int)) (
   cond ((aX (cE aK.enc x0 x5 1)) != (aX (cE aK.enc x1 x5 1))) (
    (rB false)) (
   cond (iB x5 (lM aK.enc x0 : Int)) (
    cond (iB x5 (lM aK.enc x1 : Int)) (
    cond ((dU (cE aK.enc x0 x5 2)) != (dU (cE aK.enc x1 x5 2))) (
     (rB false)) (
    atl (C65 Γ) Λ2 J (List.map aK.enc x0) (List.map aK.enc x1) (w6 (x5 + 1)))) none) none)) none) none)) none) none) (
 (rB true)) := by kernel_rfl
end
abbrev X65 : aP := C65 gG
theorem aAw : X65 = aR gG := rfl
abbrev aDf := atl X65 (bV SE gG (SE.hl 65) (SE.hr 65)) (J0 SE X65)
theorem aft : ∀ (fu : Nat) (x0 x1 : List aK) (x5 : Int), Le (Option.map aF (kJ fu x0 x1 x5)) (aDf (List.map aK.enc x0) (List.map aK.enc x1) x5) := by
 intro fu
 induction fu with
 | zero => intros; exact le_none
 | succ fu ih =>
  intro x0 x1 x5
  refine Le.trans ?_ (le_of_eq ((aZ aAw).trans (aEr ..)).symm)
  unfold kJ
  refine lD (by simp only [EN]) ?_ ?_
  ·refine lG (by simp only [EN]) ?_
   refine lG (by simp only [EN]) ?_
   refine lD (by simp only [EN]) ?_ ?_
   ·exact aJ rfl
   ·refine lG (by simp only [EN]) ?_
    refine lG (by simp only [EN]) ?_
    refine lD (by simp only [EN]) ?_ ?_
    ·exact aJ rfl
    ·refine lG (by simp only [EN]) ?_
     refine lG (by simp only [EN]) ?_
     refine lD (by simp only [EN]) ?_ ?_
     ·exact aJ rfl
     ·exact ih x0 x1 (w6 (x5 + 1))
  ·exact aJ rfl
theorem ah9 (p0 p1 : List aK) : Le (Option.map aF (tB p0 p1)) (bF SE 65 [.d (.sl aK.ks (List.map aK.enc p0)), .d (.sl aK.ks (List.map aK.enc p1))] [] []) := by
 refine aW aAw rfl ?_
 refine Le.trans ?_ (le_of_eq (T65 ..).symm)
 unfold tB
 refine lD (by simp only [EN]) ?_ ?_
 ·exact aJ rfl
 ·exact aft fuel p0 p1 0
def ato (C : aP) (Λ2 J : Lam) (a0 a1 : List (List D)) (a2 : Int) : Res := lab SE C Λ2 J 66 0 [1, 1, 0, 1, 0] (aV [(0, .d (.sl aC.ks a0)), (1, .d (.sl aC.ks a1)), (5, .d (.int .i64 a2))] [] [] [] [])
section
variable (Γ : Fun) (γ107 : Gm (Bool)) (Λ2 J : Lam)
def C66 : aP := bB (aR Γ) 107 aF γ107
theorem T66 (p0 p1 : List aC) : bG SE (C66 Γ γ107) Λ2 J 66 [.d (.sl aC.ks (List.map aC.enc p0)), .d (.sl aC.ks (List.map aC.enc p1))] [] [] =
 cond ((lM aC.enc p0 : Int) != (lM aC.enc p1 : Int)) (
 (rB false)) (
 ato (C66 Γ γ107) Λ2 J (List.map aC.enc p0) (List.map aC.enc p1) 0) := by kernel_rfl
theorem aDk (x0 x1 : List aC) (x5 : Int) : bW SE (C66 Γ γ107) Λ2 J 66 0 [1, 1, 0, 1, 0] (aV [(0, .d (.sl aC.ks (List.map aC.enc x0))), (1, .d (.sl aC.ks (List.map aC.enc x1))), (5, .d (.int .i64 x5))] [] [] [] []) =
 cond (decide (x5 < (lM aC.enc x0 : Int))) (
 cond (iB x5 (lM aC.enc x0 : Int)) (
  cond (iB x5 (lM aC.enc x1 : Int)) (
  γ107 [.agg [.d (.str (bL (cE aC.enc x0 x5 0))), .d (.str (bL (cE aC.enc x0 x5 1))), .d (.int .i64 (aX (cE aC.enc x0 x5 2))), .d (.bool (dU (cE aC.enc x0 x5 3))), .d (.int .i64 (aX (cE aC.enc x0 x5 4))), .d (.int .i64 (aX (cE aC.enc x0 x5 5))), .d (.str (bL (cE aC.enc x0 x5 6))), .d (.int .i64 (aX (cE aC.enc x0 x5 7))), .d (.sl aG.ks (dSl (cE aC.enc x0 x5 8)))], .agg [.d (.str (bL (cE aC.enc x1 x5 0))), .d (.str (bL (cE aC.enc x1 x5 1))), .d (.int .i64 (aX (cE aC.enc x1 x5 2))), .d (.bool (dU (cE aC.enc x1 x5 3))), .d (.int .i64 (aX (cE aC.enc x1 x5 4))), .d (.int .i64 (aX (cE aC.enc x1 x5 5))), .d (.str (bL (cE aC.enc x1 x5 6))), .d (.int .i64 (aX (cE aC.enc x1 x5 7))), .d (.sl aG.ks (dSl (cE aC.enc x1 x5 8)))]] [] [] fun r0 =>
  cond (!r0) (
   (rB false)) (
  ato (C66 Γ γ107) Λ2 J (List.map aC.enc x0) (List.map aC.enc x1) (w6 (x5 + 1)))) none) none) (
 (rB true)) := by kernel_rfl
end
abbrev X66 : aP := C66 gG (cT 107 aF)
theorem aAG : X66 = aR gG := by unfold X66 C66; rw [bD fun _ h => h]
abbrev aEl := ato X66 (bV SE gG (SE.hl 66) (SE.hr 66)) (J0 SE X66)
theorem af0 : ∀ (fu : Nat) (x0 x1 : List aC) (x5 : Int), Le (Option.map aF (kI fu x0 x1 x5)) (aEl (List.map aC.enc x0) (List.map aC.enc x1) x5) := by
 intro fu
 induction fu with
 | zero => intros; exact le_none
 | succ fu ih =>
  intro x0 x1 x5
  refine Le.trans ?_ (le_of_eq ((aZ aAG).trans (aDk ..)).symm)
  unfold kI
  refine lD (by simp only [EN]) ?_ ?_
  ·refine lG (by simp only [EN]) ?_
   refine lG (by simp only [EN]) ?_
   refine lQ eX aQ (by (try simp only [EN]); exact tL (List.getD x0 (Int.toNat x5) default) (List.getD x1 (Int.toNat x5) default)) fun r0 _ => ?_
   refine lC ?_ ?_
   ·exact aJ rfl
   ·exact ih x0 x1 (w6 (x5 + 1))
  ·exact aJ rfl
theorem ah4 (p0 p1 : List aC) : Le (Option.map aF (m8 p0 p1)) (bF SE 66 [.d (.sl aC.ks (List.map aC.enc p0)), .d (.sl aC.ks (List.map aC.enc p1))] [] []) := by
 refine aW aAG rfl ?_
 refine Le.trans ?_ (le_of_eq (T66 ..).symm)
 unfold m8
 refine lD (by simp only [EN]) ?_ ?_
 ·exact aJ rfl
 ·exact af0 fuel p0 p1 0
def aqf (C : aP) (Λ2 J : Lam) (a0 a1 : List (List D)) (a2 : Int) : Res := lab SE C Λ2 J 109 0 [1, 1, 0, 1, 0] (aV [(0, .d (.sl [.int .i64] a0)), (1, .d (.sl [.int .i64] a1)), (5, .d (.int .i64 a2))] [] [] [] [])
section
variable (Γ : Fun)  (Λ2 J : Lam)
def ao8 : aP := aR Γ
theorem aGV (p0 p1 : List Int) : bG SE (ao8 Γ) Λ2 J 109 [.d (.sl [.int .i64] (List.map eI p0)), .d (.sl [.int .i64] (List.map eI p1))] [] [] =
 cond ((lM eI p0 : Int) != (lM eI p1 : Int)) (
 (rB false)) (
 aqf (ao8 Γ) Λ2 J (List.map eI p0) (List.map eI p1) 0) := by kernel_rfl
theorem azf (x0 x1 : List Int) (x5 : Int) : bW SE (ao8 Γ) Λ2 J 109 0 [1, 1, 0, 1, 0] (aV [(0, .d (.sl [.int .i64] (List.map eI x0))), (1, .d (.sl [.int .i64] (List.map eI x1))), (5, .d (.int .i64 x5))] [] [] [] []) =
 cond (decide (x5 < (lM eI x0 : Int))) (
 cond (iB x5 (lM eI x0 : Int)) (
  cond (iB x5 (lM eI x1 : Int)) (
  cond ((aX (cE eI x0 x5 0)) != (aX (cE eI x1 x5 0))) (
   (rB false)) (
  aqf (ao8 Γ) Λ2 J (List.map eI x0) (List.map eI x1) (w6 (x5 + 1)))) none) none) (
 (rB true)) := by kernel_rfl
end
abbrev awk : aP := ao8 gG
theorem axJ : awk = aR gG := rfl
abbrev aBp := aqf awk (bV SE gG (SE.hl 109) (SE.hr 109)) (J0 SE awk)
theorem afx : ∀ (fu : Nat) (x0 x1 : List Int) (x5 : Int), Le (Option.map aF (kM fu x0 x1 x5)) (aBp (List.map eI x0) (List.map eI x1) x5) := by
 intro fu
 induction fu with
 | zero => intros; exact le_none
 | succ fu ih =>
  intro x0 x1 x5
  refine Le.trans ?_ (le_of_eq ((aZ axJ).trans (azf ..)).symm)
  unfold kM
  refine lD (by simp only [EN]) ?_ ?_
  ·refine lG (by simp only [EN]) ?_
   refine lG (by simp only [EN]) ?_
   refine lD (by simp only [EN]) ?_ ?_
   ·exact aJ rfl
   ·exact ih x0 x1 (w6 (x5 + 1))
  ·exact aJ rfl
theorem abU (p0 p1 : List Int) : Le (Option.map aF (pA p0 p1)) (bF SE 109 [.d (.sl [.int .i64] (List.map eI p0)), .d (.sl [.int .i64] (List.map eI p1))] [] []) := by
 refine aW axJ rfl ?_
 refine Le.trans ?_ (le_of_eq (aGV ..).symm)
 unfold pA
 refine lD (by simp only [EN]) ?_ ?_
 ·exact aJ rfl
 ·exact afx fuel p0 p1 0
section
variable (Γ : Fun) (γ109 : Gm (Bool)) (Λ2 J : Lam)
def aw6 : aP := bB (aR Γ) 109 aF γ109
theorem aFK (p0 p1 : bE) : bG SE (aw6 Γ γ109) Λ2 J 108 [bE.av p0, bE.av p1] [] [] =
 cond (p0.Last == p1.Last) (
 γ109 [.d (.sl [.int .i64] (List.map eI p0.Used)), .d (.sl [.int .i64] (List.map eI p1.Used))] [] [] fun r0 =>
 (rB r0)) (
 (rB false)) := by kernel_rfl
end
abbrev azs : aP := aw6 gG (cT 109 aF)
theorem aEC : azs = aR gG := by unfold azs aw6; rw [bD fun _ h => h]
theorem ah1 (p0 p1 : bE) : Le (Option.map aF (vY p0 p1)) (bF SE 108 [bE.av p0, bE.av p1] [] []) := by
 refine aW aEC rfl ?_
 refine Le.trans ?_ (le_of_eq (aFK ..).symm)
 unfold vY
 refine lC ?_ ?_
 ·refine lQ eX aQ (abU _ _) fun r0 _ => ?_
  exact aJ rfl
 ·exact aJ rfl
def asl (C : aP) (Λ2 J : Lam) (a0 : Int) (a1 a2 : List D) : Res := lab SE C Λ2 J 67 0 [1, 1, 0, 1, 0] (aV [(2, .ptr 1000000000 0), (3, .ptr 1000000001 0), (5, .d (.int .i64 a0))] [⟨37, (List.map AV.d a1)⟩, ⟨37, (List.map AV.d a2)⟩] [] [] [])
def axh (C : aP) (Λ2 J : Lam) (a0 a1 : List D) : Res := lab SE C Λ2 J 67 0 [1, 1, 0, 0] (aV [(2, .ptr 1000000000 0), (3, .ptr 1000000001 0)] [⟨37, (List.map AV.d a0)⟩, ⟨37, (List.map AV.d a1)⟩] [] [] [])
section
variable (Γ : Fun) (γ108 γ107 : Gm (Bool)) (Λ2 J : Lam)
def C67 : aP := bB (bB (aR Γ) 108 aF γ108) 107 aF γ107
theorem T67 (p0 p1 : aO) : bG SE (C67 Γ γ108 γ107) Λ2 J 67 [aO.av p0, aO.av p1] [] [] =
 cond (p0.Limit != p1.Limit) (
 (rB false)) (
 γ108 [bE.av p0.Pool, bE.av p1.Pool] [] [] fun r0 =>
 cond (!r0) (
 (rB false)) (
 cond ((lM aE.enc p0.Items : Int) != (lM aE.enc p1.Items : Int)) (
 (rB false)) (
 axh (C67 Γ γ108 γ107) Λ2 J (aO.enc p0) (aO.enc p1)))) := by kernel_rfl
theorem aDs (x5 : Int) (b0 b1 : aO) : bW SE (C67 Γ γ108 γ107) Λ2 J 67 0 [1, 1, 0, 1, 0] (aV [(2, .ptr 1000000000 0), (3, .ptr 1000000001 0), (5, .d (.int .i64 x5))] [⟨37, (List.map AV.d (aO.enc b0))⟩, ⟨37, (List.map AV.d (aO.enc b1))⟩] [] [] []) =
 cond (decide (x5 < (lM aE.enc b0.Items : Int))) (
 cond (iB x5 (lM aE.enc b0.Items : Int)) (
  cond (iB x5 (lM aE.enc b1.Items : Int)) (
  cond ((aX (cE aE.enc b0.Items x5 0)) != (aX (cE aE.enc b1.Items x5 0))) (
   (rB false)) (
  cond (iB x5 (lM aE.enc b0.Items : Int)) (
   cond (iB x5 (lM aE.enc b1.Items : Int)) (
   cond ((aX (cE aE.enc b0.Items x5 1)) != (aX (cE aE.enc b1.Items x5 1))) (
    (rB false)) (
   cond (iB x5 (lM aE.enc b0.Items : Int)) (
    cond (iB x5 (lM aE.enc b1.Items : Int)) (
    γ107 [.agg [.d (.str (bL (cE aE.enc b0.Items x5 2))), .d (.str (bL (cE aE.enc b0.Items x5 3))), .d (.int .i64 (aX (cE aE.enc b0.Items x5 4))), .d (.bool (dU (cE aE.enc b0.Items x5 5))), .d (.int .i64 (aX (cE aE.enc b0.Items x5 6))), .d (.int .i64 (aX (cE aE.enc b0.Items x5 7))), .d (.str (bL (cE aE.enc b0.Items x5 8))), .d (.int .i64 (aX (cE aE.enc b0.Items x5 9))), .d (.sl aG.ks (dSl (cE aE.enc b0.Items x5 10)))], .agg [.d (.str (bL (cE aE.enc b1.Items x5 2))), .d (.str (bL (cE aE.enc b1.Items x5 3))), .d (.int .i64 (aX (cE aE.enc b1.Items x5 4))), .d (.bool (dU (cE aE.enc b1.Items x5 5))), .d (.int .i64 (aX (cE aE.enc b1.Items x5 6))), .d (.int .i64 (aX (cE aE.enc b1.Items x5 7))), .d (.str (bL (cE aE.enc b1.Items x5 8))), .d (.int .i64 (aX (cE aE.enc b1.Items x5 9))), .d (.sl aG.ks (dSl (cE aE.enc b1.Items x5 10)))]] [] [] fun r1 =>
    cond (!r1) (
     (rB false)) (
    asl (C67 Γ γ108 γ107) Λ2 J (w6 (x5 + 1)) (aO.enc b0) (aO.enc b1))) none) none)) none) none)) none) none) (
 (rB true)) := by kernel_rfl
theorem aDg (b0 b1 : aO) : bW SE (C67 Γ γ108 γ107) Λ2 J 67 0 [1, 1, 0, 0] (aV [(2, .ptr 1000000000 0), (3, .ptr 1000000001 0)] [⟨37, (List.map AV.d (aO.enc b0))⟩, ⟨37, (List.map AV.d (aO.enc b1))⟩] [] [] []) =
 asl (C67 Γ γ108 γ107) Λ2 J 0 (aO.enc b0) (aO.enc b1) := by kernel_rfl
end
abbrev X67 : aP := C67 gG (cT 108 aF) (cT 107 aF)
theorem awq : X67 = aR gG := by unfold X67 C67; repeat rw [bD fun _ h => h]
abbrev aFp := asl X67 (bV SE gG (SE.hl 67) (SE.hr 67)) (J0 SE X67)
abbrev aC3 := axh X67 (bV SE gG (SE.hl 67) (SE.hr 67)) (J0 SE X67)
theorem afI : ∀ (fu : Nat) (x5 : Int) (b0 b1 : aO), Le (Option.map aF (kF fu x5 b0 b1)) (aFp x5 (aO.enc b0) (aO.enc b1)) := by
 intro fu
 induction fu with
 | zero => intros; exact le_none
 | succ fu ih =>
  intro x5 b0 b1
  refine Le.trans ?_ (le_of_eq ((aZ awq).trans (aDs ..)).symm)
  unfold kF
  refine lD (by simp only [EN]) ?_ ?_
  ·refine lG (by simp only [EN]) ?_
   refine lG (by simp only [EN]) ?_
   refine lD (by simp only [EN]) ?_ ?_
   ·exact aJ rfl
   ·refine lG (by simp only [EN]) ?_
    refine lG (by simp only [EN]) ?_
    refine lD (by simp only [EN]) ?_ ?_
    ·exact aJ rfl
    ·refine lG (by simp only [EN]) ?_
     refine lG (by simp only [EN]) ?_
     refine lQ eX aQ (by (try simp only [EN]); exact tL ((List.getD b0.Items (Int.toNat x5) default).Message) ((List.getD b1.Items (Int.toNat x5) default).Message)) fun r1 _ => ?_
     refine lC ?_ ?_
     ·exact aJ rfl
     ·exact ih (w6 (x5 + 1)) b0 b1
  ·exact aJ rfl
theorem afP (b0 b1 : aO) : Le (Option.map aF (tF b0 b1)) (aC3 (aO.enc b0) (aO.enc b1)) := by
 refine Le.trans ?_ (le_of_eq ((aZ awq).trans (aDg ..)).symm)
 unfold tF
 exact afI fuel 0 b0 b1
theorem aij (p0 p1 : aO) : Le (Option.map aF (sO p0 p1)) (bF SE 67 [aO.av p0, aO.av p1] [] []) := by
 refine aW awq rfl ?_
 refine Le.trans ?_ (le_of_eq (T67 ..).symm)
 unfold sO
 refine lC ?_ ?_
 ·exact aJ rfl
 ·refine lQ eX aQ (ah1 _ _) fun r0 _ => ?_
  refine lC ?_ ?_
  ·exact aJ rfl
  ·refine lD (by simp only [EN]) ?_ ?_
   ·exact aJ rfl
   ·exact afP p0 p1
section
variable (Γ : Fun) (γ109 : Gm (Bool)) (Λ2 J : Lam)
def C68 : aP := bB (aR Γ) 109 aF γ109
theorem T68 (p0 p1 : bO) : bG SE (C68 Γ γ109) Λ2 J 68 [bO.av p0, bO.av p1] [] [] =
 γ109 [.d (.sl [.int .i64] (List.map eI p0.IDs)), .d (.sl [.int .i64] (List.map eI p1.IDs))] [] [] fun r0 =>
 (rB r0) := by kernel_rfl
end
abbrev X68 : aP := C68 gG (cT 109 aF)
theorem aGe : X68 = aR gG := by unfold X68 C68; rw [bD fun _ h => h]
theorem aie (p0 p1 : bO) : Le (Option.map aF (wE p0 p1)) (bF SE 68 [bO.av p0, bO.av p1] [] []) := by
 refine aW aGe rfl ?_
 refine Le.trans ?_ (le_of_eq (T68 ..).symm)
 unfold wE
 refine lQ eX aQ (abU _ _) fun r0 _ => ?_
 exact aJ rfl
section
variable (Γ : Fun) (γ107 : Gm (Bool)) (Λ2 J : Lam)
def C69 : aP := bB (aR Γ) 107 aF γ107
theorem T69 (p0 p1 : bM) : bG SE (C69 Γ γ107) Λ2 J 69 [bM.av p0, bM.av p1] [] [] =
 cond (p0.Set == p1.Set) (
 cond (p0.Delay == p1.Delay) (
  γ107 [aC.av p0.Message, aC.av p1.Message] [] [] fun r0 =>
  (rB r0)) (
 (rB false))) (
 (rB false)) := by kernel_rfl
end
abbrev X69 : aP := C69 gG (cT 107 aF)
theorem aGF : X69 = aR gG := by unfold X69 C69; rw [bD fun _ h => h]
theorem aid (p0 p1 : bM) : Le (Option.map aF (wC p0 p1)) (bF SE 69 [bM.av p0, bM.av p1] [] []) := by
 refine aW aGF rfl ?_
 refine Le.trans ?_ (le_of_eq (T69 ..).symm)
 unfold wC
 refine lC ?_ ?_
 ·refine lC ?_ ?_
  ·refine lQ eX aQ (tL _ _) fun r0 _ => ?_
   exact aJ rfl
  ·exact aJ rfl
 ·exact aJ rfl
section
variable (Γ : Fun) (γ65 γ66 γ67 γ68 γ69 : Gm (Bool)) (Λ2 J : Lam)
def C23 : aP := bB (bB (bB (bB (bB (aR Γ) 65 aF γ65) 66 aF γ66) 67 aF γ67) 68 aF γ68) 69 aF γ69
theorem T23 (p0 p1 : aI) : bG SE (C23 Γ γ65 γ66 γ67 γ68 γ69) Λ2 J 23 [aI.av p0, aI.av p1] [] [] =
 cond (p0.Client == p1.Client) (
 cond (p0.User == p1.User) (
  cond (p0.Online == p1.Online) (
  cond (p0.Conn == p1.Conn) (
   cond (p0.Expiry == p1.Expiry) (
   cond (p0.Until == p1.Until) (
    cond (p0.Dropped == p1.Dropped) (
    γ65 [.d (.sl aK.ks (List.map aK.enc p0.Subs)), .d (.sl aK.ks (List.map aK.enc p1.Subs))] [] [] fun r0 =>
    cond r0 (
     γ66 [.d (.sl aC.ks (List.map aC.enc p0.Queue)), .d (.sl aC.ks (List.map aC.enc p1.Queue))] [] [] fun r1 =>
     cond r1 (
     γ67 [aO.av p0.Out, aO.av p1.Out] [] [] fun r2 =>
     cond r2 (
      γ68 [bO.av p0.In, bO.av p1.In] [] [] fun r3 =>
      cond r3 (
      γ69 [bM.av p0.Will, bM.av p1.Will] [] [] fun r4 =>
      (rB r4)) (
      (rB false))) (
     (rB false))) (
     (rB false))) (
    (rB false))) (
    (rB false))) (
   (rB false))) (
   (rB false))) (
  (rB false))) (
  (rB false))) (
 (rB false))) (
 (rB false)) := by kernel_rfl
end
abbrev X23 : aP := C23 gG (cT 65 aF) (cT 66 aF) (cT 67 aF) (cT 68 aF) (cT 69 aF)
theorem aG2 : X23 = aR gG := by unfold X23 C23; repeat rw [bD fun _ h => h]
theorem abZ (p0 p1 : aI) : Le (Option.map aF (m9 p0 p1)) (bF SE 23 [aI.av p0, aI.av p1] [] []) := by
 refine aW aG2 rfl ?_
 refine Le.trans ?_ (le_of_eq (T23 ..).symm)
 unfold m9
 refine lC ?_ ?_
 ·refine lC ?_ ?_
  ·refine lC ?_ ?_
   ·refine lC ?_ ?_
    ·refine lC ?_ ?_
     ·refine lC ?_ ?_
      ·refine lC ?_ ?_
       ·refine lQ eX aQ (ah9 _ _) fun r0 _ => ?_
        refine lC ?_ ?_
        ·refine lQ eX aQ (ah4 _ _) fun r1 _ => ?_
         refine lC ?_ ?_
         ·refine lQ eX aQ (aij _ _) fun r2 _ => ?_
          refine lC ?_ ?_
          ·refine lQ eX aQ (aie _ _) fun r3 _ => ?_
           refine lC ?_ ?_
           ·refine lQ eX aQ (aid _ _) fun r4 _ => ?_
            exact aJ rfl
           ·exact aJ rfl
          ·exact aJ rfl
         ·exact aJ rfl
        ·exact aJ rfl
       ·exact aJ rfl
      ·exact aJ rfl
     ·exact aJ rfl
    ·exact aJ rfl
   ·exact aJ rfl
  ·exact aJ rfl
 ·exact aJ rfl
section
variable (Γ : Fun) (γ12 : Gm (Bool)) (γ21 γ22 : Gm (aI × Int)) (γ23 : Gm (Bool)) (Λ2 J : Lam)
def C5 : aP := bB (bB (bB (bB (aR Γ) 12 aF γ12) 21 dZ γ21) 22 dN γ22) 23 aF γ23
theorem T5 (p0 : List Int) : bG SE (C5 Γ γ12 γ21 γ22 γ23) Λ2 J 5 [.d (.sl [.int .u8] (List.map (encI .u8) p0))] [] [] =
 cond (decide ((lM (encI .u8) p0 : Int) > 30000)) (
 γ12 [] [] [] fun r0 =>
 (rB r0)) (
 γ21 [.d (.sl [.int .u8] (List.map (encI .u8) p0))] [] [] fun r1 =>
 γ22 [.d (.sl [.int .u8] (List.map (encI .u8) p0))] [] [] fun r2 =>
 cond (r1.2 == r2.2) (
 γ23 [aI.av r1.1, aI.av r2.1] [] [] fun r3 =>
 cond r3 (
  γ12 [] [] [] fun r4 =>
  (rB r4)) (
 (rB false))) (
 (rB false))) := by kernel_rfl
end
abbrev X5 : aP := C5 gG (cT 12 aF) (cT 21 dZ) (cT 22 dN) (cT 23 aF)
theorem Cr5 : X5 = aR gG := by unfold X5 C5; repeat rw [bD fun _ h => h]
theorem abQ (p0 : List Int) : Le (Option.map aF (m0 p0)) (bF SE 5 [.d (.sl [.int .u8] (List.map (encI .u8) p0))] [] []) := by
 refine aW Cr5 rfl ?_
 refine Le.trans ?_ (le_of_eq (T5 ..).symm)
 unfold m0
 refine lD (by simp only [EN]) ?_ ?_
 ·refine lQ eX aQ (bI) fun r0 _ => ?_
  exact aJ rfl
 ·refine lQ eX nO (oP _) fun r1 _ => ?_
  refine lQ eX afZ (agL _) fun r2 _ => ?_
  refine lC ?_ ?_
  ·refine lQ eX aQ (abZ _ _) fun r3 _ => ?_
   refine lC ?_ ?_
   ·refine lQ eX aQ (bI) fun r4 _ => ?_
    exact aJ rfl
   ·exact aJ rfl
  ·exact aJ rfl
end Te
end PX
