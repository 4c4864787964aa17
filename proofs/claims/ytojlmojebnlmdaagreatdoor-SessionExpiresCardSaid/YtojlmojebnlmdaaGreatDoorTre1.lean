import Derived.Test.YtojlmojebnlmdaaGreatDoorTre0
set_option linter.unusedVariables false
set_option linter.unusedSimpArgs false
set_option maxRecDepth 100000
noncomputable section
namespace PX
open Go
open Md
namespace Te
def aeX (C : aP) (Λ2 J : Lam) (a0 : (List (List D))) (a1 : Str) (a2 : Int) (a3 : Int) (a4 : Int) : Res := lab SE C Λ2 J 128 0 [1, 1, 1, 0, 0] (bA [(0, .d (.sl aF.ks a0)), (1, .d (.str a1)), (2, .fn 129 [] []), (8, .d (.int .i64 a2)), (9, .d (.int .i64 a3)), (10, .d (.int .i64 a4))] [] [] [] [])
section
variable (Γ : Fun) (γ129 : Gm (Int)) (Λ2 J : Lam)
def aeP : aP := aZ (aO Γ) 129 jL γ129
theorem atN (p0 : (List aF)) (p1 : Str) : bB SE (aeP Γ γ129) Λ2 J 128 [.d (.sl aF.ks (List.map aF.enc p0)), .d (.str p1), .fn 129 [] []] [] [] =
 aeX (aeP Γ γ129) Λ2 J (List.map aF.enc p0) p1 (List.length (List.map aF.enc p0) : Int) 0 (List.length (List.map aF.enc p0) : Int) := by kernel_rfl
theorem aoz (x0 : (List aF)) (x1 : Str) (x8 : Int) (x9 : Int) (x10 : Int) : cG SE (aeP Γ γ129) Λ2 J 128 0 [1, 1, 1, 0, 0] (bA [(0, .d (.sl aF.ks (List.map aF.enc x0))), (1, .d (.str x1)), (2, .fn 129 [] []), (8, .d (.int .i64 x8)), (9, .d (.int .i64 x9)), (10, .d (.int .i64 x10))] [] [] [] []) =
 cond (decide (x9 < x10)) (
 cond (decide (0 ≤ (IntKind.wrap .i64 (shr .u64 (IntKind.wrap .u64 (IntKind.wrap .i64 (x9 + x10))) 1))) && decide ((IntKind.wrap .i64 (shr .u64 (IntKind.wrap .u64 (IntKind.wrap .i64 (x9 + x10))) 1)) < (List.length (List.map aF.enc x0) : Int))) (
  γ129 [.agg [.d (.str (aV (cellAt (elemAt (List.map aF.enc x0) (Int.toNat (IntKind.wrap .i64 (shr .u64 (IntKind.wrap .u64 (IntKind.wrap .i64 (x9 + x10))) 1)))) 0))), .d (.int .i64 (aL (cellAt (elemAt (List.map aF.enc x0) (Int.toNat (IntKind.wrap .i64 (shr .u64 (IntKind.wrap .u64 (IntKind.wrap .i64 (x9 + x10))) 1)))) 1))), .d (.bool (aY (cellAt (elemAt (List.map aF.enc x0) (Int.toNat (IntKind.wrap .i64 (shr .u64 (IntKind.wrap .u64 (IntKind.wrap .i64 (x9 + x10))) 1)))) 2)))], .d (.str x1)] [] [] fun r0 =>
  cond (decide (r0 < 0)) (
  aeX (aeP Γ γ129) Λ2 J (List.map aF.enc x0) x1 x8 (IntKind.wrap .i64 ((IntKind.wrap .i64 (shr .u64 (IntKind.wrap .u64 (IntKind.wrap .i64 (x9 + x10))) 1)) + 1)) x10) (
  aeX (aeP Γ γ129) Λ2 J (List.map aF.enc x0) x1 x8 x9 (IntKind.wrap .i64 (shr .u64 (IntKind.wrap .u64 (IntKind.wrap .i64 (x9 + x10))) 1)))) none) (
 cond (decide (x9 < x8)) (
 cond (decide (0 ≤ x9) && decide (x9 < (List.length (List.map aF.enc x0) : Int))) (
  γ129 [.agg [.d (.str (aV (cellAt (elemAt (List.map aF.enc x0) (Int.toNat x9)) 0))), .d (.int .i64 (aL (cellAt (elemAt (List.map aF.enc x0) (Int.toNat x9)) 1))), .d (.bool (aY (cellAt (elemAt (List.map aF.enc x0) (Int.toNat x9)) 2)))], .d (.str x1)] [] [] fun r1 =>
  (some (.ret [.d (.int .i64 x9), .d (.bool (r1 == 0))] [] []))) none) (
 (some (.ret [.d (.int .i64 x9), .d (.bool false)] [] [])))) := by kernel_rfl
end
abbrev ake : aP := aeP gG (cT 129 jL)
theorem anH : ake = aO gG := by unfold ake aeP; rw [aK fun _ h => h]
noncomputable abbrev ap7 (a0 : (List (List D))) (a1 : Str) (a2 : Int) (a3 : Int) (a4 : Int) : Res := aeX ake (bY SE gG (SE.hl 128) (SE.hr 128)) (J0 SE ake) a0 a1 a2 a3 a4
theorem fB : ∀ (fu : Nat) (x0 : (List aF)) (x1 : Str) (x8 : Int) (x9 : Int) (x10 : Int), Le (Option.map bH (bT fu x0 x1 x8 x9 x10)) (ap7 (List.map aF.enc x0) x1 x8 x9 x10) := by
 intro fu
 induction fu with
 | zero => intros; exact le_none
 | succ fu ih =>
  intro x0 x1 x8 x9 x10
  refine Le.trans ?_ (le_of_eq ((bC anH).trans (aoz _ _ _ _  x0 x1 x8 x9 x10)).symm)
  unfold bT
  refine lC ?_ ?_
  ·refine lG (by simp only [EN]) ?_
   refine aM (good := good) eX vA (by first | (simp only [EN]; exact nV (List.getD x0 (Int.toNat (IntKind.wrap .i64 (shr .u64 (IntKind.wrap .u64 (IntKind.wrap .i64 (x9 + x10))) 1))) default) x1) | exact nV (List.getD x0 (Int.toNat (IntKind.wrap .i64 (shr .u64 (IntKind.wrap .u64 (IntKind.wrap .i64 (x9 + x10))) 1))) default) x1) fun r0 _ => ?_
   refine lC ?_ ?_
   ·exact ih x0 x1 x8 (IntKind.wrap .i64 ((IntKind.wrap .i64 (shr .u64 (IntKind.wrap .u64 (IntKind.wrap .i64 (x9 + x10))) 1)) + 1)) x10
   ·exact ih x0 x1 x8 x9 (IntKind.wrap .i64 (shr .u64 (IntKind.wrap .u64 (IntKind.wrap .i64 (x9 + x10))) 1))
  ·refine lC ?_ ?_
   ·refine lG (by simp only [EN]) ?_
    refine aM (good := good) eX vA (by first | (simp only [EN]; exact nV (List.getD x0 (Int.toNat x9) default) x1) | exact nV (List.getD x0 (Int.toNat x9) default) x1) fun r1 _ => ?_
    exact aH rfl
   ·exact aH rfl
theorem lE (p0 : (List aF)) (p1 : Str) : Le (Option.map bH (dL p0 p1)) (aX SE 128 [.d (.sl aF.ks (List.map aF.enc p0)), .d (.str p1), .fn 129 [] []] [] []) := by
 refine aQ anH rfl ?_
 refine Le.trans ?_ (le_of_eq (atN _ _ _ _  p0 p1).symm)
 unfold dL
 first | (simp only [EN]; exact fB fuel p0 p1 (List.length p0 : Int) 0 (List.length p0 : Int)) | exact fB fuel p0 p1 (List.length p0 : Int) 0 (List.length p0 : Int)
section
variable (Γ : Fun) (γ128 : Gm (Int × Bool)) (Λ2 J : Lam)
def C67 : aP := aZ (aO Γ) 128 bH γ128
theorem T67 (p0 : (List aF)) (p1 : Str) : bB SE (C67 Γ γ128) Λ2 J 67 [.d (.sl aF.ks (List.map aF.enc p0)), .d (.str p1)] [] [] =
 γ128 [.d (.sl aF.ks (List.map aF.enc p0)), .d (.str p1), .fn 129 [] []] [] [] fun r0 =>
 (some (.ret [.d (.int .i64 r0.1), .d (.bool r0.2)] [] [])) := by kernel_rfl
end
abbrev X67 : aP := C67 gG (cT 128 bH)
theorem asq : X67 = aO gG := by unfold X67 C67; rw [aK fun _ h => h]
theorem aeZ (p0 : (List aF)) (p1 : Str) : Le (Option.map kE (yW p0 p1)) (aX SE 67 [.d (.sl aF.ks (List.map aF.enc p0)), .d (.str p1)] [] []) := by
 refine aQ asq rfl ?_
 refine Le.trans ?_ (le_of_eq (T67 _ _ _ _  p0 p1).symm)
 unfold yW
 refine aM (good := good) eX kU (lE _ _) fun r0 _ => ?_
 exact aH rfl
section
variable (Γ : Fun)  (Λ2 J : Lam)
def aoO : aP := aO Γ
theorem as8 (p0 : (List aF)) : bB SE (aoO Γ) Λ2 J 103 [.d (.sl aF.ks (List.map aF.enc p0))] [] [] =
 cond (List.isEmpty (List.map aF.enc p0)) (
 uT (
  (some (.ret [.row 0] [] [⟨aF.ks, 60, 32, []⟩]))) (
  cond (decide ((List.length (List.map aF.enc []) + List.length (List.map aF.enc p0)) * 32 ≤ 140737488355328)) (
  (some (.ret [.row 0] [] [⟨aF.ks, 60, 32, ((List.map aF.enc []) ++ (List.map aF.enc p0))⟩]))) none)) (
 cond (decide ((List.length (List.map aF.enc []) + List.length (List.map aF.enc p0)) * 32 ≤ 140737488355328)) (
 (some (.ret [.row 0] [] [⟨aF.ks, 60, 32, ((List.map aF.enc []) ++ (List.map aF.enc p0))⟩]))) none) := by kernel_rfl
end
abbrev ath : aP := aoO gG
theorem arR : ath = aO gG := rfl
theorem qQ (p0 : (List aF)) : Le (Option.map cK (eE p0)) (aX SE 103 [.d (.sl aF.ks (List.map aF.enc p0))] [] []) := by
 refine aQ arR rfl ?_
 refine Le.trans ?_ (le_of_eq (as8 _ _ _  p0).symm)
 unfold eE
 refine lD (by simp only [EN]) ?_ ?_
 ·refine agM ?_ ?_
  ·exact aH rfl
  ·refine lG (by simp only [EN]) ?_
   exact aH rfl
 ·refine lG (by simp only [EN]) ?_
  exact aH rfl
section
variable (Γ : Fun)  (Λ2 J : Lam)
def aqd : aP := aO Γ
theorem asQ (p0 : (List Int)) : bB SE (aqd Γ) Λ2 J 104 [.d (.sl [.int .i64] (List.map (encI .i64) p0))] [] [] =
 cond (List.isEmpty (List.map (encI .i64) p0)) (
 uT (
  (some (.ret [.row 0] [] [⟨[.int .i64], 3, 8, []⟩]))) (
  cond (decide ((List.length (List.map (encI .i64) []) + List.length (List.map (encI .i64) p0)) * 8 ≤ 140737488355328)) (
  (some (.ret [.row 0] [] [⟨[.int .i64], 3, 8, ((List.map (encI .i64) []) ++ (List.map (encI .i64) p0))⟩]))) none)) (
 cond (decide ((List.length (List.map (encI .i64) []) + List.length (List.map (encI .i64) p0)) * 8 ≤ 140737488355328)) (
 (some (.ret [.row 0] [] [⟨[.int .i64], 3, 8, ((List.map (encI .i64) []) ++ (List.map (encI .i64) p0))⟩]))) none) := by kernel_rfl
end
abbrev asn : aP := aqd gG
theorem arj : asn = aO gG := rfl
theorem fQ (p0 : (List Int)) : Le (Option.map bN (cS p0)) (aX SE 104 [.d (.sl [.int .i64] (List.map (encI .i64) p0))] [] []) := by
 refine aQ arj rfl ?_
 refine Le.trans ?_ (le_of_eq (asQ _ _ _  p0).symm)
 unfold cS
 refine lD (by simp only [EN]) ?_ ?_
 ·refine agM ?_ ?_
  ·exact aH rfl
  ·refine lG (by simp only [EN]) ?_
   exact aH rfl
 ·refine lG (by simp only [EN]) ?_
  exact aH rfl
def aiQ (C : aP) (Λ2 J : Lam) (a0 : (List (List D))) (a1 : Int) (a2 : Int) (a3 : Str) (a4 : Str) (a5 : Bool) (a6 : Int) (a7 : Int) (a8 : Int) (a9 : Int) (a10 : Int) (a11 : (List (List D))) (a12 : (List (List D))) (a13 : Int) (a14 : (List (List D))) (a15 : Bool) (a16 : Int) (a17 : Str) (a18 : Str) (a19 : Int) (a20 : Bool) (a21 : Int) (a22 : Int) (a23 : Str) (a24 : Int) (a25 : (List (List D))) (a26 : (List D)) (a27 : (List (List D))) (a28 : (List (List D))) (a29 : (List (List D))) : Res := lab SE C Λ2 J 50 0 [1, 1, 1, 1, 1, 1, 0, 1, 0] (bA [(1, .ptr 1000000000 0), (2, .ptr 1000000001 0), (6, .row 3006), (39, .d (.sl aB.ks a0)), (40, .d (.int .i64 a1)), (41, .d (.int .i64 a2))] [⟨38, [.d (.str a3), .d (.str a4), .d (.bool a5), .d (.int .i64 a6), .d (.int .i64 a7), .d (.int .i64 a8), .d (.int .i64 a9), .row 50007, .row 50008, .d (.int .i64 a10), .d (.sl aB.ks a11), .d (.sl [.int .i64] a12), .d (.int .i64 a13), .d (.sl [.int .i64] a14), .d (.bool a15), .d (.int .i64 a16), .d (.str a17), .d (.str a18), .d (.int .i64 a19), .d (.bool a20), .d (.int .i64 a21), .d (.int .i64 a22), .d (.str a23), .d (.int .i64 a24), .d (.sl aD.ks a25)]⟩, ⟨38, (List.map AV.d a26)⟩] [] [] [(3006, ⟨aB.ks, 122, 128, a27⟩), (50007, ⟨aF.ks, 60, 32, a28⟩), (50008, ⟨aA.ks, 34, 112, a29⟩)])
def aj8 (C : aP) (Λ2 J : Lam) (a0 : (List (List D))) (a1 : Int) (a2 : Int) (a3 : Str) (a4 : Str) (a5 : Bool) (a6 : Int) (a7 : Int) (a8 : Int) (a9 : Int) (a10 : (List (List D))) (a11 : Int) (a12 : (List (List D))) (a13 : (List (List D))) (a14 : Int) (a15 : (List (List D))) (a16 : Bool) (a17 : Int) (a18 : Str) (a19 : Str) (a20 : Int) (a21 : Bool) (a22 : Int) (a23 : Int) (a24 : Str) (a25 : Int) (a26 : (List (List D))) (a27 : (List D)) (a28 : (List (List D))) (a29 : (List (List D))) : Res := lab SE C Λ2 J 50 0 [1, 1, 1, 0, 1, 0] (bA [(1, .ptr 1000000000 0), (2, .ptr 1000000001 0), (3, .row 3003), (18, .d (.sl aA.ks a0)), (19, .d (.int .i64 a1)), (20, .d (.int .i64 a2))] [⟨38, [.d (.str a3), .d (.str a4), .d (.bool a5), .d (.int .i64 a6), .d (.int .i64 a7), .d (.int .i64 a8), .d (.int .i64 a9), .row 50007, .d (.sl aA.ks a10), .d (.int .i64 a11), .d (.sl aB.ks a12), .d (.sl [.int .i64] a13), .d (.int .i64 a14), .d (.sl [.int .i64] a15), .d (.bool a16), .d (.int .i64 a17), .d (.str a18), .d (.str a19), .d (.int .i64 a20), .d (.bool a21), .d (.int .i64 a22), .d (.int .i64 a23), .d (.str a24), .d (.int .i64 a25), .d (.sl aD.ks a26)]⟩, ⟨38, (List.map AV.d a27)⟩] [] [] [(3003, ⟨aA.ks, 34, 112, a28⟩), (50007, ⟨aF.ks, 60, 32, a29⟩)])
section
variable (Γ : Fun) (γ103 : Gm ((List aF))) (γ80 : Gm (aA)) (γ104 : Gm ((List Int))) (Λ2 J : Lam)
def C50 : aP := aZ (aZ (aZ (aO Γ) 103 cK γ103) 80 cQ γ80) 104 bN γ104
theorem T50 (p0 : aC) : bB SE (C50 Γ γ103 γ80 γ104) Λ2 J 50 [aC.av p0] [] [] =
 γ103 [.d (.sl aF.ks (List.map aF.enc p0.Subs))] [] [] fun r0 =>
 cond (decide (0 ≤ 0) && decide (0 ≤ (List.length (List.map aA.enc p0.Queue) : Int)) && decide ((List.length (List.map aA.enc p0.Queue) : Int) * 112 ≤ 281474976710656)) (
 aj8 (C50 Γ γ103 γ80 γ104) Λ2 J (List.map aA.enc p0.Queue) (List.length (List.map aA.enc p0.Queue) : Int) 0 p0.Client p0.User p0.Online p0.Conn p0.Expiry p0.Until p0.Dropped (List.map aA.enc p0.Queue) p0.Out.Limit (List.map aB.enc p0.Out.Items) (List.map (encI .i64) p0.Out.Pool.Used) p0.Out.Pool.Last (List.map (encI .i64) p0.In.IDs) p0.Will.Set p0.Will.Delay p0.Will.Message.Topic p0.Will.Message.Payload p0.Will.Message.Level p0.Will.Message.Retain p0.Will.Message.Priority p0.Will.Message.Expires p0.Will.Message.From p0.Will.Message.Seq (List.map aD.enc p0.Will.Message.Props) [D.str ([] : Str), D.str ([] : Str), D.bool false, D.int .i64 0, D.int .i64 0, D.int .i64 0, D.int .i64 0, D.sl aF.ks (List.map aF.enc []), D.sl aA.ks (List.map aA.enc []), D.int .i64 0, D.sl aB.ks (List.map aB.enc []), D.sl [.int .i64] (List.map (encI .i64) []), D.int .i64 0, D.sl [.int .i64] (List.map (encI .i64) []), D.bool false, D.int .i64 0, D.str ([] : Str), D.str ([] : Str), D.int .i64 0, D.bool false, D.int .i64 0, D.int .i64 0, D.str ([] : Str), D.int .i64 0, D.sl aD.ks (List.map aD.enc [])] (List.map aA.enc []) (List.map aF.enc r0)) none := by kernel_rfl
theorem aok (x39 : (List aB)) (x40 : Int) (x41 : Int) (b0_0 : Str) (b0_1 : Str) (b0_2 : Bool) (b0_3 : Int) (b0_4 : Int) (b0_5 : Int) (b0_6 : Int) (b0_9 : Int) (b0_10 : (List aB)) (b0_11 : (List Int)) (b0_12 : Int) (b0_13 : (List Int)) (b0_14 : Bool) (b0_15 : Int) (b0_16 : Str) (b0_17 : Str) (b0_18 : Int) (b0_19 : Bool) (b0_20 : Int) (b0_21 : Int) (b0_22 : Str) (b0_23 : Int) (b0_24 : (List aD)) (b1 : aC) (w3006 : (List aB)) (w50007 : (List aF)) (w50008 : (List aA)) : cG SE (C50 Γ γ103 γ80 γ104) Λ2 J 50 0 [1, 1, 1, 1, 1, 1, 0, 1, 0] (bA [(1, .ptr 1000000000 0), (2, .ptr 1000000001 0), (6, .row 3006), (39, .d (.sl aB.ks (List.map aB.enc x39))), (40, .d (.int .i64 x40)), (41, .d (.int .i64 x41))] [⟨38, [.d (.str b0_0), .d (.str b0_1), .d (.bool b0_2), .d (.int .i64 b0_3), .d (.int .i64 b0_4), .d (.int .i64 b0_5), .d (.int .i64 b0_6), .row 50007, .row 50008, .d (.int .i64 b0_9), .d (.sl aB.ks (List.map aB.enc b0_10)), .d (.sl [.int .i64] (List.map (encI .i64) b0_11)), .d (.int .i64 b0_12), .d (.sl [.int .i64] (List.map (encI .i64) b0_13)), .d (.bool b0_14), .d (.int .i64 b0_15), .d (.str b0_16), .d (.str b0_17), .d (.int .i64 b0_18), .d (.bool b0_19), .d (.int .i64 b0_20), .d (.int .i64 b0_21), .d (.str b0_22), .d (.int .i64 b0_23), .d (.sl aD.ks (List.map aD.enc b0_24))]⟩, ⟨38, (List.map AV.d (aC.enc b1))⟩] [] [] [(3006, ⟨aB.ks, 122, 128, (List.map aB.enc w3006)⟩), (50007, ⟨aF.ks, 60, 32, (List.map aF.enc w50007)⟩), (50008, ⟨aA.ks, 34, 112, (List.map aA.enc w50008)⟩)]) =
 cond (decide (x41 < x40)) (
 cond (decide (0 ≤ x41) && decide (x41 < (List.length (List.map aB.enc x39) : Int))) (
  γ80 [.agg [.d (.str (aV (cellAt (elemAt (List.map aB.enc x39) (Int.toNat x41)) 2))), .d (.str (aV (cellAt (elemAt (List.map aB.enc x39) (Int.toNat x41)) 3))), .d (.int .i64 (aL (cellAt (elemAt (List.map aB.enc x39) (Int.toNat x41)) 4))), .d (.bool (aY (cellAt (elemAt (List.map aB.enc x39) (Int.toNat x41)) 5))), .d (.int .i64 (aL (cellAt (elemAt (List.map aB.enc x39) (Int.toNat x41)) 6))), .d (.int .i64 (aL (cellAt (elemAt (List.map aB.enc x39) (Int.toNat x41)) 7))), .d (.str (aV (cellAt (elemAt (List.map aB.enc x39) (Int.toNat x41)) 8))), .d (.int .i64 (aL (cellAt (elemAt (List.map aB.enc x39) (Int.toNat x41)) 9))), .d (.sl aD.ks (dSl (cellAt (elemAt (List.map aB.enc x39) (Int.toNat x41)) 10)))]] [] [] fun r2 =>
  cond (decide ((List.length (List.map aB.enc w3006) + List.length [[D.int .i64 (aL (cellAt (elemAt (List.map aB.enc x39) (Int.toNat x41)) 0)), D.int .i64 (aL (cellAt (elemAt (List.map aB.enc x39) (Int.toNat x41)) 1)), D.str r2.Topic, D.str r2.Payload, D.int .i64 r2.Level, D.bool r2.Retain, D.int .i64 r2.Priority, D.int .i64 r2.Expires, D.str r2.From, D.int .i64 r2.Seq, D.sl aD.ks (List.map aD.enc r2.Props)]]) * 128 ≤ 140737488355328)) (
  aiQ (C50 Γ γ103 γ80 γ104) Λ2 J (List.map aB.enc x39) x40 (IntKind.wrap .i64 (x41 + 1)) b0_0 b0_1 b0_2 b0_3 b0_4 b0_5 b0_6 b0_9 (List.map aB.enc b0_10) (List.map (encI .i64) b0_11) b0_12 (List.map (encI .i64) b0_13) b0_14 b0_15 b0_16 b0_17 b0_18 b0_19 b0_20 b0_21 b0_22 b0_23 (List.map aD.enc b0_24) (aC.enc b1) (((List.map aB.enc w3006) ++ [[D.int .i64 (aL (cellAt (elemAt (List.map aB.enc x39) (Int.toNat x41)) 0)), D.int .i64 (aL (cellAt (elemAt (List.map aB.enc x39) (Int.toNat x41)) 1)), D.str r2.Topic, D.str r2.Payload, D.int .i64 r2.Level, D.bool r2.Retain, D.int .i64 r2.Priority, D.int .i64 r2.Expires, D.str r2.From, D.int .i64 r2.Seq, D.sl aD.ks (List.map aD.enc r2.Props)]])) (List.map aF.enc w50007) (List.map aA.enc w50008)) none) none) (
 γ104 [.d (.sl [.int .i64] (List.map (encI .i64) b0_11))] [] [] fun r3 =>
 γ104 [.d (.sl [.int .i64] (List.map (encI .i64) b0_13))] [] [] fun r4 =>
 γ80 [aA.av (aA.mk b0_16 b0_17 b0_18 b0_19 b0_20 b0_21 b0_22 b0_23 b0_24)] [] [] fun r5 =>
 (some (.ret [.agg [.d (.str b0_0), .d (.str b0_1), .d (.bool b0_2), .d (.int .i64 b0_3), .d (.int .i64 b0_4), .d (.int .i64 b0_5), .d (.int .i64 b0_6), .row 0, .row 1, .d (.int .i64 b0_9), .row 2, .row 3, .d (.int .i64 b0_12), .row 4, .d (.bool b0_14), .d (.int .i64 b0_15), .d (.str r5.Topic), .d (.str r5.Payload), .d (.int .i64 r5.Level), .d (.bool r5.Retain), .d (.int .i64 r5.Priority), .d (.int .i64 r5.Expires), .d (.str r5.From), .d (.int .i64 r5.Seq), .row 5]] [] [⟨aF.ks, 60, 32, (List.map aF.enc w50007)⟩, ⟨aA.ks, 34, 112, (List.map aA.enc w50008)⟩, ⟨aB.ks, 122, 128, (List.map aB.enc w3006)⟩, ⟨[.int .i64], 3, 8, (List.map (encI .i64) r3)⟩, ⟨[.int .i64], 3, 8, (List.map (encI .i64) r4)⟩, ⟨aD.ks, 130, 32, (List.map aD.enc r5.Props)⟩]))) := by kernel_rfl
theorem aqv (x18 : (List aA)) (x19 : Int) (x20 : Int) (b0_0 : Str) (b0_1 : Str) (b0_2 : Bool) (b0_3 : Int) (b0_4 : Int) (b0_5 : Int) (b0_6 : Int) (b0_8 : (List aA)) (b0_9 : Int) (b0_10 : (List aB)) (b0_11 : (List Int)) (b0_12 : Int) (b0_13 : (List Int)) (b0_14 : Bool) (b0_15 : Int) (b0_16 : Str) (b0_17 : Str) (b0_18 : Int) (b0_19 : Bool) (b0_20 : Int) (b0_21 : Int) (b0_22 : Str) (b0_23 : Int) (b0_24 : (List aD)) (b1 : aC) (w3003 : (List aA)) (w50007 : (List aF)) : cG SE (C50 Γ γ103 γ80 γ104) Λ2 J 50 0 [1, 1, 1, 0, 1, 0] (bA [(1, .ptr 1000000000 0), (2, .ptr 1000000001 0), (3, .row 3003), (18, .d (.sl aA.ks (List.map aA.enc x18))), (19, .d (.int .i64 x19)), (20, .d (.int .i64 x20))] [⟨38, [.d (.str b0_0), .d (.str b0_1), .d (.bool b0_2), .d (.int .i64 b0_3), .d (.int .i64 b0_4), .d (.int .i64 b0_5), .d (.int .i64 b0_6), .row 50007, .d (.sl aA.ks (List.map aA.enc b0_8)), .d (.int .i64 b0_9), .d (.sl aB.ks (List.map aB.enc b0_10)), .d (.sl [.int .i64] (List.map (encI .i64) b0_11)), .d (.int .i64 b0_12), .d (.sl [.int .i64] (List.map (encI .i64) b0_13)), .d (.bool b0_14), .d (.int .i64 b0_15), .d (.str b0_16), .d (.str b0_17), .d (.int .i64 b0_18), .d (.bool b0_19), .d (.int .i64 b0_20), .d (.int .i64 b0_21), .d (.str b0_22), .d (.int .i64 b0_23), .d (.sl aD.ks (List.map aD.enc b0_24))]⟩, ⟨38, (List.map AV.d (aC.enc b1))⟩] [] [] [(3003, ⟨aA.ks, 34, 112, (List.map aA.enc w3003)⟩), (50007, ⟨aF.ks, 60, 32, (List.map aF.enc w50007)⟩)]) =
 cond (decide (x20 < x19)) (
 cond (decide (0 ≤ x20) && decide (x20 < (List.length (List.map aA.enc x18) : Int))) (
  γ80 [.agg [.d (.str (aV (cellAt (elemAt (List.map aA.enc x18) (Int.toNat x20)) 0))), .d (.str (aV (cellAt (elemAt (List.map aA.enc x18) (Int.toNat x20)) 1))), .d (.int .i64 (aL (cellAt (elemAt (List.map aA.enc x18) (Int.toNat x20)) 2))), .d (.bool (aY (cellAt (elemAt (List.map aA.enc x18) (Int.toNat x20)) 3))), .d (.int .i64 (aL (cellAt (elemAt (List.map aA.enc x18) (Int.toNat x20)) 4))), .d (.int .i64 (aL (cellAt (elemAt (List.map aA.enc x18) (Int.toNat x20)) 5))), .d (.str (aV (cellAt (elemAt (List.map aA.enc x18) (Int.toNat x20)) 6))), .d (.int .i64 (aL (cellAt (elemAt (List.map aA.enc x18) (Int.toNat x20)) 7))), .d (.sl aD.ks (dSl (cellAt (elemAt (List.map aA.enc x18) (Int.toNat x20)) 8)))]] [] [] fun r1 =>
  cond (decide ((List.length (List.map aA.enc w3003) + List.length (List.map aA.enc [r1])) * 112 ≤ 140737488355328)) (
  aj8 (C50 Γ γ103 γ80 γ104) Λ2 J (List.map aA.enc x18) x19 (IntKind.wrap .i64 (x20 + 1)) b0_0 b0_1 b0_2 b0_3 b0_4 b0_5 b0_6 (List.map aA.enc b0_8) b0_9 (List.map aB.enc b0_10) (List.map (encI .i64) b0_11) b0_12 (List.map (encI .i64) b0_13) b0_14 b0_15 b0_16 b0_17 b0_18 b0_19 b0_20 b0_21 b0_22 b0_23 (List.map aD.enc b0_24) (aC.enc b1) (((List.map aA.enc w3003) ++ (List.map aA.enc [r1]))) (List.map aF.enc w50007)) none) none) (
 cond (decide (0 ≤ 0) && decide (0 ≤ (List.length (List.map aB.enc b0_10) : Int)) && decide ((List.length (List.map aB.enc b0_10) : Int) * 128 ≤ 281474976710656)) (
 aiQ (C50 Γ γ103 γ80 γ104) Λ2 J (List.map aB.enc b0_10) (List.length (List.map aB.enc b0_10) : Int) 0 b0_0 b0_1 b0_2 b0_3 b0_4 b0_5 b0_6 b0_9 (List.map aB.enc b0_10) (List.map (encI .i64) b0_11) b0_12 (List.map (encI .i64) b0_13) b0_14 b0_15 b0_16 b0_17 b0_18 b0_19 b0_20 b0_21 b0_22 b0_23 (List.map aD.enc b0_24) (aC.enc b1) (List.map aB.enc []) (List.map aF.enc w50007) (List.map aA.enc w3003)) none) := by kernel_rfl
end
abbrev X50 : aP := C50 gG (cT 103 cK) (cT 80 cQ) (cT 104 bN)
theorem amQ : X50 = aO gG := by unfold X50 C50; rw [aK fun _ h => h, aK fun _ h => h, aK fun _ h => h]
noncomputable abbrev aou (a0 : (List (List D))) (a1 : Int) (a2 : Int) (a3 : Str) (a4 : Str) (a5 : Bool) (a6 : Int) (a7 : Int) (a8 : Int) (a9 : Int) (a10 : Int) (a11 : (List (List D))) (a12 : (List (List D))) (a13 : Int) (a14 : (List (List D))) (a15 : Bool) (a16 : Int) (a17 : Str) (a18 : Str) (a19 : Int) (a20 : Bool) (a21 : Int) (a22 : Int) (a23 : Str) (a24 : Int) (a25 : (List (List D))) (a26 : (List D)) (a27 : (List (List D))) (a28 : (List (List D))) (a29 : (List (List D))) : Res := aiQ X50 (bY SE gG (SE.hl 50) (SE.hr 50)) (J0 SE X50) a0 a1 a2 a3 a4 a5 a6 a7 a8 a9 a10 a11 a12 a13 a14 a15 a16 a17 a18 a19 a20 a21 a22 a23 a24 a25 a26 a27 a28 a29
noncomputable abbrev aqP (a0 : (List (List D))) (a1 : Int) (a2 : Int) (a3 : Str) (a4 : Str) (a5 : Bool) (a6 : Int) (a7 : Int) (a8 : Int) (a9 : Int) (a10 : (List (List D))) (a11 : Int) (a12 : (List (List D))) (a13 : (List (List D))) (a14 : Int) (a15 : (List (List D))) (a16 : Bool) (a17 : Int) (a18 : Str) (a19 : Str) (a20 : Int) (a21 : Bool) (a22 : Int) (a23 : Int) (a24 : Str) (a25 : Int) (a26 : (List (List D))) (a27 : (List D)) (a28 : (List (List D))) (a29 : (List (List D))) : Res := aj8 X50 (bY SE gG (SE.hl 50) (SE.hr 50)) (J0 SE X50) a0 a1 a2 a3 a4 a5 a6 a7 a8 a9 a10 a11 a12 a13 a14 a15 a16 a17 a18 a19 a20 a21 a22 a23 a24 a25 a26 a27 a28 a29
theorem sP : ∀ (fu : Nat) (x39 : (List aB)) (x40 : Int) (x41 : Int) (b0_0 : Str) (b0_1 : Str) (b0_2 : Bool) (b0_3 : Int) (b0_4 : Int) (b0_5 : Int) (b0_6 : Int) (b0_9 : Int) (b0_10 : (List aB)) (b0_11 : (List Int)) (b0_12 : Int) (b0_13 : (List Int)) (b0_14 : Bool) (b0_15 : Int) (b0_16 : Str) (b0_17 : Str) (b0_18 : Int) (b0_19 : Bool) (b0_20 : Int) (b0_21 : Int) (b0_22 : Str) (b0_23 : Int) (b0_24 : (List aD)) (b1 : aC) (w3006 : (List aB)) (w50007 : (List aF)) (w50008 : (List aA)), Le (Option.map bS (iC fu x39 x40 x41 b0_0 b0_1 b0_2 b0_3 b0_4 b0_5 b0_6 b0_9 b0_10 b0_11 b0_12 b0_13 b0_14 b0_15 b0_16 b0_17 b0_18 b0_19 b0_20 b0_21 b0_22 b0_23 b0_24 b1 w3006 w50007 w50008)) (aou (List.map aB.enc x39) x40 x41 b0_0 b0_1 b0_2 b0_3 b0_4 b0_5 b0_6 b0_9 (List.map aB.enc b0_10) (List.map (encI .i64) b0_11) b0_12 (List.map (encI .i64) b0_13) b0_14 b0_15 b0_16 b0_17 b0_18 b0_19 b0_20 b0_21 b0_22 b0_23 (List.map aD.enc b0_24) (aC.enc b1) (List.map aB.enc w3006) (List.map aF.enc w50007) (List.map aA.enc w50008)) := by
 intro fu
 induction fu with
 | zero => intros; exact le_none
 | succ fu ih =>
  intro x39 x40 x41 b0_0 b0_1 b0_2 b0_3 b0_4 b0_5 b0_6 b0_9 b0_10 b0_11 b0_12 b0_13 b0_14 b0_15 b0_16 b0_17 b0_18 b0_19 b0_20 b0_21 b0_22 b0_23 b0_24 b1 w3006 w50007 w50008
  refine Le.trans ?_ (le_of_eq ((bC amQ).trans (aok _ _ _ _ _ _  x39 x40 x41 b0_0 b0_1 b0_2 b0_3 b0_4 b0_5 b0_6 b0_9 b0_10 b0_11 b0_12 b0_13 b0_14 b0_15 b0_16 b0_17 b0_18 b0_19 b0_20 b0_21 b0_22 b0_23 b0_24 b1 w3006 w50007 w50008)).symm)
  unfold iC
  refine lC ?_ ?_
  ·refine lG (by simp only [EN]) ?_
   refine aM (good := good) eX jF (by first | (simp only [EN]; exact eV ((List.getD x39 (Int.toNat x41) default).Message)) | exact eV ((List.getD x39 (Int.toNat x41) default).Message)) fun r2 _ => ?_
   refine lG (by simp only [EN]) ?_
   first | (simp only [EN]; exact ih x39 x40 (IntKind.wrap .i64 (x41 + 1)) b0_0 b0_1 b0_2 b0_3 b0_4 b0_5 b0_6 b0_9 b0_10 b0_11 b0_12 b0_13 b0_14 b0_15 b0_16 b0_17 b0_18 b0_19 b0_20 b0_21 b0_22 b0_23 b0_24 b1 ((w3006 ++ [(aB.mk (List.getD x39 (Int.toNat x41) default).ID (List.getD x39 (Int.toNat x41) default).State r2)])) w50007 w50008) | exact ih x39 x40 (IntKind.wrap .i64 (x41 + 1)) b0_0 b0_1 b0_2 b0_3 b0_4 b0_5 b0_6 b0_9 b0_10 b0_11 b0_12 b0_13 b0_14 b0_15 b0_16 b0_17 b0_18 b0_19 b0_20 b0_21 b0_22 b0_23 b0_24 b1 ((w3006 ++ [(aB.mk (List.getD x39 (Int.toNat x41) default).ID (List.getD x39 (Int.toNat x41) default).State r2)])) w50007 w50008
  ·refine aM (good := good) eX fF (fQ _) fun r3 _ => ?_
   refine aM (good := good) eX fF (fQ _) fun r4 _ => ?_
   refine aM (good := good) eX jF (eV _) fun r5 _ => ?_
   exact aH rfl
theorem tS : ∀ (fu : Nat) (x18 : (List aA)) (x19 : Int) (x20 : Int) (b0_0 : Str) (b0_1 : Str) (b0_2 : Bool) (b0_3 : Int) (b0_4 : Int) (b0_5 : Int) (b0_6 : Int) (b0_8 : (List aA)) (b0_9 : Int) (b0_10 : (List aB)) (b0_11 : (List Int)) (b0_12 : Int) (b0_13 : (List Int)) (b0_14 : Bool) (b0_15 : Int) (b0_16 : Str) (b0_17 : Str) (b0_18 : Int) (b0_19 : Bool) (b0_20 : Int) (b0_21 : Int) (b0_22 : Str) (b0_23 : Int) (b0_24 : (List aD)) (b1 : aC) (w3003 : (List aA)) (w50007 : (List aF)), Le (Option.map bS (iV fu x18 x19 x20 b0_0 b0_1 b0_2 b0_3 b0_4 b0_5 b0_6 b0_8 b0_9 b0_10 b0_11 b0_12 b0_13 b0_14 b0_15 b0_16 b0_17 b0_18 b0_19 b0_20 b0_21 b0_22 b0_23 b0_24 b1 w3003 w50007)) (aqP (List.map aA.enc x18) x19 x20 b0_0 b0_1 b0_2 b0_3 b0_4 b0_5 b0_6 (List.map aA.enc b0_8) b0_9 (List.map aB.enc b0_10) (List.map (encI .i64) b0_11) b0_12 (List.map (encI .i64) b0_13) b0_14 b0_15 b0_16 b0_17 b0_18 b0_19 b0_20 b0_21 b0_22 b0_23 (List.map aD.enc b0_24) (aC.enc b1) (List.map aA.enc w3003) (List.map aF.enc w50007)) := by
 intro fu
 induction fu with
 | zero => intros; exact le_none
 | succ fu ih =>
  intro x18 x19 x20 b0_0 b0_1 b0_2 b0_3 b0_4 b0_5 b0_6 b0_8 b0_9 b0_10 b0_11 b0_12 b0_13 b0_14 b0_15 b0_16 b0_17 b0_18 b0_19 b0_20 b0_21 b0_22 b0_23 b0_24 b1 w3003 w50007
  refine Le.trans ?_ (le_of_eq ((bC amQ).trans (aqv _ _ _ _ _ _  x18 x19 x20 b0_0 b0_1 b0_2 b0_3 b0_4 b0_5 b0_6 b0_8 b0_9 b0_10 b0_11 b0_12 b0_13 b0_14 b0_15 b0_16 b0_17 b0_18 b0_19 b0_20 b0_21 b0_22 b0_23 b0_24 b1 w3003 w50007)).symm)
  unfold iV
  refine lC ?_ ?_
  ·refine lG (by simp only [EN]) ?_
   refine aM (good := good) eX jF (by first | (simp only [EN]; exact eV (List.getD x18 (Int.toNat x20) default)) | exact eV (List.getD x18 (Int.toNat x20) default)) fun r1 _ => ?_
   refine lG (by simp only [EN]) ?_
   first | (simp only [EN]; exact ih x18 x19 (IntKind.wrap .i64 (x20 + 1)) b0_0 b0_1 b0_2 b0_3 b0_4 b0_5 b0_6 b0_8 b0_9 b0_10 b0_11 b0_12 b0_13 b0_14 b0_15 b0_16 b0_17 b0_18 b0_19 b0_20 b0_21 b0_22 b0_23 b0_24 b1 (w3003 ++ [r1]) w50007) | exact ih x18 x19 (IntKind.wrap .i64 (x20 + 1)) b0_0 b0_1 b0_2 b0_3 b0_4 b0_5 b0_6 b0_8 b0_9 b0_10 b0_11 b0_12 b0_13 b0_14 b0_15 b0_16 b0_17 b0_18 b0_19 b0_20 b0_21 b0_22 b0_23 b0_24 b1 (w3003 ++ [r1]) w50007
  ·refine lG (by simp only [EN]) ?_
   first | (simp only [EN]; exact sP fuel b0_10 (List.length b0_10 : Int) 0 b0_0 b0_1 b0_2 b0_3 b0_4 b0_5 b0_6 b0_9 b0_10 b0_11 b0_12 b0_13 b0_14 b0_15 b0_16 b0_17 b0_18 b0_19 b0_20 b0_21 b0_22 b0_23 b0_24 b1 ([] : List aB) w50007 w3003) | exact sP fuel b0_10 (List.length b0_10 : Int) 0 b0_0 b0_1 b0_2 b0_3 b0_4 b0_5 b0_6 b0_9 b0_10 b0_11 b0_12 b0_13 b0_14 b0_15 b0_16 b0_17 b0_18 b0_19 b0_20 b0_21 b0_22 b0_23 b0_24 b1 ([] : List aB) w50007 w3003
theorem iW (p0 : aC) : Le (Option.map bS (fP p0)) (aX SE 50 [aC.av p0] [] []) := by
 refine aQ amQ rfl ?_
 refine Le.trans ?_ (le_of_eq (T50 _ _ _ _ _ _  p0).symm)
 unfold fP
 refine aM (good := good) eX qM (qQ _) fun r0 _ => ?_
 refine lG (by simp only [EN]) ?_
 first | (simp only [EN]; exact tS fuel p0.Queue (List.length p0.Queue : Int) 0 p0.Client p0.User p0.Online p0.Conn p0.Expiry p0.Until p0.Dropped p0.Queue p0.Out.Limit p0.Out.Items p0.Out.Pool.Used p0.Out.Pool.Last p0.In.IDs p0.Will.Set p0.Will.Delay p0.Will.Message.Topic p0.Will.Message.Payload p0.Will.Message.Level p0.Will.Message.Retain p0.Will.Message.Priority p0.Will.Message.Expires p0.Will.Message.From p0.Will.Message.Seq p0.Will.Message.Props ((aC.mk ([] : Str) ([] : Str) false 0 0 0 0 ([] : List aF) ([] : List aA) (aG.mk 0 ([] : List aB) (aJ.mk ([] : List Int) 0)) (aU.mk ([] : List Int)) (aN.mk false 0 (aA.mk ([] : Str) ([] : Str) 0 false 0 0 ([] : Str) 0 ([] : List aD))))) ([] : List aA) r0) | exact tS fuel p0.Queue (List.length p0.Queue : Int) 0 p0.Client p0.User p0.Online p0.Conn p0.Expiry p0.Until p0.Dropped p0.Queue p0.Out.Limit p0.Out.Items p0.Out.Pool.Used p0.Out.Pool.Last p0.In.IDs p0.Will.Set p0.Will.Delay p0.Will.Message.Topic p0.Will.Message.Payload p0.Will.Message.Level p0.Will.Message.Retain p0.Will.Message.Priority p0.Will.Message.Expires p0.Will.Message.From p0.Will.Message.Seq p0.Will.Message.Props ((aC.mk ([] : Str) ([] : Str) false 0 0 0 0 ([] : List aF) ([] : List aA) (aG.mk 0 ([] : List aB) (aJ.mk ([] : List Int) 0)) (aU.mk ([] : List Int)) (aN.mk false 0 (aA.mk ([] : Str) ([] : Str) 0 false 0 0 ([] : Str) 0 ([] : List aD))))) ([] : List aA) r0
theorem qD (p0 : (List aF)) (p1 : Int) (p2 : (List aF)) : Le (Option.map cH (mQ p0 p1 p2)) (aX SE 68 [.row 2000000000, .d (.int .i64 p1), .row 2000000001] [] [⟨aF.ks, 60, 32, (List.map aF.enc p0)⟩, ⟨aF.ks, 60, 32, (List.map aF.enc p2)⟩]) := ag5 (f := 68) (enc := aF.enc) rfl rfl p0 p1 p2
def akw (C : aP) (Λ2 J : Lam) (a0 : Int) (a1 : Bool) (a2 : (List D)) (a3 : (List D)) (a4 : (List D)) : Res := lab SE C Λ2 J 26 0 [1, 1, 1, 1, 0] (bA [(2, .ptr 1000000000 0), (3, .ptr 1000000001 0), (4, .ptr 1000000002 0), (8, .d (.int .i64 a0)), (9, .d (.bool a1))] [⟨38, (List.map AV.d a2)⟩, ⟨60, (List.map AV.d a3)⟩, ⟨38, (List.map AV.d a4)⟩] [] [] [])
section
variable (Γ : Fun) (γ66 : Gm (Int)) (γ67 : Gm (Int × Bool)) (γ50 : Gm (aC)) (γ68 : Gm ((List aF))) (Λ2 J : Lam)
def C26 : aP := aZ (aZ (aZ (aZ (aO Γ) 66 hZ γ66) 67 kE γ67) 50 bS γ50) 68 cH γ68
theorem T26 (p0 : aC) (p1 : aF) : bB SE (C26 Γ γ66 γ67 γ50 γ68) Λ2 J 26 [aC.av p0, aF.av p1] [] [] =
 γ66 [aF.av p1] [] [] fun r0 =>
 cond (r0 != 0) (
 (some (.ret [.agg [.d (.str ([] : Str)), .d (.str ([] : Str)), .d (.bool false), .d (.int .i64 0), .d (.int .i64 0), .d (.int .i64 0), .d (.int .i64 0), .row 0, .row 1, .d (.int .i64 0), .row 2, .row 3, .d (.int .i64 0), .row 4, .d (.bool false), .d (.int .i64 0), .d (.str ([] : Str)), .d (.str ([] : Str)), .d (.int .i64 0), .d (.bool false), .d (.int .i64 0), .d (.int .i64 0), .d (.str ([] : Str)), .d (.int .i64 0), .row 5], .d (.bool false), .d (.int .i64 r0)] [] [⟨aF.ks, 60, 32, (List.map aF.enc [])⟩, ⟨aA.ks, 34, 112, (List.map aA.enc [])⟩, ⟨aB.ks, 122, 128, (List.map aB.enc [])⟩, ⟨[.int .i64], 3, 8, (List.map (encI .i64) [])⟩, ⟨[.int .i64], 3, 8, (List.map (encI .i64) [])⟩, ⟨aD.ks, 130, 32, (List.map aD.enc [])⟩]))) (
 γ67 [.d (.sl aF.ks (List.map aF.enc p0.Subs)), .d (.str p1.Filter)] [] [] fun r1 =>
 cond (!r1.2) (
 cond (decide ((List.length (List.map aF.enc p0.Subs) : Int) ≥ 32)) (
  (some (.ret [.agg [.d (.str ([] : Str)), .d (.str ([] : Str)), .d (.bool false), .d (.int .i64 0), .d (.int .i64 0), .d (.int .i64 0), .d (.int .i64 0), .row 0, .row 1, .d (.int .i64 0), .row 2, .row 3, .d (.int .i64 0), .row 4, .d (.bool false), .d (.int .i64 0), .d (.str ([] : Str)), .d (.str ([] : Str)), .d (.int .i64 0), .d (.bool false), .d (.int .i64 0), .d (.int .i64 0), .d (.str ([] : Str)), .d (.int .i64 0), .row 5], .d (.bool false), .d (.int .i64 6)] [] [⟨aF.ks, 60, 32, (List.map aF.enc [])⟩, ⟨aA.ks, 34, 112, (List.map aA.enc [])⟩, ⟨aB.ks, 122, 128, (List.map aB.enc [])⟩, ⟨[.int .i64], 3, 8, (List.map (encI .i64) [])⟩, ⟨[.int .i64], 3, 8, (List.map (encI .i64) [])⟩, ⟨aD.ks, 130, 32, (List.map aD.enc [])⟩]))) (
 akw (C26 Γ γ66 γ67 γ50 γ68) Λ2 J r1.1 r1.2 (aC.enc p0) (aF.enc p1) [D.str ([] : Str), D.str ([] : Str), D.bool false, D.int .i64 0, D.int .i64 0, D.int .i64 0, D.int .i64 0, D.sl aF.ks (List.map aF.enc []), D.sl aA.ks (List.map aA.enc []), D.int .i64 0, D.sl aB.ks (List.map aB.enc []), D.sl [.int .i64] (List.map (encI .i64) []), D.int .i64 0, D.sl [.int .i64] (List.map (encI .i64) []), D.bool false, D.int .i64 0, D.str ([] : Str), D.str ([] : Str), D.int .i64 0, D.bool false, D.int .i64 0, D.int .i64 0, D.str ([] : Str), D.int .i64 0, D.sl aD.ks (List.map aD.enc [])])) (
 akw (C26 Γ γ66 γ67 γ50 γ68) Λ2 J r1.1 r1.2 (aC.enc p0) (aF.enc p1) [D.str ([] : Str), D.str ([] : Str), D.bool false, D.int .i64 0, D.int .i64 0, D.int .i64 0, D.int .i64 0, D.sl aF.ks (List.map aF.enc []), D.sl aA.ks (List.map aA.enc []), D.int .i64 0, D.sl aB.ks (List.map aB.enc []), D.sl [.int .i64] (List.map (encI .i64) []), D.int .i64 0, D.sl [.int .i64] (List.map (encI .i64) []), D.bool false, D.int .i64 0, D.str ([] : Str), D.str ([] : Str), D.int .i64 0, D.bool false, D.int .i64 0, D.int .i64 0, D.str ([] : Str), D.int .i64 0, D.sl aD.ks (List.map aD.enc [])])) := by kernel_rfl
theorem ar9 (x8 : Int) (x9 : Bool) (b0 : aC) (b1 : aF) (b2 : aC) : cG SE (C26 Γ γ66 γ67 γ50 γ68) Λ2 J 26 0 [1, 1, 1, 1, 0] (bA [(2, .ptr 1000000000 0), (3, .ptr 1000000001 0), (4, .ptr 1000000002 0), (8, .d (.int .i64 x8)), (9, .d (.bool x9))] [⟨38, (List.map AV.d (aC.enc b0))⟩, ⟨60, (List.map AV.d (aF.enc b1))⟩, ⟨38, (List.map AV.d (aC.enc b2))⟩] [] [] []) =
 γ50 [aC.av b0] [] [] fun r2 =>
 cond x9 (
 cond (decide (0 ≤ x8) && decide (x8 < (List.length (List.map aF.enc r2.Subs) : Int))) (
  (some (.ret [.agg [.d (.str r2.Client), .d (.str r2.User), .d (.bool r2.Online), .d (.int .i64 r2.Conn), .d (.int .i64 r2.Expiry), .d (.int .i64 r2.Until), .d (.int .i64 r2.Dropped), .row 0, .row 1, .d (.int .i64 r2.Out.Limit), .row 2, .row 3, .d (.int .i64 r2.Out.Pool.Last), .row 4, .d (.bool r2.Will.Set), .d (.int .i64 r2.Will.Delay), .d (.str r2.Will.Message.Topic), .d (.str r2.Will.Message.Payload), .d (.int .i64 r2.Will.Message.Level), .d (.bool r2.Will.Message.Retain), .d (.int .i64 r2.Will.Message.Priority), .d (.int .i64 r2.Will.Message.Expires), .d (.str r2.Will.Message.From), .d (.int .i64 r2.Will.Message.Seq), .row 5], .d (.bool x9), .d (.int .i64 0)] [] [⟨aF.ks, 60, 32, (gN (List.map aF.enc r2.Subs) (Int.toNat x8) 0 (aF.enc b1))⟩, ⟨aA.ks, 34, 112, (List.map aA.enc r2.Queue)⟩, ⟨aB.ks, 122, 128, (List.map aB.enc r2.Out.Items)⟩, ⟨[.int .i64], 3, 8, (List.map (encI .i64) r2.Out.Pool.Used)⟩, ⟨[.int .i64], 3, 8, (List.map (encI .i64) r2.In.IDs)⟩, ⟨aD.ks, 130, 32, (List.map aD.enc r2.Will.Message.Props)⟩]))) none) (
 γ68 [.row 2000000000, .d (.int .i64 x8), .row 2000000001] [] [⟨aF.ks, 60, 32, (List.map aF.enc r2.Subs)⟩, ⟨aF.ks, 60, 32, (List.map aF.enc [b1])⟩] fun r3 =>
 (some (.ret [.agg [.d (.str r2.Client), .d (.str r2.User), .d (.bool r2.Online), .d (.int .i64 r2.Conn), .d (.int .i64 r2.Expiry), .d (.int .i64 r2.Until), .d (.int .i64 r2.Dropped), .row 0, .row 1, .d (.int .i64 r2.Out.Limit), .row 2, .row 3, .d (.int .i64 r2.Out.Pool.Last), .row 4, .d (.bool r2.Will.Set), .d (.int .i64 r2.Will.Delay), .d (.str r2.Will.Message.Topic), .d (.str r2.Will.Message.Payload), .d (.int .i64 r2.Will.Message.Level), .d (.bool r2.Will.Message.Retain), .d (.int .i64 r2.Will.Message.Priority), .d (.int .i64 r2.Will.Message.Expires), .d (.str r2.Will.Message.From), .d (.int .i64 r2.Will.Message.Seq), .row 5], .d (.bool x9), .d (.int .i64 0)] [] [⟨aF.ks, 60, 32, (List.map aF.enc r3)⟩, ⟨aA.ks, 34, 112, (List.map aA.enc r2.Queue)⟩, ⟨aB.ks, 122, 128, (List.map aB.enc r2.Out.Items)⟩, ⟨[.int .i64], 3, 8, (List.map (encI .i64) r2.Out.Pool.Used)⟩, ⟨[.int .i64], 3, 8, (List.map (encI .i64) r2.In.IDs)⟩, ⟨aD.ks, 130, 32, (List.map aD.enc r2.Will.Message.Props)⟩]))) := by kernel_rfl
end
abbrev X26 : aP := C26 gG (cT 66 hZ) (cT 67 kE) (cT 50 bS) (cT 68 cH)
theorem aqj : X26 = aO gG := by unfold X26 C26; rw [aK fun _ h => h, aK fun _ h => h, aK fun _ h => h, aK fun _ h => h]
noncomputable abbrev asb (a0 : Int) (a1 : Bool) (a2 : (List D)) (a3 : (List D)) (a4 : (List D)) : Res := akw X26 (bY SE gG (SE.hl 26) (SE.hr 26)) (J0 SE X26) a0 a1 a2 a3 a4
theorem j5 (x8 : Int) (x9 : Bool) (b0 : aC) (b1 : aF) (b2 : aC) : Le (Option.map dU (l8 x8 x9 b0 b1 b2)) (asb x8 x9 (aC.enc b0) (aF.enc b1) (aC.enc b2)) := by
 refine Le.trans ?_ (le_of_eq ((bC aqj).trans (ar9 _ _ _ _ _ _ _  x8 x9 b0 b1 b2)).symm)
 unfold l8
 refine aM (good := good) eX iD (iW _) fun r2 _ => ?_
 refine lC ?_ ?_
 ·refine lG (by simp only [EN]) ?_
  exact aH (by first | rfl | simp only [EN, dU] <;> rfl)
 ·refine aM (good := good) eX p7 (qD _ _ _) fun r3 _ => ?_
  exact aH rfl
theorem aby (p0 : aC) (p1 : aF) : Le (Option.map dU (qT p0 p1)) (aX SE 26 [aC.av p0, aF.av p1] [] []) := by
 refine aQ aqj rfl ?_
 refine Le.trans ?_ (le_of_eq (T26 _ _ _ _ _ _ _  p0 p1).symm)
 unfold qT
 refine aM (good := good) eX acb (acC _) fun r0 _ => ?_
 refine lC ?_ ?_
 ·exact aH rfl
 ·refine aM (good := good) eX aeS (aeZ _ _) fun r1 _ => ?_
  refine lC ?_ ?_
  ·refine lD (by simp only [EN]) ?_ ?_
   ·exact aH rfl
   ·first | (simp only [EN]; exact j5 r1.1 r1.2 p0 p1 ((aC.mk ([] : Str) ([] : Str) false 0 0 0 0 ([] : List aF) ([] : List aA) (aG.mk 0 ([] : List aB) (aJ.mk ([] : List Int) 0)) (aU.mk ([] : List Int)) (aN.mk false 0 (aA.mk ([] : Str) ([] : Str) 0 false 0 0 ([] : Str) 0 ([] : List aD)))))) | exact j5 r1.1 r1.2 p0 p1 ((aC.mk ([] : Str) ([] : Str) false 0 0 0 0 ([] : List aF) ([] : List aA) (aG.mk 0 ([] : List aB) (aJ.mk ([] : List Int) 0)) (aU.mk ([] : List Int)) (aN.mk false 0 (aA.mk ([] : Str) ([] : Str) 0 false 0 0 ([] : Str) 0 ([] : List aD)))))
  ·first | (simp only [EN]; exact j5 r1.1 r1.2 p0 p1 ((aC.mk ([] : Str) ([] : Str) false 0 0 0 0 ([] : List aF) ([] : List aA) (aG.mk 0 ([] : List aB) (aJ.mk ([] : List Int) 0)) (aU.mk ([] : List Int)) (aN.mk false 0 (aA.mk ([] : Str) ([] : Str) 0 false 0 0 ([] : Str) 0 ([] : List aD)))))) | exact j5 r1.1 r1.2 p0 p1 ((aC.mk ([] : Str) ([] : Str) false 0 0 0 0 ([] : List aF) ([] : List aA) (aG.mk 0 ([] : List aB) (aJ.mk ([] : List Int) 0)) (aU.mk ([] : List Int)) (aN.mk false 0 (aA.mk ([] : Str) ([] : Str) 0 false 0 0 ([] : Str) 0 ([] : List aD)))))
section
variable (Γ : Fun)  (Λ2 J : Lam)
def C51 : aP := aO Γ
theorem T51 (p0 : aC) (p1 : Int) : bB SE (C51 Γ) Λ2 J 51 [aC.av p0, .d (.int .i64 p1)] [] [] =
 (some (.ret [aC.av (aC.mk p0.Client p0.User p0.Online p0.Conn p0.Expiry p0.Until (if 1099511627776 < (IntKind.wrap .i64 (p0.Dropped + p1)) then 1099511627776 else (IntKind.wrap .i64 (p0.Dropped + p1))) p0.Subs p0.Queue p0.Out p0.In p0.Will)] [] [])) := by kernel_rfl
end
abbrev X51 : aP := C51 gG
theorem auh : X51 = aO gG := rfl
theorem jA (p0 : aC) (p1 : Int) : Le (Option.map dB (jO p0 p1)) (aX SE 51 [aC.av p0, .d (.int .i64 p1)] [] []) := by
 refine aQ auh rfl ?_
 refine Le.trans ?_ (le_of_eq (T51 _ _ _  p0 p1).symm)
 unfold jO
 exact aH rfl
section
variable (Γ : Fun)  (Λ2 J : Lam)
def aob : aP := aO Γ
theorem asU (p0 : aA) : bB SE (aob Γ) Λ2 J 106 [aA.av p0] [] [] =
 cond (decide (List.length (List.map aD.enc p0.Props) * 32 ≤ 140737488355328)) (
 (some (.ret [.agg [.d (.str p0.Topic), .d (.str p0.Payload), .d (.int .i64 p0.Level), .d (.bool p0.Retain), .d (.int .i64 p0.Priority), .d (.int .i64 p0.Expires), .d (.str p0.From), .d (.int .i64 p0.Seq), .row 0]] [] [⟨aD.ks, 130, 32, (List.map aD.enc p0.Props)⟩]))) none := by kernel_rfl
end
abbrev asm : aP := aob gG
theorem aqE : asm = aO gG := rfl
theorem mF (p0 : aA) : Le (Option.map iJ (nR p0)) (aX SE 106 [aA.av p0] [] []) := by
 refine aQ aqE rfl ?_
 refine Le.trans ?_ (le_of_eq (asU _ _ _  p0).symm)
 unfold nR
 refine lG (by simp only [EN]) ?_
 exact aH rfl
def aiB (C : aP) (Λ2 J : Lam) (a0 : (List (List D))) (a1 : Int) (a2 : Int) (a3 : (List (List D))) : Res := lab SE C Λ2 J 105 0 [1, 1, 0, 1, 0] (bA [(5, .row 3005), (13, .d (.sl aA.ks a0)), (14, .d (.int .i64 a1)), (15, .d (.int .i64 a2))] [] [] [] [(3005, ⟨aA.ks, 34, 112, a3⟩)])
section
variable (Γ : Fun) (γ106 : Gm (aA)) (Λ2 J : Lam)
def agc : aP := aZ (aO Γ) 106 iJ γ106
theorem atz (p0 : (List aA)) (p1 : Int) : bB SE (agc Γ γ106) Λ2 J 105 [.d (.sl aA.ks (List.map aA.enc p0)), .d (.int .i64 p1)] [] [] =
 cond (decide (0 ≤ 0) && decide (0 ≤ (IntKind.wrap .i64 ((List.length (List.map aA.enc p0) : Int) + p1))) && decide ((IntKind.wrap .i64 ((List.length (List.map aA.enc p0) : Int) + p1)) * 112 ≤ 281474976710656)) (
 aiB (agc Γ γ106) Λ2 J (List.map aA.enc p0) (List.length (List.map aA.enc p0) : Int) 0 (List.map aA.enc [])) none := by kernel_rfl
theorem ap2 (x13 : (List aA)) (x14 : Int) (x15 : Int) (w3005 : (List aA)) : cG SE (agc Γ γ106) Λ2 J 105 0 [1, 1, 0, 1, 0] (bA [(5, .row 3005), (13, .d (.sl aA.ks (List.map aA.enc x13))), (14, .d (.int .i64 x14)), (15, .d (.int .i64 x15))] [] [] [] [(3005, ⟨aA.ks, 34, 112, (List.map aA.enc w3005)⟩)]) =
 cond (decide (x15 < x14)) (
 cond (decide (0 ≤ x15) && decide (x15 < (List.length (List.map aA.enc x13) : Int))) (
  γ106 [.agg [.d (.str (aV (cellAt (elemAt (List.map aA.enc x13) (Int.toNat x15)) 0))), .d (.str (aV (cellAt (elemAt (List.map aA.enc x13) (Int.toNat x15)) 1))), .d (.int .i64 (aL (cellAt (elemAt (List.map aA.enc x13) (Int.toNat x15)) 2))), .d (.bool (aY (cellAt (elemAt (List.map aA.enc x13) (Int.toNat x15)) 3))), .d (.int .i64 (aL (cellAt (elemAt (List.map aA.enc x13) (Int.toNat x15)) 4))), .d (.int .i64 (aL (cellAt (elemAt (List.map aA.enc x13) (Int.toNat x15)) 5))), .d (.str (aV (cellAt (elemAt (List.map aA.enc x13) (Int.toNat x15)) 6))), .d (.int .i64 (aL (cellAt (elemAt (List.map aA.enc x13) (Int.toNat x15)) 7))), .d (.sl aD.ks (dSl (cellAt (elemAt (List.map aA.enc x13) (Int.toNat x15)) 8)))]] [] [] fun r0 =>
  cond (decide ((List.length (List.map aA.enc w3005) + List.length (List.map aA.enc [r0])) * 112 ≤ 140737488355328)) (
  aiB (agc Γ γ106) Λ2 J (List.map aA.enc x13) x14 (IntKind.wrap .i64 (x15 + 1)) (((List.map aA.enc w3005) ++ (List.map aA.enc [r0])))) none) none) (
 (some (.ret [.row 0] [] [⟨aA.ks, 34, 112, (List.map aA.enc w3005)⟩]))) := by kernel_rfl
end
abbrev aju : aP := agc gG (cT 106 iJ)
theorem ans : aju = aO gG := by unfold aju agc; rw [aK fun _ h => h]
noncomputable abbrev ap5 (a0 : (List (List D))) (a1 : Int) (a2 : Int) (a3 : (List (List D))) : Res := aiB aju (bY SE gG (SE.hl 105) (SE.hr 105)) (J0 SE aju) a0 a1 a2 a3
theorem yU : ∀ (fu : Nat) (x13 : (List aA)) (x14 : Int) (x15 : Int) (w3005 : (List aA)), Le (Option.map kG (rH fu x13 x14 x15 w3005)) (ap5 (List.map aA.enc x13) x14 x15 (List.map aA.enc w3005)) := by
 intro fu
 induction fu with
 | zero => intros; exact le_none
 | succ fu ih =>
  intro x13 x14 x15 w3005
  refine Le.trans ?_ (le_of_eq ((bC ans).trans (ap2 _ _ _ _  x13 x14 x15 w3005)).symm)
  unfold rH
  refine lC ?_ ?_
  ·refine lG (by simp only [EN]) ?_
   refine aM (good := good) eX nH (by first | (simp only [EN]; exact mF (List.getD x13 (Int.toNat x15) default)) | exact mF (List.getD x13 (Int.toNat x15) default)) fun r0 _ => ?_
   refine lG (by simp only [EN]) ?_
   first | (simp only [EN]; exact ih x13 x14 (IntKind.wrap .i64 (x15 + 1)) (w3005 ++ [r0])) | exact ih x13 x14 (IntKind.wrap .i64 (x15 + 1)) (w3005 ++ [r0])
  ·exact aH rfl
theorem aho (p0 : (List aA)) (p1 : Int) : Le (Option.map kG (abv p0 p1)) (aX SE 105 [.d (.sl aA.ks (List.map aA.enc p0)), .d (.int .i64 p1)] [] []) := by
 refine aQ ans rfl ?_
 refine Le.trans ?_ (le_of_eq (atz _ _ _ _  p0 p1).symm)
 unfold abv
 refine lG (by simp only [EN]) ?_
 first | (simp only [EN]; exact yU fuel p0 (List.length p0 : Int) 0 ([] : List aA)) | exact yU fuel p0 (List.length p0 : Int) 0 ([] : List aA)
def ank (C : aP) (Λ2 J : Lam) (a0 : (List D)) (a1 : (List (List D))) : Res := lab SE C Λ2 J 52 0 [1, 1, 1, 1, 0] (bA [(5, .ptr 1000000000 0), (11, .row 3011)] [⟨34, (List.map AV.d a0)⟩] [] [] [(3011, ⟨aA.ks, 34, 112, a1⟩)])
section
variable (Γ : Fun) (γ105 : Gm ((List aA))) (γ106 : Gm (aA)) (Λ2 J : Lam)
def C52 : aP := aZ (aZ (aO Γ) 105 kG γ105) 106 iJ γ106
theorem T52 (p0 : (List aA)) (p1 : aA) (p2 : Int) (p3 : Int) : bB SE (C52 Γ γ105 γ106) Λ2 J 52 [.d (.sl aA.ks (List.map aA.enc p0)), aA.av p1, .d (.int .i64 p2), .d (.int .i64 p3)] [] [] =
 γ105 [.d (.sl aA.ks (List.map aA.enc p0)), .d (.int .i64 1)] [] [] fun r0 =>
 cond (decide ((List.length (List.map aA.enc p0) : Int) < p2)) (
 γ106 [aA.av p1] [] [] fun r1 =>
 cond (decide ((List.length (List.map aA.enc r0) + List.length (List.map aA.enc [r1])) * 112 ≤ 140737488355328)) (
  (some (.ret [.row 0, .row 1, .d (.bool false)] [] [⟨aA.ks, 34, 112, ((List.map aA.enc r0) ++ (List.map aA.enc [r1]))⟩, ⟨aA.ks, 34, 112, []⟩]))) none) (
 cond (p3 != 1) (
 γ106 [aA.av p1] [] [] fun r2 =>
 (some (.ret [.row 0, .row 1, .d (.bool (p3 == 3))] [] [⟨aA.ks, 34, 112, (List.map aA.enc r0)⟩, ⟨aA.ks, 34, 112, (List.map aA.enc [r2])⟩]))) (
 cond (decide (p2 < 1)) (
 γ106 [aA.av p1] [] [] fun r3 =>
 (some (.ret [.row 0, .row 1, .d (.bool (p3 == 3))] [] [⟨aA.ks, 34, 112, (List.map aA.enc r0)⟩, ⟨aA.ks, 34, 112, (List.map aA.enc [r3])⟩]))) (
 ank (C52 Γ γ105 γ106) Λ2 J (aA.enc p1) (List.map aA.enc r0)))) := by kernel_rfl
theorem arb (b0 : aA) (w3011 : (List aA)) : cG SE (C52 Γ γ105 γ106) Λ2 J 52 0 [1, 1, 1, 1, 0] (bA [(5, .ptr 1000000000 0), (11, .row 3011)] [⟨34, (List.map AV.d (aA.enc b0))⟩] [] [] [(3011, ⟨aA.ks, 34, 112, (List.map aA.enc w3011)⟩)]) =
 cond (decide (0 ≤ 0) && decide (0 < (List.length (List.map aA.enc w3011) : Int))) (
 cond (decide (0 ≤ 1) && decide (1 ≤ ((List.length (List.map aA.enc w3011)) : Int))) (
  γ106 [aA.av b0] [] [] fun r4 =>
  cond (decide (0 ≤ (IntKind.wrap .i64 ((List.length (List.take (List.length (List.map aA.enc w3011)) (List.take ((List.length (List.map aA.enc w3011)) - (Int.toNat 1)) (List.drop (Int.toNat 1) (List.map aA.enc w3011))) ++ List.drop (min (List.length (List.take ((List.length (List.map aA.enc w3011)) - (Int.toNat 1)) (List.drop (Int.toNat 1) (List.map aA.enc w3011)))) (List.length (List.map aA.enc w3011))) (List.map aA.enc w3011)) : Int) - 1))) && decide ((IntKind.wrap .i64 ((List.length (List.take (List.length (List.map aA.enc w3011)) (List.take ((List.length (List.map aA.enc w3011)) - (Int.toNat 1)) (List.drop (Int.toNat 1) (List.map aA.enc w3011))) ++ List.drop (min (List.length (List.take ((List.length (List.map aA.enc w3011)) - (Int.toNat 1)) (List.drop (Int.toNat 1) (List.map aA.enc w3011)))) (List.length (List.map aA.enc w3011))) (List.map aA.enc w3011)) : Int) - 1)) < (List.length (List.take (List.length (List.map aA.enc w3011)) (List.take ((List.length (List.map aA.enc w3011)) - (Int.toNat 1)) (List.drop (Int.toNat 1) (List.map aA.enc w3011))) ++ List.drop (min (List.length (List.take ((List.length (List.map aA.enc w3011)) - (Int.toNat 1)) (List.drop (Int.toNat 1) (List.map aA.enc w3011)))) (List.length (List.map aA.enc w3011))) (List.map aA.enc w3011)) : Int))) (
  (some (.ret [.row 0, .row 1, .d (.bool false)] [] [⟨aA.ks, 34, 112, (gN (List.take (List.length (List.map aA.enc w3011)) (List.take ((List.length (List.map aA.enc w3011)) - (Int.toNat 1)) (List.drop (Int.toNat 1) (List.map aA.enc w3011))) ++ List.drop (min (List.length (List.take ((List.length (List.map aA.enc w3011)) - (Int.toNat 1)) (List.drop (Int.toNat 1) (List.map aA.enc w3011)))) (List.length (List.map aA.enc w3011))) (List.map aA.enc w3011)) (Int.toNat (IntKind.wrap .i64 ((List.length (List.take (List.length (List.map aA.enc w3011)) (List.take ((List.length (List.map aA.enc w3011)) - (Int.toNat 1)) (List.drop (Int.toNat 1) (List.map aA.enc w3011))) ++ List.drop (min (List.length (List.take ((List.length (List.map aA.enc w3011)) - (Int.toNat 1)) (List.drop (Int.toNat 1) (List.map aA.enc w3011)))) (List.length (List.map aA.enc w3011))) (List.map aA.enc w3011)) : Int) - 1))) 0 (aA.enc r4))⟩, ⟨aA.ks, 34, 112, [[D.str (aV (cellAt (elemAt (List.map aA.enc w3011) (Int.toNat 0)) 0)), D.str (aV (cellAt (elemAt (List.map aA.enc w3011) (Int.toNat 0)) 1)), D.int .i64 (aL (cellAt (elemAt (List.map aA.enc w3011) (Int.toNat 0)) 2)), D.bool (aY (cellAt (elemAt (List.map aA.enc w3011) (Int.toNat 0)) 3)), D.int .i64 (aL (cellAt (elemAt (List.map aA.enc w3011) (Int.toNat 0)) 4)), D.int .i64 (aL (cellAt (elemAt (List.map aA.enc w3011) (Int.toNat 0)) 5)), D.str (aV (cellAt (elemAt (List.map aA.enc w3011) (Int.toNat 0)) 6)), D.int .i64 (aL (cellAt (elemAt (List.map aA.enc w3011) (Int.toNat 0)) 7)), D.sl aD.ks (dSl (cellAt (elemAt (List.map aA.enc w3011) (Int.toNat 0)) 8))]]⟩]))) none) none) none := by kernel_rfl
end
abbrev X52 : aP := C52 gG (cT 105 kG) (cT 106 iJ)
theorem aph : X52 = aO gG := by unfold X52 C52; rw [aK fun _ h => h, aK fun _ h => h]
noncomputable abbrev are (a0 : (List D)) (a1 : (List (List D))) : Res := ank X52 (bY SE gG (SE.hl 52) (SE.hr 52)) (J0 SE X52) a0 a1
theorem ae7 (b0 : aA) (w3011 : (List aA)) : Le (Option.map iU (yT b0 w3011)) (are (aA.enc b0) (List.map aA.enc w3011)) := by
 refine Le.trans ?_ (le_of_eq ((bC aph).trans (arb _ _ _ _ _  b0 w3011)).symm)
 unfold yT
 refine lG (by simp only [EN]) ?_
 refine lG (by simp only [EN]) ?_
 refine aM (good := good) eX nH (mF _) fun r4 _ => ?_
 refine lG (by simp only [EN]) ?_
 exact aH (by first | rfl | simp only [EN, iU] <;> rfl)
theorem ah1 (p0 : (List aA)) (p1 : aA) (p2 : Int) (p3 : Int) : Le (Option.map iU (acR p0 p1 p2 p3)) (aX SE 52 [.d (.sl aA.ks (List.map aA.enc p0)), aA.av p1, .d (.int .i64 p2), .d (.int .i64 p3)] [] []) := by
 refine aQ aph rfl ?_
 refine Le.trans ?_ (le_of_eq (T52 _ _ _ _ _  p0 p1 p2 p3).symm)
 unfold acR
 refine aM (good := good) eX aga (aho _ _) fun r0 _ => ?_
 refine lD (by simp only [EN]) ?_ ?_
 ·refine aM (good := good) eX nH (mF _) fun r1 _ => ?_
  refine lG (by simp only [EN]) ?_
  exact aH (by first | rfl | simp only [EN, iU] <;> rfl)
 ·refine lC ?_ ?_
  ·refine aM (good := good) eX nH (mF _) fun r2 _ => ?_
   exact aH rfl
  ·refine lC ?_ ?_
   ·refine aM (good := good) eX nH (mF _) fun r3 _ => ?_
    exact aH rfl
   ·exact ae7 p1 r0
def akj (C : aP) (Λ2 J : Lam) (a0 : Int) (a1 : Int) (a2 : (List D)) (a3 : (List D)) (a4 : (List D)) (a5 : Str) (a6 : Str) (a7 : Bool) (a8 : Int) (a9 : Int) (a10 : Int) (a11 : Int) (a12 : Int) (a13 : Int) (a14 : Bool) (a15 : Int) (a16 : Str) (a17 : Str) (a18 : Int) (a19 : Bool) (a20 : Int) (a21 : Int) (a22 : Str) (a23 : Int) (a24 : (List (List D))) (a25 : (List (List D))) (a26 : (List (List D))) (a27 : (List (List D))) (a28 : (List (List D))) (a29 : (List (List D))) : Res := lab SE C Λ2 J 15 0 [1, 1, 1, 0] (bA [(2, .d (.int .i64 a0)), (3, .d (.int .i64 a1)), (4, .ptr 1000000000 0), (5, .ptr 1000000001 0), (8, .ptr 1000000002 0), (10, .ptr 1000000003 0)] [⟨38, (List.map AV.d a2)⟩, ⟨34, (List.map AV.d a3)⟩, ⟨38, (List.map AV.d a4)⟩, ⟨38, [.d (.str a5), .d (.str a6), .d (.bool a7), .d (.int .i64 a8), .d (.int .i64 a9), .d (.int .i64 a10), .d (.int .i64 a11), .row 50307, .row 50308, .d (.int .i64 a12), .row 50310, .row 50311, .d (.int .i64 a13), .row 50313, .d (.bool a14), .d (.int .i64 a15), .d (.str a16), .d (.str a17), .d (.int .i64 a18), .d (.bool a19), .d (.int .i64 a20), .d (.int .i64 a21), .d (.str a22), .d (.int .i64 a23), .row 50324]⟩] [] [] [(50307, ⟨aF.ks, 60, 32, a24⟩), (50308, ⟨aA.ks, 34, 112, a25⟩), (50310, ⟨aB.ks, 122, 128, a26⟩), (50311, ⟨[.int .i64], 3, 8, a27⟩), (50313, ⟨[.int .i64], 3, 8, a28⟩), (50324, ⟨aD.ks, 130, 32, a29⟩)])
section
variable (Γ : Fun) (γ50 : Gm (aC)) (γ51 : Gm (aC)) (γ52 : Gm ((List aA) × (List aA) × Bool)) (Λ2 J : Lam)
def C15 : aP := aZ (aZ (aZ (aO Γ) 50 bS γ50) 51 dB γ51) 52 iU γ52
theorem T15 (p0 : aC) (p1 : aA) (p2 : Int) (p3 : Int) : bB SE (C15 Γ γ50 γ51 γ52) Λ2 J 15 [aC.av p0, aA.av p1, .d (.int .i64 p2), .d (.int .i64 p3)] [] [] =
 γ50 [aC.av p0] [] [] fun r0 =>
 cond (!p0.Online) (
 cond (p1.Level == 0) (
  γ51 [aC.av r0, .d (.int .i64 1)] [] [] fun r1 =>
  (some (.ret [aC.av r1, .d (.bool false)] [] []))) (
 akj (C15 Γ γ50 γ51 γ52) Λ2 J p2 p3 (aC.enc p0) (aA.enc p1) [D.str ([] : Str), D.str ([] : Str), D.bool false, D.int .i64 0, D.int .i64 0, D.int .i64 0, D.int .i64 0, D.sl aF.ks (List.map aF.enc []), D.sl aA.ks (List.map aA.enc []), D.int .i64 0, D.sl aB.ks (List.map aB.enc []), D.sl [.int .i64] (List.map (encI .i64) []), D.int .i64 0, D.sl [.int .i64] (List.map (encI .i64) []), D.bool false, D.int .i64 0, D.str ([] : Str), D.str ([] : Str), D.int .i64 0, D.bool false, D.int .i64 0, D.int .i64 0, D.str ([] : Str), D.int .i64 0, D.sl aD.ks (List.map aD.enc [])] r0.Client r0.User r0.Online r0.Conn r0.Expiry r0.Until r0.Dropped r0.Out.Limit r0.Out.Pool.Last r0.Will.Set r0.Will.Delay r0.Will.Message.Topic r0.Will.Message.Payload r0.Will.Message.Level r0.Will.Message.Retain r0.Will.Message.Priority r0.Will.Message.Expires r0.Will.Message.From r0.Will.Message.Seq (List.map aF.enc r0.Subs) (List.map aA.enc r0.Queue) (List.map aB.enc r0.Out.Items) (List.map (encI .i64) r0.Out.Pool.Used) (List.map (encI .i64) r0.In.IDs) (List.map aD.enc r0.Will.Message.Props))) (
 akj (C15 Γ γ50 γ51 γ52) Λ2 J p2 p3 (aC.enc p0) (aA.enc p1) [D.str ([] : Str), D.str ([] : Str), D.bool false, D.int .i64 0, D.int .i64 0, D.int .i64 0, D.int .i64 0, D.sl aF.ks (List.map aF.enc []), D.sl aA.ks (List.map aA.enc []), D.int .i64 0, D.sl aB.ks (List.map aB.enc []), D.sl [.int .i64] (List.map (encI .i64) []), D.int .i64 0, D.sl [.int .i64] (List.map (encI .i64) []), D.bool false, D.int .i64 0, D.str ([] : Str), D.str ([] : Str), D.int .i64 0, D.bool false, D.int .i64 0, D.int .i64 0, D.str ([] : Str), D.int .i64 0, D.sl aD.ks (List.map aD.enc [])] r0.Client r0.User r0.Online r0.Conn r0.Expiry r0.Until r0.Dropped r0.Out.Limit r0.Out.Pool.Last r0.Will.Set r0.Will.Delay r0.Will.Message.Topic r0.Will.Message.Payload r0.Will.Message.Level r0.Will.Message.Retain r0.Will.Message.Priority r0.Will.Message.Expires r0.Will.Message.From r0.Will.Message.Seq (List.map aF.enc r0.Subs) (List.map aA.enc r0.Queue) (List.map aB.enc r0.Out.Items) (List.map (encI .i64) r0.Out.Pool.Used) (List.map (encI .i64) r0.In.IDs) (List.map aD.enc r0.Will.Message.Props)) := by kernel_rfl
theorem arz (x2 : Int) (x3 : Int) (b0 : aC) (b1 : aA) (b2 : aC) (b3_0 : Str) (b3_1 : Str) (b3_2 : Bool) (b3_3 : Int) (b3_4 : Int) (b3_5 : Int) (b3_6 : Int) (b3_9 : Int) (b3_12 : Int) (b3_14 : Bool) (b3_15 : Int) (b3_16 : Str) (b3_17 : Str) (b3_18 : Int) (b3_19 : Bool) (b3_20 : Int) (b3_21 : Int) (b3_22 : Str) (b3_23 : Int) (w50307 : (List aF)) (w50308 : (List aA)) (w50310 : (List aB)) (w50311 : (List Int)) (w50313 : (List Int)) (w50324 : (List aD)) : cG SE (C15 Γ γ50 γ51 γ52) Λ2 J 15 0 [1, 1, 1, 0] (bA [(2, .d (.int .i64 x2)), (3, .d (.int .i64 x3)), (4, .ptr 1000000000 0), (5, .ptr 1000000001 0), (8, .ptr 1000000002 0), (10, .ptr 1000000003 0)] [⟨38, (List.map AV.d (aC.enc b0))⟩, ⟨34, (List.map AV.d (aA.enc b1))⟩, ⟨38, (List.map AV.d (aC.enc b2))⟩, ⟨38, [.d (.str b3_0), .d (.str b3_1), .d (.bool b3_2), .d (.int .i64 b3_3), .d (.int .i64 b3_4), .d (.int .i64 b3_5), .d (.int .i64 b3_6), .row 50307, .row 50308, .d (.int .i64 b3_9), .row 50310, .row 50311, .d (.int .i64 b3_12), .row 50313, .d (.bool b3_14), .d (.int .i64 b3_15), .d (.str b3_16), .d (.str b3_17), .d (.int .i64 b3_18), .d (.bool b3_19), .d (.int .i64 b3_20), .d (.int .i64 b3_21), .d (.str b3_22), .d (.int .i64 b3_23), .row 50324]⟩] [] [] [(50307, ⟨aF.ks, 60, 32, (List.map aF.enc w50307)⟩), (50308, ⟨aA.ks, 34, 112, (List.map aA.enc w50308)⟩), (50310, ⟨aB.ks, 122, 128, (List.map aB.enc w50310)⟩), (50311, ⟨[.int .i64], 3, 8, (List.map (encI .i64) w50311)⟩), (50313, ⟨[.int .i64], 3, 8, (List.map (encI .i64) w50313)⟩), (50324, ⟨aD.ks, 130, 32, (List.map aD.enc w50324)⟩)]) =
 γ52 [.d (.sl aA.ks (List.map aA.enc w50308)), aA.av b1, .d (.int .i64 (if 256 < x2 then 256 else x2)), .d (.int .i64 x3)] [] [] fun r2 =>
 γ51 [aC.av (aC.mk b3_0 b3_1 b3_2 b3_3 b3_4 b3_5 b3_6 w50307 r2.1 (aG.mk b3_9 w50310 (aJ.mk w50311 b3_12)) (aU.mk w50313) (aN.mk b3_14 b3_15 (aA.mk b3_16 b3_17 b3_18 b3_19 b3_20 b3_21 b3_22 b3_23 w50324))), .d (.int .i64 (List.length (List.map aA.enc r2.2.1) : Int))] [] [] fun r3 =>
 cond r2.2.2 (
 (some (.ret [aC.av r3, .d (.bool b0.Online)] [] []))) (
 (some (.ret [aC.av r3, .d (.bool false)] [] []))) := by kernel_rfl
end
abbrev X15 : aP := C15 gG (cT 50 bS) (cT 51 dB) (cT 52 iU)
theorem apR : X15 = aO gG := by unfold X15 C15; rw [aK fun _ h => h, aK fun _ h => h, aK fun _ h => h]
noncomputable abbrev arG (a0 : Int) (a1 : Int) (a2 : (List D)) (a3 : (List D)) (a4 : (List D)) (a5 : Str) (a6 : Str) (a7 : Bool) (a8 : Int) (a9 : Int) (a10 : Int) (a11 : Int) (a12 : Int) (a13 : Int) (a14 : Bool) (a15 : Int) (a16 : Str) (a17 : Str) (a18 : Int) (a19 : Bool) (a20 : Int) (a21 : Int) (a22 : Str) (a23 : Int) (a24 : (List (List D))) (a25 : (List (List D))) (a26 : (List (List D))) (a27 : (List (List D))) (a28 : (List (List D))) (a29 : (List (List D))) : Res := akj X15 (bY SE gG (SE.hl 15) (SE.hr 15)) (J0 SE X15) a0 a1 a2 a3 a4 a5 a6 a7 a8 a9 a10 a11 a12 a13 a14 a15 a16 a17 a18 a19 a20 a21 a22 a23 a24 a25 a26 a27 a28 a29
theorem mW (x2 : Int) (x3 : Int) (b0 : aC) (b1 : aA) (b2 : aC) (b3_0 : Str) (b3_1 : Str) (b3_2 : Bool) (b3_3 : Int) (b3_4 : Int) (b3_5 : Int) (b3_6 : Int) (b3_9 : Int) (b3_12 : Int) (b3_14 : Bool) (b3_15 : Int) (b3_16 : Str) (b3_17 : Str) (b3_18 : Int) (b3_19 : Bool) (b3_20 : Int) (b3_21 : Int) (b3_22 : Str) (b3_23 : Int) (w50307 : (List aF)) (w50308 : (List aA)) (w50310 : (List aB)) (w50311 : (List Int)) (w50313 : (List Int)) (w50324 : (List aD)) : Le (Option.map iH (oY x2 x3 b0 b1 b2 b3_0 b3_1 b3_2 b3_3 b3_4 b3_5 b3_6 b3_9 b3_12 b3_14 b3_15 b3_16 b3_17 b3_18 b3_19 b3_20 b3_21 b3_22 b3_23 w50307 w50308 w50310 w50311 w50313 w50324)) (arG x2 x3 (aC.enc b0) (aA.enc b1) (aC.enc b2) b3_0 b3_1 b3_2 b3_3 b3_4 b3_5 b3_6 b3_9 b3_12 b3_14 b3_15 b3_16 b3_17 b3_18 b3_19 b3_20 b3_21 b3_22 b3_23 (List.map aF.enc w50307) (List.map aA.enc w50308) (List.map aB.enc w50310) (List.map (encI .i64) w50311) (List.map (encI .i64) w50313) (List.map aD.enc w50324)) := by
 refine Le.trans ?_ (le_of_eq ((bC apR).trans (arz _ _ _ _ _ _  x2 x3 b0 b1 b2 b3_0 b3_1 b3_2 b3_3 b3_4 b3_5 b3_6 b3_9 b3_12 b3_14 b3_15 b3_16 b3_17 b3_18 b3_19 b3_20 b3_21 b3_22 b3_23 w50307 w50308 w50310 w50311 w50313 w50324)).symm)
 unfold oY
 refine aM (good := good) eX ahr (ah1 _ _ _ _) fun r2 _ => ?_
 refine aM (good := good) eX mU (by first | (simp only [EN]; exact jA ((aC.mk b3_0 b3_1 b3_2 b3_3 b3_4 b3_5 b3_6 w50307 r2.1 (aG.mk b3_9 w50310 (aJ.mk w50311 b3_12)) (aU.mk w50313) (aN.mk b3_14 b3_15 (aA.mk b3_16 b3_17 b3_18 b3_19 b3_20 b3_21 b3_22 b3_23 w50324)))) (List.length r2.2.1 : Int)) | exact jA ((aC.mk b3_0 b3_1 b3_2 b3_3 b3_4 b3_5 b3_6 w50307 r2.1 (aG.mk b3_9 w50310 (aJ.mk w50311 b3_12)) (aU.mk w50313) (aN.mk b3_14 b3_15 (aA.mk b3_16 b3_17 b3_18 b3_19 b3_20 b3_21 b3_22 b3_23 w50324)))) (List.length r2.2.1 : Int)) fun r3 _ => ?_
 refine lC ?_ ?_
 ·exact aH rfl
 ·exact aH rfl
theorem oV (p0 : aC) (p1 : aA) (p2 : Int) (p3 : Int) : Le (Option.map iH (rL p0 p1 p2 p3)) (aX SE 15 [aC.av p0, aA.av p1, .d (.int .i64 p2), .d (.int .i64 p3)] [] []) := by
 refine aQ apR rfl ?_
 refine Le.trans ?_ (le_of_eq (T15 _ _ _ _ _ _  p0 p1 p2 p3).symm)
 unfold rL
 refine aM (good := good) eX iD (iW _) fun r0 _ => ?_
 refine lC ?_ ?_
 ·refine lC ?_ ?_
  ·refine aM (good := good) eX mU (jA _ _) fun r1 _ => ?_
   exact aH rfl
  ·first | (simp only [EN]; exact mW p2 p3 p0 p1 ((aC.mk ([] : Str) ([] : Str) false 0 0 0 0 ([] : List aF) ([] : List aA) (aG.mk 0 ([] : List aB) (aJ.mk ([] : List Int) 0)) (aU.mk ([] : List Int)) (aN.mk false 0 (aA.mk ([] : Str) ([] : Str) 0 false 0 0 ([] : Str) 0 ([] : List aD))))) r0.Client r0.User r0.Online r0.Conn r0.Expiry r0.Until r0.Dropped r0.Out.Limit r0.Out.Pool.Last r0.Will.Set r0.Will.Delay r0.Will.Message.Topic r0.Will.Message.Payload r0.Will.Message.Level r0.Will.Message.Retain r0.Will.Message.Priority r0.Will.Message.Expires r0.Will.Message.From r0.Will.Message.Seq r0.Subs r0.Queue r0.Out.Items r0.Out.Pool.Used r0.In.IDs r0.Will.Message.Props) | exact mW p2 p3 p0 p1 ((aC.mk ([] : Str) ([] : Str) false 0 0 0 0 ([] : List aF) ([] : List aA) (aG.mk 0 ([] : List aB) (aJ.mk ([] : List Int) 0)) (aU.mk ([] : List Int)) (aN.mk false 0 (aA.mk ([] : Str) ([] : Str) 0 false 0 0 ([] : Str) 0 ([] : List aD))))) r0.Client r0.User r0.Online r0.Conn r0.Expiry r0.Until r0.Dropped r0.Out.Limit r0.Out.Pool.Last r0.Will.Set r0.Will.Delay r0.Will.Message.Topic r0.Will.Message.Payload r0.Will.Message.Level r0.Will.Message.Retain r0.Will.Message.Priority r0.Will.Message.Expires r0.Will.Message.From r0.Will.Message.Seq r0.Subs r0.Queue r0.Out.Items r0.Out.Pool.Used r0.In.IDs r0.Will.Message.Props
 ·first | (simp only [EN]; exact mW p2 p3 p0 p1 ((aC.mk ([] : Str) ([] : Str) false 0 0 0 0 ([] : List aF) ([] : List aA) (aG.mk 0 ([] : List aB) (aJ.mk ([] : List Int) 0)) (aU.mk ([] : List Int)) (aN.mk false 0 (aA.mk ([] : Str) ([] : Str) 0 false 0 0 ([] : Str) 0 ([] : List aD))))) r0.Client r0.User r0.Online r0.Conn r0.Expiry r0.Until r0.Dropped r0.Out.Limit r0.Out.Pool.Last r0.Will.Set r0.Will.Delay r0.Will.Message.Topic r0.Will.Message.Payload r0.Will.Message.Level r0.Will.Message.Retain r0.Will.Message.Priority r0.Will.Message.Expires r0.Will.Message.From r0.Will.Message.Seq r0.Subs r0.Queue r0.Out.Items r0.Out.Pool.Used r0.In.IDs r0.Will.Message.Props) | exact mW p2 p3 p0 p1 ((aC.mk ([] : Str) ([] : Str) false 0 0 0 0 ([] : List aF) ([] : List aA) (aG.mk 0 ([] : List aB) (aJ.mk ([] : List Int) 0)) (aU.mk ([] : List Int)) (aN.mk false 0 (aA.mk ([] : Str) ([] : Str) 0 false 0 0 ([] : Str) 0 ([] : List aD))))) r0.Client r0.User r0.Online r0.Conn r0.Expiry r0.Until r0.Dropped r0.Out.Limit r0.Out.Pool.Last r0.Will.Set r0.Will.Delay r0.Will.Message.Topic r0.Will.Message.Payload r0.Will.Message.Level r0.Will.Message.Retain r0.Will.Message.Priority r0.Will.Message.Expires r0.Will.Message.From r0.Will.Message.Seq r0.Subs r0.Queue r0.Out.Items r0.Out.Pool.Used r0.In.IDs r0.Will.Message.Props
section
variable (Γ : Fun)  (Λ2 J : Lam)
def aoj : aP := aO Γ
theorem auc (p0 : aA) (p1 : Int) : bB SE (aoj Γ) Λ2 J 113 [aA.av p0, .d (.int .i64 p1)] [] [] =
 cond (p0.Expires != 0) (
 (some (.ret [.d (.bool (decide (p1 ≥ p0.Expires)))] [] []))) (
 (some (.ret [.d (.bool false)] [] []))) := by kernel_rfl
end
abbrev as5 : aP := aoj gG
theorem aqH : as5 = aO gG := rfl
theorem vK (p0 : aA) (p1 : Int) : Le (Option.map iL (sN p0 p1)) (aX SE 113 [aA.av p0, .d (.int .i64 p1)] [] []) := by
 refine aQ aqH rfl ?_
 refine Le.trans ?_ (le_of_eq (auc _ _ _  p0 p1).symm)
 unfold sN
 refine lC ?_ ?_
 ·exact aH rfl
 ·exact aH rfl
section
variable (Γ : Fun)  (Λ2 J : Lam)
def ao5 : aP := aO Γ
theorem atP (p0 : aG) : bB SE (ao5 Γ) Λ2 J 156 [aG.av p0] [] [] =
 (some (.ret [.d (.int .i64 (if 0 > (IntKind.wrap .i64 (p0.Limit - (List.length (List.map aB.enc p0.Items) : Int))) then 0 else (IntKind.wrap .i64 (p0.Limit - (List.length (List.map aB.enc p0.Items) : Int)))))] [] [])) := by kernel_rfl
end
abbrev atS : aP := ao5 gG
theorem arE : atS = aO gG := rfl
theorem aep (p0 : aG) : Le (Option.map iB (v5 p0)) (aX SE 156 [aG.av p0] [] []) := by
 refine aQ arE rfl ?_
 refine Le.trans ?_ (le_of_eq (atP _ _ _  p0).symm)
 unfold v5
 exact aH (by first | rfl | simp only [EN, iB] <;> rfl)
def aii (C : aP) (Λ2 J : Lam) (a0 : Str) (a1 : Nat) : Res := lab SE C Λ2 J 169 0 [1, 1, 0, 1, 0] (bA [(9, .it 4000)] [] [] [(4000, (a0, a1))] [])
section
variable (Γ : Fun) (γ161 : Gm (Bool)) (Λ2 J : Lam)
def af9 : aP := aZ (aO Γ) 161 fC γ161
theorem atZ (p0 : Str) : bB SE (af9 Γ γ161) Λ2 J 169 [.d (.str p0)] [] [] =
 γ161 [.d (.str p0)] [] [] fun r0 =>
 cond (!r0) (
 (some (.ret [.d (.bool false)] [] []))) (
 aii (af9 Γ γ161) Λ2 J p0 0) := by kernel_rfl
theorem aoI (s4000 : Str) (i4000 : Nat) : cG SE (af9 Γ γ161) Λ2 J 169 0 [1, 1, 0, 1, 0] (bA [(9, .it 4000)] [] [] [(4000, (s4000, i4000))] []) =
 cond (decide (i4000 < List.length s4000)) (
 cond (((dec s4000 i4000).1 : Int) == 43) (
  (some (.ret [.d (.bool false)] [] []))) (
 cond (((dec s4000 i4000).1 : Int) == 35) (
  (some (.ret [.d (.bool false)] [] []))) (
 aii (af9 Γ γ161) Λ2 J s4000 (i4000 + (dec s4000 i4000).2)))) (
 (some (.ret [.d (.bool true)] [] []))) := by kernel_rfl
end
abbrev akn : aP := af9 gG (cT 161 fC)
theorem anA : akn = aO gG := by unfold akn af9; rw [aK fun _ h => h]
noncomputable abbrev aoT (a0 : Str) (a1 : Nat) : Res := aii akn (bY SE gG (SE.hl 169) (SE.hr 169)) (J0 SE akn) a0 a1
theorem adX : ∀ (fu : Nat) (s4000 : Str) (i4000 : Nat), Le (Option.map jR (qH fu s4000 i4000)) (aoT s4000 i4000) := by
 intro fu
 induction fu with
 | zero => intros; exact le_none
 | succ fu ih =>
  intro s4000 i4000
  refine Le.trans ?_ (le_of_eq ((bC anA).trans (aoI _ _ _ _  s4000 i4000)).symm)
  unfold qH
  refine lC ?_ ?_
  ·refine lC ?_ ?_
   ·exact aH rfl
   ·refine lC ?_ ?_
    ·exact aH rfl
    ·exact ih s4000 (i4000 + (dec s4000 i4000).2)
  ·exact aH rfl
theorem agf (p0 : Str) : Le (Option.map jR (aar p0)) (aX SE 169 [.d (.str p0)] [] []) := by
 refine aQ anA rfl ?_
 refine Le.trans ?_ (le_of_eq (atZ _ _ _ _  p0).symm)
 unfold aar
 refine aM (good := good) eX zL (aa4 _) fun r0 _ => ?_
 refine lC ?_ ?_
 ·exact aH rfl
 ·exact adX fuel p0 0
section
variable (Γ : Fun)  (Λ2 J : Lam)
def apm : aP := aO Γ
theorem ati (p0 : Int) (p1 : Int) : bB SE (apm Γ) Λ2 J 170 [.d (.int .i64 p0), .d (.int .i64 p1)] [] [] =
 cond (decide (p0 ≥ 0)) (
 (some (.ret [.d (.bool (decide (p0 ≤ p1)))] [] []))) (
 (some (.ret [.d (.bool false)] [] []))) := by kernel_rfl
end
abbrev asr : aP := apm gG
theorem asa : asr = aO gG := rfl
theorem o0 (p0 : Int) (p1 : Int) : Le (Option.map mE (oW p0 p1)) (aX SE 170 [.d (.int .i64 p0), .d (.int .i64 p1)] [] []) := by
 refine aQ asa rfl ?_
 refine Le.trans ?_ (le_of_eq (ati _ _ _  p0 p1).symm)
 unfold oW
 refine lC ?_ ?_
 ·exact aH rfl
 ·exact aH rfl
def tE (C : aP) (Λ2 J : Lam) (a0 : Str) (a1 : Int) : Res := lab SE C Λ2 J 184 0 [1, 1, 0, 1, 0] (bA [(0, .d (.str a0)), (3, .d (.int .i64 a1))] [] [] [] [])
def alu (C : aP) (Λ2 J : Lam) (a0 : Str) : Res := lab SE C Λ2 J 184 0 [1, 1, 0, 0] (bA [(0, .d (.str a0))] [] [] [] [])
section
variable (Γ : Fun)  (Λ2 J : Lam)
def uL : aP := aO Γ
theorem aua (p0 : Str) : bB SE (uL Γ) Λ2 J 184 [.d (.str p0)] [] [] =
 cond (decide ((List.length p0 : Int) < 1)) (
 (some (.ret [.d (.bool false)] [] []))) (
 cond (decide ((List.length p0 : Int) > 16)) (
 (some (.ret [.d (.bool false)] [] []))) (
 alu (uL Γ) Λ2 J p0)) := by kernel_rfl
theorem aoV (x0 : Str) (x3 : Int) : cG SE (uL Γ) Λ2 J 184 0 [1, 1, 0, 1, 0] (bA [(0, .d (.str x0)), (3, .d (.int .i64 x3))] [] [] [] []) =
 cond (decide (x3 < (List.length x0 : Int))) (
 cond (decide (0 ≤ x3) && decide (x3 < (List.length x0 : Int))) (
  cond (decide ((UInt8.toNat (List.getD x0 (Int.toNat x3) 0) : Int) < 97)) (
  cond (decide ((UInt8.toNat (List.getD x0 (Int.toNat x3) 0) : Int) < 48)) (
   cond ((UInt8.toNat (List.getD x0 (Int.toNat x3) 0) : Int) != 45) (
   (some (.ret [.d (.bool false)] [] []))) (
   tE (uL Γ) Λ2 J x0 (IntKind.wrap .i64 (x3 + 1)))) (
  cond (decide ((UInt8.toNat (List.getD x0 (Int.toNat x3) 0) : Int) > 57)) (
   cond ((UInt8.toNat (List.getD x0 (Int.toNat x3) 0) : Int) != 45) (
   (some (.ret [.d (.bool false)] [] []))) (
   tE (uL Γ) Λ2 J x0 (IntKind.wrap .i64 (x3 + 1)))) (
  tE (uL Γ) Λ2 J x0 (IntKind.wrap .i64 (x3 + 1))))) (
  cond (decide ((UInt8.toNat (List.getD x0 (Int.toNat x3) 0) : Int) > 122)) (
  cond (decide ((UInt8.toNat (List.getD x0 (Int.toNat x3) 0) : Int) < 48)) (
   cond ((UInt8.toNat (List.getD x0 (Int.toNat x3) 0) : Int) != 45) (
   (some (.ret [.d (.bool false)] [] []))) (
   tE (uL Γ) Λ2 J x0 (IntKind.wrap .i64 (x3 + 1)))) (
  cond (decide ((UInt8.toNat (List.getD x0 (Int.toNat x3) 0) : Int) > 57)) (
   cond ((UInt8.toNat (List.getD x0 (Int.toNat x3) 0) : Int) != 45) (
   (some (.ret [.d (.bool false)] [] []))) (
   tE (uL Γ) Λ2 J x0 (IntKind.wrap .i64 (x3 + 1)))) (
  tE (uL Γ) Λ2 J x0 (IntKind.wrap .i64 (x3 + 1))))) (
  tE (uL Γ) Λ2 J x0 (IntKind.wrap .i64 (x3 + 1))))) none) (
 (some (.ret [.d (.bool true)] [] []))) := by kernel_rfl
theorem aoR (x0 : Str) : cG SE (uL Γ) Λ2 J 184 0 [1, 1, 0, 0] (bA [(0, .d (.str x0))] [] [] [] []) =
 tE (uL Γ) Λ2 J x0 0 := by kernel_rfl
end
abbrev aiU : aP := uL gG
theorem akd : aiU = aO gG := rfl
noncomputable abbrev aom (a0 : Str) (a1 : Int) : Res := tE aiU (bY SE gG (SE.hl 184) (SE.hr 184)) (J0 SE aiU) a0 a1
noncomputable abbrev apc (a0 : Str) : Res := alu aiU (bY SE gG (SE.hl 184) (SE.hr 184)) (J0 SE aiU) a0
theorem adV : ∀ (fu : Nat) (x0 : Str) (x3 : Int), Le (Option.map iI (fU fu x0 x3)) (aom x0 x3) := by
 intro fu
 induction fu with
 | zero => intros; exact le_none
 | succ fu ih =>
  intro x0 x3
  refine Le.trans ?_ (le_of_eq ((bC akd).trans (aoV _ _ _  x0 x3)).symm)
  unfold fU
  refine lC ?_ ?_
  ·refine lF ?_
   refine lC ?_ ?_
   ·refine lC ?_ ?_
    ·refine lC ?_ ?_
     ·exact aH rfl
     ·exact ih x0 (IntKind.wrap .i64 (x3 + 1))
    ·refine lC ?_ ?_
     ·refine lC ?_ ?_
      ·exact aH rfl
      ·exact ih x0 (IntKind.wrap .i64 (x3 + 1))
     ·exact ih x0 (IntKind.wrap .i64 (x3 + 1))
   ·refine lC ?_ ?_
    ·refine lC ?_ ?_
     ·refine lC ?_ ?_
      ·exact aH rfl
      ·exact ih x0 (IntKind.wrap .i64 (x3 + 1))
     ·refine lC ?_ ?_
      ·refine lC ?_ ?_
       ·exact aH rfl
       ·exact ih x0 (IntKind.wrap .i64 (x3 + 1))
      ·exact ih x0 (IntKind.wrap .i64 (x3 + 1))
    ·exact ih x0 (IntKind.wrap .i64 (x3 + 1))
  ·exact aH rfl
theorem ad2 (x0 : Str) : Le (Option.map iI (tW x0)) (apc x0) := by
 refine Le.trans ?_ (le_of_eq ((bC akd).trans (aoR _ _ _  x0)).symm)
 unfold tW
 exact adV fuel x0 0
theorem abe (p0 : Str) : Le (Option.map iI (aaa p0)) (aX SE 184 [.d (.str p0)] [] []) := by
 refine aQ akd rfl ?_
 refine Le.trans ?_ (le_of_eq (aua _ _ _  p0).symm)
 unfold aaa
 refine lC ?_ ?_
 ·exact aH rfl
 ·refine lC ?_ ?_
  ·exact aH rfl
  ·exact ad2 p0
def afV (C : aP) (Λ2 J : Lam) (a0 : (List (List D))) (a1 : (List (List D))) (a2 : Int) (a3 : Int) : Res := lab SE C Λ2 J 171 0 [1, 1, 0, 1, 0] (bA [(0, .d (.sl aD.ks a0)), (8, .d (.sl aD.ks a1)), (9, .d (.int .i64 a2)), (10, .d (.int .i64 a3))] [] [] [] [])
section
variable (Γ : Fun) (γ184 : Gm (Bool)) (Λ2 J : Lam)
def aev : aP := aZ (aO Γ) 184 iI γ184
theorem atq (p0 : (List aD)) : bB SE (aev Γ γ184) Λ2 J 171 [.d (.sl aD.ks (List.map aD.enc p0))] [] [] =
 cond (decide ((List.length (List.map aD.enc p0) : Int) > 8)) (
 (some (.ret [.d (.int .i64 5)] [] []))) (
 afV (aev Γ γ184) Λ2 J (List.map aD.enc p0) (List.map aD.enc p0) (List.length (List.map aD.enc p0) : Int) 0) := by kernel_rfl
theorem aqh (x0 : (List aD)) (x8 : (List aD)) (x9 : Int) (x10 : Int) : cG SE (aev Γ γ184) Λ2 J 171 0 [1, 1, 0, 1, 0] (bA [(0, .d (.sl aD.ks (List.map aD.enc x0))), (8, .d (.sl aD.ks (List.map aD.enc x8))), (9, .d (.int .i64 x9)), (10, .d (.int .i64 x10))] [] [] [] []) =
 cond (decide (x10 < x9)) (
 cond (decide (0 ≤ x10) && decide (x10 < (List.length (List.map aD.enc x8) : Int))) (
  γ184 [.d (.str (aV (cellAt (elemAt (List.map aD.enc x8) (Int.toNat x10)) 0)))] [] [] fun r0 =>
  cond (!r0) (
  (some (.ret [.d (.int .i64 16)] [] []))) (
  cond (decide ((List.length (aV (cellAt (elemAt (List.map aD.enc x8) (Int.toNat x10)) 1)) : Int) > 160)) (
  (some (.ret [.d (.int .i64 5)] [] []))) (
  cond (decide (x10 > 0)) (
  cond (decide (0 ≤ (IntKind.wrap .i64 (x10 - 1))) && decide ((IntKind.wrap .i64 (x10 - 1)) < (List.length (List.map aD.enc x0) : Int))) (
   cond (Op.bytesLess (aV (cellAt (elemAt (List.map aD.enc x8) (Int.toNat x10)) 0)) (aV (cellAt (elemAt (List.map aD.enc x0) (Int.toNat (IntKind.wrap .i64 (x10 - 1)))) 0)) || (aV (cellAt (elemAt (List.map aD.enc x8) (Int.toNat x10)) 0)) == (aV (cellAt (elemAt (List.map aD.enc x0) (Int.toNat (IntKind.wrap .i64 (x10 - 1)))) 0))) (
   (some (.ret [.d (.int .i64 16)] [] []))) (
   afV (aev Γ γ184) Λ2 J (List.map aD.enc x0) (List.map aD.enc x8) x9 (IntKind.wrap .i64 (x10 + 1)))) none) (
  afV (aev Γ γ184) Λ2 J (List.map aD.enc x0) (List.map aD.enc x8) x9 (IntKind.wrap .i64 (x10 + 1)))))) none) (
 (some (.ret [.d (.int .i64 0)] [] []))) := by kernel_rfl
end
abbrev ajL : aP := aev gG (cT 184 iI)
theorem ang : ajL = aO gG := by unfold ajL aev; rw [aK fun _ h => h]
noncomputable abbrev aog (a0 : (List (List D))) (a1 : (List (List D))) (a2 : Int) (a3 : Int) : Res := afV ajL (bY SE gG (SE.hl 171) (SE.hr 171)) (J0 SE ajL) a0 a1 a2 a3
theorem tQ : ∀ (fu : Nat) (x0 : (List aD)) (x8 : (List aD)) (x9 : Int) (x10 : Int), Le (Option.map iG (mM fu x0 x8 x9 x10)) (aog (List.map aD.enc x0) (List.map aD.enc x8) x9 x10) := by
 intro fu
 induction fu with
 | zero => intros; exact le_none
 | succ fu ih =>
  intro x0 x8 x9 x10
  refine Le.trans ?_ (le_of_eq ((bC ang).trans (aqh _ _ _ _  x0 x8 x9 x10)).symm)
  unfold mM
  refine lC ?_ ?_
  ·refine lG (by simp only [EN]) ?_
   refine aM (good := good) eX afr (by first | (simp only [EN]; exact abe ((List.getD x8 (Int.toNat x10) default).Key)) | exact abe ((List.getD x8 (Int.toNat x10) default).Key)) fun r0 _ => ?_
   refine lC ?_ ?_
   ·exact aH rfl
   ·refine lD (by simp only [EN]) ?_ ?_
    ·exact aH rfl
    ·refine lC ?_ ?_
     ·refine lG (by simp only [EN]) ?_
      refine lD (by simp only [EN]) ?_ ?_
      ·exact aH rfl
      ·exact ih x0 x8 x9 (IntKind.wrap .i64 (x10 + 1))
     ·exact ih x0 x8 x9 (IntKind.wrap .i64 (x10 + 1))
  ·exact aH rfl
theorem xT (p0 : (List aD)) : Le (Option.map iG (rM p0)) (aX SE 171 [.d (.sl aD.ks (List.map aD.enc p0))] [] []) := by
 refine aQ ang rfl ?_
 refine Le.trans ?_ (le_of_eq (atq _ _ _ _  p0).symm)
 unfold rM
 refine lD (by simp only [EN]) ?_ ?_
 ·exact aH rfl
 ·first | (simp only [EN]; exact tQ fuel p0 p0 (List.length p0 : Int) 0) | exact tQ fuel p0 p0 (List.length p0 : Int) 0
section
variable (Γ : Fun) (γ169 : Gm (Bool)) (γ170 : Gm (Bool)) (γ139 : Gm (Bool)) (γ171 : Gm (Int)) (Λ2 J : Lam)
def amP : aP := aZ (aZ (aZ (aZ (aO Γ) 169 jR γ169) 170 mE γ170) 139 eF γ139) 171 iG γ171
theorem atv (p0 : aA) : bB SE (amP Γ γ169 γ170 γ139 γ171) Λ2 J 141 [aA.av p0] [] [] =
 γ169 [.d (.str p0.Topic)] [] [] fun r0 =>
 cond (!r0) (
 (some (.ret [.d (.int .i64 12)] [] []))) (
 cond (decide ((List.length p0.Payload : Int) > 256)) (
 (some (.ret [.d (.int .i64 5)] [] []))) (
 γ170 [.d (.int .i64 p0.Level), .d (.int .i64 2)] [] [] fun r1 =>
 cond (!r1) (
 (some (.ret [.d (.int .i64 14)] [] []))) (
 γ170 [.d (.int .i64 p0.Priority), .d (.int .i64 9)] [] [] fun r2 =>
 cond (!r2) (
 (some (.ret [.d (.int .i64 1)] [] []))) (
 γ170 [.d (.int .i64 p0.Expires), .d (.int .i64 1099511627776)] [] [] fun r3 =>
 cond (!r3) (
 (some (.ret [.d (.int .i64 1)] [] []))) (
 cond (!(p0.From == ([] : Str))) (
 γ139 [.d (.str p0.From)] [] [] fun r4 =>
 cond (!r4) (
  (some (.ret [.d (.int .i64 11)] [] []))) (
 γ170 [.d (.int .i64 p0.Seq), .d (.int .i64 1099511627776)] [] [] fun r5 =>
 cond (!r5) (
  (some (.ret [.d (.int .i64 1)] [] []))) (
 γ171 [.d (.sl aD.ks (List.map aD.enc p0.Props))] [] [] fun r6 =>
 (some (.ret [.d (.int .i64 r6)] [] []))))) (
 γ170 [.d (.int .i64 p0.Seq), .d (.int .i64 1099511627776)] [] [] fun r7 =>
 cond (!r7) (
 (some (.ret [.d (.int .i64 1)] [] []))) (
 γ171 [.d (.sl aD.ks (List.map aD.enc p0.Props))] [] [] fun r8 =>
 (some (.ret [.d (.int .i64 r8)] [] []))))))))) := by kernel_rfl
end
abbrev apf : aP := amP gG (cT 169 jR) (cT 170 mE) (cT 139 eF) (cT 171 iG)
theorem aqz : apf = aO gG := by unfold apf amP; rw [aK fun _ h => h, aK fun _ h => h, aK fun _ h => h, aK fun _ h => h]
theorem aeL (p0 : aA) : Le (Option.map jV (v7 p0)) (aX SE 141 [aA.av p0] [] []) := by
 refine aQ aqz rfl ?_
 refine Le.trans ?_ (le_of_eq (atv _ _ _ _ _ _ _  p0).symm)
 unfold v7
 refine aM (good := good) eX afT (agf _) fun r0 _ => ?_
 refine lC ?_ ?_
 ·exact aH rfl
 ·refine lC ?_ ?_
  ·exact aH rfl
  ·refine aM (good := good) eX n7 (o0 _ _) fun r1 _ => ?_
   refine lC ?_ ?_
   ·exact aH rfl
   ·refine aM (good := good) eX n7 (o0 _ _) fun r2 _ => ?_
    refine lC ?_ ?_
    ·exact aH rfl
    ·refine aM (good := good) eX n7 (o0 _ _) fun r3 _ => ?_
     refine lC ?_ ?_
     ·exact aH rfl
     ·refine lC ?_ ?_
      ·refine aM (good := good) eX aa5 (acq _) fun r4 _ => ?_
       refine lC ?_ ?_
       ·exact aH rfl
       ·refine aM (good := good) eX n7 (o0 _ _) fun r5 _ => ?_
        refine lC ?_ ?_
        ·exact aH rfl
        ·refine aM (good := good) eX wL (xT _) fun r6 _ => ?_
         exact aH rfl
      ·refine aM (good := good) eX n7 (o0 _ _) fun r7 _ => ?_
       refine lC ?_ ?_
       ·exact aH rfl
       ·refine aM (good := good) eX wL (xT _) fun r8 _ => ?_
        exact aH rfl
section
variable (Γ : Fun)  (Λ2 J : Lam)
def apt : aP := aO Γ
theorem asw (p0 : Int) : bB SE (apt Γ) Λ2 J 177 [.d (.int .i64 p0)] [] [] =
 (some (.ret [.d (.int .i64 (IntKind.wrap .i64 ((Int.tmod p0 65535) + 1)))] [] [])) := by kernel_rfl
end
abbrev asA : aP := apt gG
theorem arL : asA = aO gG := rfl
theorem ahs (p0 : Int) : Le (Option.map mD (ab6 p0)) (aX SE 177 [.d (.int .i64 p0)] [] []) := by
 refine aQ arL rfl ?_
 refine Le.trans ?_ (le_of_eq (asw _ _ _  p0).symm)
 unfold ab6
 exact aH rfl
section
variable (Γ : Fun)  (Λ2 J : Lam)
def aoB : aP := aO Γ
theorem atg (p0 : Int) : bB SE (aoB Γ) Λ2 J 191 [.d (.int .i64 p0)] [] [] =
 (some (.ret [.d (.bool (p0 != p0))] [] [])) := by kernel_rfl
end
abbrev as6 : aP := aoB gG
theorem aq3 : as6 = aO gG := rfl
theorem wM (p0 : Int) : Le (Option.map jG (qJ p0)) (aX SE 191 [.d (.int .i64 p0)] [] []) := by
 refine aQ aq3 rfl ?_
 refine Le.trans ?_ (le_of_eq (atg _ _ _  p0).symm)
 unfold qJ
 exact aH rfl
section
variable (Γ : Fun) (γ191 : Gm (Bool)) (Λ2 J : Lam)
def alG : aP := aZ (aO Γ) 191 jG γ191
theorem atW (p0 : Int) (p1 : Int) : bB SE (alG Γ γ191) Λ2 J 185 [.d (.int .i64 p0), .d (.int .i64 p1)] [] [] =
 γ191 [.d (.int .i64 p0)] [] [] fun r0 =>
 cond r0 (
 γ191 [.d (.int .i64 p1)] [] [] fun r1 =>
 cond (!r1) (
  (some (.ret [.d (.bool true)] [] []))) (
 (some (.ret [.d (.bool (decide (p0 < p1)))] [] [])))) (
 (some (.ret [.d (.bool (decide (p0 < p1)))] [] []))) := by kernel_rfl
end
abbrev ape : aP := alG gG (cT 191 jG)
theorem aqR : ape = aO gG := by unfold ape alG; rw [aK fun _ h => h]
theorem yV (p0 : Int) (p1 : Int) : Le (Option.map jX (vW p0 p1)) (aX SE 185 [.d (.int .i64 p0), .d (.int .i64 p1)] [] []) := by
 refine aQ aqR rfl ?_
 refine Le.trans ?_ (le_of_eq (atW _ _ _ _  p0 p1).symm)
 unfold vW
 refine aM (good := good) eX vF (wM _) fun r0 _ => ?_
 refine lC ?_ ?_
 ·refine aM (good := good) eX vF (wM _) fun r1 _ => ?_
  refine lC ?_ ?_
  ·exact aH rfl
  ·exact aH rfl
 ·exact aH rfl
section
variable (Γ : Fun)  (Λ2 J : Lam)
def ao7 : aP := aO Γ
theorem asP (p0 : Int) : bB SE (ao7 Γ) Λ2 J 186 [.d (.int .i64 p0)] [] [] =
 (some (.ret [.d (.bool (p0 != p0))] [] [])) := by kernel_rfl
end
abbrev ato : aP := ao7 gG
theorem arW : ato = aO gG := rfl
theorem oZ (p0 : Int) : Le (Option.map gU (nY p0)) (aX SE 186 [.d (.int .i64 p0)] [] []) := by
 refine aQ arW rfl ?_
 refine Le.trans ?_ (le_of_eq (asP _ _ _  p0).symm)
 unfold nY
 exact aH rfl
def ae1 (C : aP) (Λ2 J : Lam) (a0 : (List (List D))) (a1 : Int) (a2 : Int) (a3 : Int) (a4 : Int) : Res := lab SE C Λ2 J 175 0 [1, 1, 1, 0, 0] (bA [(0, .d (.sl [.int .i64] a0)), (1, .d (.int .i64 a1)), (6, .d (.int .i64 a2)), (7, .d (.int .i64 a3)), (8, .d (.int .i64 a4))] [] [] [] [])
section
variable (Γ : Fun) (γ185 : Gm (Bool)) (γ186 : Gm (Bool)) (Λ2 J : Lam)
def aez : aP := aZ (aZ (aO Γ) 185 jX γ185) 186 gU γ186
theorem asx (p0 : (List Int)) (p1 : Int) : bB SE (aez Γ γ185 γ186) Λ2 J 175 [.d (.sl [.int .i64] (List.map (encI .i64) p0)), .d (.int .i64 p1)] [] [] =
 ae1 (aez Γ γ185 γ186) Λ2 J (List.map (encI .i64) p0) p1 (List.length (List.map (encI .i64) p0) : Int) 0 (List.length (List.map (encI .i64) p0) : Int) := by kernel_rfl
theorem aqu (x0 : (List Int)) (x1 : Int) (x6 : Int) (x7 : Int) (x8 : Int) : cG SE (aez Γ γ185 γ186) Λ2 J 175 0 [1, 1, 1, 0, 0] (bA [(0, .d (.sl [.int .i64] (List.map (encI .i64) x0))), (1, .d (.int .i64 x1)), (6, .d (.int .i64 x6)), (7, .d (.int .i64 x7)), (8, .d (.int .i64 x8))] [] [] [] []) =
 cond (decide (x7 < x8)) (
 cond (decide (0 ≤ (IntKind.wrap .i64 (shr .u64 (IntKind.wrap .u64 (IntKind.wrap .i64 (x7 + x8))) 1))) && decide ((IntKind.wrap .i64 (shr .u64 (IntKind.wrap .u64 (IntKind.wrap .i64 (x7 + x8))) 1)) < (List.length (List.map (encI .i64) x0) : Int))) (
  γ185 [.d (.int .i64 (aL (cellAt (elemAt (List.map (encI .i64) x0) (Int.toNat (IntKind.wrap .i64 (shr .u64 (IntKind.wrap .u64 (IntKind.wrap .i64 (x7 + x8))) 1)))) 0))), .d (.int .i64 x1)] [] [] fun r0 =>
  cond r0 (
  ae1 (aez Γ γ185 γ186) Λ2 J (List.map (encI .i64) x0) x1 x6 (IntKind.wrap .i64 ((IntKind.wrap .i64 (shr .u64 (IntKind.wrap .u64 (IntKind.wrap .i64 (x7 + x8))) 1)) + 1)) x8) (
  ae1 (aez Γ γ185 γ186) Λ2 J (List.map (encI .i64) x0) x1 x6 x7 (IntKind.wrap .i64 (shr .u64 (IntKind.wrap .u64 (IntKind.wrap .i64 (x7 + x8))) 1)))) none) (
 cond (decide (x7 < x6)) (
 cond (decide (0 ≤ x7) && decide (x7 < (List.length (List.map (encI .i64) x0) : Int))) (
  cond ((aL (cellAt (elemAt (List.map (encI .i64) x0) (Int.toNat x7)) 0)) == x1) (
  (some (.ret [.d (.int .i64 x7), .d (.bool true)] [] []))) (
  cond (decide (0 ≤ x7) && decide (x7 < (List.length (List.map (encI .i64) x0) : Int))) (
  γ186 [.d (.int .i64 (aL (cellAt (elemAt (List.map (encI .i64) x0) (Int.toNat x7)) 0)))] [] [] fun r1 =>
  cond r1 (
   γ186 [.d (.int .i64 x1)] [] [] fun r2 =>
   (some (.ret [.d (.int .i64 x7), .d (.bool r2)] [] []))) (
  (some (.ret [.d (.int .i64 x7), .d (.bool false)] [] [])))) none)) none) (
 (some (.ret [.d (.int .i64 x7), .d (.bool false)] [] [])))) := by kernel_rfl
end
abbrev ajx : aP := aez gG (cT 185 jX) (cT 186 gU)
theorem anD : ajx = aO gG := by unfold ajx aez; rw [aK fun _ h => h, aK fun _ h => h]
noncomputable abbrev aoy (a0 : (List (List D))) (a1 : Int) (a2 : Int) (a3 : Int) (a4 : Int) : Res := ae1 ajx (bY SE gG (SE.hl 175) (SE.hr 175)) (J0 SE ajx) a0 a1 a2 a3 a4
theorem kN : ∀ (fu : Nat) (x0 : (List Int)) (x1 : Int) (x6 : Int) (x7 : Int) (x8 : Int), Le (Option.map bO (dI fu x0 x1 x6 x7 x8)) (aoy (List.map (encI .i64) x0) x1 x6 x7 x8) := by
 intro fu
 induction fu with
 | zero => intros; exact le_none
 | succ fu ih =>
  intro x0 x1 x6 x7 x8
  refine Le.trans ?_ (le_of_eq ((bC anD).trans (aqu _ _ _ _ _  x0 x1 x6 x7 x8)).symm)
  unfold dI
  refine lC ?_ ?_
  ·refine lG (by simp only [EN]) ?_
   refine aM (good := good) eX adZ (by first | (simp only [EN]; exact yV (List.getD x0 (Int.toNat (IntKind.wrap .i64 (shr .u64 (IntKind.wrap .u64 (IntKind.wrap .i64 (x7 + x8))) 1))) default) x1) | exact yV (List.getD x0 (Int.toNat (IntKind.wrap .i64 (shr .u64 (IntKind.wrap .u64 (IntKind.wrap .i64 (x7 + x8))) 1))) default) x1) fun r0 _ => ?_
   refine lC ?_ ?_
   ·exact ih x0 x1 x6 (IntKind.wrap .i64 ((IntKind.wrap .i64 (shr .u64 (IntKind.wrap .u64 (IntKind.wrap .i64 (x7 + x8))) 1)) + 1)) x8
   ·exact ih x0 x1 x6 x7 (IntKind.wrap .i64 (shr .u64 (IntKind.wrap .u64 (IntKind.wrap .i64 (x7 + x8))) 1))
  ·refine lC ?_ ?_
   ·refine lG (by simp only [EN]) ?_
    refine lD (by simp only [EN]) ?_ ?_
    ·exact aH rfl
    ·refine lG (by simp only [EN]) ?_
     refine aM (good := good) eX rV (by first | (simp only [EN]; exact oZ (List.getD x0 (Int.toNat x7) default)) | exact oZ (List.getD x0 (Int.toNat x7) default)) fun r1 _ => ?_
     refine lC ?_ ?_
     ·refine aM (good := good) eX rV (oZ _) fun r2 _ => ?_
      exact aH rfl
     ·exact aH rfl
   ·exact aH rfl
theorem mB (p0 : (List Int)) (p1 : Int) : Le (Option.map bO (gL p0 p1)) (aX SE 175 [.d (.sl [.int .i64] (List.map (encI .i64) p0)), .d (.int .i64 p1)] [] []) := by
 refine aQ anD rfl ?_
 refine Le.trans ?_ (le_of_eq (asx _ _ _ _ _  p0 p1).symm)
 unfold gL
 first | (simp only [EN]; exact kN fuel p0 p1 (List.length p0 : Int) 0 (List.length p0 : Int)) | exact kN fuel p0 p1 (List.length p0 : Int) 0 (List.length p0 : Int)
theorem vE (p0 : (List Int)) (p1 : Int) (p2 : (List Int)) : Le (Option.map dK (pP p0 p1 p2)) (aX SE 178 [.row 2000000000, .d (.int .i64 p1), .row 2000000001] [] [⟨[.int .i64], 3, 8, (List.map (encI .i64) p0)⟩, ⟨[.int .i64], 3, 8, (List.map (encI .i64) p2)⟩]) := ag5 (f := 178) (enc := (encI .i64)) rfl rfl p0 p1 p2
def aiy (C : aP) (Λ2 J : Lam) (a0 : Int) (a1 : Int) (a2 : Int) (a3 : (List D)) (a4 : (List D)) : Res := lab SE C Λ2 J 157 0 [1, 1, 1, 0, 1, 0] (bA [(1, .ptr 1000000000 0), (3, .ptr 1000000001 0), (5, .d (.int .i64 a0)), (18, .d (.int .i64 a1)), (19, .d (.int .i64 a2))] [⟨27, (List.map AV.d a3)⟩, ⟨27, (List.map AV.d a4)⟩] [] [] [])
section
variable (Γ : Fun) (γ177 : Gm (Int)) (γ175 : Gm (Int × Bool)) (γ104 : Gm ((List Int))) (γ178 : Gm ((List Int))) (Λ2 J : Lam)
def af2 : aP := aZ (aZ (aZ (aZ (aO Γ) 177 mD γ177) 175 bO γ175) 104 bN γ104) 178 dK γ178
theorem asH (p0 : aJ) : bB SE (af2 Γ γ177 γ175 γ104 γ178) Λ2 J 157 [aJ.av p0] [] [] =
 cond (decide ((List.length (List.map (encI .i64) p0.Used) : Int) ≥ 32)) (
 (some (.ret [.d (.int .i64 0), .agg [.row 0, .d (.int .i64 0)], .d (.int .i64 6)] [] [⟨[.int .i64], 3, 8, (List.map (encI .i64) [])⟩]))) (
 aiy (af2 Γ γ177 γ175 γ104 γ178) Λ2 J p0.Last (IntKind.wrap .i64 ((List.length (List.map (encI .i64) p0.Used) : Int) + 1)) 0 (aJ.enc p0) [D.sl [.int .i64] (List.map (encI .i64) []), D.int .i64 0]) := by kernel_rfl
theorem ao6 (x5 : Int) (x18 : Int) (x19 : Int) (b0 : aJ) (b1 : aJ) : cG SE (af2 Γ γ177 γ175 γ104 γ178) Λ2 J 157 0 [1, 1, 1, 0, 1, 0] (bA [(1, .ptr 1000000000 0), (3, .ptr 1000000001 0), (5, .d (.int .i64 x5)), (18, .d (.int .i64 x18)), (19, .d (.int .i64 x19))] [⟨27, (List.map AV.d (aJ.enc b0))⟩, ⟨27, (List.map AV.d (aJ.enc b1))⟩] [] [] []) =
 cond (decide (x19 < x18)) (
 γ177 [.d (.int .i64 x5)] [] [] fun r0 =>
 γ175 [.d (.sl [.int .i64] (List.map (encI .i64) b0.Used)), .d (.int .i64 r0)] [] [] fun r1 =>
 cond (!r1.2) (
  γ104 [.d (.sl [.int .i64] (List.map (encI .i64) b0.Used))] [] [] fun r2 =>
  γ178 [.row 2000000000, .d (.int .i64 r1.1), .row 2000000001] [] [⟨[.int .i64], 3, 8, (List.map (encI .i64) r2)⟩, ⟨[.int .i64], 3, 8, (List.map (encI .i64) [r0])⟩] fun r3 =>
  (some (.ret [.d (.int .i64 r0), .agg [.row 0, .d (.int .i64 r0)], .d (.int .i64 0)] [] [⟨[.int .i64], 3, 8, (List.map (encI .i64) r3)⟩]))) (
 aiy (af2 Γ γ177 γ175 γ104 γ178) Λ2 J r0 x18 (IntKind.wrap .i64 (x19 + 1)) (aJ.enc b0) (aJ.enc b1))) (
 (some (.ret [.d (.int .i64 0), .agg [.row 0, .d (.int .i64 0)], .d (.int .i64 6)] [] [⟨[.int .i64], 3, 8, (List.map (encI .i64) [])⟩]))) := by kernel_rfl
end
abbrev ajN : aP := af2 gG (cT 177 mD) (cT 175 bO) (cT 104 bN) (cT 178 dK)
theorem anF : ajN = aO gG := by unfold ajN af2; rw [aK fun _ h => h, aK fun _ h => h, aK fun _ h => h, aK fun _ h => h]
noncomputable abbrev apO (a0 : Int) (a1 : Int) (a2 : Int) (a3 : (List D)) (a4 : (List D)) : Res := aiy ajN (bY SE gG (SE.hl 157) (SE.hr 157)) (J0 SE ajN) a0 a1 a2 a3 a4
theorem yA : ∀ (fu : Nat) (x5 : Int) (x18 : Int) (x19 : Int) (b0 : aJ) (b1 : aJ), Le (Option.map kC (rF fu x5 x18 x19 b0 b1)) (apO x5 x18 x19 (aJ.enc b0) (aJ.enc b1)) := by
 intro fu
 induction fu with
 | zero => intros; exact le_none
 | succ fu ih =>
  intro x5 x18 x19 b0 b1
  refine Le.trans ?_ (le_of_eq ((bC anF).trans (ao6 _ _ _ _ _ _ _  x5 x18 x19 b0 b1)).symm)
  unfold rF
  refine lC ?_ ?_
  ·refine aM (good := good) eX agd (ahs _) fun r0 _ => ?_
   refine aM (good := good) eX lN (mB _ _) fun r1 _ => ?_
   refine lC ?_ ?_
   ·refine aM (good := good) eX fF (fQ _) fun r2 _ => ?_
    refine aM (good := good) eX tT (vE _ _ _) fun r3 _ => ?_
    exact aH rfl
   ·exact ih r0 x18 (IntKind.wrap .i64 (x19 + 1)) b0 b1
  ·exact aH rfl
theorem ahq (p0 : aJ) : Le (Option.map kC (abV p0)) (aX SE 157 [aJ.av p0] [] []) := by
 refine aQ anF rfl ?_
 refine Le.trans ?_ (le_of_eq (asH _ _ _ _ _ _ _  p0).symm)
 unfold abV
 refine lD (by simp only [EN]) ?_ ?_
 ·exact aH rfl
 ·first | (simp only [EN]; exact yA fuel p0.Last (IntKind.wrap .i64 ((List.length p0.Used : Int) + 1)) 0 p0 (aJ.mk ([] : List Int) 0)) | exact yA fuel p0.Last (IntKind.wrap .i64 ((List.length p0.Used : Int) + 1)) 0 p0 (aJ.mk ([] : List Int) 0)
section
variable (Γ : Fun) (γ138 : Gm ((List aD))) (Λ2 J : Lam)
def alS : aP := aZ (aO Γ) 138 bP γ138
theorem aue (p0 : aA) : bB SE (alS Γ γ138) Λ2 J 153 [aA.av p0] [] [] =
 γ138 [.d (.sl aD.ks (List.map aD.enc p0.Props))] [] [] fun r0 =>
 (some (.ret [.agg [.d (.str p0.Topic), .d (.str p0.Payload), .d (.int .i64 p0.Level), .d (.bool p0.Retain), .d (.int .i64 p0.Priority), .d (.int .i64 p0.Expires), .d (.str p0.From), .d (.int .i64 p0.Seq), .row 0]] [] [⟨aD.ks, 130, 32, (List.map aD.enc r0)⟩])) := by kernel_rfl
end
abbrev aps : aP := alS gG (cT 138 bP)
theorem aqM : aps = aO gG := by unfold aps alS; rw [aK fun _ h => h]
theorem m9 (p0 : aA) : Le (Option.map dA (nG p0)) (aX SE 153 [aA.av p0] [] []) := by
 refine aQ aqM rfl ?_
 refine Le.trans ?_ (le_of_eq (aue _ _ _ _  p0).symm)
 unfold nG
 refine aM (good := good) eX kL (kP _) fun r0 _ => ?_
 exact aH rfl
def aiL (C : aP) (Λ2 J : Lam) (a0 : (List (List D))) (a1 : Int) (a2 : Int) (a3 : (List D)) (a4 : (List D)) (a5 : (List (List D))) : Res := lab SE C Λ2 J 110 0 [1, 1, 0, 1, 0] (bA [(1, .ptr 1000000000 0), (2, .ptr 1000000001 0), (3, .row 3003), (12, .d (.sl aB.ks a0)), (13, .d (.int .i64 a1)), (14, .d (.int .i64 a2))] [⟨29, (List.map AV.d a3)⟩, ⟨29, (List.map AV.d a4)⟩] [] [] [(3003, ⟨aB.ks, 122, 128, a5⟩)])
section
variable (Γ : Fun) (γ153 : Gm (aA)) (γ104 : Gm ((List Int))) (Λ2 J : Lam)
def agK : aP := aZ (aZ (aO Γ) 153 dA γ153) 104 bN γ104
theorem ass (p0 : aG) : bB SE (agK Γ γ153 γ104) Λ2 J 110 [aG.av p0] [] [] =
 cond (decide (0 ≤ 0) && decide (0 ≤ (IntKind.wrap .i64 ((List.length (List.map aB.enc p0.Items) : Int) + 1))) && decide ((IntKind.wrap .i64 ((List.length (List.map aB.enc p0.Items) : Int) + 1)) * 128 ≤ 281474976710656)) (
 aiL (agK Γ γ153 γ104) Λ2 J (List.map aB.enc p0.Items) (List.length (List.map aB.enc p0.Items) : Int) 0 (aG.enc p0) [D.int .i64 0, D.sl aB.ks (List.map aB.enc []), D.sl [.int .i64] (List.map (encI .i64) []), D.int .i64 0] (List.map aB.enc [])) none := by kernel_rfl
theorem apH (x12 : (List aB)) (x13 : Int) (x14 : Int) (b0 : aG) (b1 : aG) (w3003 : (List aB)) : cG SE (agK Γ γ153 γ104) Λ2 J 110 0 [1, 1, 0, 1, 0] (bA [(1, .ptr 1000000000 0), (2, .ptr 1000000001 0), (3, .row 3003), (12, .d (.sl aB.ks (List.map aB.enc x12))), (13, .d (.int .i64 x13)), (14, .d (.int .i64 x14))] [⟨29, (List.map AV.d (aG.enc b0))⟩, ⟨29, (List.map AV.d (aG.enc b1))⟩] [] [] [(3003, ⟨aB.ks, 122, 128, (List.map aB.enc w3003)⟩)]) =
 cond (decide (x14 < x13)) (
 cond (decide (0 ≤ x14) && decide (x14 < (List.length (List.map aB.enc x12) : Int))) (
  γ153 [.agg [.d (.str (aV (cellAt (elemAt (List.map aB.enc x12) (Int.toNat x14)) 2))), .d (.str (aV (cellAt (elemAt (List.map aB.enc x12) (Int.toNat x14)) 3))), .d (.int .i64 (aL (cellAt (elemAt (List.map aB.enc x12) (Int.toNat x14)) 4))), .d (.bool (aY (cellAt (elemAt (List.map aB.enc x12) (Int.toNat x14)) 5))), .d (.int .i64 (aL (cellAt (elemAt (List.map aB.enc x12) (Int.toNat x14)) 6))), .d (.int .i64 (aL (cellAt (elemAt (List.map aB.enc x12) (Int.toNat x14)) 7))), .d (.str (aV (cellAt (elemAt (List.map aB.enc x12) (Int.toNat x14)) 8))), .d (.int .i64 (aL (cellAt (elemAt (List.map aB.enc x12) (Int.toNat x14)) 9))), .d (.sl aD.ks (dSl (cellAt (elemAt (List.map aB.enc x12) (Int.toNat x14)) 10)))]] [] [] fun r0 =>
  cond (decide ((List.length (List.map aB.enc w3003) + List.length [[D.int .i64 (aL (cellAt (elemAt (List.map aB.enc x12) (Int.toNat x14)) 0)), D.int .i64 (aL (cellAt (elemAt (List.map aB.enc x12) (Int.toNat x14)) 1)), D.str r0.Topic, D.str r0.Payload, D.int .i64 r0.Level, D.bool r0.Retain, D.int .i64 r0.Priority, D.int .i64 r0.Expires, D.str r0.From, D.int .i64 r0.Seq, D.sl aD.ks (List.map aD.enc r0.Props)]]) * 128 ≤ 140737488355328)) (
  aiL (agK Γ γ153 γ104) Λ2 J (List.map aB.enc x12) x13 (IntKind.wrap .i64 (x14 + 1)) (aG.enc b0) (aG.enc b1) (((List.map aB.enc w3003) ++ [[D.int .i64 (aL (cellAt (elemAt (List.map aB.enc x12) (Int.toNat x14)) 0)), D.int .i64 (aL (cellAt (elemAt (List.map aB.enc x12) (Int.toNat x14)) 1)), D.str r0.Topic, D.str r0.Payload, D.int .i64 r0.Level, D.bool r0.Retain, D.int .i64 r0.Priority, D.int .i64 r0.Expires, D.str r0.From, D.int .i64 r0.Seq, D.sl aD.ks (List.map aD.enc r0.Props)]]))) none) none) (
 γ104 [.d (.sl [.int .i64] (List.map (encI .i64) b0.Pool.Used))] [] [] fun r1 =>
 (some (.ret [.agg [.d (.int .i64 b0.Limit), .row 0, .row 1, .d (.int .i64 b0.Pool.Last)]] [] [⟨aB.ks, 122, 128, (List.map aB.enc w3003)⟩, ⟨[.int .i64], 3, 8, (List.map (encI .i64) r1)⟩]))) := by kernel_rfl
end
abbrev ajA : aP := agK gG (cT 153 dA) (cT 104 bN)
theorem anv : ajA = aO gG := by unfold ajA agK; rw [aK fun _ h => h, aK fun _ h => h]
noncomputable abbrev apB (a0 : (List (List D))) (a1 : Int) (a2 : Int) (a3 : (List D)) (a4 : (List D)) (a5 : (List (List D))) : Res := aiL ajA (bY SE gG (SE.hl 110) (SE.hr 110)) (J0 SE ajA) a0 a1 a2 a3 a4 a5
theorem tL : ∀ (fu : Nat) (x12 : (List aB)) (x13 : Int) (x14 : Int) (b0 : aG) (b1 : aG) (w3003 : (List aB)), Le (Option.map c7 (nW fu x12 x13 x14 b0 b1 w3003)) (apB (List.map aB.enc x12) x13 x14 (aG.enc b0) (aG.enc b1) (List.map aB.enc w3003)) := by
 intro fu
 induction fu with
 | zero => intros; exact le_none
 | succ fu ih =>
  intro x12 x13 x14 b0 b1 w3003
  refine Le.trans ?_ (le_of_eq ((bC anv).trans (apH _ _ _ _ _  x12 x13 x14 b0 b1 w3003)).symm)
  unfold nW
  refine lC ?_ ?_
  ·refine lG (by simp only [EN]) ?_
   refine aM (good := good) eX pD (by first | (simp only [EN]; exact m9 ((List.getD x12 (Int.toNat x14) default).Message)) | exact m9 ((List.getD x12 (Int.toNat x14) default).Message)) fun r0 _ => ?_
   refine lG (by simp only [EN]) ?_
   first | (simp only [EN]; exact ih x12 x13 (IntKind.wrap .i64 (x14 + 1)) b0 b1 ((w3003 ++ [(aB.mk (List.getD x12 (Int.toNat x14) default).ID (List.getD x12 (Int.toNat x14) default).State r0)]))) | exact ih x12 x13 (IntKind.wrap .i64 (x14 + 1)) b0 b1 ((w3003 ++ [(aB.mk (List.getD x12 (Int.toNat x14) default).ID (List.getD x12 (Int.toNat x14) default).State r0)]))
  ·refine aM (good := good) eX fF (fQ _) fun r1 _ => ?_
   exact aH rfl
theorem jT (p0 : aG) : Le (Option.map c7 (jH p0)) (aX SE 110 [aG.av p0] [] []) := by
 refine aQ anv rfl ?_
 refine Le.trans ?_ (le_of_eq (ass _ _ _ _ _  p0).symm)
 unfold jH
 refine lG (by simp only [EN]) ?_
 first | (simp only [EN]; exact tL fuel p0.Items (List.length p0.Items : Int) 0 p0 ((aG.mk 0 ([] : List aB) (aJ.mk ([] : List Int) 0))) ([] : List aB)) | exact tL fuel p0.Items (List.length p0.Items : Int) 0 p0 ((aG.mk 0 ([] : List aB) (aJ.mk ([] : List Int) 0))) ([] : List aB)
section
variable (Γ : Fun) (γ153 : Gm (aA)) (Λ2 J : Lam)
def am0 : aP := aZ (aO Γ) 153 dA γ153
theorem asS (p0 : aB) : bB SE (am0 Γ γ153) Λ2 J 147 [aB.av p0] [] [] =
 γ153 [aA.av p0.Message] [] [] fun r0 =>
 (some (.ret [.agg [.d (.int .i64 3), .d (.int .i64 p0.ID), .d (.bool false), .d (.str r0.Topic), .d (.str r0.Payload), .d (.int .i64 r0.Level), .d (.bool r0.Retain), .d (.int .i64 r0.Priority), .d (.int .i64 r0.Expires), .d (.str r0.From), .d (.int .i64 r0.Seq), .row 0, .d (.str ([] : Str)), .d (.str ([] : Str)), .d (.bool false), .d (.int .i64 0), .d (.int .i64 0), .d (.int .i64 0), .d (.bool false), .d (.int .i64 0), .d (.str ([] : Str)), .d (.str ([] : Str)), .d (.int .i64 0), .d (.bool false), .d (.int .i64 0), .d (.int .i64 0), .d (.str ([] : Str)), .d (.int .i64 0), .row 1, .d (.bool false), .d (.int .i64 0), .row 2, .row 3, .row 4]] [] [⟨aD.ks, 130, 32, (List.map aD.enc r0.Props)⟩, ⟨aD.ks, 130, 32, (List.map aD.enc [])⟩, ⟨aF.ks, 60, 32, (List.map aF.enc [])⟩, ⟨[.str], 9, 16, (List.map bF [])⟩, ⟨[.int .i64], 3, 8, (List.map (encI .i64) [])⟩])) := by kernel_rfl
end
abbrev aot : aP := am0 gG (cT 153 dA)
theorem aqT : aot = aO gG := by unfold aot am0; rw [aK fun _ h => h]
theorem pC (p0 : aB) : Le (Option.map eI (oT p0)) (aX SE 147 [aB.av p0] [] []) := by
 refine aQ aqT rfl ?_
 refine Le.trans ?_ (le_of_eq (asS _ _ _ _  p0).symm)
 unfold oT
 refine aM (good := good) eX pD (m9 _) fun r0 _ => ?_
 exact aH rfl
section
variable (Γ : Fun) (γ156 : Gm (Int)) (γ141 : Gm (Int)) (γ157 : Gm (Int × aJ × Int)) (γ110 : Gm (aG)) (γ153 : Gm (aA)) (γ147 : Gm (aE)) (Λ2 J : Lam)
def am9 : aP := aZ (aZ (aZ (aZ (aZ (aZ (aO Γ) 156 iB γ156) 141 jV γ141) 157 kC γ157) 110 c7 γ110) 153 dA γ153) 147 eI γ147
theorem atd (p0 : aG) (p1 : aA) : bB SE (am9 Γ γ156 γ141 γ157 γ110 γ153 γ147) Λ2 J 114 [aG.av p0, aA.av p1] [] [] =
 cond (p1.Level == 0) (
 (some (.ret [.agg [.d (.int .i64 0), .row 0, .row 1, .d (.int .i64 0)], .agg [.d (.int .i64 0), .d (.int .i64 0), .d (.bool false), .d (.str ([] : Str)), .d (.str ([] : Str)), .d (.int .i64 0), .d (.bool false), .d (.int .i64 0), .d (.int .i64 0), .d (.str ([] : Str)), .d (.int .i64 0), .row 2, .d (.str ([] : Str)), .d (.str ([] : Str)), .d (.bool false), .d (.int .i64 0), .d (.int .i64 0), .d (.int .i64 0), .d (.bool false), .d (.int .i64 0), .d (.str ([] : Str)), .d (.str ([] : Str)), .d (.int .i64 0), .d (.bool false), .d (.int .i64 0), .d (.int .i64 0), .d (.str ([] : Str)), .d (.int .i64 0), .row 3, .d (.bool false), .d (.int .i64 0), .row 4, .row 5, .row 6], .d (.int .i64 14)] [] [⟨aB.ks, 122, 128, (List.map aB.enc [])⟩, ⟨[.int .i64], 3, 8, (List.map (encI .i64) [])⟩, ⟨aD.ks, 130, 32, (List.map aD.enc [])⟩, ⟨aD.ks, 130, 32, (List.map aD.enc [])⟩, ⟨aF.ks, 60, 32, (List.map aF.enc [])⟩, ⟨[.str], 9, 16, (List.map bF [])⟩, ⟨[.int .i64], 3, 8, (List.map (encI .i64) [])⟩]))) (
 γ156 [aG.av p0] [] [] fun r0 =>
 cond (r0 == 0) (
 (some (.ret [.agg [.d (.int .i64 0), .row 0, .row 1, .d (.int .i64 0)], .agg [.d (.int .i64 0), .d (.int .i64 0), .d (.bool false), .d (.str ([] : Str)), .d (.str ([] : Str)), .d (.int .i64 0), .d (.bool false), .d (.int .i64 0), .d (.int .i64 0), .d (.str ([] : Str)), .d (.int .i64 0), .row 2, .d (.str ([] : Str)), .d (.str ([] : Str)), .d (.bool false), .d (.int .i64 0), .d (.int .i64 0), .d (.int .i64 0), .d (.bool false), .d (.int .i64 0), .d (.str ([] : Str)), .d (.str ([] : Str)), .d (.int .i64 0), .d (.bool false), .d (.int .i64 0), .d (.int .i64 0), .d (.str ([] : Str)), .d (.int .i64 0), .row 3, .d (.bool false), .d (.int .i64 0), .row 4, .row 5, .row 6], .d (.int .i64 6)] [] [⟨aB.ks, 122, 128, (List.map aB.enc [])⟩, ⟨[.int .i64], 3, 8, (List.map (encI .i64) [])⟩, ⟨aD.ks, 130, 32, (List.map aD.enc [])⟩, ⟨aD.ks, 130, 32, (List.map aD.enc [])⟩, ⟨aF.ks, 60, 32, (List.map aF.enc [])⟩, ⟨[.str], 9, 16, (List.map bF [])⟩, ⟨[.int .i64], 3, 8, (List.map (encI .i64) [])⟩]))) (
 γ141 [aA.av p1] [] [] fun r1 =>
 cond (r1 != 0) (
 (some (.ret [.agg [.d (.int .i64 0), .row 0, .row 1, .d (.int .i64 0)], .agg [.d (.int .i64 0), .d (.int .i64 0), .d (.bool false), .d (.str ([] : Str)), .d (.str ([] : Str)), .d (.int .i64 0), .d (.bool false), .d (.int .i64 0), .d (.int .i64 0), .d (.str ([] : Str)), .d (.int .i64 0), .row 2, .d (.str ([] : Str)), .d (.str ([] : Str)), .d (.bool false), .d (.int .i64 0), .d (.int .i64 0), .d (.int .i64 0), .d (.bool false), .d (.int .i64 0), .d (.str ([] : Str)), .d (.str ([] : Str)), .d (.int .i64 0), .d (.bool false), .d (.int .i64 0), .d (.int .i64 0), .d (.str ([] : Str)), .d (.int .i64 0), .row 3, .d (.bool false), .d (.int .i64 0), .row 4, .row 5, .row 6], .d (.int .i64 r1)] [] [⟨aB.ks, 122, 128, (List.map aB.enc [])⟩, ⟨[.int .i64], 3, 8, (List.map (encI .i64) [])⟩, ⟨aD.ks, 130, 32, (List.map aD.enc [])⟩, ⟨aD.ks, 130, 32, (List.map aD.enc [])⟩, ⟨aF.ks, 60, 32, (List.map aF.enc [])⟩, ⟨[.str], 9, 16, (List.map bF [])⟩, ⟨[.int .i64], 3, 8, (List.map (encI .i64) [])⟩]))) (
 γ157 [aJ.av p0.Pool] [] [] fun r2 =>
 cond (r2.2.2 != 0) (
 (some (.ret [.agg [.d (.int .i64 0), .row 0, .row 1, .d (.int .i64 0)], .agg [.d (.int .i64 0), .d (.int .i64 0), .d (.bool false), .d (.str ([] : Str)), .d (.str ([] : Str)), .d (.int .i64 0), .d (.bool false), .d (.int .i64 0), .d (.int .i64 0), .d (.str ([] : Str)), .d (.int .i64 0), .row 2, .d (.str ([] : Str)), .d (.str ([] : Str)), .d (.bool false), .d (.int .i64 0), .d (.int .i64 0), .d (.int .i64 0), .d (.bool false), .d (.int .i64 0), .d (.str ([] : Str)), .d (.str ([] : Str)), .d (.int .i64 0), .d (.bool false), .d (.int .i64 0), .d (.int .i64 0), .d (.str ([] : Str)), .d (.int .i64 0), .row 3, .d (.bool false), .d (.int .i64 0), .row 4, .row 5, .row 6], .d (.int .i64 r2.2.2)] [] [⟨aB.ks, 122, 128, (List.map aB.enc [])⟩, ⟨[.int .i64], 3, 8, (List.map (encI .i64) [])⟩, ⟨aD.ks, 130, 32, (List.map aD.enc [])⟩, ⟨aD.ks, 130, 32, (List.map aD.enc [])⟩, ⟨aF.ks, 60, 32, (List.map aF.enc [])⟩, ⟨[.str], 9, 16, (List.map bF [])⟩, ⟨[.int .i64], 3, 8, (List.map (encI .i64) [])⟩]))) (
 γ110 [aG.av p0] [] [] fun r3 =>
 γ153 [aA.av p1] [] [] fun r4 =>
 cond (decide ((List.length (List.map aB.enc r3.Items) + List.length (List.map aB.enc [(aB.mk r2.1 1 r4)])) * 128 ≤ 140737488355328)) (
 γ147 [aB.av (aB.mk r2.1 1 r4)] [] [] fun r5 =>
 (some (.ret [.agg [.d (.int .i64 r3.Limit), .row 0, .row 1, .d (.int .i64 r2.2.1.Last)], .agg [.d (.int .i64 r5.Kind), .d (.int .i64 r5.ID), .d (.bool r5.Dup), .d (.str r5.Message.Topic), .d (.str r5.Message.Payload), .d (.int .i64 r5.Message.Level), .d (.bool r5.Message.Retain), .d (.int .i64 r5.Message.Priority), .d (.int .i64 r5.Message.Expires), .d (.str r5.Message.From), .d (.int .i64 r5.Message.Seq), .row 2, .d (.str r5.Client), .d (.str r5.User), .d (.bool r5.Clean), .d (.int .i64 r5.Keep), .d (.int .i64 r5.Expiry), .d (.int .i64 r5.Window), .d (.bool r5.Will.Set), .d (.int .i64 r5.Will.Delay), .d (.str r5.Will.Message.Topic), .d (.str r5.Will.Message.Payload), .d (.int .i64 r5.Will.Message.Level), .d (.bool r5.Will.Message.Retain), .d (.int .i64 r5.Will.Message.Priority), .d (.int .i64 r5.Will.Message.Expires), .d (.str r5.Will.Message.From), .d (.int .i64 r5.Will.Message.Seq), .row 3, .d (.bool r5.Present), .d (.int .i64 r5.Code), .row 4, .row 5, .row 6], .d (.int .i64 0)] [] [⟨aB.ks, 122, 128, ((List.map aB.enc r3.Items) ++ (List.map aB.enc [(aB.mk r2.1 1 r4)]))⟩, ⟨[.int .i64], 3, 8, (List.map (encI .i64) r2.2.1.Used)⟩, ⟨aD.ks, 130, 32, (List.map aD.enc r5.Message.Props)⟩, ⟨aD.ks, 130, 32, (List.map aD.enc r5.Will.Message.Props)⟩, ⟨aF.ks, 60, 32, (List.map aF.enc r5.Subs)⟩, ⟨[.str], 9, 16, (List.map bF r5.Filters)⟩, ⟨[.int .i64], 3, 8, (List.map (encI .i64) r5.Codes)⟩]))) none)))) := by kernel_rfl
end
abbrev aoC : aP := am9 gG (cT 156 iB) (cT 141 jV) (cT 157 kC) (cT 110 c7) (cT 153 dA) (cT 147 eI)
theorem arB : aoC = aO gG := by unfold aoC am9; rw [aK fun _ h => h, aK fun _ h => h, aK fun _ h => h, aK fun _ h => h, aK fun _ h => h, aK fun _ h => h]
theorem wH (p0 : aG) (p1 : aA) : Le (Option.map hI (uO p0 p1)) (aX SE 114 [aG.av p0, aA.av p1] [] []) := by
 refine aQ arB rfl ?_
 refine Le.trans ?_ (le_of_eq (atd _ _ _ _ _ _ _ _ _  p0 p1).symm)
 unfold uO
 refine lC ?_ ?_
 ·exact aH rfl
 ·refine aM (good := good) eX adY (aep _) fun r0 _ => ?_
  refine lC ?_ ?_
  ·exact aH rfl
  ·refine aM (good := good) eX adT (aeL _) fun r1 _ => ?_
   refine lC ?_ ?_
   ·exact aH rfl
   ·refine aM (good := good) eX af4 (ahq _) fun r2 _ => ?_
    refine lC ?_ ?_
    ·exact aH rfl
    ·refine aM (good := good) eX jB (jT _) fun r3 _ => ?_
     refine aM (good := good) eX pD (m9 _) fun r4 _ => ?_
     refine lG (by simp only [EN]) ?_
     refine aM (good := good) eX tK (pC _) fun r5 _ => ?_
     exact aH (by first | rfl | simp only [EN, hI] <;> rfl)
def afp (C : aP) (Λ2 J : Lam) (a0 : Int) (a1 : (List D)) (a2 : (List D)) (a3 : (List (List D))) : Res := lab SE C Λ2 J 61 0 [1, 0, 0] (bA [(1, .d (.int .i64 a0)), (2, .row 3002), (3, .ptr 1000000000 0), (6, .ptr 1000000001 0)] [⟨38, (List.map AV.d a1)⟩, ⟨38, (List.map AV.d a2)⟩] [] [] [(3002, ⟨aE.ks, 49, 416, a3⟩)])
section
variable (Γ : Fun) (γ113 : Gm (Bool)) (γ51 : Gm (aC)) (γ80 : Gm (aA)) (γ114 : Gm (aG × aE × Int)) (Λ2 J : Lam)
def C61 : aP := aZ (aZ (aZ (aZ (aO Γ) 113 iL γ113) 51 dB γ51) 80 cQ γ80) 114 hI γ114
theorem T61 (p0 : aC) (p1 : Int) (p2 : (List aE)) : bB SE (C61 Γ γ113 γ51 γ80 γ114) Λ2 J 61 [aC.av p0, .d (.int .i64 p1), .row 2000000000] [] [⟨aE.ks, 49, 416, (List.map aE.enc p2)⟩] =
 afp (C61 Γ γ113 γ51 γ80 γ114) Λ2 J p1 (aC.enc p0) [D.str ([] : Str), D.str ([] : Str), D.bool false, D.int .i64 0, D.int .i64 0, D.int .i64 0, D.int .i64 0, D.sl aF.ks (List.map aF.enc []), D.sl aA.ks (List.map aA.enc []), D.int .i64 0, D.sl aB.ks (List.map aB.enc []), D.sl [.int .i64] (List.map (encI .i64) []), D.int .i64 0, D.sl [.int .i64] (List.map (encI .i64) []), D.bool false, D.int .i64 0, D.str ([] : Str), D.str ([] : Str), D.int .i64 0, D.bool false, D.int .i64 0, D.int .i64 0, D.str ([] : Str), D.int .i64 0, D.sl aD.ks (List.map aD.enc [])] (List.map aE.enc p2) := by kernel_rfl
theorem arV (x1 : Int) (b0 : aC) (b1 : aC) (w3002 : (List aE)) : cG SE (C61 Γ γ113 γ51 γ80 γ114) Λ2 J 61 0 [1, 0, 0] (bA [(1, .d (.int .i64 x1)), (2, .row 3002), (3, .ptr 1000000000 0), (6, .ptr 1000000001 0)] [⟨38, (List.map AV.d (aC.enc b0))⟩, ⟨38, (List.map AV.d (aC.enc b1))⟩] [] [] [(3002, ⟨aE.ks, 49, 416, (List.map aE.enc w3002)⟩)]) =
 cond (decide ((List.length (List.map aA.enc b0.Queue) : Int) > 0)) (
 cond (decide (0 ≤ 0) && decide (0 < (List.length (List.map aA.enc b0.Queue) : Int))) (
  γ113 [.agg [.d (.str (aV (cellAt (elemAt (List.map aA.enc b0.Queue) (Int.toNat 0)) 0))), .d (.str (aV (cellAt (elemAt (List.map aA.enc b0.Queue) (Int.toNat 0)) 1))), .d (.int .i64 (aL (cellAt (elemAt (List.map aA.enc b0.Queue) (Int.toNat 0)) 2))), .d (.bool (aY (cellAt (elemAt (List.map aA.enc b0.Queue) (Int.toNat 0)) 3))), .d (.int .i64 (aL (cellAt (elemAt (List.map aA.enc b0.Queue) (Int.toNat 0)) 4))), .d (.int .i64 (aL (cellAt (elemAt (List.map aA.enc b0.Queue) (Int.toNat 0)) 5))), .d (.str (aV (cellAt (elemAt (List.map aA.enc b0.Queue) (Int.toNat 0)) 6))), .d (.int .i64 (aL (cellAt (elemAt (List.map aA.enc b0.Queue) (Int.toNat 0)) 7))), .d (.sl aD.ks (dSl (cellAt (elemAt (List.map aA.enc b0.Queue) (Int.toNat 0)) 8)))], .d (.int .i64 x1)] [] [] fun r0 =>
  cond r0 (
  γ51 [aC.av b0, .d (.int .i64 1)] [] [] fun r1 =>
  cond (decide (0 ≤ 1) && decide (1 ≤ ((List.length (List.map aA.enc r1.Queue)) : Int))) (
   afp (C61 Γ γ113 γ51 γ80 γ114) Λ2 J x1 [D.str r1.Client, D.str r1.User, D.bool r1.Online, D.int .i64 r1.Conn, D.int .i64 r1.Expiry, D.int .i64 r1.Until, D.int .i64 r1.Dropped, D.sl aF.ks (List.map aF.enc r1.Subs), D.sl aA.ks (bU (List.map aA.enc r1.Queue) (some 1) none), D.int .i64 r1.Out.Limit, D.sl aB.ks (List.map aB.enc r1.Out.Items), D.sl [.int .i64] (List.map (encI .i64) r1.Out.Pool.Used), D.int .i64 r1.Out.Pool.Last, D.sl [.int .i64] (List.map (encI .i64) r1.In.IDs), D.bool r1.Will.Set, D.int .i64 r1.Will.Delay, D.str r1.Will.Message.Topic, D.str r1.Will.Message.Payload, D.int .i64 r1.Will.Message.Level, D.bool r1.Will.Message.Retain, D.int .i64 r1.Will.Message.Priority, D.int .i64 r1.Will.Message.Expires, D.str r1.Will.Message.From, D.int .i64 r1.Will.Message.Seq, D.sl aD.ks (List.map aD.enc r1.Will.Message.Props)] (aC.enc b1) (List.map aE.enc w3002)) none) (
  cond ((aL (cellAt (elemAt (List.map aA.enc b0.Queue) (Int.toNat 0)) 2)) == 0) (
  γ80 [.agg [.d (.str (aV (cellAt (elemAt (List.map aA.enc b0.Queue) (Int.toNat 0)) 0))), .d (.str (aV (cellAt (elemAt (List.map aA.enc b0.Queue) (Int.toNat 0)) 1))), .d (.int .i64 (aL (cellAt (elemAt (List.map aA.enc b0.Queue) (Int.toNat 0)) 2))), .d (.bool (aY (cellAt (elemAt (List.map aA.enc b0.Queue) (Int.toNat 0)) 3))), .d (.int .i64 (aL (cellAt (elemAt (List.map aA.enc b0.Queue) (Int.toNat 0)) 4))), .d (.int .i64 (aL (cellAt (elemAt (List.map aA.enc b0.Queue) (Int.toNat 0)) 5))), .d (.str (aV (cellAt (elemAt (List.map aA.enc b0.Queue) (Int.toNat 0)) 6))), .d (.int .i64 (aL (cellAt (elemAt (List.map aA.enc b0.Queue) (Int.toNat 0)) 7))), .d (.sl aD.ks (dSl (cellAt (elemAt (List.map aA.enc b0.Queue) (Int.toNat 0)) 8)))]] [] [] fun r2 =>
  cond (decide ((List.length (List.map aE.enc w3002) + List.length [[D.int .i64 3, D.int .i64 0, D.bool false, D.str r2.Topic, D.str r2.Payload, D.int .i64 r2.Level, D.bool r2.Retain, D.int .i64 r2.Priority, D.int .i64 r2.Expires, D.str r2.From, D.int .i64 r2.Seq, D.sl aD.ks (List.map aD.enc r2.Props), D.str ([] : Str), D.str ([] : Str), D.bool false, D.int .i64 0, D.int .i64 0, D.int .i64 0, D.bool false, D.int .i64 0, D.str ([] : Str), D.str ([] : Str), D.int .i64 0, D.bool false, D.int .i64 0, D.int .i64 0, D.str ([] : Str), D.int .i64 0, D.sl aD.ks (List.map aD.enc []), D.bool false, D.int .i64 0, D.sl aF.ks (List.map aF.enc []), D.sl [.str] (List.map bF []), D.sl [.int .i64] (List.map (encI .i64) [])]]) * 416 ≤ 140737488355328)) (
   cond (decide (0 ≤ 1) && decide (1 ≤ ((List.length (List.map aA.enc b0.Queue)) : Int))) (
   afp (C61 Γ γ113 γ51 γ80 γ114) Λ2 J x1 [D.str b0.Client, D.str b0.User, D.bool b0.Online, D.int .i64 b0.Conn, D.int .i64 b0.Expiry, D.int .i64 b0.Until, D.int .i64 b0.Dropped, D.sl aF.ks (List.map aF.enc b0.Subs), D.sl aA.ks (bU (List.map aA.enc b0.Queue) (some 1) none), D.int .i64 b0.Out.Limit, D.sl aB.ks (List.map aB.enc b0.Out.Items), D.sl [.int .i64] (List.map (encI .i64) b0.Out.Pool.Used), D.int .i64 b0.Out.Pool.Last, D.sl [.int .i64] (List.map (encI .i64) b0.In.IDs), D.bool b0.Will.Set, D.int .i64 b0.Will.Delay, D.str b0.Will.Message.Topic, D.str b0.Will.Message.Payload, D.int .i64 b0.Will.Message.Level, D.bool b0.Will.Message.Retain, D.int .i64 b0.Will.Message.Priority, D.int .i64 b0.Will.Message.Expires, D.str b0.Will.Message.From, D.int .i64 b0.Will.Message.Seq, D.sl aD.ks (List.map aD.enc b0.Will.Message.Props)] (aC.enc b1) (((List.map aE.enc w3002) ++ [[D.int .i64 3, D.int .i64 0, D.bool false, D.str r2.Topic, D.str r2.Payload, D.int .i64 r2.Level, D.bool r2.Retain, D.int .i64 r2.Priority, D.int .i64 r2.Expires, D.str r2.From, D.int .i64 r2.Seq, D.sl aD.ks (List.map aD.enc r2.Props), D.str ([] : Str), D.str ([] : Str), D.bool false, D.int .i64 0, D.int .i64 0, D.int .i64 0, D.bool false, D.int .i64 0, D.str ([] : Str), D.str ([] : Str), D.int .i64 0, D.bool false, D.int .i64 0, D.int .i64 0, D.str ([] : Str), D.int .i64 0, D.sl aD.ks (List.map aD.enc []), D.bool false, D.int .i64 0, D.sl aF.ks (List.map aF.enc []), D.sl [.str] (List.map bF []), D.sl [.int .i64] (List.map (encI .i64) [])]]))) none) none) (
  γ114 [aG.av b0.Out, .agg [.d (.str (aV (cellAt (elemAt (List.map aA.enc b0.Queue) (Int.toNat 0)) 0))), .d (.str (aV (cellAt (elemAt (List.map aA.enc b0.Queue) (Int.toNat 0)) 1))), .d (.int .i64 (aL (cellAt (elemAt (List.map aA.enc b0.Queue) (Int.toNat 0)) 2))), .d (.bool (aY (cellAt (elemAt (List.map aA.enc b0.Queue) (Int.toNat 0)) 3))), .d (.int .i64 (aL (cellAt (elemAt (List.map aA.enc b0.Queue) (Int.toNat 0)) 4))), .d (.int .i64 (aL (cellAt (elemAt (List.map aA.enc b0.Queue) (Int.toNat 0)) 5))), .d (.str (aV (cellAt (elemAt (List.map aA.enc b0.Queue) (Int.toNat 0)) 6))), .d (.int .i64 (aL (cellAt (elemAt (List.map aA.enc b0.Queue) (Int.toNat 0)) 7))), .d (.sl aD.ks (dSl (cellAt (elemAt (List.map aA.enc b0.Queue) (Int.toNat 0)) 8)))]] [] [] fun r3 =>
  cond (r3.2.2 != 0) (
  (some (.ret [aC.av b0, .row 0] [] [⟨aE.ks, 49, 416, (List.map aE.enc w3002)⟩]))) (
  cond (decide ((List.length (List.map aE.enc w3002) + List.length (List.map aE.enc [r3.2.1])) * 416 ≤ 140737488355328)) (
  cond (decide (0 ≤ 1) && decide (1 ≤ ((List.length (List.map aA.enc b0.Queue)) : Int))) (
   afp (C61 Γ γ113 γ51 γ80 γ114) Λ2 J x1 [D.str b0.Client, D.str b0.User, D.bool b0.Online, D.int .i64 b0.Conn, D.int .i64 b0.Expiry, D.int .i64 b0.Until, D.int .i64 b0.Dropped, D.sl aF.ks (List.map aF.enc b0.Subs), D.sl aA.ks (bU (List.map aA.enc b0.Queue) (some 1) none), D.int .i64 r3.1.Limit, D.sl aB.ks (List.map aB.enc r3.1.Items), D.sl [.int .i64] (List.map (encI .i64) r3.1.Pool.Used), D.int .i64 r3.1.Pool.Last, D.sl [.int .i64] (List.map (encI .i64) b0.In.IDs), D.bool b0.Will.Set, D.int .i64 b0.Will.Delay, D.str b0.Will.Message.Topic, D.str b0.Will.Message.Payload, D.int .i64 b0.Will.Message.Level, D.bool b0.Will.Message.Retain, D.int .i64 b0.Will.Message.Priority, D.int .i64 b0.Will.Message.Expires, D.str b0.Will.Message.From, D.int .i64 b0.Will.Message.Seq, D.sl aD.ks (List.map aD.enc b0.Will.Message.Props)] (aC.enc b1) (((List.map aE.enc w3002) ++ (List.map aE.enc [r3.2.1])))) none) none)))) none) (
 (some (.ret [aC.av b0, .row 0] [] [⟨aE.ks, 49, 416, (List.map aE.enc w3002)⟩]))) := by kernel_rfl
end
abbrev X61 : aP := C61 gG (cT 113 iL) (cT 51 dB) (cT 80 cQ) (cT 114 hI)
theorem aoQ : X61 = aO gG := by unfold X61 C61; rw [aK fun _ h => h, aK fun _ h => h, aK fun _ h => h, aK fun _ h => h]
noncomputable abbrev arZ (a0 : Int) (a1 : (List D)) (a2 : (List D)) (a3 : (List (List D))) : Res := afp X61 (bY SE gG (SE.hl 61) (SE.hr 61)) (J0 SE X61) a0 a1 a2 a3
theorem vI : ∀ (fu : Nat) (x1 : Int) (b0 : aC) (b1 : aC) (w3002 : (List aE)), Le (Option.map dR (k7 fu x1 b0 b1 w3002)) (arZ x1 (aC.enc b0) (aC.enc b1) (List.map aE.enc w3002)) := by
 intro fu
 induction fu with
 | zero => intros; exact le_none
 | succ fu ih =>
  intro x1 b0 b1 w3002
  refine Le.trans ?_ (le_of_eq ((bC aoQ).trans (arV _ _ _ _ _ _ _  x1 b0 b1 w3002)).symm)
  unfold k7
  refine lD (by simp only [EN]) ?_ ?_
  ·refine lG (by simp only [EN]) ?_
   refine aM (good := good) eX acw (by first | (simp only [EN]; exact vK (List.getD b0.Queue (Int.toNat 0) default) x1) | exact vK (List.getD b0.Queue (Int.toNat 0) default) x1) fun r0 _ => ?_
   refine lC ?_ ?_
   ·refine aM (good := good) eX mU (jA _ _) fun r1 _ => ?_
    refine lG (by simp only [EN]) ?_
    first | (simp only [EN]; exact ih x1 (aC.mk r1.Client r1.User r1.Online r1.Conn r1.Expiry r1.Until r1.Dropped r1.Subs (bU r1.Queue (some 1) none) r1.Out r1.In r1.Will) b1 w3002) | exact ih x1 (aC.mk r1.Client r1.User r1.Online r1.Conn r1.Expiry r1.Until r1.Dropped r1.Subs (bU r1.Queue (some 1) none) r1.Out r1.In r1.Will) b1 w3002
   ·refine lD (by simp only [EN]) ?_ ?_
    ·refine aM (good := good) eX jF (by first | (simp only [EN]; exact eV (List.getD b0.Queue (Int.toNat 0) default)) | exact eV (List.getD b0.Queue (Int.toNat 0) default)) fun r2 _ => ?_
     refine lG (by simp only [EN]) ?_
     refine lG (by simp only [EN]) ?_
     first | (simp only [EN]; exact ih x1 (aC.mk b0.Client b0.User b0.Online b0.Conn b0.Expiry b0.Until b0.Dropped b0.Subs (bU b0.Queue (some 1) none) b0.Out b0.In b0.Will) b1 ((w3002 ++ [(aE.mk 3 0 false r2 ([] : Str) ([] : Str) false 0 0 0 (aN.mk false 0 (aA.mk ([] : Str) ([] : Str) 0 false 0 0 ([] : Str) 0 ([] : List aD))) false 0 ([] : List aF) ([] : List Str) ([] : List Int))]))) | exact ih x1 (aC.mk b0.Client b0.User b0.Online b0.Conn b0.Expiry b0.Until b0.Dropped b0.Subs (bU b0.Queue (some 1) none) b0.Out b0.In b0.Will) b1 ((w3002 ++ [(aE.mk 3 0 false r2 ([] : Str) ([] : Str) false 0 0 0 (aN.mk false 0 (aA.mk ([] : Str) ([] : Str) 0 false 0 0 ([] : Str) 0 ([] : List aD))) false 0 ([] : List aF) ([] : List Str) ([] : List Int))]))
    ·refine aM (good := good) eX ado (by first | (simp only [EN]; exact wH b0.Out (List.getD b0.Queue (Int.toNat 0) default)) | exact wH b0.Out (List.getD b0.Queue (Int.toNat 0) default)) fun r3 _ => ?_
     refine lC ?_ ?_
     ·exact aH rfl
     ·refine lG (by simp only [EN]) ?_
      refine lG (by simp only [EN]) ?_
      first | (simp only [EN]; exact ih x1 (aC.mk b0.Client b0.User b0.Online b0.Conn b0.Expiry b0.Until b0.Dropped b0.Subs (bU b0.Queue (some 1) none) r3.1 b0.In b0.Will) b1 (w3002 ++ [r3.2.1])) | exact ih x1 (aC.mk b0.Client b0.User b0.Online b0.Conn b0.Expiry b0.Until b0.Dropped b0.Subs (bU b0.Queue (some 1) none) r3.1 b0.In b0.Will) b1 (w3002 ++ [r3.2.1])
  ·exact aH rfl
theorem pI (p0 : aC) (p1 : Int) (p2 : (List aE)) : Le (Option.map dR (pR p0 p1 p2)) (aX SE 61 [aC.av p0, .d (.int .i64 p1), .row 2000000000] [] [⟨aE.ks, 49, 416, (List.map aE.enc p2)⟩]) := by
 refine aQ aoQ rfl ?_
 refine Le.trans ?_ (le_of_eq (T61 _ _ _ _ _ _ _  p0 p1 p2).symm)
 unfold pR
 first | (simp only [EN]; exact vI fuel p1 p0 ((aC.mk ([] : Str) ([] : Str) false 0 0 0 0 ([] : List aF) ([] : List aA) (aG.mk 0 ([] : List aB) (aJ.mk ([] : List Int) 0)) (aU.mk ([] : List Int)) (aN.mk false 0 (aA.mk ([] : Str) ([] : Str) 0 false 0 0 ([] : Str) 0 ([] : List aD))))) p2) | exact vI fuel p1 p0 ((aC.mk ([] : Str) ([] : Str) false 0 0 0 0 ([] : List aF) ([] : List aA) (aG.mk 0 ([] : List aB) (aJ.mk ([] : List Int) 0)) (aU.mk ([] : List Int)) (aN.mk false 0 (aA.mk ([] : Str) ([] : Str) 0 false 0 0 ([] : Str) 0 ([] : List aD))))) p2
section
variable (Γ : Fun) (γ50 : Gm (aC)) (γ61 : Gm (aC × (List aE))) (Λ2 J : Lam)
def C34 : aP := aZ (aZ (aO Γ) 50 bS γ50) 61 dR γ61
theorem T34 (p0 : aC) (p1 : Int) : bB SE (C34 Γ γ50 γ61) Λ2 J 34 [aC.av p0, .d (.int .i64 p1)] [] [] =
 cond (!p0.Online) (
 γ50 [aC.av p0] [] [] fun r0 =>
 (some (.ret [aC.av r0, .row 0] [] [⟨aE.ks, 49, 416, []⟩]))) (
 γ50 [aC.av p0] [] [] fun r1 =>
 γ61 [aC.av r1, .d (.int .i64 p1), .row 2000000000] [] [⟨aE.ks, 49, 416, (List.map aE.enc [])⟩] fun r2 =>
 (some (.ret [aC.av r2.1, .row 0] [] [⟨aE.ks, 49, 416, (List.map aE.enc r2.2)⟩]))) := by kernel_rfl
end
abbrev X34 : aP := C34 gG (cT 50 bS) (cT 61 dR)
theorem at3 : X34 = aO gG := by unfold X34 C34; rw [aK fun _ h => h, aK fun _ h => h]
theorem afH (p0 : aC) (p1 : Int) : Le (Option.map kH (yG p0 p1)) (aX SE 34 [aC.av p0, .d (.int .i64 p1)] [] []) := by
 refine aQ at3 rfl ?_
 refine Le.trans ?_ (le_of_eq (T34 _ _ _ _ _  p0 p1).symm)
 unfold yG
 refine lC ?_ ?_
 ·refine aM (good := good) eX iD (iW _) fun r0 _ => ?_
  exact aH rfl
 ·refine aM (good := good) eX iD (iW _) fun r1 _ => ?_
  refine aM (good := good) eX rO (by first | (simp only [EN]; exact pI r1 p1 ([] : List aE)) | exact pI r1 p1 ([] : List aE)) fun r2 _ => ?_
  exact aH rfl
section
variable (Γ : Fun)  (Λ2 J : Lam)
def aoM : aP := aO Γ
theorem atu (p0 : aB) (p1 : Int) : bB SE (aoM Γ) Λ2 J 152 [aB.av p0, .ptr 2000000000 0] [⟨3, [.d (.int .i64 p1)]⟩] [] =
 (some (.ret [.d (.bool (p0.ID == p1))] [⟨3, [.d (.int .i64 p1)]⟩] [])) := by kernel_rfl
end
abbrev asv : aP := aoM gG
theorem arT : asv = aO gG := rfl
theorem vR (p0 : aB) (p1 : Int) : Le (Option.map iN (sV p0 p1)) (aX SE 152 [aB.av p0, .ptr 2000000000 0] [⟨3, [.d (.int .i64 p1)]⟩] []) := by
 refine aQ arT rfl ?_
 refine Le.trans ?_ (le_of_eq (atu _ _ _  p0 p1).symm)
 unfold sV
 exact aH rfl
def ahO (C : aP) (Λ2 J : Lam) (a0 : (List (List D))) (a1 : Int) (a2 : Int) (a3 : Int) : Res := lab SE C Λ2 J 151 1 [1, 0, 1, 0] (bA [(0, .d (.sl aB.ks a0)), (1, .fn 152 [] [.ptr 2000000000 0]), (7, .d (.int .i64 a1)), (8, .d (.int .i64 a2))] [] [⟨3, [.d (.int .i64 a3)]⟩] [] [])
section
variable (Γ : Fun) (γ152 : Gm (Bool × Int)) (Λ2 J : Lam)
def agD : aP := aZ (aO Γ) 152 iN γ152
theorem asJ (p0 : (List aB)) (p1_0 : Int) : bB SE (agD Γ γ152) Λ2 J 151 [.d (.sl aB.ks (List.map aB.enc p0)), .fn 152 [] [.ptr 2000000000 0]] [⟨3, [.d (.int .i64 p1_0)]⟩] [] =
 ahO (agD Γ γ152) Λ2 J (List.map aB.enc p0) (List.length (List.map aB.enc p0) : Int) 0 p1_0 := by kernel_rfl
theorem aqo (x0 : (List aB)) (x7 : Int) (x8 : Int) (q0_0 : Int) : cG SE (agD Γ γ152) Λ2 J 151 1 [1, 0, 1, 0] (bA [(0, .d (.sl aB.ks (List.map aB.enc x0))), (1, .fn 152 [] [.ptr 2000000000 0]), (7, .d (.int .i64 x7)), (8, .d (.int .i64 x8))] [] [⟨3, [.d (.int .i64 q0_0)]⟩] [] []) =
 cond (decide (x8 < x7)) (
 cond (decide (0 ≤ x8) && decide (x8 < (List.length (List.map aB.enc x0) : Int))) (
  γ152 [.agg [.d (.int .i64 (aL (cellAt (elemAt (List.map aB.enc x0) (Int.toNat x8)) 0))), .d (.int .i64 (aL (cellAt (elemAt (List.map aB.enc x0) (Int.toNat x8)) 1))), .d (.str (aV (cellAt (elemAt (List.map aB.enc x0) (Int.toNat x8)) 2))), .d (.str (aV (cellAt (elemAt (List.map aB.enc x0) (Int.toNat x8)) 3))), .d (.int .i64 (aL (cellAt (elemAt (List.map aB.enc x0) (Int.toNat x8)) 4))), .d (.bool (aY (cellAt (elemAt (List.map aB.enc x0) (Int.toNat x8)) 5))), .d (.int .i64 (aL (cellAt (elemAt (List.map aB.enc x0) (Int.toNat x8)) 6))), .d (.int .i64 (aL (cellAt (elemAt (List.map aB.enc x0) (Int.toNat x8)) 7))), .d (.str (aV (cellAt (elemAt (List.map aB.enc x0) (Int.toNat x8)) 8))), .d (.int .i64 (aL (cellAt (elemAt (List.map aB.enc x0) (Int.toNat x8)) 9))), .d (.sl aD.ks (dSl (cellAt (elemAt (List.map aB.enc x0) (Int.toNat x8)) 10)))], .ptr 2000000000 0] [⟨3, [.d (.int .i64 q0_0)]⟩] [] fun r0 =>
  cond r0.1 (
  (some (.ret [.d (.int .i64 x8)] [⟨3, [.d (.int .i64 r0.2)]⟩] []))) (
  ahO (agD Γ γ152) Λ2 J (List.map aB.enc x0) x7 (IntKind.wrap .i64 (x8 + 1)) r0.2)) none) (
 (some (.ret [.d (.int .i64 (-1))] [⟨3, [.d (.int .i64 q0_0)]⟩] []))) := by kernel_rfl
end
abbrev ajt : aP := agD gG (cT 152 iN)
theorem anw : ajt = aO gG := by unfold ajt agD; rw [aK fun _ h => h]
noncomputable abbrev apD (a0 : (List (List D))) (a1 : Int) (a2 : Int) (a3 : Int) : Res := ahO ajt (bY SE gG (SE.hl 151) (SE.hr 151)) (J0 SE ajt) a0 a1 a2 a3
theorem hU : ∀ (fu : Nat) (x0 : (List aB)) (x7 : Int) (x8 : Int) (q0_0 : Int), Le (Option.map bM (cY fu x0 x7 x8 q0_0)) (apD (List.map aB.enc x0) x7 x8 q0_0) := by
 intro fu
 induction fu with
 | zero => intros; exact le_none
 | succ fu ih =>
  intro x0 x7 x8 q0_0
  refine Le.trans ?_ (le_of_eq ((bC anw).trans (aqo _ _ _ _  x0 x7 x8 q0_0)).symm)
  unfold cY
  refine lC ?_ ?_
  ·refine lG (by simp only [EN]) ?_
   refine aM (good := good) eX acx (by first | (simp only [EN]; exact vR (List.getD x0 (Int.toNat x8) default) q0_0) | exact vR (List.getD x0 (Int.toNat x8) default) q0_0) fun r0 _ => ?_
   refine lC ?_ ?_
   ·exact aH rfl
   ·exact ih x0 x7 (IntKind.wrap .i64 (x8 + 1)) r0.2
  ·exact aH rfl
theorem nP (p0 : (List aB)) (p1_0 : Int) : Le (Option.map bM (fE p0 p1_0)) (aX SE 151 [.d (.sl aB.ks (List.map aB.enc p0)), .fn 152 [] [.ptr 2000000000 0]] [⟨3, [.d (.int .i64 p1_0)]⟩] []) := by
 refine aQ anw rfl ?_
 refine Le.trans ?_ (le_of_eq (asJ _ _ _ _  p0 p1_0).symm)
 unfold fE
 first | (simp only [EN]; exact hU fuel p0 (List.length p0 : Int) 0 p1_0) | exact hU fuel p0 (List.length p0 : Int) 0 p1_0
section
variable (Γ : Fun) (γ151 : Gm (Int × Int)) (Λ2 J : Lam)
def alU : aP := aZ (aO Γ) 151 bM γ151
theorem atx (p0 : (List aB)) (p1 : Int) : bB SE (alU Γ γ151) Λ2 J 109 [.d (.sl aB.ks (List.map aB.enc p0)), .d (.int .i64 p1)] [] [] =
 γ151 [.d (.sl aB.ks (List.map aB.enc p0)), .fn 152 [] [.ptr 2000000000 0]] [⟨3, [.d (.int .i64 p1)]⟩] [] fun r0 =>
 (some (.ret [.d (.int .i64 r0.1)] [] [])) := by kernel_rfl
end
abbrev ap9 : aP := alU gG (cT 151 bM)
theorem ar4 : ap9 = aO gG := by unfold ap9 alU; rw [aK fun _ h => h]
theorem aem (p0 : (List aB)) (p1 : Int) : Le (Option.map j2 (vU p0 p1)) (aX SE 109 [.d (.sl aB.ks (List.map aB.enc p0)), .d (.int .i64 p1)] [] []) := by
 refine aQ ar4 rfl ?_
 refine Le.trans ?_ (le_of_eq (atx _ _ _ _  p0 p1).symm)
 unfold vU
 refine aM (good := good) eX nE (nP _ _) fun r0 _ => ?_
 exact aH rfl
theorem vN (p0 : (List Int)) (p1 : Int) (p2 : Int) : Le (Option.map dM (pW p0 p1 p2)) (aX SE 176 [.row 2000000000, .d (.int .i64 p1), .d (.int .i64 p2)] [] [⟨[.int .i64], 3, 8, (List.map (encI .i64) p0)⟩]) := ag3 (f := 176) (enc := (encI .i64)) rfl rfl p0 p1 p2
section
variable (Γ : Fun) (γ104 : Gm ((List Int))) (γ175 : Gm (Int × Bool)) (γ176 : Gm ((List Int))) (Λ2 J : Lam)
def alT : aP := aZ (aZ (aZ (aO Γ) 104 bN γ104) 175 bO γ175) 176 dM γ176
theorem atl (p0 : aJ) (p1 : Int) : bB SE (alT Γ γ104 γ175 γ176) Λ2 J 154 [aJ.av p0, .d (.int .i64 p1)] [] [] =
 γ104 [.d (.sl [.int .i64] (List.map (encI .i64) p0.Used))] [] [] fun r0 =>
 γ175 [.d (.sl [.int .i64] (List.map (encI .i64) r0)), .d (.int .i64 p1)] [] [] fun r1 =>
 cond r1.2 (
 γ176 [.row 2000000000, .d (.int .i64 r1.1), .d (.int .i64 (IntKind.wrap .i64 (r1.1 + 1)))] [] [⟨[.int .i64], 3, 8, (List.map (encI .i64) r0)⟩] fun r2 =>
 (some (.ret [.agg [.row 0, .d (.int .i64 p0.Last)], .d (.bool r1.2)] [] [⟨[.int .i64], 3, 8, (List.map (encI .i64) r2)⟩]))) (
 (some (.ret [.agg [.row 0, .d (.int .i64 p0.Last)], .d (.bool r1.2)] [] [⟨[.int .i64], 3, 8, (List.map (encI .i64) r0)⟩]))) := by kernel_rfl
end
abbrev aoh : aP := alT gG (cT 104 bN) (cT 175 bO) (cT 176 dM)
theorem aqx : aoh = aO gG := by unfold aoh alT; rw [aK fun _ h => h, aK fun _ h => h, aK fun _ h => h]
theorem aco (p0 : aJ) (p1 : Int) : Le (Option.map mG (abS p0 p1)) (aX SE 154 [aJ.av p0, .d (.int .i64 p1)] [] []) := by
 refine aQ aqx rfl ?_
 refine Le.trans ?_ (le_of_eq (atl _ _ _ _ _ _  p0 p1).symm)
 unfold abS
 refine aM (good := good) eX fF (fQ _) fun r0 _ => ?_
 refine aM (good := good) eX lN (mB _ _) fun r1 _ => ?_
 refine lC ?_ ?_
 ·refine aM (good := good) eX uP (vN _ _ _) fun r2 _ => ?_
  exact aH rfl
 ·exact aH rfl
theorem oL (p0 : (List aB)) (p1 : Int) (p2 : Int) : Le (Option.map bW (j8 p0 p1 p2)) (aX SE 155 [.row 2000000000, .d (.int .i64 p1), .d (.int .i64 p2)] [] [⟨aB.ks, 122, 128, (List.map aB.enc p0)⟩]) := ag3 (f := 155) (enc := aB.enc) rfl rfl p0 p1 p2
section
variable (Γ : Fun) (γ154 : Gm (aJ × Bool)) (γ110 : Gm (aG)) (γ155 : Gm ((List aB))) (Λ2 J : Lam)
def amr : aP := aZ (aZ (aZ (aO Γ) 154 mG γ154) 110 c7 γ110) 155 bW γ155
theorem atG (p0 : aG) (p1 : Int) : bB SE (amr Γ γ154 γ110 γ155) Λ2 J 111 [aG.av p0, .d (.int .i64 p1)] [] [] =
 cond (decide (0 ≤ p1) && decide (p1 < (List.length (List.map aB.enc p0.Items) : Int))) (
 γ154 [aJ.av p0.Pool, .d (.int .i64 (aL (cellAt (elemAt (List.map aB.enc p0.Items) (Int.toNat p1)) 0)))] [] [] fun r0 =>
 γ110 [aG.av p0] [] [] fun r1 =>
 γ155 [.row 2000000000, .d (.int .i64 p1), .d (.int .i64 (IntKind.wrap .i64 (p1 + 1)))] [] [⟨aB.ks, 122, 128, (List.map aB.enc r1.Items)⟩] fun r2 =>
 (some (.ret [.agg [.d (.int .i64 r1.Limit), .row 0, .row 1, .d (.int .i64 r0.1.Last)]] [] [⟨aB.ks, 122, 128, (List.map aB.enc r2)⟩, ⟨[.int .i64], 3, 8, (List.map (encI .i64) r0.1.Used)⟩]))) none := by kernel_rfl
end
abbrev apE : aP := amr gG (cT 154 mG) (cT 110 c7) (cT 155 bW)
theorem arF : apE = aO gG := by unfold apE amr; rw [aK fun _ h => h, aK fun _ h => h, aK fun _ h => h]
theorem vJ (p0 : aG) (p1 : Int) : Le (Option.map iP (pG p0 p1)) (aX SE 111 [aG.av p0, .d (.int .i64 p1)] [] []) := by
 refine aQ arF rfl ?_
 refine Le.trans ?_ (le_of_eq (atG _ _ _ _ _ _  p0 p1).symm)
 unfold pG
 refine lG (by simp only [EN]) ?_
 refine aM (good := good) eX af7 (by first | (simp only [EN]; exact aco p0.Pool ((List.getD p0.Items (Int.toNat p1) default).ID)) | exact aco p0.Pool ((List.getD p0.Items (Int.toNat p1) default).ID)) fun r0 _ => ?_
 refine aM (good := good) eX jB (jT _) fun r1 _ => ?_
 refine aM (good := good) eX oB (oL _ _ _) fun r2 _ => ?_
 exact aH rfl
section
variable (Γ : Fun)  (Λ2 J : Lam)
def aoG : aP := aO Γ
theorem at4 (p0 : Int) : bB SE (aoG Γ) Λ2 J 112 [.d (.int .i64 p0)] [] [] =
 (some (.ret [.agg [.d (.int .i64 6), .d (.int .i64 p0), .d (.bool false), .d (.str ([] : Str)), .d (.str ([] : Str)), .d (.int .i64 0), .d (.bool false), .d (.int .i64 0), .d (.int .i64 0), .d (.str ([] : Str)), .d (.int .i64 0), .row 0, .d (.str ([] : Str)), .d (.str ([] : Str)), .d (.bool false), .d (.int .i64 0), .d (.int .i64 0), .d (.int .i64 0), .d (.bool false), .d (.int .i64 0), .d (.str ([] : Str)), .d (.str ([] : Str)), .d (.int .i64 0), .d (.bool false), .d (.int .i64 0), .d (.int .i64 0), .d (.str ([] : Str)), .d (.int .i64 0), .row 1, .d (.bool false), .d (.int .i64 0), .row 2, .row 3, .row 4]] [] [⟨aD.ks, 130, 32, (List.map aD.enc [])⟩, ⟨aD.ks, 130, 32, (List.map aD.enc [])⟩, ⟨aF.ks, 60, 32, (List.map aF.enc [])⟩, ⟨[.str], 9, 16, (List.map bF [])⟩, ⟨[.int .i64], 3, 8, (List.map (encI .i64) [])⟩])) := by kernel_rfl
end
abbrev asE : aP := aoG gG
theorem aqX : asE = aO gG := rfl
theorem nL (p0 : Int) : Le (Option.map eO (nI p0)) (aX SE 112 [.d (.int .i64 p0)] [] []) := by
 refine aQ aqX rfl ?_
 refine Le.trans ?_ (le_of_eq (at4 _ _ _  p0).symm)
 unfold nI
 exact aH rfl
end Te
end PX
