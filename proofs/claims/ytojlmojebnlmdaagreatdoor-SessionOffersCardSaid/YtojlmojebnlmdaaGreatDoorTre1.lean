import Derived.Test.YtojlmojebnlmdaaGreatDoorTre0
set_option linter.unusedVariables false
set_option linter.unusedSimpArgs false
set_option maxRecDepth 100000
noncomputable section
namespace PX
open Go
open Md
namespace Te
def agq (C : aP) (Λ2 J : Lam) (a0 : (List (List D))) (a1 : Str) (a2 : Int) (a3 : Int) (a4 : Int) : Res := lab SE C Λ2 J 128 0 [1, 1, 1, 0, 0] (bA [(0, .d (.sl aF.ks a0)), (1, .d (.str a1)), (2, .fn 129 [] []), (8, .d (.int .i64 a2)), (9, .d (.int .i64 a3)), (10, .d (.int .i64 a4))] [] [] [] [])
section
variable (Γ : Fun) (γ129 : Gm (Int)) (Λ2 J : Lam)
def afO : aP := aZ (aO Γ) 129 jN γ129
theorem auD (p0 : (List aF)) (p1 : Str) : bC SE (afO Γ γ129) Λ2 J 128 [.d (.sl aF.ks (List.map aF.enc p0)), .d (.str p1), .fn 129 [] []] [] [] =
 agq (afO Γ γ129) Λ2 J (List.map aF.enc p0) p1 (List.length (List.map aF.enc p0) : Int) 0 (List.length (List.map aF.enc p0) : Int) := by kernel_rfl
theorem aq2 (x0 : (List aF)) (x1 : Str) (x8 : Int) (x9 : Int) (x10 : Int) : bW SE (afO Γ γ129) Λ2 J 128 0 [1, 1, 1, 0, 0] (bA [(0, .d (.sl aF.ks (List.map aF.enc x0))), (1, .d (.str x1)), (2, .fn 129 [] []), (8, .d (.int .i64 x8)), (9, .d (.int .i64 x9)), (10, .d (.int .i64 x10))] [] [] [] []) =
 cond (decide (x9 < x10)) (
 cond (decide (0 ≤ (IntKind.wrap .i64 (shr .u64 (IntKind.wrap .u64 (IntKind.wrap .i64 (x9 + x10))) 1))) && decide ((IntKind.wrap .i64 (shr .u64 (IntKind.wrap .u64 (IntKind.wrap .i64 (x9 + x10))) 1)) < (List.length (List.map aF.enc x0) : Int))) (
  γ129 [.agg [.d (.str (aV (cellAt (elemAt (List.map aF.enc x0) (Int.toNat (IntKind.wrap .i64 (shr .u64 (IntKind.wrap .u64 (IntKind.wrap .i64 (x9 + x10))) 1)))) 0))), .d (.int .i64 (aL (cellAt (elemAt (List.map aF.enc x0) (Int.toNat (IntKind.wrap .i64 (shr .u64 (IntKind.wrap .u64 (IntKind.wrap .i64 (x9 + x10))) 1)))) 1))), .d (.bool (aX (cellAt (elemAt (List.map aF.enc x0) (Int.toNat (IntKind.wrap .i64 (shr .u64 (IntKind.wrap .u64 (IntKind.wrap .i64 (x9 + x10))) 1)))) 2)))], .d (.str x1)] [] [] fun r0 =>
  cond (decide (r0 < 0)) (
  agq (afO Γ γ129) Λ2 J (List.map aF.enc x0) x1 x8 (IntKind.wrap .i64 ((IntKind.wrap .i64 (shr .u64 (IntKind.wrap .u64 (IntKind.wrap .i64 (x9 + x10))) 1)) + 1)) x10) (
  agq (afO Γ γ129) Λ2 J (List.map aF.enc x0) x1 x8 x9 (IntKind.wrap .i64 (shr .u64 (IntKind.wrap .u64 (IntKind.wrap .i64 (x9 + x10))) 1)))) none) (
 cond (decide (x9 < x8)) (
 cond (decide (0 ≤ x9) && decide (x9 < (List.length (List.map aF.enc x0) : Int))) (
  γ129 [.agg [.d (.str (aV (cellAt (elemAt (List.map aF.enc x0) (Int.toNat x9)) 0))), .d (.int .i64 (aL (cellAt (elemAt (List.map aF.enc x0) (Int.toNat x9)) 1))), .d (.bool (aX (cellAt (elemAt (List.map aF.enc x0) (Int.toNat x9)) 2)))], .d (.str x1)] [] [] fun r1 =>
  (some (.ret [.d (.int .i64 x9), .d (.bool (r1 == 0))] [] []))) none) (
 (some (.ret [.d (.int .i64 x9), .d (.bool false)] [] [])))) := by kernel_rfl
end
abbrev akN : aP := afO gG (cT 129 jN)
theorem aou : akN = aO gG := by unfold akN afO; rw [aK fun _ h => h]
noncomputable abbrev aqF (a0 : (List (List D))) (a1 : Str) (a2 : Int) (a3 : Int) (a4 : Int) : Res := agq akN (bU SE gG (SE.hl 128) (SE.hr 128)) (J0 SE akN) a0 a1 a2 a3 a4
theorem fG : ∀ (fu : Nat) (x0 : (List aF)) (x1 : Str) (x8 : Int) (x9 : Int) (x10 : Int), Le (Option.map bH (bT fu x0 x1 x8 x9 x10)) (aqF (List.map aF.enc x0) x1 x8 x9 x10) := by
 intro fu
 induction fu with
 | zero => intros; exact le_none
 | succ fu ih =>
  intro x0 x1 x8 x9 x10
  refine Le.trans ?_ (le_of_eq ((bB aou).trans (aq2 _ _ _ _  x0 x1 x8 x9 x10)).symm)
  unfold bT
  refine lC ?_ ?_
  ·refine lG (by simp only [EN]) ?_
   refine aM (good := good) eX wZ (by first | (simp only [EN]; exact oT (List.getD x0 (Int.toNat (IntKind.wrap .i64 (shr .u64 (IntKind.wrap .u64 (IntKind.wrap .i64 (x9 + x10))) 1))) default) x1) | exact oT (List.getD x0 (Int.toNat (IntKind.wrap .i64 (shr .u64 (IntKind.wrap .u64 (IntKind.wrap .i64 (x9 + x10))) 1))) default) x1) fun r0 _ => ?_
   refine lC ?_ ?_
   ·exact ih x0 x1 x8 (IntKind.wrap .i64 ((IntKind.wrap .i64 (shr .u64 (IntKind.wrap .u64 (IntKind.wrap .i64 (x9 + x10))) 1)) + 1)) x10
   ·exact ih x0 x1 x8 x9 (IntKind.wrap .i64 (shr .u64 (IntKind.wrap .u64 (IntKind.wrap .i64 (x9 + x10))) 1))
  ·refine lC ?_ ?_
   ·refine lG (by simp only [EN]) ?_
    refine aM (good := good) eX wZ (by first | (simp only [EN]; exact oT (List.getD x0 (Int.toNat x9) default) x1) | exact oT (List.getD x0 (Int.toNat x9) default) x1) fun r1 _ => ?_
    exact aH rfl
   ·exact aH rfl
theorem lX (p0 : (List aF)) (p1 : Str) : Le (Option.map bH (dN p0 p1)) (aY SE 128 [.d (.sl aF.ks (List.map aF.enc p0)), .d (.str p1), .fn 129 [] []] [] []) := by
 refine aS aou rfl ?_
 refine Le.trans ?_ (le_of_eq (auD _ _ _ _  p0 p1).symm)
 unfold dN
 first | (simp only [EN]; exact fG fuel p0 p1 (List.length p0 : Int) 0 (List.length p0 : Int)) | exact fG fuel p0 p1 (List.length p0 : Int) 0 (List.length p0 : Int)
section
variable (Γ : Fun) (γ128 : Gm (Int × Bool)) (Λ2 J : Lam)
def C67 : aP := aZ (aO Γ) 128 bH γ128
theorem T67 (p0 : (List aF)) (p1 : Str) : bC SE (C67 Γ γ128) Λ2 J 67 [.d (.sl aF.ks (List.map aF.enc p0)), .d (.str p1)] [] [] =
 γ128 [.d (.sl aF.ks (List.map aF.enc p0)), .d (.str p1), .fn 129 [] []] [] [] fun r0 =>
 (some (.ret [.d (.int .i64 r0.1), .d (.bool r0.2)] [] [])) := by kernel_rfl
end
abbrev X67 : aP := C67 gG (cT 128 bH)
theorem aum : X67 = aO gG := by unfold X67 C67; rw [aK fun _ h => h]
theorem agK (p0 : (List aF)) (p1 : Str) : Le (Option.map kZ (zY p0 p1)) (aY SE 67 [.d (.sl aF.ks (List.map aF.enc p0)), .d (.str p1)] [] []) := by
 refine aS aum rfl ?_
 refine Le.trans ?_ (le_of_eq (T67 _ _ _ _  p0 p1).symm)
 unfold zY
 refine aM (good := good) eX lM (lX _ _) fun r0 _ => ?_
 exact aH rfl
section
variable (Γ : Fun)  (Λ2 J : Lam)
def aqL : aP := aO Γ
theorem auh (p0 : (List aF)) : bC SE (aqL Γ) Λ2 J 103 [.d (.sl aF.ks (List.map aF.enc p0))] [] [] =
 cond (List.isEmpty (List.map aF.enc p0)) (
 wD (
  (some (.ret [.row 0] [] [⟨aF.ks, 60, 32, []⟩]))) (
  cond (decide ((List.length (List.map aF.enc []) + List.length (List.map aF.enc p0)) * 32 ≤ 140737488355328)) (
  (some (.ret [.row 0] [] [⟨aF.ks, 60, 32, ((List.map aF.enc []) ++ (List.map aF.enc p0))⟩]))) none)) (
 cond (decide ((List.length (List.map aF.enc []) + List.length (List.map aF.enc p0)) * 32 ≤ 140737488355328)) (
 (some (.ret [.row 0] [] [⟨aF.ks, 60, 32, ((List.map aF.enc []) ++ (List.map aF.enc p0))⟩]))) none) := by kernel_rfl
end
abbrev avb : aP := aqL gG
theorem as4 : avb = aO gG := rfl
theorem rU (p0 : (List aF)) : Le (Option.map cI (eH p0)) (aY SE 103 [.d (.sl aF.ks (List.map aF.enc p0))] [] []) := by
 refine aS as4 rfl ?_
 refine Le.trans ?_ (le_of_eq (auh _ _ _  p0).symm)
 unfold eH
 refine lD (by simp only [EN]) ?_ ?_
 ·refine aht ?_ ?_
  ·exact aH rfl
  ·refine lG (by simp only [EN]) ?_
   exact aH rfl
 ·refine lG (by simp only [EN]) ?_
  exact aH rfl
section
variable (Γ : Fun)  (Λ2 J : Lam)
def aqg : aP := aO Γ
theorem avC (p0 : (List Int)) : bC SE (aqg Γ) Λ2 J 104 [.d (.sl [.int .i64] (List.map (encI .i64) p0))] [] [] =
 cond (List.isEmpty (List.map (encI .i64) p0)) (
 wD (
  (some (.ret [.row 0] [] [⟨[.int .i64], 3, 8, []⟩]))) (
  cond (decide ((List.length (List.map (encI .i64) []) + List.length (List.map (encI .i64) p0)) * 8 ≤ 140737488355328)) (
  (some (.ret [.row 0] [] [⟨[.int .i64], 3, 8, ((List.map (encI .i64) []) ++ (List.map (encI .i64) p0))⟩]))) none)) (
 cond (decide ((List.length (List.map (encI .i64) []) + List.length (List.map (encI .i64) p0)) * 8 ≤ 140737488355328)) (
 (some (.ret [.row 0] [] [⟨[.int .i64], 3, 8, ((List.map (encI .i64) []) ++ (List.map (encI .i64) p0))⟩]))) none) := by kernel_rfl
end
abbrev avG : aP := aqg gG
theorem asg : avG = aO gG := rfl
theorem fW (p0 : (List Int)) : Le (Option.map bL (cQ p0)) (aY SE 104 [.d (.sl [.int .i64] (List.map (encI .i64) p0))] [] []) := by
 refine aS asg rfl ?_
 refine Le.trans ?_ (le_of_eq (avC _ _ _  p0).symm)
 unfold cQ
 refine lD (by simp only [EN]) ?_ ?_
 ·refine aht ?_ ?_
  ·exact aH rfl
  ·refine lG (by simp only [EN]) ?_
   exact aH rfl
 ·refine lG (by simp only [EN]) ?_
  exact aH rfl
def ajz (C : aP) (Λ2 J : Lam) (a0 : (List (List D))) (a1 : Int) (a2 : Int) (a3 : Str) (a4 : Str) (a5 : Bool) (a6 : Int) (a7 : Int) (a8 : Int) (a9 : Int) (a10 : Int) (a11 : (List (List D))) (a12 : (List (List D))) (a13 : Int) (a14 : (List (List D))) (a15 : Bool) (a16 : Int) (a17 : Str) (a18 : Str) (a19 : Int) (a20 : Bool) (a21 : Int) (a22 : Int) (a23 : Str) (a24 : Int) (a25 : (List (List D))) (a26 : (List D)) (a27 : (List (List D))) (a28 : (List (List D))) (a29 : (List (List D))) : Res := lab SE C Λ2 J 50 0 [1, 1, 1, 1, 1, 1, 0, 1, 0] (bA [(1, .ptr 1000000000 0), (2, .ptr 1000000001 0), (6, .row 3006), (39, .d (.sl aB.ks a0)), (40, .d (.int .i64 a1)), (41, .d (.int .i64 a2))] [⟨38, [.d (.str a3), .d (.str a4), .d (.bool a5), .d (.int .i64 a6), .d (.int .i64 a7), .d (.int .i64 a8), .d (.int .i64 a9), .row 50007, .row 50008, .d (.int .i64 a10), .d (.sl aB.ks a11), .d (.sl [.int .i64] a12), .d (.int .i64 a13), .d (.sl [.int .i64] a14), .d (.bool a15), .d (.int .i64 a16), .d (.str a17), .d (.str a18), .d (.int .i64 a19), .d (.bool a20), .d (.int .i64 a21), .d (.int .i64 a22), .d (.str a23), .d (.int .i64 a24), .d (.sl aD.ks a25)]⟩, ⟨38, (List.map AV.d a26)⟩] [] [] [(3006, ⟨aB.ks, 122, 128, a27⟩), (50007, ⟨aF.ks, 60, 32, a28⟩), (50008, ⟨aA.ks, 34, 112, a29⟩)])
def akw (C : aP) (Λ2 J : Lam) (a0 : (List (List D))) (a1 : Int) (a2 : Int) (a3 : Str) (a4 : Str) (a5 : Bool) (a6 : Int) (a7 : Int) (a8 : Int) (a9 : Int) (a10 : (List (List D))) (a11 : Int) (a12 : (List (List D))) (a13 : (List (List D))) (a14 : Int) (a15 : (List (List D))) (a16 : Bool) (a17 : Int) (a18 : Str) (a19 : Str) (a20 : Int) (a21 : Bool) (a22 : Int) (a23 : Int) (a24 : Str) (a25 : Int) (a26 : (List (List D))) (a27 : (List D)) (a28 : (List (List D))) (a29 : (List (List D))) : Res := lab SE C Λ2 J 50 0 [1, 1, 1, 0, 1, 0] (bA [(1, .ptr 1000000000 0), (2, .ptr 1000000001 0), (3, .row 3003), (18, .d (.sl aA.ks a0)), (19, .d (.int .i64 a1)), (20, .d (.int .i64 a2))] [⟨38, [.d (.str a3), .d (.str a4), .d (.bool a5), .d (.int .i64 a6), .d (.int .i64 a7), .d (.int .i64 a8), .d (.int .i64 a9), .row 50007, .d (.sl aA.ks a10), .d (.int .i64 a11), .d (.sl aB.ks a12), .d (.sl [.int .i64] a13), .d (.int .i64 a14), .d (.sl [.int .i64] a15), .d (.bool a16), .d (.int .i64 a17), .d (.str a18), .d (.str a19), .d (.int .i64 a20), .d (.bool a21), .d (.int .i64 a22), .d (.int .i64 a23), .d (.str a24), .d (.int .i64 a25), .d (.sl aD.ks a26)]⟩, ⟨38, (List.map AV.d a27)⟩] [] [] [(3003, ⟨aA.ks, 34, 112, a28⟩), (50007, ⟨aF.ks, 60, 32, a29⟩)])
section
variable (Γ : Fun) (γ103 : Gm ((List aF))) (γ80 : Gm (aA)) (γ104 : Gm ((List Int))) (Λ2 J : Lam)
def C50 : aP := aZ (aZ (aZ (aO Γ) 103 cI γ103) 80 cN γ80) 104 bL γ104
theorem T50 (p0 : aC) : bC SE (C50 Γ γ103 γ80 γ104) Λ2 J 50 [aC.av p0] [] [] =
 γ103 [.d (.sl aF.ks (List.map aF.enc p0.Subs))] [] [] fun r0 =>
 cond (decide (0 ≤ 0) && decide (0 ≤ (List.length (List.map aA.enc p0.Queue) : Int)) && decide ((List.length (List.map aA.enc p0.Queue) : Int) * 112 ≤ 281474976710656)) (
 akw (C50 Γ γ103 γ80 γ104) Λ2 J (List.map aA.enc p0.Queue) (List.length (List.map aA.enc p0.Queue) : Int) 0 p0.Client p0.User p0.Online p0.Conn p0.Expiry p0.Until p0.Dropped (List.map aA.enc p0.Queue) p0.Out.Limit (List.map aB.enc p0.Out.Items) (List.map (encI .i64) p0.Out.Pool.Used) p0.Out.Pool.Last (List.map (encI .i64) p0.In.IDs) p0.Will.Set p0.Will.Delay p0.Will.Message.Topic p0.Will.Message.Payload p0.Will.Message.Level p0.Will.Message.Retain p0.Will.Message.Priority p0.Will.Message.Expires p0.Will.Message.From p0.Will.Message.Seq (List.map aD.enc p0.Will.Message.Props) [D.str ([] : Str), D.str ([] : Str), D.bool false, D.int .i64 0, D.int .i64 0, D.int .i64 0, D.int .i64 0, D.sl aF.ks (List.map aF.enc []), D.sl aA.ks (List.map aA.enc []), D.int .i64 0, D.sl aB.ks (List.map aB.enc []), D.sl [.int .i64] (List.map (encI .i64) []), D.int .i64 0, D.sl [.int .i64] (List.map (encI .i64) []), D.bool false, D.int .i64 0, D.str ([] : Str), D.str ([] : Str), D.int .i64 0, D.bool false, D.int .i64 0, D.int .i64 0, D.str ([] : Str), D.int .i64 0, D.sl aD.ks (List.map aD.enc [])] (List.map aA.enc []) (List.map aF.enc r0)) none := by kernel_rfl
theorem apx (x39 : (List aB)) (x40 : Int) (x41 : Int) (b0_0 : Str) (b0_1 : Str) (b0_2 : Bool) (b0_3 : Int) (b0_4 : Int) (b0_5 : Int) (b0_6 : Int) (b0_9 : Int) (b0_10 : (List aB)) (b0_11 : (List Int)) (b0_12 : Int) (b0_13 : (List Int)) (b0_14 : Bool) (b0_15 : Int) (b0_16 : Str) (b0_17 : Str) (b0_18 : Int) (b0_19 : Bool) (b0_20 : Int) (b0_21 : Int) (b0_22 : Str) (b0_23 : Int) (b0_24 : (List aD)) (b1 : aC) (w3006 : (List aB)) (w50007 : (List aF)) (w50008 : (List aA)) : bW SE (C50 Γ γ103 γ80 γ104) Λ2 J 50 0 [1, 1, 1, 1, 1, 1, 0, 1, 0] (bA [(1, .ptr 1000000000 0), (2, .ptr 1000000001 0), (6, .row 3006), (39, .d (.sl aB.ks (List.map aB.enc x39))), (40, .d (.int .i64 x40)), (41, .d (.int .i64 x41))] [⟨38, [.d (.str b0_0), .d (.str b0_1), .d (.bool b0_2), .d (.int .i64 b0_3), .d (.int .i64 b0_4), .d (.int .i64 b0_5), .d (.int .i64 b0_6), .row 50007, .row 50008, .d (.int .i64 b0_9), .d (.sl aB.ks (List.map aB.enc b0_10)), .d (.sl [.int .i64] (List.map (encI .i64) b0_11)), .d (.int .i64 b0_12), .d (.sl [.int .i64] (List.map (encI .i64) b0_13)), .d (.bool b0_14), .d (.int .i64 b0_15), .d (.str b0_16), .d (.str b0_17), .d (.int .i64 b0_18), .d (.bool b0_19), .d (.int .i64 b0_20), .d (.int .i64 b0_21), .d (.str b0_22), .d (.int .i64 b0_23), .d (.sl aD.ks (List.map aD.enc b0_24))]⟩, ⟨38, (List.map AV.d (aC.enc b1))⟩] [] [] [(3006, ⟨aB.ks, 122, 128, (List.map aB.enc w3006)⟩), (50007, ⟨aF.ks, 60, 32, (List.map aF.enc w50007)⟩), (50008, ⟨aA.ks, 34, 112, (List.map aA.enc w50008)⟩)]) =
 cond (decide (x41 < x40)) (
 cond (decide (0 ≤ x41) && decide (x41 < (List.length (List.map aB.enc x39) : Int))) (
  γ80 [.agg [.d (.str (aV (cellAt (elemAt (List.map aB.enc x39) (Int.toNat x41)) 2))), .d (.str (aV (cellAt (elemAt (List.map aB.enc x39) (Int.toNat x41)) 3))), .d (.int .i64 (aL (cellAt (elemAt (List.map aB.enc x39) (Int.toNat x41)) 4))), .d (.bool (aX (cellAt (elemAt (List.map aB.enc x39) (Int.toNat x41)) 5))), .d (.int .i64 (aL (cellAt (elemAt (List.map aB.enc x39) (Int.toNat x41)) 6))), .d (.int .i64 (aL (cellAt (elemAt (List.map aB.enc x39) (Int.toNat x41)) 7))), .d (.str (aV (cellAt (elemAt (List.map aB.enc x39) (Int.toNat x41)) 8))), .d (.int .i64 (aL (cellAt (elemAt (List.map aB.enc x39) (Int.toNat x41)) 9))), .d (.sl aD.ks (dSl (cellAt (elemAt (List.map aB.enc x39) (Int.toNat x41)) 10)))]] [] [] fun r2 =>
  cond (decide ((List.length (List.map aB.enc w3006) + List.length [[D.int .i64 (aL (cellAt (elemAt (List.map aB.enc x39) (Int.toNat x41)) 0)), D.int .i64 (aL (cellAt (elemAt (List.map aB.enc x39) (Int.toNat x41)) 1)), D.str r2.Topic, D.str r2.Payload, D.int .i64 r2.Level, D.bool r2.Retain, D.int .i64 r2.Priority, D.int .i64 r2.Expires, D.str r2.From, D.int .i64 r2.Seq, D.sl aD.ks (List.map aD.enc r2.Props)]]) * 128 ≤ 140737488355328)) (
  ajz (C50 Γ γ103 γ80 γ104) Λ2 J (List.map aB.enc x39) x40 (IntKind.wrap .i64 (x41 + 1)) b0_0 b0_1 b0_2 b0_3 b0_4 b0_5 b0_6 b0_9 (List.map aB.enc b0_10) (List.map (encI .i64) b0_11) b0_12 (List.map (encI .i64) b0_13) b0_14 b0_15 b0_16 b0_17 b0_18 b0_19 b0_20 b0_21 b0_22 b0_23 (List.map aD.enc b0_24) (aC.enc b1) (((List.map aB.enc w3006) ++ [[D.int .i64 (aL (cellAt (elemAt (List.map aB.enc x39) (Int.toNat x41)) 0)), D.int .i64 (aL (cellAt (elemAt (List.map aB.enc x39) (Int.toNat x41)) 1)), D.str r2.Topic, D.str r2.Payload, D.int .i64 r2.Level, D.bool r2.Retain, D.int .i64 r2.Priority, D.int .i64 r2.Expires, D.str r2.From, D.int .i64 r2.Seq, D.sl aD.ks (List.map aD.enc r2.Props)]])) (List.map aF.enc w50007) (List.map aA.enc w50008)) none) none) (
 γ104 [.d (.sl [.int .i64] (List.map (encI .i64) b0_11))] [] [] fun r3 =>
 γ104 [.d (.sl [.int .i64] (List.map (encI .i64) b0_13))] [] [] fun r4 =>
 γ80 [aA.av (aA.mk b0_16 b0_17 b0_18 b0_19 b0_20 b0_21 b0_22 b0_23 b0_24)] [] [] fun r5 =>
 (some (.ret [.agg [.d (.str b0_0), .d (.str b0_1), .d (.bool b0_2), .d (.int .i64 b0_3), .d (.int .i64 b0_4), .d (.int .i64 b0_5), .d (.int .i64 b0_6), .row 0, .row 1, .d (.int .i64 b0_9), .row 2, .row 3, .d (.int .i64 b0_12), .row 4, .d (.bool b0_14), .d (.int .i64 b0_15), .d (.str r5.Topic), .d (.str r5.Payload), .d (.int .i64 r5.Level), .d (.bool r5.Retain), .d (.int .i64 r5.Priority), .d (.int .i64 r5.Expires), .d (.str r5.From), .d (.int .i64 r5.Seq), .row 5]] [] [⟨aF.ks, 60, 32, (List.map aF.enc w50007)⟩, ⟨aA.ks, 34, 112, (List.map aA.enc w50008)⟩, ⟨aB.ks, 122, 128, (List.map aB.enc w3006)⟩, ⟨[.int .i64], 3, 8, (List.map (encI .i64) r3)⟩, ⟨[.int .i64], 3, 8, (List.map (encI .i64) r4)⟩, ⟨aD.ks, 130, 32, (List.map aD.enc r5.Props)⟩]))) := by kernel_rfl
theorem asa (x18 : (List aA)) (x19 : Int) (x20 : Int) (b0_0 : Str) (b0_1 : Str) (b0_2 : Bool) (b0_3 : Int) (b0_4 : Int) (b0_5 : Int) (b0_6 : Int) (b0_8 : (List aA)) (b0_9 : Int) (b0_10 : (List aB)) (b0_11 : (List Int)) (b0_12 : Int) (b0_13 : (List Int)) (b0_14 : Bool) (b0_15 : Int) (b0_16 : Str) (b0_17 : Str) (b0_18 : Int) (b0_19 : Bool) (b0_20 : Int) (b0_21 : Int) (b0_22 : Str) (b0_23 : Int) (b0_24 : (List aD)) (b1 : aC) (w3003 : (List aA)) (w50007 : (List aF)) : bW SE (C50 Γ γ103 γ80 γ104) Λ2 J 50 0 [1, 1, 1, 0, 1, 0] (bA [(1, .ptr 1000000000 0), (2, .ptr 1000000001 0), (3, .row 3003), (18, .d (.sl aA.ks (List.map aA.enc x18))), (19, .d (.int .i64 x19)), (20, .d (.int .i64 x20))] [⟨38, [.d (.str b0_0), .d (.str b0_1), .d (.bool b0_2), .d (.int .i64 b0_3), .d (.int .i64 b0_4), .d (.int .i64 b0_5), .d (.int .i64 b0_6), .row 50007, .d (.sl aA.ks (List.map aA.enc b0_8)), .d (.int .i64 b0_9), .d (.sl aB.ks (List.map aB.enc b0_10)), .d (.sl [.int .i64] (List.map (encI .i64) b0_11)), .d (.int .i64 b0_12), .d (.sl [.int .i64] (List.map (encI .i64) b0_13)), .d (.bool b0_14), .d (.int .i64 b0_15), .d (.str b0_16), .d (.str b0_17), .d (.int .i64 b0_18), .d (.bool b0_19), .d (.int .i64 b0_20), .d (.int .i64 b0_21), .d (.str b0_22), .d (.int .i64 b0_23), .d (.sl aD.ks (List.map aD.enc b0_24))]⟩, ⟨38, (List.map AV.d (aC.enc b1))⟩] [] [] [(3003, ⟨aA.ks, 34, 112, (List.map aA.enc w3003)⟩), (50007, ⟨aF.ks, 60, 32, (List.map aF.enc w50007)⟩)]) =
 cond (decide (x20 < x19)) (
 cond (decide (0 ≤ x20) && decide (x20 < (List.length (List.map aA.enc x18) : Int))) (
  γ80 [.agg [.d (.str (aV (cellAt (elemAt (List.map aA.enc x18) (Int.toNat x20)) 0))), .d (.str (aV (cellAt (elemAt (List.map aA.enc x18) (Int.toNat x20)) 1))), .d (.int .i64 (aL (cellAt (elemAt (List.map aA.enc x18) (Int.toNat x20)) 2))), .d (.bool (aX (cellAt (elemAt (List.map aA.enc x18) (Int.toNat x20)) 3))), .d (.int .i64 (aL (cellAt (elemAt (List.map aA.enc x18) (Int.toNat x20)) 4))), .d (.int .i64 (aL (cellAt (elemAt (List.map aA.enc x18) (Int.toNat x20)) 5))), .d (.str (aV (cellAt (elemAt (List.map aA.enc x18) (Int.toNat x20)) 6))), .d (.int .i64 (aL (cellAt (elemAt (List.map aA.enc x18) (Int.toNat x20)) 7))), .d (.sl aD.ks (dSl (cellAt (elemAt (List.map aA.enc x18) (Int.toNat x20)) 8)))]] [] [] fun r1 =>
  cond (decide ((List.length (List.map aA.enc w3003) + List.length (List.map aA.enc [r1])) * 112 ≤ 140737488355328)) (
  akw (C50 Γ γ103 γ80 γ104) Λ2 J (List.map aA.enc x18) x19 (IntKind.wrap .i64 (x20 + 1)) b0_0 b0_1 b0_2 b0_3 b0_4 b0_5 b0_6 (List.map aA.enc b0_8) b0_9 (List.map aB.enc b0_10) (List.map (encI .i64) b0_11) b0_12 (List.map (encI .i64) b0_13) b0_14 b0_15 b0_16 b0_17 b0_18 b0_19 b0_20 b0_21 b0_22 b0_23 (List.map aD.enc b0_24) (aC.enc b1) (((List.map aA.enc w3003) ++ (List.map aA.enc [r1]))) (List.map aF.enc w50007)) none) none) (
 cond (decide (0 ≤ 0) && decide (0 ≤ (List.length (List.map aB.enc b0_10) : Int)) && decide ((List.length (List.map aB.enc b0_10) : Int) * 128 ≤ 281474976710656)) (
 ajz (C50 Γ γ103 γ80 γ104) Λ2 J (List.map aB.enc b0_10) (List.length (List.map aB.enc b0_10) : Int) 0 b0_0 b0_1 b0_2 b0_3 b0_4 b0_5 b0_6 b0_9 (List.map aB.enc b0_10) (List.map (encI .i64) b0_11) b0_12 (List.map (encI .i64) b0_13) b0_14 b0_15 b0_16 b0_17 b0_18 b0_19 b0_20 b0_21 b0_22 b0_23 (List.map aD.enc b0_24) (aC.enc b1) (List.map aB.enc []) (List.map aF.enc w50007) (List.map aA.enc w3003)) none) := by kernel_rfl
end
abbrev X50 : aP := C50 gG (cT 103 cI) (cT 80 cN) (cT 104 bL)
theorem anQ : X50 = aO gG := by unfold X50 C50; rw [aK fun _ h => h, aK fun _ h => h, aK fun _ h => h]
noncomputable abbrev aqv (a0 : (List (List D))) (a1 : Int) (a2 : Int) (a3 : Str) (a4 : Str) (a5 : Bool) (a6 : Int) (a7 : Int) (a8 : Int) (a9 : Int) (a10 : Int) (a11 : (List (List D))) (a12 : (List (List D))) (a13 : Int) (a14 : (List (List D))) (a15 : Bool) (a16 : Int) (a17 : Str) (a18 : Str) (a19 : Int) (a20 : Bool) (a21 : Int) (a22 : Int) (a23 : Str) (a24 : Int) (a25 : (List (List D))) (a26 : (List D)) (a27 : (List (List D))) (a28 : (List (List D))) (a29 : (List (List D))) : Res := ajz X50 (bU SE gG (SE.hl 50) (SE.hr 50)) (J0 SE X50) a0 a1 a2 a3 a4 a5 a6 a7 a8 a9 a10 a11 a12 a13 a14 a15 a16 a17 a18 a19 a20 a21 a22 a23 a24 a25 a26 a27 a28 a29
noncomputable abbrev asP (a0 : (List (List D))) (a1 : Int) (a2 : Int) (a3 : Str) (a4 : Str) (a5 : Bool) (a6 : Int) (a7 : Int) (a8 : Int) (a9 : Int) (a10 : (List (List D))) (a11 : Int) (a12 : (List (List D))) (a13 : (List (List D))) (a14 : Int) (a15 : (List (List D))) (a16 : Bool) (a17 : Int) (a18 : Str) (a19 : Str) (a20 : Int) (a21 : Bool) (a22 : Int) (a23 : Int) (a24 : Str) (a25 : Int) (a26 : (List (List D))) (a27 : (List D)) (a28 : (List (List D))) (a29 : (List (List D))) : Res := akw X50 (bU SE gG (SE.hl 50) (SE.hr 50)) (J0 SE X50) a0 a1 a2 a3 a4 a5 a6 a7 a8 a9 a10 a11 a12 a13 a14 a15 a16 a17 a18 a19 a20 a21 a22 a23 a24 a25 a26 a27 a28 a29
theorem uR : ∀ (fu : Nat) (x39 : (List aB)) (x40 : Int) (x41 : Int) (b0_0 : Str) (b0_1 : Str) (b0_2 : Bool) (b0_3 : Int) (b0_4 : Int) (b0_5 : Int) (b0_6 : Int) (b0_9 : Int) (b0_10 : (List aB)) (b0_11 : (List Int)) (b0_12 : Int) (b0_13 : (List Int)) (b0_14 : Bool) (b0_15 : Int) (b0_16 : Str) (b0_17 : Str) (b0_18 : Int) (b0_19 : Bool) (b0_20 : Int) (b0_21 : Int) (b0_22 : Str) (b0_23 : Int) (b0_24 : (List aD)) (b1 : aC) (w3006 : (List aB)) (w50007 : (List aF)) (w50008 : (List aA)), Le (Option.map bS (iU fu x39 x40 x41 b0_0 b0_1 b0_2 b0_3 b0_4 b0_5 b0_6 b0_9 b0_10 b0_11 b0_12 b0_13 b0_14 b0_15 b0_16 b0_17 b0_18 b0_19 b0_20 b0_21 b0_22 b0_23 b0_24 b1 w3006 w50007 w50008)) (aqv (List.map aB.enc x39) x40 x41 b0_0 b0_1 b0_2 b0_3 b0_4 b0_5 b0_6 b0_9 (List.map aB.enc b0_10) (List.map (encI .i64) b0_11) b0_12 (List.map (encI .i64) b0_13) b0_14 b0_15 b0_16 b0_17 b0_18 b0_19 b0_20 b0_21 b0_22 b0_23 (List.map aD.enc b0_24) (aC.enc b1) (List.map aB.enc w3006) (List.map aF.enc w50007) (List.map aA.enc w50008)) := by
 intro fu
 induction fu with
 | zero => intros; exact le_none
 | succ fu ih =>
  intro x39 x40 x41 b0_0 b0_1 b0_2 b0_3 b0_4 b0_5 b0_6 b0_9 b0_10 b0_11 b0_12 b0_13 b0_14 b0_15 b0_16 b0_17 b0_18 b0_19 b0_20 b0_21 b0_22 b0_23 b0_24 b1 w3006 w50007 w50008
  refine Le.trans ?_ (le_of_eq ((bB anQ).trans (apx _ _ _ _ _ _  x39 x40 x41 b0_0 b0_1 b0_2 b0_3 b0_4 b0_5 b0_6 b0_9 b0_10 b0_11 b0_12 b0_13 b0_14 b0_15 b0_16 b0_17 b0_18 b0_19 b0_20 b0_21 b0_22 b0_23 b0_24 b1 w3006 w50007 w50008)).symm)
  unfold iU
  refine lC ?_ ?_
  ·refine lG (by simp only [EN]) ?_
   refine aM (good := good) eX jX (by first | (simp only [EN]; exact e9 ((List.getD x39 (Int.toNat x41) default).Message)) | exact e9 ((List.getD x39 (Int.toNat x41) default).Message)) fun r2 _ => ?_
   refine lG (by simp only [EN]) ?_
   first | (simp only [EN]; exact ih x39 x40 (IntKind.wrap .i64 (x41 + 1)) b0_0 b0_1 b0_2 b0_3 b0_4 b0_5 b0_6 b0_9 b0_10 b0_11 b0_12 b0_13 b0_14 b0_15 b0_16 b0_17 b0_18 b0_19 b0_20 b0_21 b0_22 b0_23 b0_24 b1 ((w3006 ++ [(aB.mk (List.getD x39 (Int.toNat x41) default).ID (List.getD x39 (Int.toNat x41) default).State r2)])) w50007 w50008) | exact ih x39 x40 (IntKind.wrap .i64 (x41 + 1)) b0_0 b0_1 b0_2 b0_3 b0_4 b0_5 b0_6 b0_9 b0_10 b0_11 b0_12 b0_13 b0_14 b0_15 b0_16 b0_17 b0_18 b0_19 b0_20 b0_21 b0_22 b0_23 b0_24 b1 ((w3006 ++ [(aB.mk (List.getD x39 (Int.toNat x41) default).ID (List.getD x39 (Int.toNat x41) default).State r2)])) w50007 w50008
  ·refine aM (good := good) eX fK (fW _) fun r3 _ => ?_
   refine aM (good := good) eX fK (fW _) fun r4 _ => ?_
   refine aM (good := good) eX jX (e9 _) fun r5 _ => ?_
   exact aH rfl
theorem uY : ∀ (fu : Nat) (x18 : (List aA)) (x19 : Int) (x20 : Int) (b0_0 : Str) (b0_1 : Str) (b0_2 : Bool) (b0_3 : Int) (b0_4 : Int) (b0_5 : Int) (b0_6 : Int) (b0_8 : (List aA)) (b0_9 : Int) (b0_10 : (List aB)) (b0_11 : (List Int)) (b0_12 : Int) (b0_13 : (List Int)) (b0_14 : Bool) (b0_15 : Int) (b0_16 : Str) (b0_17 : Str) (b0_18 : Int) (b0_19 : Bool) (b0_20 : Int) (b0_21 : Int) (b0_22 : Str) (b0_23 : Int) (b0_24 : (List aD)) (b1 : aC) (w3003 : (List aA)) (w50007 : (List aF)), Le (Option.map bS (jG fu x18 x19 x20 b0_0 b0_1 b0_2 b0_3 b0_4 b0_5 b0_6 b0_8 b0_9 b0_10 b0_11 b0_12 b0_13 b0_14 b0_15 b0_16 b0_17 b0_18 b0_19 b0_20 b0_21 b0_22 b0_23 b0_24 b1 w3003 w50007)) (asP (List.map aA.enc x18) x19 x20 b0_0 b0_1 b0_2 b0_3 b0_4 b0_5 b0_6 (List.map aA.enc b0_8) b0_9 (List.map aB.enc b0_10) (List.map (encI .i64) b0_11) b0_12 (List.map (encI .i64) b0_13) b0_14 b0_15 b0_16 b0_17 b0_18 b0_19 b0_20 b0_21 b0_22 b0_23 (List.map aD.enc b0_24) (aC.enc b1) (List.map aA.enc w3003) (List.map aF.enc w50007)) := by
 intro fu
 induction fu with
 | zero => intros; exact le_none
 | succ fu ih =>
  intro x18 x19 x20 b0_0 b0_1 b0_2 b0_3 b0_4 b0_5 b0_6 b0_8 b0_9 b0_10 b0_11 b0_12 b0_13 b0_14 b0_15 b0_16 b0_17 b0_18 b0_19 b0_20 b0_21 b0_22 b0_23 b0_24 b1 w3003 w50007
  refine Le.trans ?_ (le_of_eq ((bB anQ).trans (asa _ _ _ _ _ _  x18 x19 x20 b0_0 b0_1 b0_2 b0_3 b0_4 b0_5 b0_6 b0_8 b0_9 b0_10 b0_11 b0_12 b0_13 b0_14 b0_15 b0_16 b0_17 b0_18 b0_19 b0_20 b0_21 b0_22 b0_23 b0_24 b1 w3003 w50007)).symm)
  unfold jG
  refine lC ?_ ?_
  ·refine lG (by simp only [EN]) ?_
   refine aM (good := good) eX jX (by first | (simp only [EN]; exact e9 (List.getD x18 (Int.toNat x20) default)) | exact e9 (List.getD x18 (Int.toNat x20) default)) fun r1 _ => ?_
   refine lG (by simp only [EN]) ?_
   first | (simp only [EN]; exact ih x18 x19 (IntKind.wrap .i64 (x20 + 1)) b0_0 b0_1 b0_2 b0_3 b0_4 b0_5 b0_6 b0_8 b0_9 b0_10 b0_11 b0_12 b0_13 b0_14 b0_15 b0_16 b0_17 b0_18 b0_19 b0_20 b0_21 b0_22 b0_23 b0_24 b1 (w3003 ++ [r1]) w50007) | exact ih x18 x19 (IntKind.wrap .i64 (x20 + 1)) b0_0 b0_1 b0_2 b0_3 b0_4 b0_5 b0_6 b0_8 b0_9 b0_10 b0_11 b0_12 b0_13 b0_14 b0_15 b0_16 b0_17 b0_18 b0_19 b0_20 b0_21 b0_22 b0_23 b0_24 b1 (w3003 ++ [r1]) w50007
  ·refine lG (by simp only [EN]) ?_
   first | (simp only [EN]; exact uR fuel b0_10 (List.length b0_10 : Int) 0 b0_0 b0_1 b0_2 b0_3 b0_4 b0_5 b0_6 b0_9 b0_10 b0_11 b0_12 b0_13 b0_14 b0_15 b0_16 b0_17 b0_18 b0_19 b0_20 b0_21 b0_22 b0_23 b0_24 b1 ([] : List aB) w50007 w3003) | exact uR fuel b0_10 (List.length b0_10 : Int) 0 b0_0 b0_1 b0_2 b0_3 b0_4 b0_5 b0_6 b0_9 b0_10 b0_11 b0_12 b0_13 b0_14 b0_15 b0_16 b0_17 b0_18 b0_19 b0_20 b0_21 b0_22 b0_23 b0_24 b1 ([] : List aB) w50007 w3003
theorem jH (p0 : aC) : Le (Option.map bS (fX p0)) (aY SE 50 [aC.av p0] [] []) := by
 refine aS anQ rfl ?_
 refine Le.trans ?_ (le_of_eq (T50 _ _ _ _ _ _  p0).symm)
 unfold fX
 refine aM (good := good) eX rO (rU _) fun r0 _ => ?_
 refine lG (by simp only [EN]) ?_
 first | (simp only [EN]; exact uY fuel p0.Queue (List.length p0.Queue : Int) 0 p0.Client p0.User p0.Online p0.Conn p0.Expiry p0.Until p0.Dropped p0.Queue p0.Out.Limit p0.Out.Items p0.Out.Pool.Used p0.Out.Pool.Last p0.In.IDs p0.Will.Set p0.Will.Delay p0.Will.Message.Topic p0.Will.Message.Payload p0.Will.Message.Level p0.Will.Message.Retain p0.Will.Message.Priority p0.Will.Message.Expires p0.Will.Message.From p0.Will.Message.Seq p0.Will.Message.Props ((aC.mk ([] : Str) ([] : Str) false 0 0 0 0 ([] : List aF) ([] : List aA) (aG.mk 0 ([] : List aB) (aJ.mk ([] : List Int) 0)) (aQ.mk ([] : List Int)) (aN.mk false 0 (aA.mk ([] : Str) ([] : Str) 0 false 0 0 ([] : Str) 0 ([] : List aD))))) ([] : List aA) r0) | exact uY fuel p0.Queue (List.length p0.Queue : Int) 0 p0.Client p0.User p0.Online p0.Conn p0.Expiry p0.Until p0.Dropped p0.Queue p0.Out.Limit p0.Out.Items p0.Out.Pool.Used p0.Out.Pool.Last p0.In.IDs p0.Will.Set p0.Will.Delay p0.Will.Message.Topic p0.Will.Message.Payload p0.Will.Message.Level p0.Will.Message.Retain p0.Will.Message.Priority p0.Will.Message.Expires p0.Will.Message.From p0.Will.Message.Seq p0.Will.Message.Props ((aC.mk ([] : Str) ([] : Str) false 0 0 0 0 ([] : List aF) ([] : List aA) (aG.mk 0 ([] : List aB) (aJ.mk ([] : List Int) 0)) (aQ.mk ([] : List Int)) (aN.mk false 0 (aA.mk ([] : Str) ([] : Str) 0 false 0 0 ([] : Str) 0 ([] : List aD))))) ([] : List aA) r0
theorem rN (p0 : (List aF)) (p1 : Int) (p2 : (List aF)) : Le (Option.map cF (m9 p0 p1 p2)) (aY SE 68 [.row 2000000000, .d (.int .i64 p1), .row 2000000001] [] [⟨aF.ks, 60, 32, (List.map aF.enc p0)⟩, ⟨aF.ks, 60, 32, (List.map aF.enc p2)⟩]) := ahJ (f := 68) (enc := aF.enc) rfl rfl p0 p1 p2
def alD (C : aP) (Λ2 J : Lam) (a0 : Int) (a1 : Bool) (a2 : (List D)) (a3 : (List D)) (a4 : (List D)) : Res := lab SE C Λ2 J 26 0 [1, 1, 1, 1, 0] (bA [(2, .ptr 1000000000 0), (3, .ptr 1000000001 0), (4, .ptr 1000000002 0), (8, .d (.int .i64 a0)), (9, .d (.bool a1))] [⟨38, (List.map AV.d a2)⟩, ⟨60, (List.map AV.d a3)⟩, ⟨38, (List.map AV.d a4)⟩] [] [] [])
section
variable (Γ : Fun) (γ66 : Gm (Int)) (γ67 : Gm (Int × Bool)) (γ50 : Gm (aC)) (γ68 : Gm ((List aF))) (Λ2 J : Lam)
def C26 : aP := aZ (aZ (aZ (aZ (aO Γ) 66 iM γ66) 67 kZ γ67) 50 bS γ50) 68 cF γ68
theorem T26 (p0 : aC) (p1 : aF) : bC SE (C26 Γ γ66 γ67 γ50 γ68) Λ2 J 26 [aC.av p0, aF.av p1] [] [] =
 γ66 [aF.av p1] [] [] fun r0 =>
 cond (r0 != 0) (
 (some (.ret [.agg [.d (.str ([] : Str)), .d (.str ([] : Str)), .d (.bool false), .d (.int .i64 0), .d (.int .i64 0), .d (.int .i64 0), .d (.int .i64 0), .row 0, .row 1, .d (.int .i64 0), .row 2, .row 3, .d (.int .i64 0), .row 4, .d (.bool false), .d (.int .i64 0), .d (.str ([] : Str)), .d (.str ([] : Str)), .d (.int .i64 0), .d (.bool false), .d (.int .i64 0), .d (.int .i64 0), .d (.str ([] : Str)), .d (.int .i64 0), .row 5], .d (.bool false), .d (.int .i64 r0)] [] [⟨aF.ks, 60, 32, (List.map aF.enc [])⟩, ⟨aA.ks, 34, 112, (List.map aA.enc [])⟩, ⟨aB.ks, 122, 128, (List.map aB.enc [])⟩, ⟨[.int .i64], 3, 8, (List.map (encI .i64) [])⟩, ⟨[.int .i64], 3, 8, (List.map (encI .i64) [])⟩, ⟨aD.ks, 130, 32, (List.map aD.enc [])⟩]))) (
 γ67 [.d (.sl aF.ks (List.map aF.enc p0.Subs)), .d (.str p1.Filter)] [] [] fun r1 =>
 cond (!r1.2) (
 cond (decide ((List.length (List.map aF.enc p0.Subs) : Int) ≥ 32)) (
  (some (.ret [.agg [.d (.str ([] : Str)), .d (.str ([] : Str)), .d (.bool false), .d (.int .i64 0), .d (.int .i64 0), .d (.int .i64 0), .d (.int .i64 0), .row 0, .row 1, .d (.int .i64 0), .row 2, .row 3, .d (.int .i64 0), .row 4, .d (.bool false), .d (.int .i64 0), .d (.str ([] : Str)), .d (.str ([] : Str)), .d (.int .i64 0), .d (.bool false), .d (.int .i64 0), .d (.int .i64 0), .d (.str ([] : Str)), .d (.int .i64 0), .row 5], .d (.bool false), .d (.int .i64 6)] [] [⟨aF.ks, 60, 32, (List.map aF.enc [])⟩, ⟨aA.ks, 34, 112, (List.map aA.enc [])⟩, ⟨aB.ks, 122, 128, (List.map aB.enc [])⟩, ⟨[.int .i64], 3, 8, (List.map (encI .i64) [])⟩, ⟨[.int .i64], 3, 8, (List.map (encI .i64) [])⟩, ⟨aD.ks, 130, 32, (List.map aD.enc [])⟩]))) (
 alD (C26 Γ γ66 γ67 γ50 γ68) Λ2 J r1.1 r1.2 (aC.enc p0) (aF.enc p1) [D.str ([] : Str), D.str ([] : Str), D.bool false, D.int .i64 0, D.int .i64 0, D.int .i64 0, D.int .i64 0, D.sl aF.ks (List.map aF.enc []), D.sl aA.ks (List.map aA.enc []), D.int .i64 0, D.sl aB.ks (List.map aB.enc []), D.sl [.int .i64] (List.map (encI .i64) []), D.int .i64 0, D.sl [.int .i64] (List.map (encI .i64) []), D.bool false, D.int .i64 0, D.str ([] : Str), D.str ([] : Str), D.int .i64 0, D.bool false, D.int .i64 0, D.int .i64 0, D.str ([] : Str), D.int .i64 0, D.sl aD.ks (List.map aD.enc [])])) (
 alD (C26 Γ γ66 γ67 γ50 γ68) Λ2 J r1.1 r1.2 (aC.enc p0) (aF.enc p1) [D.str ([] : Str), D.str ([] : Str), D.bool false, D.int .i64 0, D.int .i64 0, D.int .i64 0, D.int .i64 0, D.sl aF.ks (List.map aF.enc []), D.sl aA.ks (List.map aA.enc []), D.int .i64 0, D.sl aB.ks (List.map aB.enc []), D.sl [.int .i64] (List.map (encI .i64) []), D.int .i64 0, D.sl [.int .i64] (List.map (encI .i64) []), D.bool false, D.int .i64 0, D.str ([] : Str), D.str ([] : Str), D.int .i64 0, D.bool false, D.int .i64 0, D.int .i64 0, D.str ([] : Str), D.int .i64 0, D.sl aD.ks (List.map aD.enc [])])) := by kernel_rfl
theorem atx (x8 : Int) (x9 : Bool) (b0 : aC) (b1 : aF) (b2 : aC) : bW SE (C26 Γ γ66 γ67 γ50 γ68) Λ2 J 26 0 [1, 1, 1, 1, 0] (bA [(2, .ptr 1000000000 0), (3, .ptr 1000000001 0), (4, .ptr 1000000002 0), (8, .d (.int .i64 x8)), (9, .d (.bool x9))] [⟨38, (List.map AV.d (aC.enc b0))⟩, ⟨60, (List.map AV.d (aF.enc b1))⟩, ⟨38, (List.map AV.d (aC.enc b2))⟩] [] [] []) =
 γ50 [aC.av b0] [] [] fun r2 =>
 cond x9 (
 cond (decide (0 ≤ x8) && decide (x8 < (List.length (List.map aF.enc r2.Subs) : Int))) (
  (some (.ret [.agg [.d (.str r2.Client), .d (.str r2.User), .d (.bool r2.Online), .d (.int .i64 r2.Conn), .d (.int .i64 r2.Expiry), .d (.int .i64 r2.Until), .d (.int .i64 r2.Dropped), .row 0, .row 1, .d (.int .i64 r2.Out.Limit), .row 2, .row 3, .d (.int .i64 r2.Out.Pool.Last), .row 4, .d (.bool r2.Will.Set), .d (.int .i64 r2.Will.Delay), .d (.str r2.Will.Message.Topic), .d (.str r2.Will.Message.Payload), .d (.int .i64 r2.Will.Message.Level), .d (.bool r2.Will.Message.Retain), .d (.int .i64 r2.Will.Message.Priority), .d (.int .i64 r2.Will.Message.Expires), .d (.str r2.Will.Message.From), .d (.int .i64 r2.Will.Message.Seq), .row 5], .d (.bool x9), .d (.int .i64 0)] [] [⟨aF.ks, 60, 32, (g4 (List.map aF.enc r2.Subs) (Int.toNat x8) 0 (aF.enc b1))⟩, ⟨aA.ks, 34, 112, (List.map aA.enc r2.Queue)⟩, ⟨aB.ks, 122, 128, (List.map aB.enc r2.Out.Items)⟩, ⟨[.int .i64], 3, 8, (List.map (encI .i64) r2.Out.Pool.Used)⟩, ⟨[.int .i64], 3, 8, (List.map (encI .i64) r2.In.IDs)⟩, ⟨aD.ks, 130, 32, (List.map aD.enc r2.Will.Message.Props)⟩]))) none) (
 γ68 [.row 2000000000, .d (.int .i64 x8), .row 2000000001] [] [⟨aF.ks, 60, 32, (List.map aF.enc r2.Subs)⟩, ⟨aF.ks, 60, 32, (List.map aF.enc [b1])⟩] fun r3 =>
 (some (.ret [.agg [.d (.str r2.Client), .d (.str r2.User), .d (.bool r2.Online), .d (.int .i64 r2.Conn), .d (.int .i64 r2.Expiry), .d (.int .i64 r2.Until), .d (.int .i64 r2.Dropped), .row 0, .row 1, .d (.int .i64 r2.Out.Limit), .row 2, .row 3, .d (.int .i64 r2.Out.Pool.Last), .row 4, .d (.bool r2.Will.Set), .d (.int .i64 r2.Will.Delay), .d (.str r2.Will.Message.Topic), .d (.str r2.Will.Message.Payload), .d (.int .i64 r2.Will.Message.Level), .d (.bool r2.Will.Message.Retain), .d (.int .i64 r2.Will.Message.Priority), .d (.int .i64 r2.Will.Message.Expires), .d (.str r2.Will.Message.From), .d (.int .i64 r2.Will.Message.Seq), .row 5], .d (.bool x9), .d (.int .i64 0)] [] [⟨aF.ks, 60, 32, (List.map aF.enc r3)⟩, ⟨aA.ks, 34, 112, (List.map aA.enc r2.Queue)⟩, ⟨aB.ks, 122, 128, (List.map aB.enc r2.Out.Items)⟩, ⟨[.int .i64], 3, 8, (List.map (encI .i64) r2.Out.Pool.Used)⟩, ⟨[.int .i64], 3, 8, (List.map (encI .i64) r2.In.IDs)⟩, ⟨aD.ks, 130, 32, (List.map aD.enc r2.Will.Message.Props)⟩]))) := by kernel_rfl
end
abbrev X26 : aP := C26 gG (cT 66 iM) (cT 67 kZ) (cT 50 bS) (cT 68 cF)
theorem ap6 : X26 = aO gG := by unfold X26 C26; rw [aK fun _ h => h, aK fun _ h => h, aK fun _ h => h, aK fun _ h => h]
noncomputable abbrev arT (a0 : Int) (a1 : Bool) (a2 : (List D)) (a3 : (List D)) (a4 : (List D)) : Res := alD X26 (bU SE gG (SE.hl 26) (SE.hr 26)) (J0 SE X26) a0 a1 a2 a3 a4
theorem kK (x8 : Int) (x9 : Bool) (b0 : aC) (b1 : aF) (b2 : aC) : Le (Option.map dW (mM x8 x9 b0 b1 b2)) (arT x8 x9 (aC.enc b0) (aF.enc b1) (aC.enc b2)) := by
 refine Le.trans ?_ (le_of_eq ((bB ap6).trans (atx _ _ _ _ _ _ _  x8 x9 b0 b1 b2)).symm)
 unfold mM
 refine aM (good := good) eX iT (jH _) fun r2 _ => ?_
 refine lC ?_ ?_
 ·refine lG (by simp only [EN]) ?_
  exact aH (by first | rfl | simp only [EN, dW] <;> rfl)
 ·refine aM (good := good) eX qP (rN _ _ _) fun r3 _ => ?_
  exact aH rfl
theorem acM (p0 : aC) (p1 : aF) : Le (Option.map dW (rX p0 p1)) (aY SE 26 [aC.av p0, aF.av p1] [] []) := by
 refine aS ap6 rfl ?_
 refine Le.trans ?_ (le_of_eq (T26 _ _ _ _ _ _ _  p0 p1).symm)
 unfold rX
 refine aM (good := good) eX ab9 (adq _) fun r0 _ => ?_
 refine lC ?_ ?_
 ·exact aH rfl
 ·refine aM (good := good) eX afH (agK _ _) fun r1 _ => ?_
  refine lC ?_ ?_
  ·refine lD (by simp only [EN]) ?_ ?_
   ·exact aH rfl
   ·first | (simp only [EN]; exact kK r1.1 r1.2 p0 p1 ((aC.mk ([] : Str) ([] : Str) false 0 0 0 0 ([] : List aF) ([] : List aA) (aG.mk 0 ([] : List aB) (aJ.mk ([] : List Int) 0)) (aQ.mk ([] : List Int)) (aN.mk false 0 (aA.mk ([] : Str) ([] : Str) 0 false 0 0 ([] : Str) 0 ([] : List aD)))))) | exact kK r1.1 r1.2 p0 p1 ((aC.mk ([] : Str) ([] : Str) false 0 0 0 0 ([] : List aF) ([] : List aA) (aG.mk 0 ([] : List aB) (aJ.mk ([] : List Int) 0)) (aQ.mk ([] : List Int)) (aN.mk false 0 (aA.mk ([] : Str) ([] : Str) 0 false 0 0 ([] : Str) 0 ([] : List aD)))))
  ·first | (simp only [EN]; exact kK r1.1 r1.2 p0 p1 ((aC.mk ([] : Str) ([] : Str) false 0 0 0 0 ([] : List aF) ([] : List aA) (aG.mk 0 ([] : List aB) (aJ.mk ([] : List Int) 0)) (aQ.mk ([] : List Int)) (aN.mk false 0 (aA.mk ([] : Str) ([] : Str) 0 false 0 0 ([] : Str) 0 ([] : List aD)))))) | exact kK r1.1 r1.2 p0 p1 ((aC.mk ([] : Str) ([] : Str) false 0 0 0 0 ([] : List aF) ([] : List aA) (aG.mk 0 ([] : List aB) (aJ.mk ([] : List Int) 0)) (aQ.mk ([] : List Int)) (aN.mk false 0 (aA.mk ([] : Str) ([] : Str) 0 false 0 0 ([] : Str) 0 ([] : List aD)))))
section
variable (Γ : Fun)  (Λ2 J : Lam)
def C51 : aP := aO Γ
theorem T51 (p0 : aC) (p1 : Int) : bC SE (C51 Γ) Λ2 J 51 [aC.av p0, .d (.int .i64 p1)] [] [] =
 (some (.ret [aC.av (aC.mk p0.Client p0.User p0.Online p0.Conn p0.Expiry p0.Until (if 1099511627776 < (IntKind.wrap .i64 (p0.Dropped + p1)) then 1099511627776 else (IntKind.wrap .i64 (p0.Dropped + p1))) p0.Subs p0.Queue p0.Out p0.In p0.Will)] [] [])) := by kernel_rfl
end
abbrev X51 : aP := C51 gG
theorem auv : X51 = aO gG := rfl
theorem jU (p0 : aC) (p1 : Int) : Le (Option.map c8 (gW p0 p1)) (aY SE 51 [aC.av p0, .d (.int .i64 p1)] [] []) := by
 refine aS auv rfl ?_
 refine Le.trans ?_ (le_of_eq (T51 _ _ _  p0 p1).symm)
 unfold gW
 exact aH rfl
section
variable (Γ : Fun)  (Λ2 J : Lam)
def aqD : aP := aO Γ
theorem auK (p0 : aA) : bC SE (aqD Γ) Λ2 J 106 [aA.av p0] [] [] =
 cond (decide (List.length (List.map aD.enc p0.Props) * 32 ≤ 140737488355328)) (
 (some (.ret [.agg [.d (.str p0.Topic), .d (.str p0.Payload), .d (.int .i64 p0.Level), .d (.bool p0.Retain), .d (.int .i64 p0.Priority), .d (.int .i64 p0.Expires), .d (.str p0.From), .d (.int .i64 p0.Seq), .row 0]] [] [⟨aD.ks, 130, 32, (List.map aD.enc p0.Props)⟩]))) none := by kernel_rfl
end
abbrev auo : aP := aqD gG
theorem asn : auo = aO gG := rfl
theorem mW (p0 : aA) : Le (Option.map iV (lA p0)) (aY SE 106 [aA.av p0] [] []) := by
 refine aS asn rfl ?_
 refine Le.trans ?_ (le_of_eq (auK _ _ _  p0).symm)
 unfold lA
 refine lG (by simp only [EN]) ?_
 exact aH rfl
def ajL (C : aP) (Λ2 J : Lam) (a0 : (List (List D))) (a1 : Int) (a2 : Int) (a3 : (List (List D))) : Res := lab SE C Λ2 J 105 0 [1, 1, 0, 1, 0] (bA [(5, .row 3005), (13, .d (.sl aA.ks a0)), (14, .d (.int .i64 a1)), (15, .d (.int .i64 a2))] [] [] [] [(3005, ⟨aA.ks, 34, 112, a3⟩)])
section
variable (Γ : Fun) (γ106 : Gm (aA)) (Λ2 J : Lam)
def ahF : aP := aZ (aO Γ) 106 iV γ106
theorem au0 (p0 : (List aA)) (p1 : Int) : bC SE (ahF Γ γ106) Λ2 J 105 [.d (.sl aA.ks (List.map aA.enc p0)), .d (.int .i64 p1)] [] [] =
 cond (decide (0 ≤ 0) && decide (0 ≤ (IntKind.wrap .i64 ((List.length (List.map aA.enc p0) : Int) + p1))) && decide ((IntKind.wrap .i64 ((List.length (List.map aA.enc p0) : Int) + p1)) * 112 ≤ 281474976710656)) (
 ajL (ahF Γ γ106) Λ2 J (List.map aA.enc p0) (List.length (List.map aA.enc p0) : Int) 0 (List.map aA.enc [])) none := by kernel_rfl
theorem ard (x13 : (List aA)) (x14 : Int) (x15 : Int) (w3005 : (List aA)) : bW SE (ahF Γ γ106) Λ2 J 105 0 [1, 1, 0, 1, 0] (bA [(5, .row 3005), (13, .d (.sl aA.ks (List.map aA.enc x13))), (14, .d (.int .i64 x14)), (15, .d (.int .i64 x15))] [] [] [] [(3005, ⟨aA.ks, 34, 112, (List.map aA.enc w3005)⟩)]) =
 cond (decide (x15 < x14)) (
 cond (decide (0 ≤ x15) && decide (x15 < (List.length (List.map aA.enc x13) : Int))) (
  γ106 [.agg [.d (.str (aV (cellAt (elemAt (List.map aA.enc x13) (Int.toNat x15)) 0))), .d (.str (aV (cellAt (elemAt (List.map aA.enc x13) (Int.toNat x15)) 1))), .d (.int .i64 (aL (cellAt (elemAt (List.map aA.enc x13) (Int.toNat x15)) 2))), .d (.bool (aX (cellAt (elemAt (List.map aA.enc x13) (Int.toNat x15)) 3))), .d (.int .i64 (aL (cellAt (elemAt (List.map aA.enc x13) (Int.toNat x15)) 4))), .d (.int .i64 (aL (cellAt (elemAt (List.map aA.enc x13) (Int.toNat x15)) 5))), .d (.str (aV (cellAt (elemAt (List.map aA.enc x13) (Int.toNat x15)) 6))), .d (.int .i64 (aL (cellAt (elemAt (List.map aA.enc x13) (Int.toNat x15)) 7))), .d (.sl aD.ks (dSl (cellAt (elemAt (List.map aA.enc x13) (Int.toNat x15)) 8)))]] [] [] fun r0 =>
  cond (decide ((List.length (List.map aA.enc w3005) + List.length (List.map aA.enc [r0])) * 112 ≤ 140737488355328)) (
  ajL (ahF Γ γ106) Λ2 J (List.map aA.enc x13) x14 (IntKind.wrap .i64 (x15 + 1)) (((List.map aA.enc w3005) ++ (List.map aA.enc [r0])))) none) none) (
 (some (.ret [.row 0] [] [⟨aA.ks, 34, 112, (List.map aA.enc w3005)⟩]))) := by kernel_rfl
end
abbrev alb : aP := ahF gG (cT 106 iV)
theorem aoC : alb = aO gG := by unfold alb ahF; rw [aK fun _ h => h]
noncomputable abbrev aql (a0 : (List (List D))) (a1 : Int) (a2 : Int) (a3 : (List (List D))) : Res := ajL alb (bU SE gG (SE.hl 105) (SE.hr 105)) (J0 SE alb) a0 a1 a2 a3
theorem zP : ∀ (fu : Nat) (x13 : (List aA)) (x14 : Int) (x15 : Int) (w3005 : (List aA)), Le (Option.map kV (lY fu x13 x14 x15 w3005)) (aql (List.map aA.enc x13) x14 x15 (List.map aA.enc w3005)) := by
 intro fu
 induction fu with
 | zero => intros; exact le_none
 | succ fu ih =>
  intro x13 x14 x15 w3005
  refine Le.trans ?_ (le_of_eq ((bB aoC).trans (ard _ _ _ _  x13 x14 x15 w3005)).symm)
  unfold lY
  refine lC ?_ ?_
  ·refine lG (by simp only [EN]) ?_
   refine aM (good := good) eX oH (by first | (simp only [EN]; exact mW (List.getD x13 (Int.toNat x15) default)) | exact mW (List.getD x13 (Int.toNat x15) default)) fun r0 _ => ?_
   refine lG (by simp only [EN]) ?_
   first | (simp only [EN]; exact ih x13 x14 (IntKind.wrap .i64 (x15 + 1)) (w3005 ++ [r0])) | exact ih x13 x14 (IntKind.wrap .i64 (x15 + 1)) (w3005 ++ [r0])
  ·exact aH rfl
theorem aip (p0 : (List aA)) (p1 : Int) : Le (Option.map kV (uS p0 p1)) (aY SE 105 [.d (.sl aA.ks (List.map aA.enc p0)), .d (.int .i64 p1)] [] []) := by
 refine aS aoC rfl ?_
 refine Le.trans ?_ (le_of_eq (au0 _ _ _ _  p0 p1).symm)
 unfold uS
 refine lG (by simp only [EN]) ?_
 first | (simp only [EN]; exact zP fuel p0 (List.length p0 : Int) 0 ([] : List aA)) | exact zP fuel p0 (List.length p0 : Int) 0 ([] : List aA)
def aoG (C : aP) (Λ2 J : Lam) (a0 : (List D)) (a1 : (List (List D))) : Res := lab SE C Λ2 J 52 0 [1, 1, 1, 1, 0] (bA [(5, .ptr 1000000000 0), (11, .row 3011)] [⟨34, (List.map AV.d a0)⟩] [] [] [(3011, ⟨aA.ks, 34, 112, a1⟩)])
section
variable (Γ : Fun) (γ105 : Gm ((List aA))) (γ106 : Gm (aA)) (Λ2 J : Lam)
def C52 : aP := aZ (aZ (aO Γ) 105 kV γ105) 106 iV γ106
theorem T52 (p0 : (List aA)) (p1 : aA) (p2 : Int) (p3 : Int) : bC SE (C52 Γ γ105 γ106) Λ2 J 52 [.d (.sl aA.ks (List.map aA.enc p0)), aA.av p1, .d (.int .i64 p2), .d (.int .i64 p3)] [] [] =
 γ105 [.d (.sl aA.ks (List.map aA.enc p0)), .d (.int .i64 1)] [] [] fun r0 =>
 cond (decide ((List.length (List.map aA.enc p0) : Int) < p2)) (
 γ106 [aA.av p1] [] [] fun r1 =>
 cond (decide ((List.length (List.map aA.enc r0) + List.length (List.map aA.enc [r1])) * 112 ≤ 140737488355328)) (
  (some (.ret [.row 0, .row 1, .d (.bool false)] [] [⟨aA.ks, 34, 112, ((List.map aA.enc r0) ++ (List.map aA.enc [r1]))⟩, ⟨aA.ks, 34, 112, []⟩]))) none) (
 cond (p3 != 1) (
 γ106 [aA.av p1] [] [] fun r2 =>
 (some (.ret [.row 0, .row 1, .d (.bool (p3 == 3))] [] [⟨aA.ks, 34, 112, (List.map aA.enc r0)⟩, ⟨aA.ks, 34, 112, (List.map aA.enc [r2])⟩]))) (
 cond (decide (p2 < 1)) (
 γ106 [aA.av p1] [] [] fun r3 =>
 (some (.ret [.row 0, .row 1, .d (.bool (p3 == 3))] [] [⟨aA.ks, 34, 112, (List.map aA.enc r0)⟩, ⟨aA.ks, 34, 112, (List.map aA.enc [r3])⟩]))) (
 aoG (C52 Γ γ105 γ106) Λ2 J (aA.enc p1) (List.map aA.enc r0)))) := by kernel_rfl
theorem atF (b0 : aA) (w3011 : (List aA)) : bW SE (C52 Γ γ105 γ106) Λ2 J 52 0 [1, 1, 1, 1, 0] (bA [(5, .ptr 1000000000 0), (11, .row 3011)] [⟨34, (List.map AV.d (aA.enc b0))⟩] [] [] [(3011, ⟨aA.ks, 34, 112, (List.map aA.enc w3011)⟩)]) =
 cond (decide (0 ≤ 0) && decide (0 < (List.length (List.map aA.enc w3011) : Int))) (
 cond (decide (0 ≤ 1) && decide (1 ≤ ((List.length (List.map aA.enc w3011)) : Int))) (
  γ106 [aA.av b0] [] [] fun r4 =>
  cond (decide (0 ≤ (IntKind.wrap .i64 ((List.length (List.take (List.length (List.map aA.enc w3011)) (List.take ((List.length (List.map aA.enc w3011)) - (Int.toNat 1)) (List.drop (Int.toNat 1) (List.map aA.enc w3011))) ++ List.drop (min (List.length (List.take ((List.length (List.map aA.enc w3011)) - (Int.toNat 1)) (List.drop (Int.toNat 1) (List.map aA.enc w3011)))) (List.length (List.map aA.enc w3011))) (List.map aA.enc w3011)) : Int) - 1))) && decide ((IntKind.wrap .i64 ((List.length (List.take (List.length (List.map aA.enc w3011)) (List.take ((List.length (List.map aA.enc w3011)) - (Int.toNat 1)) (List.drop (Int.toNat 1) (List.map aA.enc w3011))) ++ List.drop (min (List.length (List.take ((List.length (List.map aA.enc w3011)) - (Int.toNat 1)) (List.drop (Int.toNat 1) (List.map aA.enc w3011)))) (List.length (List.map aA.enc w3011))) (List.map aA.enc w3011)) : Int) - 1)) < (List.length (List.take (List.length (List.map aA.enc w3011)) (List.take ((List.length (List.map aA.enc w3011)) - (Int.toNat 1)) (List.drop (Int.toNat 1) (List.map aA.enc w3011))) ++ List.drop (min (List.length (List.take ((List.length (List.map aA.enc w3011)) - (Int.toNat 1)) (List.drop (Int.toNat 1) (List.map aA.enc w3011)))) (List.length (List.map aA.enc w3011))) (List.map aA.enc w3011)) : Int))) (
  (some (.ret [.row 0, .row 1, .d (.bool false)] [] [⟨aA.ks, 34, 112, (g4 (List.take (List.length (List.map aA.enc w3011)) (List.take ((List.length (List.map aA.enc w3011)) - (Int.toNat 1)) (List.drop (Int.toNat 1) (List.map aA.enc w3011))) ++ List.drop (min (List.length (List.take ((List.length (List.map aA.enc w3011)) - (Int.toNat 1)) (List.drop (Int.toNat 1) (List.map aA.enc w3011)))) (List.length (List.map aA.enc w3011))) (List.map aA.enc w3011)) (Int.toNat (IntKind.wrap .i64 ((List.length (List.take (List.length (List.map aA.enc w3011)) (List.take ((List.length (List.map aA.enc w3011)) - (Int.toNat 1)) (List.drop (Int.toNat 1) (List.map aA.enc w3011))) ++ List.drop (min (List.length (List.take ((List.length (List.map aA.enc w3011)) - (Int.toNat 1)) (List.drop (Int.toNat 1) (List.map aA.enc w3011)))) (List.length (List.map aA.enc w3011))) (List.map aA.enc w3011)) : Int) - 1))) 0 (aA.enc r4))⟩, ⟨aA.ks, 34, 112, [[D.str (aV (cellAt (elemAt (List.map aA.enc w3011) (Int.toNat 0)) 0)), D.str (aV (cellAt (elemAt (List.map aA.enc w3011) (Int.toNat 0)) 1)), D.int .i64 (aL (cellAt (elemAt (List.map aA.enc w3011) (Int.toNat 0)) 2)), D.bool (aX (cellAt (elemAt (List.map aA.enc w3011) (Int.toNat 0)) 3)), D.int .i64 (aL (cellAt (elemAt (List.map aA.enc w3011) (Int.toNat 0)) 4)), D.int .i64 (aL (cellAt (elemAt (List.map aA.enc w3011) (Int.toNat 0)) 5)), D.str (aV (cellAt (elemAt (List.map aA.enc w3011) (Int.toNat 0)) 6)), D.int .i64 (aL (cellAt (elemAt (List.map aA.enc w3011) (Int.toNat 0)) 7)), D.sl aD.ks (dSl (cellAt (elemAt (List.map aA.enc w3011) (Int.toNat 0)) 8))]]⟩]))) none) none) none := by kernel_rfl
end
abbrev X52 : aP := C52 gG (cT 105 kV) (cT 106 iV)
theorem ap8 : X52 = aO gG := by unfold X52 C52; rw [aK fun _ h => h, aK fun _ h => h]
noncomputable abbrev ats (a0 : (List D)) (a1 : (List (List D))) : Res := aoG X52 (bU SE gG (SE.hl 52) (SE.hr 52)) (J0 SE X52) a0 a1
theorem agA (b0 : aA) (w3011 : (List aA)) : Le (Option.map jF (tO b0 w3011)) (ats (aA.enc b0) (List.map aA.enc w3011)) := by
 refine Le.trans ?_ (le_of_eq ((bB ap8).trans (atF _ _ _ _ _  b0 w3011)).symm)
 unfold tO
 refine lG (by simp only [EN]) ?_
 refine lG (by simp only [EN]) ?_
 refine aM (good := good) eX oH (mW _) fun r4 _ => ?_
 refine lG (by simp only [EN]) ?_
 exact aH (by first | rfl | simp only [EN, jF] <;> rfl)
theorem ai4 (p0 : (List aA)) (p1 : aA) (p2 : Int) (p3 : Int) : Le (Option.map jF (w6 p0 p1 p2 p3)) (aY SE 52 [.d (.sl aA.ks (List.map aA.enc p0)), aA.av p1, .d (.int .i64 p2), .d (.int .i64 p3)] [] []) := by
 refine aS ap8 rfl ?_
 refine Le.trans ?_ (le_of_eq (T52 _ _ _ _ _  p0 p1 p2 p3).symm)
 unfold w6
 refine aM (good := good) eX ag8 (aip _ _) fun r0 _ => ?_
 refine lD (by simp only [EN]) ?_ ?_
 ·refine aM (good := good) eX oH (mW _) fun r1 _ => ?_
  refine lG (by simp only [EN]) ?_
  exact aH (by first | rfl | simp only [EN, jF] <;> rfl)
 ·refine lC ?_ ?_
  ·refine aM (good := good) eX oH (mW _) fun r2 _ => ?_
   exact aH rfl
  ·refine lC ?_ ?_
   ·refine aM (good := good) eX oH (mW _) fun r3 _ => ?_
    exact aH rfl
   ·exact agA p1 r0
def alw (C : aP) (Λ2 J : Lam) (a0 : Int) (a1 : Int) (a2 : (List D)) (a3 : (List D)) (a4 : (List D)) (a5 : Str) (a6 : Str) (a7 : Bool) (a8 : Int) (a9 : Int) (a10 : Int) (a11 : Int) (a12 : Int) (a13 : Int) (a14 : Bool) (a15 : Int) (a16 : Str) (a17 : Str) (a18 : Int) (a19 : Bool) (a20 : Int) (a21 : Int) (a22 : Str) (a23 : Int) (a24 : (List (List D))) (a25 : (List (List D))) (a26 : (List (List D))) (a27 : (List (List D))) (a28 : (List (List D))) (a29 : (List (List D))) : Res := lab SE C Λ2 J 15 0 [1, 1, 1, 0] (bA [(2, .d (.int .i64 a0)), (3, .d (.int .i64 a1)), (4, .ptr 1000000000 0), (5, .ptr 1000000001 0), (8, .ptr 1000000002 0), (10, .ptr 1000000003 0)] [⟨38, (List.map AV.d a2)⟩, ⟨34, (List.map AV.d a3)⟩, ⟨38, (List.map AV.d a4)⟩, ⟨38, [.d (.str a5), .d (.str a6), .d (.bool a7), .d (.int .i64 a8), .d (.int .i64 a9), .d (.int .i64 a10), .d (.int .i64 a11), .row 50307, .row 50308, .d (.int .i64 a12), .row 50310, .row 50311, .d (.int .i64 a13), .row 50313, .d (.bool a14), .d (.int .i64 a15), .d (.str a16), .d (.str a17), .d (.int .i64 a18), .d (.bool a19), .d (.int .i64 a20), .d (.int .i64 a21), .d (.str a22), .d (.int .i64 a23), .row 50324]⟩] [] [] [(50307, ⟨aF.ks, 60, 32, a24⟩), (50308, ⟨aA.ks, 34, 112, a25⟩), (50310, ⟨aB.ks, 122, 128, a26⟩), (50311, ⟨[.int .i64], 3, 8, a27⟩), (50313, ⟨[.int .i64], 3, 8, a28⟩), (50324, ⟨aD.ks, 130, 32, a29⟩)])
section
variable (Γ : Fun) (γ50 : Gm (aC)) (γ51 : Gm (aC)) (γ52 : Gm ((List aA) × (List aA) × Bool)) (Λ2 J : Lam)
def C15 : aP := aZ (aZ (aZ (aO Γ) 50 bS γ50) 51 c8 γ51) 52 jF γ52
theorem T15 (p0 : aC) (p1 : aA) (p2 : Int) (p3 : Int) : bC SE (C15 Γ γ50 γ51 γ52) Λ2 J 15 [aC.av p0, aA.av p1, .d (.int .i64 p2), .d (.int .i64 p3)] [] [] =
 γ50 [aC.av p0] [] [] fun r0 =>
 cond (!p0.Online) (
 cond (p1.Level == 0) (
  γ51 [aC.av r0, .d (.int .i64 1)] [] [] fun r1 =>
  (some (.ret [aC.av r1, .d (.bool false)] [] []))) (
 alw (C15 Γ γ50 γ51 γ52) Λ2 J p2 p3 (aC.enc p0) (aA.enc p1) [D.str ([] : Str), D.str ([] : Str), D.bool false, D.int .i64 0, D.int .i64 0, D.int .i64 0, D.int .i64 0, D.sl aF.ks (List.map aF.enc []), D.sl aA.ks (List.map aA.enc []), D.int .i64 0, D.sl aB.ks (List.map aB.enc []), D.sl [.int .i64] (List.map (encI .i64) []), D.int .i64 0, D.sl [.int .i64] (List.map (encI .i64) []), D.bool false, D.int .i64 0, D.str ([] : Str), D.str ([] : Str), D.int .i64 0, D.bool false, D.int .i64 0, D.int .i64 0, D.str ([] : Str), D.int .i64 0, D.sl aD.ks (List.map aD.enc [])] r0.Client r0.User r0.Online r0.Conn r0.Expiry r0.Until r0.Dropped r0.Out.Limit r0.Out.Pool.Last r0.Will.Set r0.Will.Delay r0.Will.Message.Topic r0.Will.Message.Payload r0.Will.Message.Level r0.Will.Message.Retain r0.Will.Message.Priority r0.Will.Message.Expires r0.Will.Message.From r0.Will.Message.Seq (List.map aF.enc r0.Subs) (List.map aA.enc r0.Queue) (List.map aB.enc r0.Out.Items) (List.map (encI .i64) r0.Out.Pool.Used) (List.map (encI .i64) r0.In.IDs) (List.map aD.enc r0.Will.Message.Props))) (
 alw (C15 Γ γ50 γ51 γ52) Λ2 J p2 p3 (aC.enc p0) (aA.enc p1) [D.str ([] : Str), D.str ([] : Str), D.bool false, D.int .i64 0, D.int .i64 0, D.int .i64 0, D.int .i64 0, D.sl aF.ks (List.map aF.enc []), D.sl aA.ks (List.map aA.enc []), D.int .i64 0, D.sl aB.ks (List.map aB.enc []), D.sl [.int .i64] (List.map (encI .i64) []), D.int .i64 0, D.sl [.int .i64] (List.map (encI .i64) []), D.bool false, D.int .i64 0, D.str ([] : Str), D.str ([] : Str), D.int .i64 0, D.bool false, D.int .i64 0, D.int .i64 0, D.str ([] : Str), D.int .i64 0, D.sl aD.ks (List.map aD.enc [])] r0.Client r0.User r0.Online r0.Conn r0.Expiry r0.Until r0.Dropped r0.Out.Limit r0.Out.Pool.Last r0.Will.Set r0.Will.Delay r0.Will.Message.Topic r0.Will.Message.Payload r0.Will.Message.Level r0.Will.Message.Retain r0.Will.Message.Priority r0.Will.Message.Expires r0.Will.Message.From r0.Will.Message.Seq (List.map aF.enc r0.Subs) (List.map aA.enc r0.Queue) (List.map aB.enc r0.Out.Items) (List.map (encI .i64) r0.Out.Pool.Used) (List.map (encI .i64) r0.In.IDs) (List.map aD.enc r0.Will.Message.Props)) := by kernel_rfl
theorem atU (x2 : Int) (x3 : Int) (b0 : aC) (b1 : aA) (b2 : aC) (b3_0 : Str) (b3_1 : Str) (b3_2 : Bool) (b3_3 : Int) (b3_4 : Int) (b3_5 : Int) (b3_6 : Int) (b3_9 : Int) (b3_12 : Int) (b3_14 : Bool) (b3_15 : Int) (b3_16 : Str) (b3_17 : Str) (b3_18 : Int) (b3_19 : Bool) (b3_20 : Int) (b3_21 : Int) (b3_22 : Str) (b3_23 : Int) (w50307 : (List aF)) (w50308 : (List aA)) (w50310 : (List aB)) (w50311 : (List Int)) (w50313 : (List Int)) (w50324 : (List aD)) : bW SE (C15 Γ γ50 γ51 γ52) Λ2 J 15 0 [1, 1, 1, 0] (bA [(2, .d (.int .i64 x2)), (3, .d (.int .i64 x3)), (4, .ptr 1000000000 0), (5, .ptr 1000000001 0), (8, .ptr 1000000002 0), (10, .ptr 1000000003 0)] [⟨38, (List.map AV.d (aC.enc b0))⟩, ⟨34, (List.map AV.d (aA.enc b1))⟩, ⟨38, (List.map AV.d (aC.enc b2))⟩, ⟨38, [.d (.str b3_0), .d (.str b3_1), .d (.bool b3_2), .d (.int .i64 b3_3), .d (.int .i64 b3_4), .d (.int .i64 b3_5), .d (.int .i64 b3_6), .row 50307, .row 50308, .d (.int .i64 b3_9), .row 50310, .row 50311, .d (.int .i64 b3_12), .row 50313, .d (.bool b3_14), .d (.int .i64 b3_15), .d (.str b3_16), .d (.str b3_17), .d (.int .i64 b3_18), .d (.bool b3_19), .d (.int .i64 b3_20), .d (.int .i64 b3_21), .d (.str b3_22), .d (.int .i64 b3_23), .row 50324]⟩] [] [] [(50307, ⟨aF.ks, 60, 32, (List.map aF.enc w50307)⟩), (50308, ⟨aA.ks, 34, 112, (List.map aA.enc w50308)⟩), (50310, ⟨aB.ks, 122, 128, (List.map aB.enc w50310)⟩), (50311, ⟨[.int .i64], 3, 8, (List.map (encI .i64) w50311)⟩), (50313, ⟨[.int .i64], 3, 8, (List.map (encI .i64) w50313)⟩), (50324, ⟨aD.ks, 130, 32, (List.map aD.enc w50324)⟩)]) =
 γ52 [.d (.sl aA.ks (List.map aA.enc w50308)), aA.av b1, .d (.int .i64 (if 256 < x2 then 256 else x2)), .d (.int .i64 x3)] [] [] fun r2 =>
 γ51 [aC.av (aC.mk b3_0 b3_1 b3_2 b3_3 b3_4 b3_5 b3_6 w50307 r2.1 (aG.mk b3_9 w50310 (aJ.mk w50311 b3_12)) (aQ.mk w50313) (aN.mk b3_14 b3_15 (aA.mk b3_16 b3_17 b3_18 b3_19 b3_20 b3_21 b3_22 b3_23 w50324))), .d (.int .i64 (List.length (List.map aA.enc r2.2.1) : Int))] [] [] fun r3 =>
 cond r2.2.2 (
 (some (.ret [aC.av r3, .d (.bool b0.Online)] [] []))) (
 (some (.ret [aC.av r3, .d (.bool false)] [] []))) := by kernel_rfl
end
abbrev X15 : aP := C15 gG (cT 50 bS) (cT 51 c8) (cT 52 jF)
theorem aqW : X15 = aO gG := by unfold X15 C15; rw [aK fun _ h => h, aK fun _ h => h, aK fun _ h => h]
noncomputable abbrev as6 (a0 : Int) (a1 : Int) (a2 : (List D)) (a3 : (List D)) (a4 : (List D)) (a5 : Str) (a6 : Str) (a7 : Bool) (a8 : Int) (a9 : Int) (a10 : Int) (a11 : Int) (a12 : Int) (a13 : Int) (a14 : Bool) (a15 : Int) (a16 : Str) (a17 : Str) (a18 : Int) (a19 : Bool) (a20 : Int) (a21 : Int) (a22 : Str) (a23 : Int) (a24 : (List (List D))) (a25 : (List (List D))) (a26 : (List (List D))) (a27 : (List (List D))) (a28 : (List (List D))) (a29 : (List (List D))) : Res := alw X15 (bU SE gG (SE.hl 15) (SE.hr 15)) (J0 SE X15) a0 a1 a2 a3 a4 a5 a6 a7 a8 a9 a10 a11 a12 a13 a14 a15 a16 a17 a18 a19 a20 a21 a22 a23 a24 a25 a26 a27 a28 a29
theorem nS (x2 : Int) (x3 : Int) (b0 : aC) (b1 : aA) (b2 : aC) (b3_0 : Str) (b3_1 : Str) (b3_2 : Bool) (b3_3 : Int) (b3_4 : Int) (b3_5 : Int) (b3_6 : Int) (b3_9 : Int) (b3_12 : Int) (b3_14 : Bool) (b3_15 : Int) (b3_16 : Str) (b3_17 : Str) (b3_18 : Int) (b3_19 : Bool) (b3_20 : Int) (b3_21 : Int) (b3_22 : Str) (b3_23 : Int) (w50307 : (List aF)) (w50308 : (List aA)) (w50310 : (List aB)) (w50311 : (List Int)) (w50313 : (List Int)) (w50324 : (List aD)) : Le (Option.map fA (m0 x2 x3 b0 b1 b2 b3_0 b3_1 b3_2 b3_3 b3_4 b3_5 b3_6 b3_9 b3_12 b3_14 b3_15 b3_16 b3_17 b3_18 b3_19 b3_20 b3_21 b3_22 b3_23 w50307 w50308 w50310 w50311 w50313 w50324)) (as6 x2 x3 (aC.enc b0) (aA.enc b1) (aC.enc b2) b3_0 b3_1 b3_2 b3_3 b3_4 b3_5 b3_6 b3_9 b3_12 b3_14 b3_15 b3_16 b3_17 b3_18 b3_19 b3_20 b3_21 b3_22 b3_23 (List.map aF.enc w50307) (List.map aA.enc w50308) (List.map aB.enc w50310) (List.map (encI .i64) w50311) (List.map (encI .i64) w50313) (List.map aD.enc w50324)) := by
 refine Le.trans ?_ (le_of_eq ((bB aqW).trans (atU _ _ _ _ _ _  x2 x3 b0 b1 b2 b3_0 b3_1 b3_2 b3_3 b3_4 b3_5 b3_6 b3_9 b3_12 b3_14 b3_15 b3_16 b3_17 b3_18 b3_19 b3_20 b3_21 b3_22 b3_23 w50307 w50308 w50310 w50311 w50313 w50324)).symm)
 unfold m0
 refine aM (good := good) eX aii (ai4 _ _ _ _) fun r2 _ => ?_
 refine aM (good := good) eX nP (by first | (simp only [EN]; exact jU ((aC.mk b3_0 b3_1 b3_2 b3_3 b3_4 b3_5 b3_6 w50307 r2.1 (aG.mk b3_9 w50310 (aJ.mk w50311 b3_12)) (aQ.mk w50313) (aN.mk b3_14 b3_15 (aA.mk b3_16 b3_17 b3_18 b3_19 b3_20 b3_21 b3_22 b3_23 w50324)))) (List.length r2.2.1 : Int)) | exact jU ((aC.mk b3_0 b3_1 b3_2 b3_3 b3_4 b3_5 b3_6 w50307 r2.1 (aG.mk b3_9 w50310 (aJ.mk w50311 b3_12)) (aQ.mk w50313) (aN.mk b3_14 b3_15 (aA.mk b3_16 b3_17 b3_18 b3_19 b3_20 b3_21 b3_22 b3_23 w50324)))) (List.length r2.2.1 : Int)) fun r3 _ => ?_
 refine lC ?_ ?_
 ·exact aH rfl
 ·exact aH rfl
theorem nN (p0 : aC) (p1 : aA) (p2 : Int) (p3 : Int) : Le (Option.map fA (l3 p0 p1 p2 p3)) (aY SE 15 [aC.av p0, aA.av p1, .d (.int .i64 p2), .d (.int .i64 p3)] [] []) := by
 refine aS aqW rfl ?_
 refine Le.trans ?_ (le_of_eq (T15 _ _ _ _ _ _  p0 p1 p2 p3).symm)
 unfold l3
 refine aM (good := good) eX iT (jH _) fun r0 _ => ?_
 refine lC ?_ ?_
 ·refine lC ?_ ?_
  ·refine aM (good := good) eX nP (jU _ _) fun r1 _ => ?_
   exact aH rfl
  ·first | (simp only [EN]; exact nS p2 p3 p0 p1 ((aC.mk ([] : Str) ([] : Str) false 0 0 0 0 ([] : List aF) ([] : List aA) (aG.mk 0 ([] : List aB) (aJ.mk ([] : List Int) 0)) (aQ.mk ([] : List Int)) (aN.mk false 0 (aA.mk ([] : Str) ([] : Str) 0 false 0 0 ([] : Str) 0 ([] : List aD))))) r0.Client r0.User r0.Online r0.Conn r0.Expiry r0.Until r0.Dropped r0.Out.Limit r0.Out.Pool.Last r0.Will.Set r0.Will.Delay r0.Will.Message.Topic r0.Will.Message.Payload r0.Will.Message.Level r0.Will.Message.Retain r0.Will.Message.Priority r0.Will.Message.Expires r0.Will.Message.From r0.Will.Message.Seq r0.Subs r0.Queue r0.Out.Items r0.Out.Pool.Used r0.In.IDs r0.Will.Message.Props) | exact nS p2 p3 p0 p1 ((aC.mk ([] : Str) ([] : Str) false 0 0 0 0 ([] : List aF) ([] : List aA) (aG.mk 0 ([] : List aB) (aJ.mk ([] : List Int) 0)) (aQ.mk ([] : List Int)) (aN.mk false 0 (aA.mk ([] : Str) ([] : Str) 0 false 0 0 ([] : Str) 0 ([] : List aD))))) r0.Client r0.User r0.Online r0.Conn r0.Expiry r0.Until r0.Dropped r0.Out.Limit r0.Out.Pool.Last r0.Will.Set r0.Will.Delay r0.Will.Message.Topic r0.Will.Message.Payload r0.Will.Message.Level r0.Will.Message.Retain r0.Will.Message.Priority r0.Will.Message.Expires r0.Will.Message.From r0.Will.Message.Seq r0.Subs r0.Queue r0.Out.Items r0.Out.Pool.Used r0.In.IDs r0.Will.Message.Props
 ·first | (simp only [EN]; exact nS p2 p3 p0 p1 ((aC.mk ([] : Str) ([] : Str) false 0 0 0 0 ([] : List aF) ([] : List aA) (aG.mk 0 ([] : List aB) (aJ.mk ([] : List Int) 0)) (aQ.mk ([] : List Int)) (aN.mk false 0 (aA.mk ([] : Str) ([] : Str) 0 false 0 0 ([] : Str) 0 ([] : List aD))))) r0.Client r0.User r0.Online r0.Conn r0.Expiry r0.Until r0.Dropped r0.Out.Limit r0.Out.Pool.Last r0.Will.Set r0.Will.Delay r0.Will.Message.Topic r0.Will.Message.Payload r0.Will.Message.Level r0.Will.Message.Retain r0.Will.Message.Priority r0.Will.Message.Expires r0.Will.Message.From r0.Will.Message.Seq r0.Subs r0.Queue r0.Out.Items r0.Out.Pool.Used r0.In.IDs r0.Will.Message.Props) | exact nS p2 p3 p0 p1 ((aC.mk ([] : Str) ([] : Str) false 0 0 0 0 ([] : List aF) ([] : List aA) (aG.mk 0 ([] : List aB) (aJ.mk ([] : List Int) 0)) (aQ.mk ([] : List Int)) (aN.mk false 0 (aA.mk ([] : Str) ([] : Str) 0 false 0 0 ([] : Str) 0 ([] : List aD))))) r0.Client r0.User r0.Online r0.Conn r0.Expiry r0.Until r0.Dropped r0.Out.Limit r0.Out.Pool.Last r0.Will.Set r0.Will.Delay r0.Will.Message.Topic r0.Will.Message.Payload r0.Will.Message.Level r0.Will.Message.Retain r0.Will.Message.Priority r0.Will.Message.Expires r0.Will.Message.From r0.Will.Message.Seq r0.Subs r0.Queue r0.Out.Items r0.Out.Pool.Used r0.In.IDs r0.Will.Message.Props
section
variable (Γ : Fun)  (Λ2 J : Lam)
def apv : aP := aO Γ
theorem at5 (p0 : aA) (p1 : Int) : bC SE (apv Γ) Λ2 J 113 [aA.av p0, .d (.int .i64 p1)] [] [] =
 cond (p0.Expires != 0) (
 (some (.ret [.d (.bool (decide (p1 ≥ p0.Expires)))] [] []))) (
 (some (.ret [.d (.bool false)] [] []))) := by kernel_rfl
end
abbrev avd : aP := apv gG
theorem atm : avd = aO gG := rfl
theorem wT (p0 : aA) (p1 : Int) : Le (Option.map jC (tZ p0 p1)) (aY SE 113 [aA.av p0, .d (.int .i64 p1)] [] []) := by
 refine aS atm rfl ?_
 refine Le.trans ?_ (le_of_eq (at5 _ _ _  p0 p1).symm)
 unfold tZ
 refine lC ?_ ?_
 ·exact aH rfl
 ·exact aH rfl
section
variable (Γ : Fun)  (Λ2 J : Lam)
def arb : aP := aO Γ
theorem avl (p0 : aG) : bC SE (arb Γ) Λ2 J 156 [aG.av p0] [] [] =
 (some (.ret [.d (.int .i64 (if 0 > (IntKind.wrap .i64 (p0.Limit - (List.length (List.map aB.enc p0.Items) : Int))) then 0 else (IntKind.wrap .i64 (p0.Limit - (List.length (List.map aB.enc p0.Items) : Int)))))] [] [])) := by kernel_rfl
end
abbrev auB : aP := arb gG
theorem atc : auB = aO gG := rfl
theorem afD (p0 : aG) : Le (Option.map iP (w9 p0)) (aY SE 156 [aG.av p0] [] []) := by
 refine aS atc rfl ?_
 refine Le.trans ?_ (le_of_eq (avl _ _ _  p0).symm)
 unfold w9
 exact aH (by first | rfl | simp only [EN, iP] <;> rfl)
def ajo (C : aP) (Λ2 J : Lam) (a0 : Str) (a1 : Nat) : Res := lab SE C Λ2 J 169 0 [1, 1, 0, 1, 0] (bA [(9, .it 4000)] [] [] [(4000, (a0, a1))] [])
section
variable (Γ : Fun) (γ161 : Gm (Bool)) (Λ2 J : Lam)
def agY : aP := aZ (aO Γ) 161 fH γ161
theorem aut (p0 : Str) : bC SE (agY Γ γ161) Λ2 J 169 [.d (.str p0)] [] [] =
 γ161 [.d (.str p0)] [] [] fun r0 =>
 cond (!r0) (
 (some (.ret [.d (.bool false)] [] []))) (
 ajo (agY Γ γ161) Λ2 J p0 0) := by kernel_rfl
theorem aq1 (s4000 : Str) (i4000 : Nat) : bW SE (agY Γ γ161) Λ2 J 169 0 [1, 1, 0, 1, 0] (bA [(9, .it 4000)] [] [] [(4000, (s4000, i4000))] []) =
 cond (decide (i4000 < List.length s4000)) (
 cond (((dec s4000 i4000).1 : Int) == 43) (
  (some (.ret [.d (.bool false)] [] []))) (
 cond (((dec s4000 i4000).1 : Int) == 35) (
  (some (.ret [.d (.bool false)] [] []))) (
 ajo (agY Γ γ161) Λ2 J s4000 (i4000 + (dec s4000 i4000).2)))) (
 (some (.ret [.d (.bool true)] [] []))) := by kernel_rfl
end
abbrev ak5 : aP := agY gG (cT 161 fH)
theorem aoL : ak5 = aO gG := by unfold ak5 agY; rw [aK fun _ h => h]
noncomputable abbrev arc (a0 : Str) (a1 : Nat) : Res := ajo ak5 (bU SE gG (SE.hl 169) (SE.hr 169)) (J0 SE ak5) a0 a1
theorem aeX : ∀ (fu : Nat) (s4000 : Str) (i4000 : Nat), Le (Option.map j5 (rF fu s4000 i4000)) (arc s4000 i4000) := by
 intro fu
 induction fu with
 | zero => intros; exact le_none
 | succ fu ih =>
  intro s4000 i4000
  refine Le.trans ?_ (le_of_eq ((bB aoL).trans (aq1 _ _ _ _  s4000 i4000)).symm)
  unfold rF
  refine lC ?_ ?_
  ·refine lC ?_ ?_
   ·exact aH rfl
   ·refine lC ?_ ?_
    ·exact aH rfl
    ·exact ih s4000 (i4000 + (dec s4000 i4000).2)
  ·exact aH rfl
theorem ahb (p0 : Str) : Le (Option.map j5 (aaK p0)) (aY SE 169 [.d (.str p0)] [] []) := by
 refine aS aoL rfl ?_
 refine Le.trans ?_ (le_of_eq (aut _ _ _ _  p0).symm)
 unfold aaK
 refine aM (good := good) eX aax (abQ _) fun r0 _ => ?_
 refine lC ?_ ?_
 ·exact aH rfl
 ·exact aeX fuel p0 0
section
variable (Γ : Fun)  (Λ2 J : Lam)
def apU : aP := aO Γ
theorem atZ (p0 : Int) (p1 : Int) : bC SE (apU Γ) Λ2 J 170 [.d (.int .i64 p0), .d (.int .i64 p1)] [] [] =
 cond (decide (p0 ≥ 0)) (
 (some (.ret [.d (.bool (decide (p0 ≤ p1)))] [] []))) (
 (some (.ret [.d (.bool false)] [] []))) := by kernel_rfl
end
abbrev at6 : aP := apU gG
theorem atJ : at6 = aO gG := rfl
theorem pY (p0 : Int) (p1 : Int) : Le (Option.map mZ (pQ p0 p1)) (aY SE 170 [.d (.int .i64 p0), .d (.int .i64 p1)] [] []) := by
 refine aS atJ rfl ?_
 refine Le.trans ?_ (le_of_eq (atZ _ _ _  p0 p1).symm)
 unfold pQ
 refine lC ?_ ?_
 ·exact aH rfl
 ·exact aH rfl
def uO (C : aP) (Λ2 J : Lam) (a0 : Str) (a1 : Int) : Res := lab SE C Λ2 J 184 0 [1, 1, 0, 1, 0] (bA [(0, .d (.str a0)), (3, .d (.int .i64 a1))] [] [] [] [])
def al5 (C : aP) (Λ2 J : Lam) (a0 : Str) : Res := lab SE C Λ2 J 184 0 [1, 1, 0, 0] (bA [(0, .d (.str a0))] [] [] [] [])
section
variable (Γ : Fun)  (Λ2 J : Lam)
def vN : aP := aO Γ
theorem auM (p0 : Str) : bC SE (vN Γ) Λ2 J 184 [.d (.str p0)] [] [] =
 cond (decide ((List.length p0 : Int) < 1)) (
 (some (.ret [.d (.bool false)] [] []))) (
 cond (decide ((List.length p0 : Int) > 16)) (
 (some (.ret [.d (.bool false)] [] []))) (
 al5 (vN Γ) Λ2 J p0)) := by kernel_rfl
theorem arR (x0 : Str) (x3 : Int) : bW SE (vN Γ) Λ2 J 184 0 [1, 1, 0, 1, 0] (bA [(0, .d (.str x0)), (3, .d (.int .i64 x3))] [] [] [] []) =
 cond (decide (x3 < (List.length x0 : Int))) (
 cond (decide (0 ≤ x3) && decide (x3 < (List.length x0 : Int))) (
  cond (decide ((UInt8.toNat (List.getD x0 (Int.toNat x3) 0) : Int) < 97)) (
  cond (decide ((UInt8.toNat (List.getD x0 (Int.toNat x3) 0) : Int) < 48)) (
   cond ((UInt8.toNat (List.getD x0 (Int.toNat x3) 0) : Int) != 45) (
   (some (.ret [.d (.bool false)] [] []))) (
   uO (vN Γ) Λ2 J x0 (IntKind.wrap .i64 (x3 + 1)))) (
  cond (decide ((UInt8.toNat (List.getD x0 (Int.toNat x3) 0) : Int) > 57)) (
   cond ((UInt8.toNat (List.getD x0 (Int.toNat x3) 0) : Int) != 45) (
   (some (.ret [.d (.bool false)] [] []))) (
   uO (vN Γ) Λ2 J x0 (IntKind.wrap .i64 (x3 + 1)))) (
  uO (vN Γ) Λ2 J x0 (IntKind.wrap .i64 (x3 + 1))))) (
  cond (decide ((UInt8.toNat (List.getD x0 (Int.toNat x3) 0) : Int) > 122)) (
  cond (decide ((UInt8.toNat (List.getD x0 (Int.toNat x3) 0) : Int) < 48)) (
   cond ((UInt8.toNat (List.getD x0 (Int.toNat x3) 0) : Int) != 45) (
   (some (.ret [.d (.bool false)] [] []))) (
   uO (vN Γ) Λ2 J x0 (IntKind.wrap .i64 (x3 + 1)))) (
  cond (decide ((UInt8.toNat (List.getD x0 (Int.toNat x3) 0) : Int) > 57)) (
   cond ((UInt8.toNat (List.getD x0 (Int.toNat x3) 0) : Int) != 45) (
   (some (.ret [.d (.bool false)] [] []))) (
   uO (vN Γ) Λ2 J x0 (IntKind.wrap .i64 (x3 + 1)))) (
  uO (vN Γ) Λ2 J x0 (IntKind.wrap .i64 (x3 + 1))))) (
  uO (vN Γ) Λ2 J x0 (IntKind.wrap .i64 (x3 + 1))))) none) (
 (some (.ret [.d (.bool true)] [] []))) := by kernel_rfl
theorem aqC (x0 : Str) : bW SE (vN Γ) Λ2 J 184 0 [1, 1, 0, 0] (bA [(0, .d (.str x0))] [] [] [] []) =
 uO (vN Γ) Λ2 J x0 0 := by kernel_rfl
end
abbrev ajm : aP := vN gG
theorem ak9 : ajm = aO gG := rfl
noncomputable abbrev aq0 (a0 : Str) (a1 : Int) : Res := uO ajm (bU SE gG (SE.hl 184) (SE.hr 184)) (J0 SE ajm) a0 a1
noncomputable abbrev aqm (a0 : Str) : Res := al5 ajm (bU SE gG (SE.hl 184) (SE.hr 184)) (J0 SE ajm) a0
theorem aeP : ∀ (fu : Nat) (x0 : Str) (x3 : Int), Le (Option.map iW (gC fu x0 x3)) (aq0 x0 x3) := by
 intro fu
 induction fu with
 | zero => intros; exact le_none
 | succ fu ih =>
  intro x0 x3
  refine Le.trans ?_ (le_of_eq ((bB ak9).trans (arR _ _ _  x0 x3)).symm)
  unfold gC
  refine lC ?_ ?_
  ·refine lF ?_
   refine lC ?_ ?_
   ·refine lC ?_ ?_
    ·refine lC ?_ ?_
     ·exact aH rfl
     ·exact ih x0 (IntKind.wrap .i64 (x3 + 1))
    ·refine lC ?_ ?_
     ·refine lC ?_ ?_
      ·exact aH rfl
      ·exact ih x0 (IntKind.wrap .i64 (x3 + 1))
     ·exact ih x0 (IntKind.wrap .i64 (x3 + 1))
   ·refine lC ?_ ?_
    ·refine lC ?_ ?_
     ·refine lC ?_ ?_
      ·exact aH rfl
      ·exact ih x0 (IntKind.wrap .i64 (x3 + 1))
     ·refine lC ?_ ?_
      ·refine lC ?_ ?_
       ·exact aH rfl
       ·exact ih x0 (IntKind.wrap .i64 (x3 + 1))
      ·exact ih x0 (IntKind.wrap .i64 (x3 + 1))
    ·exact ih x0 (IntKind.wrap .i64 (x3 + 1))
  ·exact aH rfl
theorem aeY (x0 : Str) : Le (Option.map iW (vY x0)) (aqm x0) := by
 refine Le.trans ?_ (le_of_eq ((bB ak9).trans (aqC _ _ _  x0)).symm)
 unfold vY
 exact aeP fuel x0 0
theorem abS (p0 : Str) : Le (Option.map iW (aaZ p0)) (aY SE 184 [.d (.str p0)] [] []) := by
 refine aS ak9 rfl ?_
 refine Le.trans ?_ (le_of_eq (auM _ _ _  p0).symm)
 unfold aaZ
 refine lC ?_ ?_
 ·exact aH rfl
 ·refine lC ?_ ?_
  ·exact aH rfl
  ·exact aeY p0
def af2 (C : aP) (Λ2 J : Lam) (a0 : (List (List D))) (a1 : (List (List D))) (a2 : Int) (a3 : Int) : Res := lab SE C Λ2 J 171 0 [1, 1, 0, 1, 0] (bA [(0, .d (.sl aD.ks a0)), (8, .d (.sl aD.ks a1)), (9, .d (.int .i64 a2)), (10, .d (.int .i64 a3))] [] [] [] [])
section
variable (Γ : Fun) (γ184 : Gm (Bool)) (Λ2 J : Lam)
def afN : aP := aZ (aO Γ) 184 iW γ184
theorem avA (p0 : (List aD)) : bC SE (afN Γ γ184) Λ2 J 171 [.d (.sl aD.ks (List.map aD.enc p0))] [] [] =
 cond (decide ((List.length (List.map aD.enc p0) : Int) > 8)) (
 (some (.ret [.d (.int .i64 5)] [] []))) (
 af2 (afN Γ γ184) Λ2 J (List.map aD.enc p0) (List.map aD.enc p0) (List.length (List.map aD.enc p0) : Int) 0) := by kernel_rfl
theorem arL (x0 : (List aD)) (x8 : (List aD)) (x9 : Int) (x10 : Int) : bW SE (afN Γ γ184) Λ2 J 171 0 [1, 1, 0, 1, 0] (bA [(0, .d (.sl aD.ks (List.map aD.enc x0))), (8, .d (.sl aD.ks (List.map aD.enc x8))), (9, .d (.int .i64 x9)), (10, .d (.int .i64 x10))] [] [] [] []) =
 cond (decide (x10 < x9)) (
 cond (decide (0 ≤ x10) && decide (x10 < (List.length (List.map aD.enc x8) : Int))) (
  γ184 [.d (.str (aV (cellAt (elemAt (List.map aD.enc x8) (Int.toNat x10)) 0)))] [] [] fun r0 =>
  cond (!r0) (
  (some (.ret [.d (.int .i64 16)] [] []))) (
  cond (decide ((List.length (aV (cellAt (elemAt (List.map aD.enc x8) (Int.toNat x10)) 1)) : Int) > 160)) (
  (some (.ret [.d (.int .i64 5)] [] []))) (
  cond (decide (x10 > 0)) (
  cond (decide (0 ≤ (IntKind.wrap .i64 (x10 - 1))) && decide ((IntKind.wrap .i64 (x10 - 1)) < (List.length (List.map aD.enc x0) : Int))) (
   cond (Op.bytesLess (aV (cellAt (elemAt (List.map aD.enc x8) (Int.toNat x10)) 0)) (aV (cellAt (elemAt (List.map aD.enc x0) (Int.toNat (IntKind.wrap .i64 (x10 - 1)))) 0)) || (aV (cellAt (elemAt (List.map aD.enc x8) (Int.toNat x10)) 0)) == (aV (cellAt (elemAt (List.map aD.enc x0) (Int.toNat (IntKind.wrap .i64 (x10 - 1)))) 0))) (
   (some (.ret [.d (.int .i64 16)] [] []))) (
   af2 (afN Γ γ184) Λ2 J (List.map aD.enc x0) (List.map aD.enc x8) x9 (IntKind.wrap .i64 (x10 + 1)))) none) (
  af2 (afN Γ γ184) Λ2 J (List.map aD.enc x0) (List.map aD.enc x8) x9 (IntKind.wrap .i64 (x10 + 1)))))) none) (
 (some (.ret [.d (.int .i64 0)] [] []))) := by kernel_rfl
end
abbrev akE : aP := afN gG (cT 184 iW)
theorem aow : akE = aO gG := by unfold akE afN; rw [aK fun _ h => h]
noncomputable abbrev apy (a0 : (List (List D))) (a1 : (List (List D))) (a2 : Int) (a3 : Int) : Res := af2 akE (bU SE gG (SE.hl 171) (SE.hr 171)) (J0 SE akE) a0 a1 a2 a3
theorem vB : ∀ (fu : Nat) (x0 : (List aD)) (x8 : (List aD)) (x9 : Int) (x10 : Int), Le (Option.map iR (nG fu x0 x8 x9 x10)) (apy (List.map aD.enc x0) (List.map aD.enc x8) x9 x10) := by
 intro fu
 induction fu with
 | zero => intros; exact le_none
 | succ fu ih =>
  intro x0 x8 x9 x10
  refine Le.trans ?_ (le_of_eq ((bB aow).trans (arL _ _ _ _  x0 x8 x9 x10)).symm)
  unfold nG
  refine lC ?_ ?_
  ·refine lG (by simp only [EN]) ?_
   refine aM (good := good) eX ago (by first | (simp only [EN]; exact abS ((List.getD x8 (Int.toNat x10) default).Key)) | exact abS ((List.getD x8 (Int.toNat x10) default).Key)) fun r0 _ => ?_
   refine lC ?_ ?_
   ·exact aH rfl
   ·refine lD (by simp only [EN]) ?_ ?_
    ·exact aH rfl
    ·refine lC ?_ ?_
     ·refine lG (by simp only [EN]) ?_
      refine lD (by simp only [EN]) ?_ ?_
      ·exact aH rfl
      ·exact ih x0 x8 x9 (IntKind.wrap .i64 (x10 + 1))
     ·exact ih x0 x8 x9 (IntKind.wrap .i64 (x10 + 1))
  ·exact aH rfl
theorem zT (p0 : (List aD)) : Le (Option.map iR (sO p0)) (aY SE 171 [.d (.sl aD.ks (List.map aD.enc p0))] [] []) := by
 refine aS aow rfl ?_
 refine Le.trans ?_ (le_of_eq (avA _ _ _ _  p0).symm)
 unfold sO
 refine lD (by simp only [EN]) ?_ ?_
 ·exact aH rfl
 ·first | (simp only [EN]; exact vB fuel p0 p0 (List.length p0 : Int) 0) | exact vB fuel p0 p0 (List.length p0 : Int) 0
section
variable (Γ : Fun) (γ169 : Gm (Bool)) (γ170 : Gm (Bool)) (γ139 : Gm (Bool)) (γ171 : Gm (Int)) (Λ2 J : Lam)
def an2 : aP := aZ (aZ (aZ (aZ (aO Γ) 169 j5 γ169) 170 mZ γ170) 139 eI γ139) 171 iR γ171
theorem auZ (p0 : aA) : bC SE (an2 Γ γ169 γ170 γ139 γ171) Λ2 J 141 [aA.av p0] [] [] =
 γ169 [.d (.str p0.Topic)] [] [] fun r0 =>
 cond (!r0) (
 (some (.ret [.d (.int .i64 12)] [] []))) (
 cond (decide ((List.length p0.Payload : Int) > 256)) (
 (some (.ret [.d (.int .i64 5)] [] []))) (
 γ170 [.d (.int .i64 p0.Level), .d (.int .i64 2)] [] [] fun r1 =>
 cond (!r1) (
 (some (.ret [.d (.int .i64 14)] [] []))) (
 γ170 [.d (.int .i64 p0.Priority), .d (.int .i64 9)] [] [] fun r2 =>
 cond (!r2) (
 (some (.ret [.d (.int .i64 1)] [] []))) (
 γ170 [.d (.int .i64 p0.Expires), .d (.int .i64 1099511627776)] [] [] fun r3 =>
 cond (!r3) (
 (some (.ret [.d (.int .i64 1)] [] []))) (
 cond (!(p0.From == ([] : Str))) (
 γ139 [.d (.str p0.From)] [] [] fun r4 =>
 cond (!r4) (
  (some (.ret [.d (.int .i64 11)] [] []))) (
 γ170 [.d (.int .i64 p0.Seq), .d (.int .i64 1099511627776)] [] [] fun r5 =>
 cond (!r5) (
  (some (.ret [.d (.int .i64 1)] [] []))) (
 γ171 [.d (.sl aD.ks (List.map aD.enc p0.Props))] [] [] fun r6 =>
 (some (.ret [.d (.int .i64 r6)] [] []))))) (
 γ170 [.d (.int .i64 p0.Seq), .d (.int .i64 1099511627776)] [] [] fun r7 =>
 cond (!r7) (
 (some (.ret [.d (.int .i64 1)] [] []))) (
 γ171 [.d (.sl aD.ks (List.map aD.enc p0.Props))] [] [] fun r8 =>
 (some (.ret [.d (.int .i64 r8)] [] []))))))))) := by kernel_rfl
end
abbrev aqY : aP := an2 gG (cT 169 j5) (cT 170 mZ) (cT 139 eI) (cT 171 iR)
theorem atN : aqY = aO gG := by unfold aqY an2; rw [aK fun _ h => h, aK fun _ h => h, aK fun _ h => h, aK fun _ h => h]
theorem afK (p0 : aA) : Le (Option.map j8 (xJ p0)) (aY SE 141 [aA.av p0] [] []) := by
 refine aS atN rfl ?_
 refine Le.trans ?_ (le_of_eq (auZ _ _ _ _ _ _ _  p0).symm)
 unfold xJ
 refine aM (good := good) eX agl (ahb _) fun r0 _ => ?_
 refine lC ?_ ?_
 ·exact aH rfl
 ·refine lC ?_ ?_
  ·exact aH rfl
  ·refine aM (good := good) eX o0 (pY _ _) fun r1 _ => ?_
   refine lC ?_ ?_
   ·exact aH rfl
   ·refine aM (good := good) eX o0 (pY _ _) fun r2 _ => ?_
    refine lC ?_ ?_
    ·exact aH rfl
    ·refine aM (good := good) eX o0 (pY _ _) fun r3 _ => ?_
     refine lC ?_ ?_
     ·exact aH rfl
     ·refine lC ?_ ?_
      ·refine aM (good := good) eX abd (ac9 _) fun r4 _ => ?_
       refine lC ?_ ?_
       ·exact aH rfl
       ·refine aM (good := good) eX o0 (pY _ _) fun r5 _ => ?_
        refine lC ?_ ?_
        ·exact aH rfl
        ·refine aM (good := good) eX xN (zT _) fun r6 _ => ?_
         exact aH rfl
      ·refine aM (good := good) eX o0 (pY _ _) fun r7 _ => ?_
       refine lC ?_ ?_
       ·exact aH rfl
       ·refine aM (good := good) eX xN (zT _) fun r8 _ => ?_
        exact aH rfl
section
variable (Γ : Fun)  (Λ2 J : Lam)
def apA : aP := aO Γ
theorem avP (p0 : Int) : bC SE (apA Γ) Λ2 J 177 [.d (.int .i64 p0)] [] [] =
 (some (.ret [.d (.int .i64 (IntKind.wrap .i64 ((Int.tmod p0 65535) + 1)))] [] [])) := by kernel_rfl
end
abbrev auC : aP := apA gG
theorem asG : auC = aO gG := rfl
theorem aie (p0 : Int) : Le (Option.map mY (acA p0)) (aY SE 177 [.d (.int .i64 p0)] [] []) := by
 refine aS asG rfl ?_
 refine Le.trans ?_ (le_of_eq (avP _ _ _  p0).symm)
 unfold acA
 exact aH rfl
section
variable (Γ : Fun)  (Λ2 J : Lam)
def ap3 : aP := aO Γ
theorem auG (p0 : Int) : bC SE (ap3 Γ) Λ2 J 191 [.d (.int .i64 p0)] [] [] =
 (some (.ret [.d (.bool (p0 != p0))] [] [])) := by kernel_rfl
end
abbrev avV : aP := ap3 gG
theorem asX : avV = aO gG := rfl
theorem xO (p0 : Int) : Le (Option.map jR (rI p0)) (aY SE 191 [.d (.int .i64 p0)] [] []) := by
 refine aS asX rfl ?_
 refine Le.trans ?_ (le_of_eq (auG _ _ _  p0).symm)
 unfold rI
 exact aH rfl
section
variable (Γ : Fun) (γ191 : Gm (Bool)) (Λ2 J : Lam)
def am4 : aP := aZ (aO Γ) 191 jR γ191
theorem aun (p0 : Int) (p1 : Int) : bC SE (am4 Γ γ191) Λ2 J 185 [.d (.int .i64 p0), .d (.int .i64 p1)] [] [] =
 γ191 [.d (.int .i64 p0)] [] [] fun r0 =>
 cond r0 (
 γ191 [.d (.int .i64 p1)] [] [] fun r1 =>
 cond (!r1) (
  (some (.ret [.d (.bool true)] [] []))) (
 (some (.ret [.d (.bool (decide (p0 < p1)))] [] [])))) (
 (some (.ret [.d (.bool (decide (p0 < p1)))] [] []))) := by kernel_rfl
end
abbrev arh : aP := am4 gG (cT 191 jR)
theorem asE : arh = aO gG := by unfold arh am4; rw [aK fun _ h => h]
theorem zF (p0 : Int) (p1 : Int) : Le (Option.map kC (xF p0 p1)) (aY SE 185 [.d (.int .i64 p0), .d (.int .i64 p1)] [] []) := by
 refine aS asE rfl ?_
 refine Le.trans ?_ (le_of_eq (aun _ _ _ _  p0 p1).symm)
 unfold xF
 refine aM (good := good) eX wJ (xO _) fun r0 _ => ?_
 refine lC ?_ ?_
 ·refine aM (good := good) eX wJ (xO _) fun r1 _ => ?_
  refine lC ?_ ?_
  ·exact aH rfl
  ·exact aH rfl
 ·exact aH rfl
section
variable (Γ : Fun)  (Λ2 J : Lam)
def apD : aP := aO Γ
theorem avI (p0 : Int) : bC SE (apD Γ) Λ2 J 186 [.d (.int .i64 p0)] [] [] =
 (some (.ret [.d (.bool (p0 != p0))] [] [])) := by kernel_rfl
end
abbrev atW : aP := apD gG
theorem atC : atW = aO gG := rfl
theorem pR (p0 : Int) : Le (Option.map g5 (oU p0)) (aY SE 186 [.d (.int .i64 p0)] [] []) := by
 refine aS atC rfl ?_
 refine Le.trans ?_ (le_of_eq (avI _ _ _  p0).symm)
 unfold oU
 exact aH rfl
def af0 (C : aP) (Λ2 J : Lam) (a0 : (List (List D))) (a1 : Int) (a2 : Int) (a3 : Int) (a4 : Int) : Res := lab SE C Λ2 J 175 0 [1, 1, 1, 0, 0] (bA [(0, .d (.sl [.int .i64] a0)), (1, .d (.int .i64 a1)), (6, .d (.int .i64 a2)), (7, .d (.int .i64 a3)), (8, .d (.int .i64 a4))] [] [] [] [])
section
variable (Γ : Fun) (γ185 : Gm (Bool)) (γ186 : Gm (Bool)) (Λ2 J : Lam)
def afh : aP := aZ (aZ (aO Γ) 185 kC γ185) 186 g5 γ186
theorem avm (p0 : (List Int)) (p1 : Int) : bC SE (afh Γ γ185 γ186) Λ2 J 175 [.d (.sl [.int .i64] (List.map (encI .i64) p0)), .d (.int .i64 p1)] [] [] =
 af0 (afh Γ γ185 γ186) Λ2 J (List.map (encI .i64) p0) p1 (List.length (List.map (encI .i64) p0) : Int) 0 (List.length (List.map (encI .i64) p0) : Int) := by kernel_rfl
theorem ap4 (x0 : (List Int)) (x1 : Int) (x6 : Int) (x7 : Int) (x8 : Int) : bW SE (afh Γ γ185 γ186) Λ2 J 175 0 [1, 1, 1, 0, 0] (bA [(0, .d (.sl [.int .i64] (List.map (encI .i64) x0))), (1, .d (.int .i64 x1)), (6, .d (.int .i64 x6)), (7, .d (.int .i64 x7)), (8, .d (.int .i64 x8))] [] [] [] []) =
 cond (decide (x7 < x8)) (
 cond (decide (0 ≤ (IntKind.wrap .i64 (shr .u64 (IntKind.wrap .u64 (IntKind.wrap .i64 (x7 + x8))) 1))) && decide ((IntKind.wrap .i64 (shr .u64 (IntKind.wrap .u64 (IntKind.wrap .i64 (x7 + x8))) 1)) < (List.length (List.map (encI .i64) x0) : Int))) (
  γ185 [.d (.int .i64 (aL (cellAt (elemAt (List.map (encI .i64) x0) (Int.toNat (IntKind.wrap .i64 (shr .u64 (IntKind.wrap .u64 (IntKind.wrap .i64 (x7 + x8))) 1)))) 0))), .d (.int .i64 x1)] [] [] fun r0 =>
  cond r0 (
  af0 (afh Γ γ185 γ186) Λ2 J (List.map (encI .i64) x0) x1 x6 (IntKind.wrap .i64 ((IntKind.wrap .i64 (shr .u64 (IntKind.wrap .u64 (IntKind.wrap .i64 (x7 + x8))) 1)) + 1)) x8) (
  af0 (afh Γ γ185 γ186) Λ2 J (List.map (encI .i64) x0) x1 x6 x7 (IntKind.wrap .i64 (shr .u64 (IntKind.wrap .u64 (IntKind.wrap .i64 (x7 + x8))) 1)))) none) (
 cond (decide (x7 < x6)) (
 cond (decide (0 ≤ x7) && decide (x7 < (List.length (List.map (encI .i64) x0) : Int))) (
  cond ((aL (cellAt (elemAt (List.map (encI .i64) x0) (Int.toNat x7)) 0)) == x1) (
  (some (.ret [.d (.int .i64 x7), .d (.bool true)] [] []))) (
  cond (decide (0 ≤ x7) && decide (x7 < (List.length (List.map (encI .i64) x0) : Int))) (
  γ186 [.d (.int .i64 (aL (cellAt (elemAt (List.map (encI .i64) x0) (Int.toNat x7)) 0)))] [] [] fun r1 =>
  cond r1 (
   γ186 [.d (.int .i64 x1)] [] [] fun r2 =>
   (some (.ret [.d (.int .i64 x7), .d (.bool r2)] [] []))) (
  (some (.ret [.d (.int .i64 x7), .d (.bool false)] [] [])))) none)) none) (
 (some (.ret [.d (.int .i64 x7), .d (.bool false)] [] [])))) := by kernel_rfl
end
abbrev alc : aP := afh gG (cT 185 kC) (cT 186 g5)
theorem aor : alc = aO gG := by unfold alc afh; rw [aK fun _ h => h, aK fun _ h => h]
noncomputable abbrev ap7 (a0 : (List (List D))) (a1 : Int) (a2 : Int) (a3 : Int) (a4 : Int) : Res := af0 alc (bU SE gG (SE.hl 175) (SE.hr 175)) (J0 SE alc) a0 a1 a2 a3 a4
theorem lL : ∀ (fu : Nat) (x0 : (List Int)) (x1 : Int) (x6 : Int) (x7 : Int) (x8 : Int), Le (Option.map bM (dJ fu x0 x1 x6 x7 x8)) (ap7 (List.map (encI .i64) x0) x1 x6 x7 x8) := by
 intro fu
 induction fu with
 | zero => intros; exact le_none
 | succ fu ih =>
  intro x0 x1 x6 x7 x8
  refine Le.trans ?_ (le_of_eq ((bB aor).trans (ap4 _ _ _ _ _  x0 x1 x6 x7 x8)).symm)
  unfold dJ
  refine lC ?_ ?_
  ·refine lG (by simp only [EN]) ?_
   refine aM (good := good) eX aeW (by first | (simp only [EN]; exact zF (List.getD x0 (Int.toNat (IntKind.wrap .i64 (shr .u64 (IntKind.wrap .u64 (IntKind.wrap .i64 (x7 + x8))) 1))) default) x1) | exact zF (List.getD x0 (Int.toNat (IntKind.wrap .i64 (shr .u64 (IntKind.wrap .u64 (IntKind.wrap .i64 (x7 + x8))) 1))) default) x1) fun r0 _ => ?_
   refine lC ?_ ?_
   ·exact ih x0 x1 x6 (IntKind.wrap .i64 ((IntKind.wrap .i64 (shr .u64 (IntKind.wrap .u64 (IntKind.wrap .i64 (x7 + x8))) 1)) + 1)) x8
   ·exact ih x0 x1 x6 x7 (IntKind.wrap .i64 (shr .u64 (IntKind.wrap .u64 (IntKind.wrap .i64 (x7 + x8))) 1))
  ·refine lC ?_ ?_
   ·refine lG (by simp only [EN]) ?_
    refine lD (by simp only [EN]) ?_ ?_
    ·exact aH rfl
    ·refine lG (by simp only [EN]) ?_
     refine aM (good := good) eX sZ (by first | (simp only [EN]; exact pR (List.getD x0 (Int.toNat x7) default)) | exact pR (List.getD x0 (Int.toNat x7) default)) fun r1 _ => ?_
     refine lC ?_ ?_
     ·refine aM (good := good) eX sZ (pR _) fun r2 _ => ?_
      exact aH rfl
     ·exact aH rfl
   ·exact aH rfl
theorem mU (p0 : (List Int)) (p1 : Int) : Le (Option.map bM (gX p0 p1)) (aY SE 175 [.d (.sl [.int .i64] (List.map (encI .i64) p0)), .d (.int .i64 p1)] [] []) := by
 refine aS aor rfl ?_
 refine Le.trans ?_ (le_of_eq (avm _ _ _ _ _  p0 p1).symm)
 unfold gX
 first | (simp only [EN]; exact lL fuel p0 p1 (List.length p0 : Int) 0 (List.length p0 : Int)) | exact lL fuel p0 p1 (List.length p0 : Int) 0 (List.length p0 : Int)
theorem wK (p0 : (List Int)) (p1 : Int) (p2 : (List Int)) : Le (Option.map dM (qR p0 p1 p2)) (aY SE 178 [.row 2000000000, .d (.int .i64 p1), .row 2000000001] [] [⟨[.int .i64], 3, 8, (List.map (encI .i64) p0)⟩, ⟨[.int .i64], 3, 8, (List.map (encI .i64) p2)⟩]) := ahJ (f := 178) (enc := (encI .i64)) rfl rfl p0 p1 p2
def ajp (C : aP) (Λ2 J : Lam) (a0 : Int) (a1 : Int) (a2 : Int) (a3 : (List D)) (a4 : (List D)) : Res := lab SE C Λ2 J 157 0 [1, 1, 1, 0, 1, 0] (bA [(1, .ptr 1000000000 0), (3, .ptr 1000000001 0), (5, .d (.int .i64 a0)), (18, .d (.int .i64 a1)), (19, .d (.int .i64 a2))] [⟨27, (List.map AV.d a3)⟩, ⟨27, (List.map AV.d a4)⟩] [] [] [])
section
variable (Γ : Fun) (γ177 : Gm (Int)) (γ175 : Gm (Int × Bool)) (γ104 : Gm ((List Int))) (γ178 : Gm ((List Int))) (Λ2 J : Lam)
def ahC : aP := aZ (aZ (aZ (aZ (aO Γ) 177 mY γ177) 175 bM γ175) 104 bL γ104) 178 dM γ178
theorem at7 (p0 : aJ) : bC SE (ahC Γ γ177 γ175 γ104 γ178) Λ2 J 157 [aJ.av p0] [] [] =
 cond (decide ((List.length (List.map (encI .i64) p0.Used) : Int) ≥ 32)) (
 (some (.ret [.d (.int .i64 0), .agg [.row 0, .d (.int .i64 0)], .d (.int .i64 6)] [] [⟨[.int .i64], 3, 8, (List.map (encI .i64) [])⟩]))) (
 ajp (ahC Γ γ177 γ175 γ104 γ178) Λ2 J p0.Last (IntKind.wrap .i64 ((List.length (List.map (encI .i64) p0.Used) : Int) + 1)) 0 (aJ.enc p0) [D.sl [.int .i64] (List.map (encI .i64) []), D.int .i64 0]) := by kernel_rfl
theorem aqs (x5 : Int) (x18 : Int) (x19 : Int) (b0 : aJ) (b1 : aJ) : bW SE (ahC Γ γ177 γ175 γ104 γ178) Λ2 J 157 0 [1, 1, 1, 0, 1, 0] (bA [(1, .ptr 1000000000 0), (3, .ptr 1000000001 0), (5, .d (.int .i64 x5)), (18, .d (.int .i64 x18)), (19, .d (.int .i64 x19))] [⟨27, (List.map AV.d (aJ.enc b0))⟩, ⟨27, (List.map AV.d (aJ.enc b1))⟩] [] [] []) =
 cond (decide (x19 < x18)) (
 γ177 [.d (.int .i64 x5)] [] [] fun r0 =>
 γ175 [.d (.sl [.int .i64] (List.map (encI .i64) b0.Used)), .d (.int .i64 r0)] [] [] fun r1 =>
 cond (!r1.2) (
  γ104 [.d (.sl [.int .i64] (List.map (encI .i64) b0.Used))] [] [] fun r2 =>
  γ178 [.row 2000000000, .d (.int .i64 r1.1), .row 2000000001] [] [⟨[.int .i64], 3, 8, (List.map (encI .i64) r2)⟩, ⟨[.int .i64], 3, 8, (List.map (encI .i64) [r0])⟩] fun r3 =>
  (some (.ret [.d (.int .i64 r0), .agg [.row 0, .d (.int .i64 r0)], .d (.int .i64 0)] [] [⟨[.int .i64], 3, 8, (List.map (encI .i64) r3)⟩]))) (
 ajp (ahC Γ γ177 γ175 γ104 γ178) Λ2 J r0 x18 (IntKind.wrap .i64 (x19 + 1)) (aJ.enc b0) (aJ.enc b1))) (
 (some (.ret [.d (.int .i64 0), .agg [.row 0, .d (.int .i64 0)], .d (.int .i64 6)] [] [⟨[.int .i64], 3, 8, (List.map (encI .i64) [])⟩]))) := by kernel_rfl
end
abbrev akJ : aP := ahC gG (cT 177 mY) (cT 175 bM) (cT 104 bL) (cT 178 dM)
theorem aoQ : akJ = aO gG := by unfold akJ ahC; rw [aK fun _ h => h, aK fun _ h => h, aK fun _ h => h, aK fun _ h => h]
noncomputable abbrev aqc (a0 : Int) (a1 : Int) (a2 : Int) (a3 : (List D)) (a4 : (List D)) : Res := ajp akJ (bU SE gG (SE.hl 157) (SE.hr 157)) (J0 SE akJ) a0 a1 a2 a3 a4
theorem yZ : ∀ (fu : Nat) (x5 : Int) (x18 : Int) (x19 : Int) (b0 : aJ) (b1 : aJ), Le (Option.map kT (sN fu x5 x18 x19 b0 b1)) (aqc x5 x18 x19 (aJ.enc b0) (aJ.enc b1)) := by
 intro fu
 induction fu with
 | zero => intros; exact le_none
 | succ fu ih =>
  intro x5 x18 x19 b0 b1
  refine Le.trans ?_ (le_of_eq ((bB aoQ).trans (aqs _ _ _ _ _ _ _  x5 x18 x19 b0 b1)).symm)
  unfold sN
  refine lC ?_ ?_
  ·refine aM (good := good) eX ahi (aie _) fun r0 _ => ?_
   refine aM (good := good) eX mA (mU _ _) fun r1 _ => ?_
   refine lC ?_ ?_
   ·refine aM (good := good) eX fK (fW _) fun r2 _ => ?_
    refine aM (good := good) eX vJ (wK _ _ _) fun r3 _ => ?_
    exact aH rfl
   ·exact ih r0 x18 (IntKind.wrap .i64 (x19 + 1)) b0 b1
  ·exact aH rfl
theorem aih (p0 : aJ) : Le (Option.map kT (acX p0)) (aY SE 157 [aJ.av p0] [] []) := by
 refine aS aoQ rfl ?_
 refine Le.trans ?_ (le_of_eq (at7 _ _ _ _ _ _ _  p0).symm)
 unfold acX
 refine lD (by simp only [EN]) ?_ ?_
 ·exact aH rfl
 ·first | (simp only [EN]; exact yZ fuel p0.Last (IntKind.wrap .i64 ((List.length p0.Used : Int) + 1)) 0 p0 (aJ.mk ([] : List Int) 0)) | exact yZ fuel p0.Last (IntKind.wrap .i64 ((List.length p0.Used : Int) + 1)) 0 p0 (aJ.mk ([] : List Int) 0)
section
variable (Γ : Fun) (γ138 : Gm ((List aD))) (Λ2 J : Lam)
def anX : aP := aZ (aO Γ) 138 bP γ138
theorem auH (p0 : aA) : bC SE (anX Γ γ138) Λ2 J 153 [aA.av p0] [] [] =
 γ138 [.d (.sl aD.ks (List.map aD.enc p0.Props))] [] [] fun r0 =>
 (some (.ret [.agg [.d (.str p0.Topic), .d (.str p0.Payload), .d (.int .i64 p0.Level), .d (.bool p0.Retain), .d (.int .i64 p0.Priority), .d (.int .i64 p0.Expires), .d (.str p0.From), .d (.int .i64 p0.Seq), .row 0]] [] [⟨aD.ks, 130, 32, (List.map aD.enc r0)⟩])) := by kernel_rfl
end
abbrev art : aP := anX gG (cT 138 bP)
theorem atQ : art = aO gG := by unfold art anX; rw [aK fun _ h => h]
theorem n9 (p0 : aA) : Le (Option.map c9 (oG p0)) (aY SE 153 [aA.av p0] [] []) := by
 refine aS atQ rfl ?_
 refine Le.trans ?_ (le_of_eq (auH _ _ _ _  p0).symm)
 unfold oG
 refine aM (good := good) eX k8 (lE _) fun r0 _ => ?_
 exact aH rfl
def aiX (C : aP) (Λ2 J : Lam) (a0 : (List (List D))) (a1 : Int) (a2 : Int) (a3 : (List D)) (a4 : (List D)) (a5 : (List (List D))) : Res := lab SE C Λ2 J 110 0 [1, 1, 0, 1, 0] (bA [(1, .ptr 1000000000 0), (2, .ptr 1000000001 0), (3, .row 3003), (12, .d (.sl aB.ks a0)), (13, .d (.int .i64 a1)), (14, .d (.int .i64 a2))] [⟨29, (List.map AV.d a3)⟩, ⟨29, (List.map AV.d a4)⟩] [] [] [(3003, ⟨aB.ks, 122, 128, a5⟩)])
section
variable (Γ : Fun) (γ153 : Gm (aA)) (γ104 : Gm ((List Int))) (Λ2 J : Lam)
def ag5 : aP := aZ (aZ (aO Γ) 153 c9 γ153) 104 bL γ104
theorem avF (p0 : aG) : bC SE (ag5 Γ γ153 γ104) Λ2 J 110 [aG.av p0] [] [] =
 cond (decide (0 ≤ 0) && decide (0 ≤ (IntKind.wrap .i64 ((List.length (List.map aB.enc p0.Items) : Int) + 1))) && decide ((IntKind.wrap .i64 ((List.length (List.map aB.enc p0.Items) : Int) + 1)) * 128 ≤ 281474976710656)) (
 aiX (ag5 Γ γ153 γ104) Λ2 J (List.map aB.enc p0.Items) (List.length (List.map aB.enc p0.Items) : Int) 0 (aG.enc p0) [D.int .i64 0, D.sl aB.ks (List.map aB.enc []), D.sl [.int .i64] (List.map (encI .i64) []), D.int .i64 0] (List.map aB.enc [])) none := by kernel_rfl
theorem arp (x12 : (List aB)) (x13 : Int) (x14 : Int) (b0 : aG) (b1 : aG) (w3003 : (List aB)) : bW SE (ag5 Γ γ153 γ104) Λ2 J 110 0 [1, 1, 0, 1, 0] (bA [(1, .ptr 1000000000 0), (2, .ptr 1000000001 0), (3, .row 3003), (12, .d (.sl aB.ks (List.map aB.enc x12))), (13, .d (.int .i64 x13)), (14, .d (.int .i64 x14))] [⟨29, (List.map AV.d (aG.enc b0))⟩, ⟨29, (List.map AV.d (aG.enc b1))⟩] [] [] [(3003, ⟨aB.ks, 122, 128, (List.map aB.enc w3003)⟩)]) =
 cond (decide (x14 < x13)) (
 cond (decide (0 ≤ x14) && decide (x14 < (List.length (List.map aB.enc x12) : Int))) (
  γ153 [.agg [.d (.str (aV (cellAt (elemAt (List.map aB.enc x12) (Int.toNat x14)) 2))), .d (.str (aV (cellAt (elemAt (List.map aB.enc x12) (Int.toNat x14)) 3))), .d (.int .i64 (aL (cellAt (elemAt (List.map aB.enc x12) (Int.toNat x14)) 4))), .d (.bool (aX (cellAt (elemAt (List.map aB.enc x12) (Int.toNat x14)) 5))), .d (.int .i64 (aL (cellAt (elemAt (List.map aB.enc x12) (Int.toNat x14)) 6))), .d (.int .i64 (aL (cellAt (elemAt (List.map aB.enc x12) (Int.toNat x14)) 7))), .d (.str (aV (cellAt (elemAt (List.map aB.enc x12) (Int.toNat x14)) 8))), .d (.int .i64 (aL (cellAt (elemAt (List.map aB.enc x12) (Int.toNat x14)) 9))), .d (.sl aD.ks (dSl (cellAt (elemAt (List.map aB.enc x12) (Int.toNat x14)) 10)))]] [] [] fun r0 =>
  cond (decide ((List.length (List.map aB.enc w3003) + List.length [[D.int .i64 (aL (cellAt (elemAt (List.map aB.enc x12) (Int.toNat x14)) 0)), D.int .i64 (aL (cellAt (elemAt (List.map aB.enc x12) (Int.toNat x14)) 1)), D.str r0.Topic, D.str r0.Payload, D.int .i64 r0.Level, D.bool r0.Retain, D.int .i64 r0.Priority, D.int .i64 r0.Expires, D.str r0.From, D.int .i64 r0.Seq, D.sl aD.ks (List.map aD.enc r0.Props)]]) * 128 ≤ 140737488355328)) (
  aiX (ag5 Γ γ153 γ104) Λ2 J (List.map aB.enc x12) x13 (IntKind.wrap .i64 (x14 + 1)) (aG.enc b0) (aG.enc b1) (((List.map aB.enc w3003) ++ [[D.int .i64 (aL (cellAt (elemAt (List.map aB.enc x12) (Int.toNat x14)) 0)), D.int .i64 (aL (cellAt (elemAt (List.map aB.enc x12) (Int.toNat x14)) 1)), D.str r0.Topic, D.str r0.Payload, D.int .i64 r0.Level, D.bool r0.Retain, D.int .i64 r0.Priority, D.int .i64 r0.Expires, D.str r0.From, D.int .i64 r0.Seq, D.sl aD.ks (List.map aD.enc r0.Props)]]))) none) none) (
 γ104 [.d (.sl [.int .i64] (List.map (encI .i64) b0.Pool.Used))] [] [] fun r1 =>
 (some (.ret [.agg [.d (.int .i64 b0.Limit), .row 0, .row 1, .d (.int .i64 b0.Pool.Last)]] [] [⟨aB.ks, 122, 128, (List.map aB.enc w3003)⟩, ⟨[.int .i64], 3, 8, (List.map (encI .i64) r1)⟩]))) := by kernel_rfl
end
abbrev ala : aP := ag5 gG (cT 153 c9) (cT 104 bL)
theorem aoT : ala = aO gG := by unfold ala ag5; rw [aK fun _ h => h, aK fun _ h => h]
noncomputable abbrev apN (a0 : (List (List D))) (a1 : Int) (a2 : Int) (a3 : (List D)) (a4 : (List D)) (a5 : (List (List D))) : Res := aiX ala (bU SE gG (SE.hl 110) (SE.hr 110)) (J0 SE ala) a0 a1 a2 a3 a4 a5
theorem uN : ∀ (fu : Nat) (x12 : (List aB)) (x13 : Int) (x14 : Int) (b0 : aG) (b1 : aG) (w3003 : (List aB)), Le (Option.map cY (oW fu x12 x13 x14 b0 b1 w3003)) (apN (List.map aB.enc x12) x13 x14 (aG.enc b0) (aG.enc b1) (List.map aB.enc w3003)) := by
 intro fu
 induction fu with
 | zero => intros; exact le_none
 | succ fu ih =>
  intro x12 x13 x14 b0 b1 w3003
  refine Le.trans ?_ (le_of_eq ((bB aoT).trans (arp _ _ _ _ _  x12 x13 x14 b0 b1 w3003)).symm)
  unfold oW
  refine lC ?_ ?_
  ·refine lG (by simp only [EN]) ?_
   refine aM (good := good) eX qB (by first | (simp only [EN]; exact n9 ((List.getD x12 (Int.toNat x14) default).Message)) | exact n9 ((List.getD x12 (Int.toNat x14) default).Message)) fun r0 _ => ?_
   refine lG (by simp only [EN]) ?_
   first | (simp only [EN]; exact ih x12 x13 (IntKind.wrap .i64 (x14 + 1)) b0 b1 ((w3003 ++ [(aB.mk (List.getD x12 (Int.toNat x14) default).ID (List.getD x12 (Int.toNat x14) default).State r0)]))) | exact ih x12 x13 (IntKind.wrap .i64 (x14 + 1)) b0 b1 ((w3003 ++ [(aB.mk (List.getD x12 (Int.toNat x14) default).ID (List.getD x12 (Int.toNat x14) default).State r0)]))
  ·refine aM (good := good) eX fK (fW _) fun r1 _ => ?_
   exact aH rfl
theorem kG (p0 : aG) : Le (Option.map cY (jJ p0)) (aY SE 110 [aG.av p0] [] []) := by
 refine aS aoT rfl ?_
 refine Le.trans ?_ (le_of_eq (avF _ _ _ _ _  p0).symm)
 unfold jJ
 refine lG (by simp only [EN]) ?_
 first | (simp only [EN]; exact uN fuel p0.Items (List.length p0.Items : Int) 0 p0 ((aG.mk 0 ([] : List aB) (aJ.mk ([] : List Int) 0))) ([] : List aB)) | exact uN fuel p0.Items (List.length p0.Items : Int) 0 p0 ((aG.mk 0 ([] : List aB) (aJ.mk ([] : List Int) 0))) ([] : List aB)
section
variable (Γ : Fun) (γ153 : Gm (aA)) (Λ2 J : Lam)
def ano : aP := aZ (aO Γ) 153 c9 γ153
theorem aul (p0 : aB) : bC SE (ano Γ γ153) Λ2 J 147 [aB.av p0] [] [] =
 γ153 [aA.av p0.Message] [] [] fun r0 =>
 (some (.ret [.agg [.d (.int .i64 3), .d (.int .i64 p0.ID), .d (.bool false), .d (.str r0.Topic), .d (.str r0.Payload), .d (.int .i64 r0.Level), .d (.bool r0.Retain), .d (.int .i64 r0.Priority), .d (.int .i64 r0.Expires), .d (.str r0.From), .d (.int .i64 r0.Seq), .row 0, .d (.str ([] : Str)), .d (.str ([] : Str)), .d (.bool false), .d (.int .i64 0), .d (.int .i64 0), .d (.int .i64 0), .d (.bool false), .d (.int .i64 0), .d (.str ([] : Str)), .d (.str ([] : Str)), .d (.int .i64 0), .d (.bool false), .d (.int .i64 0), .d (.int .i64 0), .d (.str ([] : Str)), .d (.int .i64 0), .row 1, .d (.bool false), .d (.int .i64 0), .row 2, .row 3, .row 4]] [] [⟨aD.ks, 130, 32, (List.map aD.enc r0.Props)⟩, ⟨aD.ks, 130, 32, (List.map aD.enc [])⟩, ⟨aF.ks, 60, 32, (List.map aF.enc [])⟩, ⟨[.str], 9, 16, (List.map bF [])⟩, ⟨[.int .i64], 3, 8, (List.map (encI .i64) [])⟩])) := by kernel_rfl
end
abbrev ap5 : aP := ano gG (cT 153 c9)
theorem asy : ap5 = aO gG := by unfold ap5 ano; rw [aK fun _ h => h]
theorem qC (p0 : aB) : Le (Option.map eJ (pL p0)) (aY SE 147 [aB.av p0] [] []) := by
 refine aS asy rfl ?_
 refine Le.trans ?_ (le_of_eq (aul _ _ _ _  p0).symm)
 unfold pL
 refine aM (good := good) eX qB (n9 _) fun r0 _ => ?_
 exact aH rfl
section
variable (Γ : Fun) (γ156 : Gm (Int)) (γ141 : Gm (Int)) (γ157 : Gm (Int × aJ × Int)) (γ110 : Gm (aG)) (γ153 : Gm (aA)) (γ147 : Gm (aE)) (Λ2 J : Lam)
def amZ : aP := aZ (aZ (aZ (aZ (aZ (aZ (aO Γ) 156 iP γ156) 141 j8 γ141) 157 kT γ157) 110 cY γ110) 153 c9 γ153) 147 eJ γ147
theorem au3 (p0 : aG) (p1 : aA) : bC SE (amZ Γ γ156 γ141 γ157 γ110 γ153 γ147) Λ2 J 114 [aG.av p0, aA.av p1] [] [] =
 cond (p1.Level == 0) (
 (some (.ret [.agg [.d (.int .i64 0), .row 0, .row 1, .d (.int .i64 0)], .agg [.d (.int .i64 0), .d (.int .i64 0), .d (.bool false), .d (.str ([] : Str)), .d (.str ([] : Str)), .d (.int .i64 0), .d (.bool false), .d (.int .i64 0), .d (.int .i64 0), .d (.str ([] : Str)), .d (.int .i64 0), .row 2, .d (.str ([] : Str)), .d (.str ([] : Str)), .d (.bool false), .d (.int .i64 0), .d (.int .i64 0), .d (.int .i64 0), .d (.bool false), .d (.int .i64 0), .d (.str ([] : Str)), .d (.str ([] : Str)), .d (.int .i64 0), .d (.bool false), .d (.int .i64 0), .d (.int .i64 0), .d (.str ([] : Str)), .d (.int .i64 0), .row 3, .d (.bool false), .d (.int .i64 0), .row 4, .row 5, .row 6], .d (.int .i64 14)] [] [⟨aB.ks, 122, 128, (List.map aB.enc [])⟩, ⟨[.int .i64], 3, 8, (List.map (encI .i64) [])⟩, ⟨aD.ks, 130, 32, (List.map aD.enc [])⟩, ⟨aD.ks, 130, 32, (List.map aD.enc [])⟩, ⟨aF.ks, 60, 32, (List.map aF.enc [])⟩, ⟨[.str], 9, 16, (List.map bF [])⟩, ⟨[.int .i64], 3, 8, (List.map (encI .i64) [])⟩]))) (
 γ156 [aG.av p0] [] [] fun r0 =>
 cond (r0 == 0) (
 (some (.ret [.agg [.d (.int .i64 0), .row 0, .row 1, .d (.int .i64 0)], .agg [.d (.int .i64 0), .d (.int .i64 0), .d (.bool false), .d (.str ([] : Str)), .d (.str ([] : Str)), .d (.int .i64 0), .d (.bool false), .d (.int .i64 0), .d (.int .i64 0), .d (.str ([] : Str)), .d (.int .i64 0), .row 2, .d (.str ([] : Str)), .d (.str ([] : Str)), .d (.bool false), .d (.int .i64 0), .d (.int .i64 0), .d (.int .i64 0), .d (.bool false), .d (.int .i64 0), .d (.str ([] : Str)), .d (.str ([] : Str)), .d (.int .i64 0), .d (.bool false), .d (.int .i64 0), .d (.int .i64 0), .d (.str ([] : Str)), .d (.int .i64 0), .row 3, .d (.bool false), .d (.int .i64 0), .row 4, .row 5, .row 6], .d (.int .i64 6)] [] [⟨aB.ks, 122, 128, (List.map aB.enc [])⟩, ⟨[.int .i64], 3, 8, (List.map (encI .i64) [])⟩, ⟨aD.ks, 130, 32, (List.map aD.enc [])⟩, ⟨aD.ks, 130, 32, (List.map aD.enc [])⟩, ⟨aF.ks, 60, 32, (List.map aF.enc [])⟩, ⟨[.str], 9, 16, (List.map bF [])⟩, ⟨[.int .i64], 3, 8, (List.map (encI .i64) [])⟩]))) (
 γ141 [aA.av p1] [] [] fun r1 =>
 cond (r1 != 0) (
 (some (.ret [.agg [.d (.int .i64 0), .row 0, .row 1, .d (.int .i64 0)], .agg [.d (.int .i64 0), .d (.int .i64 0), .d (.bool false), .d (.str ([] : Str)), .d (.str ([] : Str)), .d (.int .i64 0), .d (.bool false), .d (.int .i64 0), .d (.int .i64 0), .d (.str ([] : Str)), .d (.int .i64 0), .row 2, .d (.str ([] : Str)), .d (.str ([] : Str)), .d (.bool false), .d (.int .i64 0), .d (.int .i64 0), .d (.int .i64 0), .d (.bool false), .d (.int .i64 0), .d (.str ([] : Str)), .d (.str ([] : Str)), .d (.int .i64 0), .d (.bool false), .d (.int .i64 0), .d (.int .i64 0), .d (.str ([] : Str)), .d (.int .i64 0), .row 3, .d (.bool false), .d (.int .i64 0), .row 4, .row 5, .row 6], .d (.int .i64 r1)] [] [⟨aB.ks, 122, 128, (List.map aB.enc [])⟩, ⟨[.int .i64], 3, 8, (List.map (encI .i64) [])⟩, ⟨aD.ks, 130, 32, (List.map aD.enc [])⟩, ⟨aD.ks, 130, 32, (List.map aD.enc [])⟩, ⟨aF.ks, 60, 32, (List.map aF.enc [])⟩, ⟨[.str], 9, 16, (List.map bF [])⟩, ⟨[.int .i64], 3, 8, (List.map (encI .i64) [])⟩]))) (
 γ157 [aJ.av p0.Pool] [] [] fun r2 =>
 cond (r2.2.2 != 0) (
 (some (.ret [.agg [.d (.int .i64 0), .row 0, .row 1, .d (.int .i64 0)], .agg [.d (.int .i64 0), .d (.int .i64 0), .d (.bool false), .d (.str ([] : Str)), .d (.str ([] : Str)), .d (.int .i64 0), .d (.bool false), .d (.int .i64 0), .d (.int .i64 0), .d (.str ([] : Str)), .d (.int .i64 0), .row 2, .d (.str ([] : Str)), .d (.str ([] : Str)), .d (.bool false), .d (.int .i64 0), .d (.int .i64 0), .d (.int .i64 0), .d (.bool false), .d (.int .i64 0), .d (.str ([] : Str)), .d (.str ([] : Str)), .d (.int .i64 0), .d (.bool false), .d (.int .i64 0), .d (.int .i64 0), .d (.str ([] : Str)), .d (.int .i64 0), .row 3, .d (.bool false), .d (.int .i64 0), .row 4, .row 5, .row 6], .d (.int .i64 r2.2.2)] [] [⟨aB.ks, 122, 128, (List.map aB.enc [])⟩, ⟨[.int .i64], 3, 8, (List.map (encI .i64) [])⟩, ⟨aD.ks, 130, 32, (List.map aD.enc [])⟩, ⟨aD.ks, 130, 32, (List.map aD.enc [])⟩, ⟨aF.ks, 60, 32, (List.map aF.enc [])⟩, ⟨[.str], 9, 16, (List.map bF [])⟩, ⟨[.int .i64], 3, 8, (List.map (encI .i64) [])⟩]))) (
 γ110 [aG.av p0] [] [] fun r3 =>
 γ153 [aA.av p1] [] [] fun r4 =>
 cond (decide ((List.length (List.map aB.enc r3.Items) + List.length (List.map aB.enc [(aB.mk r2.1 1 r4)])) * 128 ≤ 140737488355328)) (
 γ147 [aB.av (aB.mk r2.1 1 r4)] [] [] fun r5 =>
 (some (.ret [.agg [.d (.int .i64 r3.Limit), .row 0, .row 1, .d (.int .i64 r2.2.1.Last)], .agg [.d (.int .i64 r5.Kind), .d (.int .i64 r5.ID), .d (.bool r5.Dup), .d (.str r5.Message.Topic), .d (.str r5.Message.Payload), .d (.int .i64 r5.Message.Level), .d (.bool r5.Message.Retain), .d (.int .i64 r5.Message.Priority), .d (.int .i64 r5.Message.Expires), .d (.str r5.Message.From), .d (.int .i64 r5.Message.Seq), .row 2, .d (.str r5.Client), .d (.str r5.User), .d (.bool r5.Clean), .d (.int .i64 r5.Keep), .d (.int .i64 r5.Expiry), .d (.int .i64 r5.Window), .d (.bool r5.Will.Set), .d (.int .i64 r5.Will.Delay), .d (.str r5.Will.Message.Topic), .d (.str r5.Will.Message.Payload), .d (.int .i64 r5.Will.Message.Level), .d (.bool r5.Will.Message.Retain), .d (.int .i64 r5.Will.Message.Priority), .d (.int .i64 r5.Will.Message.Expires), .d (.str r5.Will.Message.From), .d (.int .i64 r5.Will.Message.Seq), .row 3, .d (.bool r5.Present), .d (.int .i64 r5.Code), .row 4, .row 5, .row 6], .d (.int .i64 0)] [] [⟨aB.ks, 122, 128, ((List.map aB.enc r3.Items) ++ (List.map aB.enc [(aB.mk r2.1 1 r4)]))⟩, ⟨[.int .i64], 3, 8, (List.map (encI .i64) r2.2.1.Used)⟩, ⟨aD.ks, 130, 32, (List.map aD.enc r5.Message.Props)⟩, ⟨aD.ks, 130, 32, (List.map aD.enc r5.Will.Message.Props)⟩, ⟨aF.ks, 60, 32, (List.map aF.enc r5.Subs)⟩, ⟨[.str], 9, 16, (List.map bF r5.Filters)⟩, ⟨[.int .i64], 3, 8, (List.map (encI .i64) r5.Codes)⟩]))) none)))) := by kernel_rfl
end
abbrev arx : aP := amZ gG (cT 156 iP) (cT 141 j8) (cT 157 kT) (cT 110 cY) (cT 153 c9) (cT 147 eJ)
theorem asR : arx = aO gG := by unfold arx amZ; rw [aK fun _ h => h, aK fun _ h => h, aK fun _ h => h, aK fun _ h => h, aK fun _ h => h, aK fun _ h => h]
theorem xL (p0 : aG) (p1 : aA) : Le (Option.map iF (vZ p0 p1)) (aY SE 114 [aG.av p0, aA.av p1] [] []) := by
 refine aS asR rfl ?_
 refine Le.trans ?_ (le_of_eq (au3 _ _ _ _ _ _ _ _ _  p0 p1).symm)
 unfold vZ
 refine lC ?_ ?_
 ·exact aH rfl
 ·refine aM (good := good) eX aeU (afD _) fun r0 _ => ?_
  refine lC ?_ ?_
  ·exact aH rfl
  ·refine aM (good := good) eX aeQ (afK _) fun r1 _ => ?_
   refine lC ?_ ?_
   ·exact aH rfl
   ·refine aM (good := good) eX ahe (aih _) fun r2 _ => ?_
    refine lC ?_ ?_
    ·exact aH rfl
    ·refine aM (good := good) eX jP (kG _) fun r3 _ => ?_
     refine aM (good := good) eX qB (n9 _) fun r4 _ => ?_
     refine lG (by simp only [EN]) ?_
     refine aM (good := good) eX uT (qC _) fun r5 _ => ?_
     exact aH (by first | rfl | simp only [EN, iF] <;> rfl)
def af4 (C : aP) (Λ2 J : Lam) (a0 : Int) (a1 : (List D)) (a2 : (List D)) (a3 : (List (List D))) : Res := lab SE C Λ2 J 61 0 [1, 0, 0] (bA [(1, .d (.int .i64 a0)), (2, .row 3002), (3, .ptr 1000000000 0), (6, .ptr 1000000001 0)] [⟨38, (List.map AV.d a1)⟩, ⟨38, (List.map AV.d a2)⟩] [] [] [(3002, ⟨aE.ks, 49, 416, a3⟩)])
section
variable (Γ : Fun) (γ113 : Gm (Bool)) (γ51 : Gm (aC)) (γ80 : Gm (aA)) (γ114 : Gm (aG × aE × Int)) (Λ2 J : Lam)
def C61 : aP := aZ (aZ (aZ (aZ (aO Γ) 113 jC γ113) 51 c8 γ51) 80 cN γ80) 114 iF γ114
theorem T61 (p0 : aC) (p1 : Int) (p2 : (List aE)) : bC SE (C61 Γ γ113 γ51 γ80 γ114) Λ2 J 61 [aC.av p0, .d (.int .i64 p1), .row 2000000000] [] [⟨aE.ks, 49, 416, (List.map aE.enc p2)⟩] =
 af4 (C61 Γ γ113 γ51 γ80 γ114) Λ2 J p1 (aC.enc p0) [D.str ([] : Str), D.str ([] : Str), D.bool false, D.int .i64 0, D.int .i64 0, D.int .i64 0, D.int .i64 0, D.sl aF.ks (List.map aF.enc []), D.sl aA.ks (List.map aA.enc []), D.int .i64 0, D.sl aB.ks (List.map aB.enc []), D.sl [.int .i64] (List.map (encI .i64) []), D.int .i64 0, D.sl [.int .i64] (List.map (encI .i64) []), D.bool false, D.int .i64 0, D.str ([] : Str), D.str ([] : Str), D.int .i64 0, D.bool false, D.int .i64 0, D.int .i64 0, D.str ([] : Str), D.int .i64 0, D.sl aD.ks (List.map aD.enc [])] (List.map aE.enc p2) := by kernel_rfl
theorem ati (x1 : Int) (b0 : aC) (b1 : aC) (w3002 : (List aE)) : bW SE (C61 Γ γ113 γ51 γ80 γ114) Λ2 J 61 0 [1, 0, 0] (bA [(1, .d (.int .i64 x1)), (2, .row 3002), (3, .ptr 1000000000 0), (6, .ptr 1000000001 0)] [⟨38, (List.map AV.d (aC.enc b0))⟩, ⟨38, (List.map AV.d (aC.enc b1))⟩] [] [] [(3002, ⟨aE.ks, 49, 416, (List.map aE.enc w3002)⟩)]) =
 cond (decide ((List.length (List.map aA.enc b0.Queue) : Int) > 0)) (
 cond (decide (0 ≤ 0) && decide (0 < (List.length (List.map aA.enc b0.Queue) : Int))) (
  γ113 [.agg [.d (.str (aV (cellAt (elemAt (List.map aA.enc b0.Queue) (Int.toNat 0)) 0))), .d (.str (aV (cellAt (elemAt (List.map aA.enc b0.Queue) (Int.toNat 0)) 1))), .d (.int .i64 (aL (cellAt (elemAt (List.map aA.enc b0.Queue) (Int.toNat 0)) 2))), .d (.bool (aX (cellAt (elemAt (List.map aA.enc b0.Queue) (Int.toNat 0)) 3))), .d (.int .i64 (aL (cellAt (elemAt (List.map aA.enc b0.Queue) (Int.toNat 0)) 4))), .d (.int .i64 (aL (cellAt (elemAt (List.map aA.enc b0.Queue) (Int.toNat 0)) 5))), .d (.str (aV (cellAt (elemAt (List.map aA.enc b0.Queue) (Int.toNat 0)) 6))), .d (.int .i64 (aL (cellAt (elemAt (List.map aA.enc b0.Queue) (Int.toNat 0)) 7))), .d (.sl aD.ks (dSl (cellAt (elemAt (List.map aA.enc b0.Queue) (Int.toNat 0)) 8)))], .d (.int .i64 x1)] [] [] fun r0 =>
  cond r0 (
  γ51 [aC.av b0, .d (.int .i64 1)] [] [] fun r1 =>
  cond (decide (0 ≤ 1) && decide (1 ≤ ((List.length (List.map aA.enc r1.Queue)) : Int))) (
   af4 (C61 Γ γ113 γ51 γ80 γ114) Λ2 J x1 [D.str r1.Client, D.str r1.User, D.bool r1.Online, D.int .i64 r1.Conn, D.int .i64 r1.Expiry, D.int .i64 r1.Until, D.int .i64 r1.Dropped, D.sl aF.ks (List.map aF.enc r1.Subs), D.sl aA.ks (bO (List.map aA.enc r1.Queue) (some 1) none), D.int .i64 r1.Out.Limit, D.sl aB.ks (List.map aB.enc r1.Out.Items), D.sl [.int .i64] (List.map (encI .i64) r1.Out.Pool.Used), D.int .i64 r1.Out.Pool.Last, D.sl [.int .i64] (List.map (encI .i64) r1.In.IDs), D.bool r1.Will.Set, D.int .i64 r1.Will.Delay, D.str r1.Will.Message.Topic, D.str r1.Will.Message.Payload, D.int .i64 r1.Will.Message.Level, D.bool r1.Will.Message.Retain, D.int .i64 r1.Will.Message.Priority, D.int .i64 r1.Will.Message.Expires, D.str r1.Will.Message.From, D.int .i64 r1.Will.Message.Seq, D.sl aD.ks (List.map aD.enc r1.Will.Message.Props)] (aC.enc b1) (List.map aE.enc w3002)) none) (
  cond ((aL (cellAt (elemAt (List.map aA.enc b0.Queue) (Int.toNat 0)) 2)) == 0) (
  γ80 [.agg [.d (.str (aV (cellAt (elemAt (List.map aA.enc b0.Queue) (Int.toNat 0)) 0))), .d (.str (aV (cellAt (elemAt (List.map aA.enc b0.Queue) (Int.toNat 0)) 1))), .d (.int .i64 (aL (cellAt (elemAt (List.map aA.enc b0.Queue) (Int.toNat 0)) 2))), .d (.bool (aX (cellAt (elemAt (List.map aA.enc b0.Queue) (Int.toNat 0)) 3))), .d (.int .i64 (aL (cellAt (elemAt (List.map aA.enc b0.Queue) (Int.toNat 0)) 4))), .d (.int .i64 (aL (cellAt (elemAt (List.map aA.enc b0.Queue) (Int.toNat 0)) 5))), .d (.str (aV (cellAt (elemAt (List.map aA.enc b0.Queue) (Int.toNat 0)) 6))), .d (.int .i64 (aL (cellAt (elemAt (List.map aA.enc b0.Queue) (Int.toNat 0)) 7))), .d (.sl aD.ks (dSl (cellAt (elemAt (List.map aA.enc b0.Queue) (Int.toNat 0)) 8)))]] [] [] fun r2 =>
  cond (decide ((List.length (List.map aE.enc w3002) + List.length [[D.int .i64 3, D.int .i64 0, D.bool false, D.str r2.Topic, D.str r2.Payload, D.int .i64 r2.Level, D.bool r2.Retain, D.int .i64 r2.Priority, D.int .i64 r2.Expires, D.str r2.From, D.int .i64 r2.Seq, D.sl aD.ks (List.map aD.enc r2.Props), D.str ([] : Str), D.str ([] : Str), D.bool false, D.int .i64 0, D.int .i64 0, D.int .i64 0, D.bool false, D.int .i64 0, D.str ([] : Str), D.str ([] : Str), D.int .i64 0, D.bool false, D.int .i64 0, D.int .i64 0, D.str ([] : Str), D.int .i64 0, D.sl aD.ks (List.map aD.enc []), D.bool false, D.int .i64 0, D.sl aF.ks (List.map aF.enc []), D.sl [.str] (List.map bF []), D.sl [.int .i64] (List.map (encI .i64) [])]]) * 416 ≤ 140737488355328)) (
   cond (decide (0 ≤ 1) && decide (1 ≤ ((List.length (List.map aA.enc b0.Queue)) : Int))) (
   af4 (C61 Γ γ113 γ51 γ80 γ114) Λ2 J x1 [D.str b0.Client, D.str b0.User, D.bool b0.Online, D.int .i64 b0.Conn, D.int .i64 b0.Expiry, D.int .i64 b0.Until, D.int .i64 b0.Dropped, D.sl aF.ks (List.map aF.enc b0.Subs), D.sl aA.ks (bO (List.map aA.enc b0.Queue) (some 1) none), D.int .i64 b0.Out.Limit, D.sl aB.ks (List.map aB.enc b0.Out.Items), D.sl [.int .i64] (List.map (encI .i64) b0.Out.Pool.Used), D.int .i64 b0.Out.Pool.Last, D.sl [.int .i64] (List.map (encI .i64) b0.In.IDs), D.bool b0.Will.Set, D.int .i64 b0.Will.Delay, D.str b0.Will.Message.Topic, D.str b0.Will.Message.Payload, D.int .i64 b0.Will.Message.Level, D.bool b0.Will.Message.Retain, D.int .i64 b0.Will.Message.Priority, D.int .i64 b0.Will.Message.Expires, D.str b0.Will.Message.From, D.int .i64 b0.Will.Message.Seq, D.sl aD.ks (List.map aD.enc b0.Will.Message.Props)] (aC.enc b1) (((List.map aE.enc w3002) ++ [[D.int .i64 3, D.int .i64 0, D.bool false, D.str r2.Topic, D.str r2.Payload, D.int .i64 r2.Level, D.bool r2.Retain, D.int .i64 r2.Priority, D.int .i64 r2.Expires, D.str r2.From, D.int .i64 r2.Seq, D.sl aD.ks (List.map aD.enc r2.Props), D.str ([] : Str), D.str ([] : Str), D.bool false, D.int .i64 0, D.int .i64 0, D.int .i64 0, D.bool false, D.int .i64 0, D.str ([] : Str), D.str ([] : Str), D.int .i64 0, D.bool false, D.int .i64 0, D.int .i64 0, D.str ([] : Str), D.int .i64 0, D.sl aD.ks (List.map aD.enc []), D.bool false, D.int .i64 0, D.sl aF.ks (List.map aF.enc []), D.sl [.str] (List.map bF []), D.sl [.int .i64] (List.map (encI .i64) [])]]))) none) none) (
  γ114 [aG.av b0.Out, .agg [.d (.str (aV (cellAt (elemAt (List.map aA.enc b0.Queue) (Int.toNat 0)) 0))), .d (.str (aV (cellAt (elemAt (List.map aA.enc b0.Queue) (Int.toNat 0)) 1))), .d (.int .i64 (aL (cellAt (elemAt (List.map aA.enc b0.Queue) (Int.toNat 0)) 2))), .d (.bool (aX (cellAt (elemAt (List.map aA.enc b0.Queue) (Int.toNat 0)) 3))), .d (.int .i64 (aL (cellAt (elemAt (List.map aA.enc b0.Queue) (Int.toNat 0)) 4))), .d (.int .i64 (aL (cellAt (elemAt (List.map aA.enc b0.Queue) (Int.toNat 0)) 5))), .d (.str (aV (cellAt (elemAt (List.map aA.enc b0.Queue) (Int.toNat 0)) 6))), .d (.int .i64 (aL (cellAt (elemAt (List.map aA.enc b0.Queue) (Int.toNat 0)) 7))), .d (.sl aD.ks (dSl (cellAt (elemAt (List.map aA.enc b0.Queue) (Int.toNat 0)) 8)))]] [] [] fun r3 =>
  cond (r3.2.2 != 0) (
  (some (.ret [aC.av b0, .row 0] [] [⟨aE.ks, 49, 416, (List.map aE.enc w3002)⟩]))) (
  cond (decide ((List.length (List.map aE.enc w3002) + List.length (List.map aE.enc [r3.2.1])) * 416 ≤ 140737488355328)) (
  cond (decide (0 ≤ 1) && decide (1 ≤ ((List.length (List.map aA.enc b0.Queue)) : Int))) (
   af4 (C61 Γ γ113 γ51 γ80 γ114) Λ2 J x1 [D.str b0.Client, D.str b0.User, D.bool b0.Online, D.int .i64 b0.Conn, D.int .i64 b0.Expiry, D.int .i64 b0.Until, D.int .i64 b0.Dropped, D.sl aF.ks (List.map aF.enc b0.Subs), D.sl aA.ks (bO (List.map aA.enc b0.Queue) (some 1) none), D.int .i64 r3.1.Limit, D.sl aB.ks (List.map aB.enc r3.1.Items), D.sl [.int .i64] (List.map (encI .i64) r3.1.Pool.Used), D.int .i64 r3.1.Pool.Last, D.sl [.int .i64] (List.map (encI .i64) b0.In.IDs), D.bool b0.Will.Set, D.int .i64 b0.Will.Delay, D.str b0.Will.Message.Topic, D.str b0.Will.Message.Payload, D.int .i64 b0.Will.Message.Level, D.bool b0.Will.Message.Retain, D.int .i64 b0.Will.Message.Priority, D.int .i64 b0.Will.Message.Expires, D.str b0.Will.Message.From, D.int .i64 b0.Will.Message.Seq, D.sl aD.ks (List.map aD.enc b0.Will.Message.Props)] (aC.enc b1) (((List.map aE.enc w3002) ++ (List.map aE.enc [r3.2.1])))) none) none)))) none) (
 (some (.ret [aC.av b0, .row 0] [] [⟨aE.ks, 49, 416, (List.map aE.enc w3002)⟩]))) := by kernel_rfl
end
abbrev X61 : aP := C61 gG (cT 113 jC) (cT 51 c8) (cT 80 cN) (cT 114 iF)
theorem aqz : X61 = aO gG := by unfold X61 C61; rw [aK fun _ h => h, aK fun _ h => h, aK fun _ h => h, aK fun _ h => h]
noncomputable abbrev asF (a0 : Int) (a1 : (List D)) (a2 : (List D)) (a3 : (List (List D))) : Res := af4 X61 (bU SE gG (SE.hl 61) (SE.hr 61)) (J0 SE X61) a0 a1 a2 a3
theorem wO : ∀ (fu : Nat) (x1 : Int) (b0 : aC) (b1 : aC) (w3002 : (List aE)), Le (Option.map dR (lQ fu x1 b0 b1 w3002)) (asF x1 (aC.enc b0) (aC.enc b1) (List.map aE.enc w3002)) := by
 intro fu
 induction fu with
 | zero => intros; exact le_none
 | succ fu ih =>
  intro x1 b0 b1 w3002
  refine Le.trans ?_ (le_of_eq ((bB aqz).trans (ati _ _ _ _ _ _ _  x1 b0 b1 w3002)).symm)
  unfold lQ
  refine lD (by simp only [EN]) ?_ ?_
  ·refine lG (by simp only [EN]) ?_
   refine aM (good := good) eX ads (by first | (simp only [EN]; exact wT (List.getD b0.Queue (Int.toNat 0) default) x1) | exact wT (List.getD b0.Queue (Int.toNat 0) default) x1) fun r0 _ => ?_
   refine lC ?_ ?_
   ·refine aM (good := good) eX nP (jU _ _) fun r1 _ => ?_
    refine lG (by simp only [EN]) ?_
    first | (simp only [EN]; exact ih x1 (aC.mk r1.Client r1.User r1.Online r1.Conn r1.Expiry r1.Until r1.Dropped r1.Subs (bO r1.Queue (some 1) none) r1.Out r1.In r1.Will) b1 w3002) | exact ih x1 (aC.mk r1.Client r1.User r1.Online r1.Conn r1.Expiry r1.Until r1.Dropped r1.Subs (bO r1.Queue (some 1) none) r1.Out r1.In r1.Will) b1 w3002
   ·refine lD (by simp only [EN]) ?_ ?_
    ·refine aM (good := good) eX jX (by first | (simp only [EN]; exact e9 (List.getD b0.Queue (Int.toNat 0) default)) | exact e9 (List.getD b0.Queue (Int.toNat 0) default)) fun r2 _ => ?_
     refine lG (by simp only [EN]) ?_
     refine lG (by simp only [EN]) ?_
     first | (simp only [EN]; exact ih x1 (aC.mk b0.Client b0.User b0.Online b0.Conn b0.Expiry b0.Until b0.Dropped b0.Subs (bO b0.Queue (some 1) none) b0.Out b0.In b0.Will) b1 ((w3002 ++ [(aE.mk 3 0 false r2 ([] : Str) ([] : Str) false 0 0 0 (aN.mk false 0 (aA.mk ([] : Str) ([] : Str) 0 false 0 0 ([] : Str) 0 ([] : List aD))) false 0 ([] : List aF) ([] : List Str) ([] : List Int))]))) | exact ih x1 (aC.mk b0.Client b0.User b0.Online b0.Conn b0.Expiry b0.Until b0.Dropped b0.Subs (bO b0.Queue (some 1) none) b0.Out b0.In b0.Will) b1 ((w3002 ++ [(aE.mk 3 0 false r2 ([] : Str) ([] : Str) false 0 0 0 (aN.mk false 0 (aA.mk ([] : Str) ([] : Str) 0 false 0 0 ([] : Str) 0 ([] : List aD))) false 0 ([] : List aF) ([] : List Str) ([] : List Int))]))
    ·refine aM (good := good) eX ael (by first | (simp only [EN]; exact xL b0.Out (List.getD b0.Queue (Int.toNat 0) default)) | exact xL b0.Out (List.getD b0.Queue (Int.toNat 0) default)) fun r3 _ => ?_
     refine lC ?_ ?_
     ·exact aH rfl
     ·refine lG (by simp only [EN]) ?_
      refine lG (by simp only [EN]) ?_
      first | (simp only [EN]; exact ih x1 (aC.mk b0.Client b0.User b0.Online b0.Conn b0.Expiry b0.Until b0.Dropped b0.Subs (bO b0.Queue (some 1) none) r3.1 b0.In b0.Will) b1 (w3002 ++ [r3.2.1])) | exact ih x1 (aC.mk b0.Client b0.User b0.Online b0.Conn b0.Expiry b0.Until b0.Dropped b0.Subs (bO b0.Queue (some 1) none) r3.1 b0.In b0.Will) b1 (w3002 ++ [r3.2.1])
  ·exact aH rfl
theorem qH (p0 : aC) (p1 : Int) (p2 : (List aE)) : Le (Option.map dR (qM p0 p1 p2)) (aY SE 61 [aC.av p0, .d (.int .i64 p1), .row 2000000000] [] [⟨aE.ks, 49, 416, (List.map aE.enc p2)⟩]) := by
 refine aS aqz rfl ?_
 refine Le.trans ?_ (le_of_eq (T61 _ _ _ _ _ _ _  p0 p1 p2).symm)
 unfold qM
 first | (simp only [EN]; exact wO fuel p1 p0 ((aC.mk ([] : Str) ([] : Str) false 0 0 0 0 ([] : List aF) ([] : List aA) (aG.mk 0 ([] : List aB) (aJ.mk ([] : List Int) 0)) (aQ.mk ([] : List Int)) (aN.mk false 0 (aA.mk ([] : Str) ([] : Str) 0 false 0 0 ([] : Str) 0 ([] : List aD))))) p2) | exact wO fuel p1 p0 ((aC.mk ([] : Str) ([] : Str) false 0 0 0 0 ([] : List aF) ([] : List aA) (aG.mk 0 ([] : List aB) (aJ.mk ([] : List Int) 0)) (aQ.mk ([] : List Int)) (aN.mk false 0 (aA.mk ([] : Str) ([] : Str) 0 false 0 0 ([] : Str) 0 ([] : List aD))))) p2
section
variable (Γ : Fun) (γ50 : Gm (aC)) (γ61 : Gm (aC × (List aE))) (Λ2 J : Lam)
def C34 : aP := aZ (aZ (aO Γ) 50 bS γ50) 61 dR γ61
theorem T34 (p0 : aC) (p1 : Int) : bC SE (C34 Γ γ50 γ61) Λ2 J 34 [aC.av p0, .d (.int .i64 p1)] [] [] =
 cond (!p0.Online) (
 γ50 [aC.av p0] [] [] fun r0 =>
 (some (.ret [aC.av r0, .row 0] [] [⟨aE.ks, 49, 416, []⟩]))) (
 γ50 [aC.av p0] [] [] fun r1 =>
 γ61 [aC.av r1, .d (.int .i64 p1), .row 2000000000] [] [⟨aE.ks, 49, 416, (List.map aE.enc [])⟩] fun r2 =>
 (some (.ret [aC.av r2.1, .row 0] [] [⟨aE.ks, 49, 416, (List.map aE.enc r2.2)⟩]))) := by kernel_rfl
end
abbrev X34 : aP := C34 gG (cT 50 bS) (cT 61 dR)
theorem auX : X34 = aO gG := by unfold X34 C34; rw [aK fun _ h => h, aK fun _ h => h]
theorem age (p0 : aC) (p1 : Int) : Le (Option.map kY (zI p0 p1)) (aY SE 34 [aC.av p0, .d (.int .i64 p1)] [] []) := by
 refine aS auX rfl ?_
 refine Le.trans ?_ (le_of_eq (T34 _ _ _ _ _  p0 p1).symm)
 unfold zI
 refine lC ?_ ?_
 ·refine aM (good := good) eX iT (jH _) fun r0 _ => ?_
  exact aH rfl
 ·refine aM (good := good) eX iT (jH _) fun r1 _ => ?_
  refine aM (good := good) eX sW (by first | (simp only [EN]; exact qH r1 p1 ([] : List aE)) | exact qH r1 p1 ([] : List aE)) fun r2 _ => ?_
  exact aH rfl
section
variable (Γ : Fun)  (Λ2 J : Lam)
def apQ : aP := aO Γ
theorem aui (p0 : aB) (p1 : Int) : bC SE (apQ Γ) Λ2 J 152 [aB.av p0, .ptr 2000000000 0] [⟨3, [.d (.int .i64 p1)]⟩] [] =
 (some (.ret [.d (.bool (p0.ID == p1))] [⟨3, [.d (.int .i64 p1)]⟩] [])) := by kernel_rfl
end
abbrev aue : aP := apQ gG
theorem asx : aue = aO gG := rfl
theorem wL (p0 : aB) (p1 : Int) : Le (Option.map jD (uA p0 p1)) (aY SE 152 [aB.av p0, .ptr 2000000000 0] [⟨3, [.d (.int .i64 p1)]⟩] []) := by
 refine aS asx rfl ?_
 refine Le.trans ?_ (le_of_eq (aui _ _ _  p0 p1).symm)
 unfold uA
 exact aH rfl
def aiT (C : aP) (Λ2 J : Lam) (a0 : (List (List D))) (a1 : Int) (a2 : Int) (a3 : Int) : Res := lab SE C Λ2 J 151 1 [1, 0, 1, 0] (bA [(0, .d (.sl aB.ks a0)), (1, .fn 152 [] [.ptr 2000000000 0]), (7, .d (.int .i64 a1)), (8, .d (.int .i64 a2))] [] [⟨3, [.d (.int .i64 a3)]⟩] [] [])
section
variable (Γ : Fun) (γ152 : Gm (Bool × Int)) (Λ2 J : Lam)
def ahg : aP := aZ (aO Γ) 152 jD γ152
theorem auQ (p0 : (List aB)) (p1_0 : Int) : bC SE (ahg Γ γ152) Λ2 J 151 [.d (.sl aB.ks (List.map aB.enc p0)), .fn 152 [] [.ptr 2000000000 0]] [⟨3, [.d (.int .i64 p1_0)]⟩] [] =
 aiT (ahg Γ γ152) Λ2 J (List.map aB.enc p0) (List.length (List.map aB.enc p0) : Int) 0 p1_0 := by kernel_rfl
theorem ara (x0 : (List aB)) (x7 : Int) (x8 : Int) (q0_0 : Int) : bW SE (ahg Γ γ152) Λ2 J 151 1 [1, 0, 1, 0] (bA [(0, .d (.sl aB.ks (List.map aB.enc x0))), (1, .fn 152 [] [.ptr 2000000000 0]), (7, .d (.int .i64 x7)), (8, .d (.int .i64 x8))] [] [⟨3, [.d (.int .i64 q0_0)]⟩] [] []) =
 cond (decide (x8 < x7)) (
 cond (decide (0 ≤ x8) && decide (x8 < (List.length (List.map aB.enc x0) : Int))) (
  γ152 [.agg [.d (.int .i64 (aL (cellAt (elemAt (List.map aB.enc x0) (Int.toNat x8)) 0))), .d (.int .i64 (aL (cellAt (elemAt (List.map aB.enc x0) (Int.toNat x8)) 1))), .d (.str (aV (cellAt (elemAt (List.map aB.enc x0) (Int.toNat x8)) 2))), .d (.str (aV (cellAt (elemAt (List.map aB.enc x0) (Int.toNat x8)) 3))), .d (.int .i64 (aL (cellAt (elemAt (List.map aB.enc x0) (Int.toNat x8)) 4))), .d (.bool (aX (cellAt (elemAt (List.map aB.enc x0) (Int.toNat x8)) 5))), .d (.int .i64 (aL (cellAt (elemAt (List.map aB.enc x0) (Int.toNat x8)) 6))), .d (.int .i64 (aL (cellAt (elemAt (List.map aB.enc x0) (Int.toNat x8)) 7))), .d (.str (aV (cellAt (elemAt (List.map aB.enc x0) (Int.toNat x8)) 8))), .d (.int .i64 (aL (cellAt (elemAt (List.map aB.enc x0) (Int.toNat x8)) 9))), .d (.sl aD.ks (dSl (cellAt (elemAt (List.map aB.enc x0) (Int.toNat x8)) 10)))], .ptr 2000000000 0] [⟨3, [.d (.int .i64 q0_0)]⟩] [] fun r0 =>
  cond r0.1 (
  (some (.ret [.d (.int .i64 x8)] [⟨3, [.d (.int .i64 r0.2)]⟩] []))) (
  aiT (ahg Γ γ152) Λ2 J (List.map aB.enc x0) x7 (IntKind.wrap .i64 (x8 + 1)) r0.2)) none) (
 (some (.ret [.d (.int .i64 (-1))] [⟨3, [.d (.int .i64 q0_0)]⟩] []))) := by kernel_rfl
end
abbrev alv : aP := ahg gG (cT 152 jD)
theorem aoP : alv = aO gG := by unfold alv ahg; rw [aK fun _ h => h]
noncomputable abbrev ap2 (a0 : (List (List D))) (a1 : Int) (a2 : Int) (a3 : Int) : Res := aiT alv (bU SE gG (SE.hl 151) (SE.hr 151)) (J0 SE alv) a0 a1 a2 a3
theorem iH : ∀ (fu : Nat) (x0 : (List aB)) (x7 : Int) (x8 : Int) (q0_0 : Int), Le (Option.map bK (cV fu x0 x7 x8 q0_0)) (ap2 (List.map aB.enc x0) x7 x8 q0_0) := by
 intro fu
 induction fu with
 | zero => intros; exact le_none
 | succ fu ih =>
  intro x0 x7 x8 q0_0
  refine Le.trans ?_ (le_of_eq ((bB aoP).trans (ara _ _ _ _  x0 x7 x8 q0_0)).symm)
  unfold cV
  refine lC ?_ ?_
  ·refine lG (by simp only [EN]) ?_
   refine aM (good := good) eX adn (by first | (simp only [EN]; exact wL (List.getD x0 (Int.toNat x8) default) q0_0) | exact wL (List.getD x0 (Int.toNat x8) default) q0_0) fun r0 _ => ?_
   refine lC ?_ ?_
   ·exact aH rfl
   ·exact ih x0 x7 (IntKind.wrap .i64 (x8 + 1)) r0.2
  ·exact aH rfl
theorem oN (p0 : (List aB)) (p1_0 : Int) : Le (Option.map bK (fJ p0 p1_0)) (aY SE 151 [.d (.sl aB.ks (List.map aB.enc p0)), .fn 152 [] [.ptr 2000000000 0]] [⟨3, [.d (.int .i64 p1_0)]⟩] []) := by
 refine aS aoP rfl ?_
 refine Le.trans ?_ (le_of_eq (auQ _ _ _ _  p0 p1_0).symm)
 unfold fJ
 first | (simp only [EN]; exact iH fuel p0 (List.length p0 : Int) 0 p1_0) | exact iH fuel p0 (List.length p0 : Int) 0 p1_0
section
variable (Γ : Fun) (γ151 : Gm (Int × Int)) (Λ2 J : Lam)
def anx : aP := aZ (aO Γ) 151 bK γ151
theorem avf (p0 : (List aB)) (p1 : Int) : bC SE (anx Γ γ151) Λ2 J 109 [.d (.sl aB.ks (List.map aB.enc p0)), .d (.int .i64 p1)] [] [] =
 γ151 [.d (.sl aB.ks (List.map aB.enc p0)), .fn 152 [] [.ptr 2000000000 0]] [⟨3, [.d (.int .i64 p1)]⟩] [] fun r0 =>
 (some (.ret [.d (.int .i64 r0.1)] [] [])) := by kernel_rfl
end
abbrev aqq : aP := anx gG (cT 151 bK)
theorem ar7 : aqq = aO gG := by unfold aqq anx; rw [aK fun _ h => h]
theorem afi (p0 : (List aB)) (p1 : Int) : Le (Option.map kE (xB p0 p1)) (aY SE 109 [.d (.sl aB.ks (List.map aB.enc p0)), .d (.int .i64 p1)] [] []) := by
 refine aS ar7 rfl ?_
 refine Le.trans ?_ (le_of_eq (avf _ _ _ _  p0 p1).symm)
 unfold xB
 refine aM (good := good) eX oI (oN _ _) fun r0 _ => ?_
 exact aH rfl
theorem wX (p0 : (List Int)) (p1 : Int) (p2 : Int) : Le (Option.map dL (qO p0 p1 p2)) (aY SE 176 [.row 2000000000, .d (.int .i64 p1), .d (.int .i64 p2)] [] [⟨[.int .i64], 3, 8, (List.map (encI .i64) p0)⟩]) := ah8 (f := 176) (enc := (encI .i64)) rfl rfl p0 p1 p2
section
variable (Γ : Fun) (γ104 : Gm ((List Int))) (γ175 : Gm (Int × Bool)) (γ176 : Gm ((List Int))) (Λ2 J : Lam)
def anu : aP := aZ (aZ (aZ (aO Γ) 104 bL γ104) 175 bM γ175) 176 dL γ176
theorem aua (p0 : aJ) (p1 : Int) : bC SE (anu Γ γ104 γ175 γ176) Λ2 J 154 [aJ.av p0, .d (.int .i64 p1)] [] [] =
 γ104 [.d (.sl [.int .i64] (List.map (encI .i64) p0.Used))] [] [] fun r0 =>
 γ175 [.d (.sl [.int .i64] (List.map (encI .i64) r0)), .d (.int .i64 p1)] [] [] fun r1 =>
 cond r1.2 (
 γ176 [.row 2000000000, .d (.int .i64 r1.1), .d (.int .i64 (IntKind.wrap .i64 (r1.1 + 1)))] [] [⟨[.int .i64], 3, 8, (List.map (encI .i64) r0)⟩] fun r2 =>
 (some (.ret [.agg [.row 0, .d (.int .i64 p0.Last)], .d (.bool r1.2)] [] [⟨[.int .i64], 3, 8, (List.map (encI .i64) r2)⟩]))) (
 (some (.ret [.agg [.row 0, .d (.int .i64 p0.Last)], .d (.bool r1.2)] [] [⟨[.int .i64], 3, 8, (List.map (encI .i64) r0)⟩]))) := by kernel_rfl
end
abbrev aqX : aP := anu gG (cT 104 bL) (cT 175 bM) (cT 176 dL)
theorem asJ : aqX = aO gG := by unfold aqX anu; rw [aK fun _ h => h, aK fun _ h => h, aK fun _ h => h]
theorem ac0 (p0 : aJ) (p1 : Int) : Le (Option.map mX (acV p0 p1)) (aY SE 154 [aJ.av p0, .d (.int .i64 p1)] [] []) := by
 refine aS asJ rfl ?_
 refine Le.trans ?_ (le_of_eq (aua _ _ _ _ _ _  p0 p1).symm)
 unfold acV
 refine aM (good := good) eX fK (fW _) fun r0 _ => ?_
 refine aM (good := good) eX mA (mU _ _) fun r1 _ => ?_
 refine lC ?_ ?_
 ·refine aM (good := good) eX vT (wX _ _ _) fun r2 _ => ?_
  exact aH rfl
 ·exact aH rfl
theorem pF (p0 : (List aB)) (p1 : Int) (p2 : Int) : Le (Option.map bV (kM p0 p1 p2)) (aY SE 155 [.row 2000000000, .d (.int .i64 p1), .d (.int .i64 p2)] [] [⟨aB.ks, 122, 128, (List.map aB.enc p0)⟩]) := ah8 (f := 155) (enc := aB.enc) rfl rfl p0 p1 p2
section
variable (Γ : Fun) (γ154 : Gm (aJ × Bool)) (γ110 : Gm (aG)) (γ155 : Gm ((List aB))) (Λ2 J : Lam)
def anN : aP := aZ (aZ (aZ (aO Γ) 154 mX γ154) 110 cY γ110) 155 bV γ155
theorem auL (p0 : aG) (p1 : Int) : bC SE (anN Γ γ154 γ110 γ155) Λ2 J 111 [aG.av p0, .d (.int .i64 p1)] [] [] =
 cond (decide (0 ≤ p1) && decide (p1 < (List.length (List.map aB.enc p0.Items) : Int))) (
 γ154 [aJ.av p0.Pool, .d (.int .i64 (aL (cellAt (elemAt (List.map aB.enc p0.Items) (Int.toNat p1)) 0)))] [] [] fun r0 =>
 γ110 [aG.av p0] [] [] fun r1 =>
 γ155 [.row 2000000000, .d (.int .i64 p1), .d (.int .i64 (IntKind.wrap .i64 (p1 + 1)))] [] [⟨aB.ks, 122, 128, (List.map aB.enc r1.Items)⟩] fun r2 =>
 (some (.ret [.agg [.d (.int .i64 r1.Limit), .row 0, .row 1, .d (.int .i64 r0.1.Last)]] [] [⟨aB.ks, 122, 128, (List.map aB.enc r2)⟩, ⟨[.int .i64], 3, 8, (List.map (encI .i64) r0.1.Used)⟩]))) none := by kernel_rfl
end
abbrev aqb : aP := anN gG (cT 154 mX) (cT 110 cY) (cT 155 bV)
theorem asI : aqb = aO gG := by unfold aqb anN; rw [aK fun _ h => h, aK fun _ h => h, aK fun _ h => h]
theorem w4 (p0 : aG) (p1 : Int) : Le (Option.map jB (qE p0 p1)) (aY SE 111 [aG.av p0, .d (.int .i64 p1)] [] []) := by
 refine aS asI rfl ?_
 refine Le.trans ?_ (le_of_eq (auL _ _ _ _ _ _  p0 p1).symm)
 unfold qE
 refine lG (by simp only [EN]) ?_
 refine aM (good := good) eX ahx (by first | (simp only [EN]; exact ac0 p0.Pool ((List.getD p0.Items (Int.toNat p1) default).ID)) | exact ac0 p0.Pool ((List.getD p0.Items (Int.toNat p1) default).ID)) fun r0 _ => ?_
 refine aM (good := good) eX jP (kG _) fun r1 _ => ?_
 refine aM (good := good) eX o5 (pF _ _ _) fun r2 _ => ?_
 exact aH rfl
section
variable (Γ : Fun)  (Λ2 J : Lam)
def aqI : aP := aO Γ
theorem au1 (p0 : Int) : bC SE (aqI Γ) Λ2 J 112 [.d (.int .i64 p0)] [] [] =
 (some (.ret [.agg [.d (.int .i64 6), .d (.int .i64 p0), .d (.bool false), .d (.str ([] : Str)), .d (.str ([] : Str)), .d (.int .i64 0), .d (.bool false), .d (.int .i64 0), .d (.int .i64 0), .d (.str ([] : Str)), .d (.int .i64 0), .row 0, .d (.str ([] : Str)), .d (.str ([] : Str)), .d (.bool false), .d (.int .i64 0), .d (.int .i64 0), .d (.int .i64 0), .d (.bool false), .d (.int .i64 0), .d (.str ([] : Str)), .d (.str ([] : Str)), .d (.int .i64 0), .d (.bool false), .d (.int .i64 0), .d (.int .i64 0), .d (.str ([] : Str)), .d (.int .i64 0), .row 1, .d (.bool false), .d (.int .i64 0), .row 2, .row 3, .row 4]] [] [⟨aD.ks, 130, 32, (List.map aD.enc [])⟩, ⟨aD.ks, 130, 32, (List.map aD.enc [])⟩, ⟨aF.ks, 60, 32, (List.map aF.enc [])⟩, ⟨[.str], 9, 16, (List.map bF [])⟩, ⟨[.int .i64], 3, 8, (List.map (encI .i64) [])⟩])) := by kernel_rfl
end
abbrev aub : aP := aqI gG
theorem atE : aub = aO gG := rfl
theorem oJ (p0 : Int) : Le (Option.map eV (n5 p0)) (aY SE 112 [.d (.int .i64 p0)] [] []) := by
 refine aS atE rfl ?_
 refine Le.trans ?_ (le_of_eq (au1 _ _ _  p0).symm)
 unfold n5
 exact aH rfl
end Te
end PX
