import Derived.Test.YtojlmojebnlmdaaGreatDoorTre0
set_option linter.unusedVariables false
set_option linter.unusedSimpArgs false
set_option maxRecDepth 100000
noncomputable section
namespace PX
open Go
open Md
namespace Te
def agN (C : aP) (Λ2 J : Lam) (a0 : (List (List D))) (a1 : Str) (a2 : Int) (a3 : Int) (a4 : Int) : Res := lab SE C Λ2 J 128 0 [1, 1, 1, 0, 0] (bB [(0, .d (.sl aD.ks a0)), (1, .d (.str a1)), (2, .fn 129 [] []), (8, .d (.int .i64 a2)), (9, .d (.int .i64 a3)), (10, .d (.int .i64 a4))] [] [] [] [])
section
variable (Γ : Fun) (γ129 : Gm (Int)) (Λ2 J : Lam)
def af3 : aP := bA (aQ Γ) 129 kI γ129
theorem awY (p0 : (List aD)) (p1 : Str) : bD SE (af3 Γ γ129) Λ2 J 128 [.d (.sl aD.ks (List.map aD.enc p0)), .d (.str p1), .fn 129 [] []] [] [] =
 agN (af3 Γ γ129) Λ2 J (List.map aD.enc p0) p1 (List.length (List.map aD.enc p0) : Int) 0 (List.length (List.map aD.enc p0) : Int) := by kernel_rfl
theorem aq7 (x0 : (List aD)) (x1 : Str) (x8 : Int) (x9 : Int) (x10 : Int) : cB SE (af3 Γ γ129) Λ2 J 128 0 [1, 1, 1, 0, 0] (bB [(0, .d (.sl aD.ks (List.map aD.enc x0))), (1, .d (.str x1)), (2, .fn 129 [] []), (8, .d (.int .i64 x8)), (9, .d (.int .i64 x9)), (10, .d (.int .i64 x10))] [] [] [] []) =
 cond (decide (x9 < x10)) (
 cond (decide (0 ≤ (IntKind.wrap .i64 (shr .u64 (IntKind.wrap .u64 (IntKind.wrap .i64 (x9 + x10))) 1))) && decide ((IntKind.wrap .i64 (shr .u64 (IntKind.wrap .u64 (IntKind.wrap .i64 (x9 + x10))) 1)) < (List.length (List.map aD.enc x0) : Int))) (
  γ129 [.agg [.d (.str (aU (cellAt (elemAt (List.map aD.enc x0) (Int.toNat (IntKind.wrap .i64 (shr .u64 (IntKind.wrap .u64 (IntKind.wrap .i64 (x9 + x10))) 1)))) 0))), .d (.int .i64 (aL (cellAt (elemAt (List.map aD.enc x0) (Int.toNat (IntKind.wrap .i64 (shr .u64 (IntKind.wrap .u64 (IntKind.wrap .i64 (x9 + x10))) 1)))) 1))), .d (.bool (aY (cellAt (elemAt (List.map aD.enc x0) (Int.toNat (IntKind.wrap .i64 (shr .u64 (IntKind.wrap .u64 (IntKind.wrap .i64 (x9 + x10))) 1)))) 2)))], .d (.str x1)] [] [] fun r0 =>
  cond (decide (r0 < 0)) (
  agN (af3 Γ γ129) Λ2 J (List.map aD.enc x0) x1 x8 (IntKind.wrap .i64 ((IntKind.wrap .i64 (shr .u64 (IntKind.wrap .u64 (IntKind.wrap .i64 (x9 + x10))) 1)) + 1)) x10) (
  agN (af3 Γ γ129) Λ2 J (List.map aD.enc x0) x1 x8 x9 (IntKind.wrap .i64 (shr .u64 (IntKind.wrap .u64 (IntKind.wrap .i64 (x9 + x10))) 1)))) none) (
 cond (decide (x9 < x8)) (
 cond (decide (0 ≤ x9) && decide (x9 < (List.length (List.map aD.enc x0) : Int))) (
  γ129 [.agg [.d (.str (aU (cellAt (elemAt (List.map aD.enc x0) (Int.toNat x9)) 0))), .d (.int .i64 (aL (cellAt (elemAt (List.map aD.enc x0) (Int.toNat x9)) 1))), .d (.bool (aY (cellAt (elemAt (List.map aD.enc x0) (Int.toNat x9)) 2)))], .d (.str x1)] [] [] fun r1 =>
  (some (.ret [.d (.int .i64 x9), .d (.bool (r1 == 0))] [] []))) none) (
 (some (.ret [.d (.int .i64 x9), .d (.bool false)] [] [])))) := by kernel_rfl
end
abbrev al3 : aP := af3 gG (cT 129 kI)
theorem apc : al3 = aQ gG := by unfold al3 af3; rw [aK fun _ h => h]
noncomputable abbrev aqB (a0 : (List (List D))) (a1 : Str) (a2 : Int) (a3 : Int) (a4 : Int) : Res := agN al3 (bV SE gG (SE.hl 128) (SE.hr 128)) (J0 SE al3) a0 a1 a2 a3 a4
theorem fS : ∀ (fu : Nat) (x0 : (List aD)) (x1 : Str) (x8 : Int) (x9 : Int) (x10 : Int), Le (Option.map bI (bF fu x0 x1 x8 x9 x10)) (aqB (List.map aD.enc x0) x1 x8 x9 x10) := by
 intro fu
 induction fu with
 | zero => intros; exact le_none
 | succ fu ih =>
  intro x0 x1 x8 x9 x10
  refine Le.trans ?_ (le_of_eq ((bC apc).trans (aq7 _ _ _ _  x0 x1 x8 x9 x10)).symm)
  unfold bF
  refine lC ?_ ?_
  ·refine lG (by simp only [EN]) ?_
   refine aM (good := good) eX xT (by first | (simp only [EN]; exact pE (List.getD x0 (Int.toNat (IntKind.wrap .i64 (shr .u64 (IntKind.wrap .u64 (IntKind.wrap .i64 (x9 + x10))) 1))) default) x1) | exact pE (List.getD x0 (Int.toNat (IntKind.wrap .i64 (shr .u64 (IntKind.wrap .u64 (IntKind.wrap .i64 (x9 + x10))) 1))) default) x1) fun r0 _ => ?_
   refine lC ?_ ?_
   ·exact ih x0 x1 x8 (IntKind.wrap .i64 ((IntKind.wrap .i64 (shr .u64 (IntKind.wrap .u64 (IntKind.wrap .i64 (x9 + x10))) 1)) + 1)) x10
   ·exact ih x0 x1 x8 x9 (IntKind.wrap .i64 (shr .u64 (IntKind.wrap .u64 (IntKind.wrap .i64 (x9 + x10))) 1))
  ·refine lC ?_ ?_
   ·refine lG (by simp only [EN]) ?_
    refine aM (good := good) eX xT (by first | (simp only [EN]; exact pE (List.getD x0 (Int.toNat x9) default) x1) | exact pE (List.getD x0 (Int.toNat x9) default) x1) fun r1 _ => ?_
    exact aI rfl
   ·exact aI rfl
theorem mS (p0 : (List aD)) (p1 : Str) : Le (Option.map bI (cO p0 p1)) (aZ SE 128 [.d (.sl aD.ks (List.map aD.enc p0)), .d (.str p1), .fn 129 [] []] [] []) := by
 refine aS apc rfl ?_
 refine Le.trans ?_ (le_of_eq (awY _ _ _ _  p0 p1).symm)
 unfold cO
 first | (simp only [EN]; exact fS fuel p0 p1 (List.length p0 : Int) 0 (List.length p0 : Int)) | exact fS fuel p0 p1 (List.length p0 : Int) 0 (List.length p0 : Int)
section
variable (Γ : Fun) (γ128 : Gm (Int × Bool)) (Λ2 J : Lam)
def C67 : aP := bA (aQ Γ) 128 bI γ128
theorem T67 (p0 : (List aD)) (p1 : Str) : bD SE (C67 Γ γ128) Λ2 J 67 [.d (.sl aD.ks (List.map aD.enc p0)), .d (.str p1)] [] [] =
 γ128 [.d (.sl aD.ks (List.map aD.enc p0)), .d (.str p1), .fn 129 [] []] [] [] fun r0 =>
 (some (.ret [.d (.int .i64 r0.1), .d (.bool r0.2)] [] [])) := by kernel_rfl
end
abbrev X67 : aP := C67 gG (cT 128 bI)
theorem avR : X67 = aQ gG := by unfold X67 C67; rw [aK fun _ h => h]
theorem aaX (p0 : (List aD)) (p1 : Str) : Le (Option.map iM (pY p0 p1)) (aZ SE 67 [.d (.sl aD.ks (List.map aD.enc p0)), .d (.str p1)] [] []) := by
 refine aS avR rfl ?_
 refine Le.trans ?_ (le_of_eq (T67 _ _ _ _  p0 p1).symm)
 unfold pY
 refine aM (good := good) eX mB (mS _ _) fun r0 _ => ?_
 exact aI rfl
section
variable (Γ : Fun)  (Λ2 J : Lam)
def ary : aP := aQ Γ
theorem awB (p0 : (List aD)) : bD SE (ary Γ) Λ2 J 103 [.d (.sl aD.ks (List.map aD.enc p0))] [] [] =
 cond (List.isEmpty (List.map aD.enc p0)) (
 w7 (
  (some (.ret [.row 0] [] [⟨aD.ks, 60, 32, []⟩]))) (
  cond (decide ((List.length (List.map aD.enc []) + List.length (List.map aD.enc p0)) * 32 ≤ 140737488355328)) (
  (some (.ret [.row 0] [] [⟨aD.ks, 60, 32, ((List.map aD.enc []) ++ (List.map aD.enc p0))⟩]))) none)) (
 cond (decide ((List.length (List.map aD.enc []) + List.length (List.map aD.enc p0)) * 32 ≤ 140737488355328)) (
 (some (.ret [.row 0] [] [⟨aD.ks, 60, 32, ((List.map aD.enc []) ++ (List.map aD.enc p0))⟩]))) none) := by kernel_rfl
end
abbrev avt : aP := ary gG
theorem auR : avt = aQ gG := rfl
theorem tA (p0 : (List aD)) : Le (Option.map cP (eN p0)) (aZ SE 103 [.d (.sl aD.ks (List.map aD.enc p0))] [] []) := by
 refine aS auR rfl ?_
 refine Le.trans ?_ (le_of_eq (awB _ _ _  p0).symm)
 unfold eN
 refine lD (by simp only [EN]) ?_ ?_
 ·refine ahW ?_ ?_
  ·exact aI rfl
  ·refine lG (by simp only [EN]) ?_
   exact aI rfl
 ·refine lG (by simp only [EN]) ?_
  exact aI rfl
section
variable (Γ : Fun)  (Λ2 J : Lam)
def aqE : aP := aQ Γ
theorem av9 (p0 : (List Int)) : bD SE (aqE Γ) Λ2 J 104 [.d (.sl [.int .i64] (List.map (encI .i64) p0))] [] [] =
 cond (List.isEmpty (List.map (encI .i64) p0)) (
 w7 (
  (some (.ret [.row 0] [] [⟨[.int .i64], 3, 8, []⟩]))) (
  cond (decide ((List.length (List.map (encI .i64) []) + List.length (List.map (encI .i64) p0)) * 8 ≤ 140737488355328)) (
  (some (.ret [.row 0] [] [⟨[.int .i64], 3, 8, ((List.map (encI .i64) []) ++ (List.map (encI .i64) p0))⟩]))) none)) (
 cond (decide ((List.length (List.map (encI .i64) []) + List.length (List.map (encI .i64) p0)) * 8 ≤ 140737488355328)) (
 (some (.ret [.row 0] [] [⟨[.int .i64], 3, 8, ((List.map (encI .i64) []) ++ (List.map (encI .i64) p0))⟩]))) none) := by kernel_rfl
end
abbrev awG : aP := aqE gG
theorem as0 : awG = aQ gG := rfl
theorem gI (p0 : (List Int)) : Le (Option.map bN (c8 p0)) (aZ SE 104 [.d (.sl [.int .i64] (List.map (encI .i64) p0))] [] []) := by
 refine aS as0 rfl ?_
 refine Le.trans ?_ (le_of_eq (av9 _ _ _  p0).symm)
 unfold c8
 refine lD (by simp only [EN]) ?_ ?_
 ·refine ahW ?_ ?_
  ·exact aI rfl
  ·refine lG (by simp only [EN]) ?_
   exact aI rfl
 ·refine lG (by simp only [EN]) ?_
  exact aI rfl
def aj8 (C : aP) (Λ2 J : Lam) (a0 : (List (List D))) (a1 : Int) (a2 : Int) (a3 : Str) (a4 : Str) (a5 : Bool) (a6 : Int) (a7 : Int) (a8 : Int) (a9 : Int) (a10 : Int) (a11 : (List (List D))) (a12 : (List (List D))) (a13 : Int) (a14 : (List (List D))) (a15 : Bool) (a16 : Int) (a17 : Str) (a18 : Str) (a19 : Int) (a20 : Bool) (a21 : Int) (a22 : Int) (a23 : Str) (a24 : Int) (a25 : (List (List D))) (a26 : (List D)) (a27 : (List (List D))) (a28 : (List (List D))) (a29 : (List (List D))) : Res := lab SE C Λ2 J 50 0 [1, 1, 1, 1, 1, 1, 0, 1, 0] (bB [(1, .ptr 1000000000 0), (2, .ptr 1000000001 0), (6, .row 3006), (39, .d (.sl aC.ks a0)), (40, .d (.int .i64 a1)), (41, .d (.int .i64 a2))] [⟨38, [.d (.str a3), .d (.str a4), .d (.bool a5), .d (.int .i64 a6), .d (.int .i64 a7), .d (.int .i64 a8), .d (.int .i64 a9), .row 50007, .row 50008, .d (.int .i64 a10), .d (.sl aC.ks a11), .d (.sl [.int .i64] a12), .d (.int .i64 a13), .d (.sl [.int .i64] a14), .d (.bool a15), .d (.int .i64 a16), .d (.str a17), .d (.str a18), .d (.int .i64 a19), .d (.bool a20), .d (.int .i64 a21), .d (.int .i64 a22), .d (.str a23), .d (.int .i64 a24), .d (.sl aE.ks a25)]⟩, ⟨38, (List.map AV.d a26)⟩] [] [] [(3006, ⟨aC.ks, 122, 128, a27⟩), (50007, ⟨aD.ks, 60, 32, a28⟩), (50008, ⟨aA.ks, 34, 112, a29⟩)])
def amb (C : aP) (Λ2 J : Lam) (a0 : (List (List D))) (a1 : Int) (a2 : Int) (a3 : Str) (a4 : Str) (a5 : Bool) (a6 : Int) (a7 : Int) (a8 : Int) (a9 : Int) (a10 : (List (List D))) (a11 : Int) (a12 : (List (List D))) (a13 : (List (List D))) (a14 : Int) (a15 : (List (List D))) (a16 : Bool) (a17 : Int) (a18 : Str) (a19 : Str) (a20 : Int) (a21 : Bool) (a22 : Int) (a23 : Int) (a24 : Str) (a25 : Int) (a26 : (List (List D))) (a27 : (List D)) (a28 : (List (List D))) (a29 : (List (List D))) : Res := lab SE C Λ2 J 50 0 [1, 1, 1, 0, 1, 0] (bB [(1, .ptr 1000000000 0), (2, .ptr 1000000001 0), (3, .row 3003), (18, .d (.sl aA.ks a0)), (19, .d (.int .i64 a1)), (20, .d (.int .i64 a2))] [⟨38, [.d (.str a3), .d (.str a4), .d (.bool a5), .d (.int .i64 a6), .d (.int .i64 a7), .d (.int .i64 a8), .d (.int .i64 a9), .row 50007, .d (.sl aA.ks a10), .d (.int .i64 a11), .d (.sl aC.ks a12), .d (.sl [.int .i64] a13), .d (.int .i64 a14), .d (.sl [.int .i64] a15), .d (.bool a16), .d (.int .i64 a17), .d (.str a18), .d (.str a19), .d (.int .i64 a20), .d (.bool a21), .d (.int .i64 a22), .d (.int .i64 a23), .d (.str a24), .d (.int .i64 a25), .d (.sl aE.ks a26)]⟩, ⟨38, (List.map AV.d a27)⟩] [] [] [(3003, ⟨aA.ks, 34, 112, a28⟩), (50007, ⟨aD.ks, 60, 32, a29⟩)])
section
variable (Γ : Fun) (γ103 : Gm ((List aD))) (γ80 : Gm (aA)) (γ104 : Gm ((List Int))) (Λ2 J : Lam)
def C50 : aP := bA (bA (bA (aQ Γ) 103 cP γ103) 80 cW γ80) 104 bN γ104
theorem T50 (p0 : aB) : bD SE (C50 Γ γ103 γ80 γ104) Λ2 J 50 [aB.av p0] [] [] =
 γ103 [.d (.sl aD.ks (List.map aD.enc p0.Subs))] [] [] fun r0 =>
 cond (decide (0 ≤ 0) && decide (0 ≤ (List.length (List.map aA.enc p0.Queue) : Int)) && decide ((List.length (List.map aA.enc p0.Queue) : Int) * 112 ≤ 281474976710656)) (
 amb (C50 Γ γ103 γ80 γ104) Λ2 J (List.map aA.enc p0.Queue) (List.length (List.map aA.enc p0.Queue) : Int) 0 p0.Client p0.User p0.Online p0.Conn p0.Expiry p0.Until p0.Dropped (List.map aA.enc p0.Queue) p0.Out.Limit (List.map aC.enc p0.Out.Items) (List.map (encI .i64) p0.Out.Pool.Used) p0.Out.Pool.Last (List.map (encI .i64) p0.In.IDs) p0.Will.Set p0.Will.Delay p0.Will.Message.Topic p0.Will.Message.Payload p0.Will.Message.Level p0.Will.Message.Retain p0.Will.Message.Priority p0.Will.Message.Expires p0.Will.Message.From p0.Will.Message.Seq (List.map aE.enc p0.Will.Message.Props) [D.str ([] : Str), D.str ([] : Str), D.bool false, D.int .i64 0, D.int .i64 0, D.int .i64 0, D.int .i64 0, D.sl aD.ks (List.map aD.enc []), D.sl aA.ks (List.map aA.enc []), D.int .i64 0, D.sl aC.ks (List.map aC.enc []), D.sl [.int .i64] (List.map (encI .i64) []), D.int .i64 0, D.sl [.int .i64] (List.map (encI .i64) []), D.bool false, D.int .i64 0, D.str ([] : Str), D.str ([] : Str), D.int .i64 0, D.bool false, D.int .i64 0, D.int .i64 0, D.str ([] : Str), D.int .i64 0, D.sl aE.ks (List.map aE.enc [])] (List.map aA.enc []) (List.map aD.enc r0)) none := by kernel_rfl
theorem aqQ (x39 : (List aC)) (x40 : Int) (x41 : Int) (b0_0 : Str) (b0_1 : Str) (b0_2 : Bool) (b0_3 : Int) (b0_4 : Int) (b0_5 : Int) (b0_6 : Int) (b0_9 : Int) (b0_10 : (List aC)) (b0_11 : (List Int)) (b0_12 : Int) (b0_13 : (List Int)) (b0_14 : Bool) (b0_15 : Int) (b0_16 : Str) (b0_17 : Str) (b0_18 : Int) (b0_19 : Bool) (b0_20 : Int) (b0_21 : Int) (b0_22 : Str) (b0_23 : Int) (b0_24 : (List aE)) (b1 : aB) (w3006 : (List aC)) (w50007 : (List aD)) (w50008 : (List aA)) : cB SE (C50 Γ γ103 γ80 γ104) Λ2 J 50 0 [1, 1, 1, 1, 1, 1, 0, 1, 0] (bB [(1, .ptr 1000000000 0), (2, .ptr 1000000001 0), (6, .row 3006), (39, .d (.sl aC.ks (List.map aC.enc x39))), (40, .d (.int .i64 x40)), (41, .d (.int .i64 x41))] [⟨38, [.d (.str b0_0), .d (.str b0_1), .d (.bool b0_2), .d (.int .i64 b0_3), .d (.int .i64 b0_4), .d (.int .i64 b0_5), .d (.int .i64 b0_6), .row 50007, .row 50008, .d (.int .i64 b0_9), .d (.sl aC.ks (List.map aC.enc b0_10)), .d (.sl [.int .i64] (List.map (encI .i64) b0_11)), .d (.int .i64 b0_12), .d (.sl [.int .i64] (List.map (encI .i64) b0_13)), .d (.bool b0_14), .d (.int .i64 b0_15), .d (.str b0_16), .d (.str b0_17), .d (.int .i64 b0_18), .d (.bool b0_19), .d (.int .i64 b0_20), .d (.int .i64 b0_21), .d (.str b0_22), .d (.int .i64 b0_23), .d (.sl aE.ks (List.map aE.enc b0_24))]⟩, ⟨38, (List.map AV.d (aB.enc b1))⟩] [] [] [(3006, ⟨aC.ks, 122, 128, (List.map aC.enc w3006)⟩), (50007, ⟨aD.ks, 60, 32, (List.map aD.enc w50007)⟩), (50008, ⟨aA.ks, 34, 112, (List.map aA.enc w50008)⟩)]) =
 cond (decide (x41 < x40)) (
 cond (decide (0 ≤ x41) && decide (x41 < (List.length (List.map aC.enc x39) : Int))) (
  γ80 [.agg [.d (.str (aU (cellAt (elemAt (List.map aC.enc x39) (Int.toNat x41)) 2))), .d (.str (aU (cellAt (elemAt (List.map aC.enc x39) (Int.toNat x41)) 3))), .d (.int .i64 (aL (cellAt (elemAt (List.map aC.enc x39) (Int.toNat x41)) 4))), .d (.bool (aY (cellAt (elemAt (List.map aC.enc x39) (Int.toNat x41)) 5))), .d (.int .i64 (aL (cellAt (elemAt (List.map aC.enc x39) (Int.toNat x41)) 6))), .d (.int .i64 (aL (cellAt (elemAt (List.map aC.enc x39) (Int.toNat x41)) 7))), .d (.str (aU (cellAt (elemAt (List.map aC.enc x39) (Int.toNat x41)) 8))), .d (.int .i64 (aL (cellAt (elemAt (List.map aC.enc x39) (Int.toNat x41)) 9))), .d (.sl aE.ks (dSl (cellAt (elemAt (List.map aC.enc x39) (Int.toNat x41)) 10)))]] [] [] fun r2 =>
  cond (decide ((List.length (List.map aC.enc w3006) + List.length [[D.int .i64 (aL (cellAt (elemAt (List.map aC.enc x39) (Int.toNat x41)) 0)), D.int .i64 (aL (cellAt (elemAt (List.map aC.enc x39) (Int.toNat x41)) 1)), D.str r2.Topic, D.str r2.Payload, D.int .i64 r2.Level, D.bool r2.Retain, D.int .i64 r2.Priority, D.int .i64 r2.Expires, D.str r2.From, D.int .i64 r2.Seq, D.sl aE.ks (List.map aE.enc r2.Props)]]) * 128 ≤ 140737488355328)) (
  aj8 (C50 Γ γ103 γ80 γ104) Λ2 J (List.map aC.enc x39) x40 (IntKind.wrap .i64 (x41 + 1)) b0_0 b0_1 b0_2 b0_3 b0_4 b0_5 b0_6 b0_9 (List.map aC.enc b0_10) (List.map (encI .i64) b0_11) b0_12 (List.map (encI .i64) b0_13) b0_14 b0_15 b0_16 b0_17 b0_18 b0_19 b0_20 b0_21 b0_22 b0_23 (List.map aE.enc b0_24) (aB.enc b1) (((List.map aC.enc w3006) ++ [[D.int .i64 (aL (cellAt (elemAt (List.map aC.enc x39) (Int.toNat x41)) 0)), D.int .i64 (aL (cellAt (elemAt (List.map aC.enc x39) (Int.toNat x41)) 1)), D.str r2.Topic, D.str r2.Payload, D.int .i64 r2.Level, D.bool r2.Retain, D.int .i64 r2.Priority, D.int .i64 r2.Expires, D.str r2.From, D.int .i64 r2.Seq, D.sl aE.ks (List.map aE.enc r2.Props)]])) (List.map aD.enc w50007) (List.map aA.enc w50008)) none) none) (
 γ104 [.d (.sl [.int .i64] (List.map (encI .i64) b0_11))] [] [] fun r3 =>
 γ104 [.d (.sl [.int .i64] (List.map (encI .i64) b0_13))] [] [] fun r4 =>
 γ80 [aA.av (aA.mk b0_16 b0_17 b0_18 b0_19 b0_20 b0_21 b0_22 b0_23 b0_24)] [] [] fun r5 =>
 (some (.ret [.agg [.d (.str b0_0), .d (.str b0_1), .d (.bool b0_2), .d (.int .i64 b0_3), .d (.int .i64 b0_4), .d (.int .i64 b0_5), .d (.int .i64 b0_6), .row 0, .row 1, .d (.int .i64 b0_9), .row 2, .row 3, .d (.int .i64 b0_12), .row 4, .d (.bool b0_14), .d (.int .i64 b0_15), .d (.str r5.Topic), .d (.str r5.Payload), .d (.int .i64 r5.Level), .d (.bool r5.Retain), .d (.int .i64 r5.Priority), .d (.int .i64 r5.Expires), .d (.str r5.From), .d (.int .i64 r5.Seq), .row 5]] [] [⟨aD.ks, 60, 32, (List.map aD.enc w50007)⟩, ⟨aA.ks, 34, 112, (List.map aA.enc w50008)⟩, ⟨aC.ks, 122, 128, (List.map aC.enc w3006)⟩, ⟨[.int .i64], 3, 8, (List.map (encI .i64) r3)⟩, ⟨[.int .i64], 3, 8, (List.map (encI .i64) r4)⟩, ⟨aE.ks, 130, 32, (List.map aE.enc r5.Props)⟩]))) := by kernel_rfl
theorem aty (x18 : (List aA)) (x19 : Int) (x20 : Int) (b0_0 : Str) (b0_1 : Str) (b0_2 : Bool) (b0_3 : Int) (b0_4 : Int) (b0_5 : Int) (b0_6 : Int) (b0_8 : (List aA)) (b0_9 : Int) (b0_10 : (List aC)) (b0_11 : (List Int)) (b0_12 : Int) (b0_13 : (List Int)) (b0_14 : Bool) (b0_15 : Int) (b0_16 : Str) (b0_17 : Str) (b0_18 : Int) (b0_19 : Bool) (b0_20 : Int) (b0_21 : Int) (b0_22 : Str) (b0_23 : Int) (b0_24 : (List aE)) (b1 : aB) (w3003 : (List aA)) (w50007 : (List aD)) : cB SE (C50 Γ γ103 γ80 γ104) Λ2 J 50 0 [1, 1, 1, 0, 1, 0] (bB [(1, .ptr 1000000000 0), (2, .ptr 1000000001 0), (3, .row 3003), (18, .d (.sl aA.ks (List.map aA.enc x18))), (19, .d (.int .i64 x19)), (20, .d (.int .i64 x20))] [⟨38, [.d (.str b0_0), .d (.str b0_1), .d (.bool b0_2), .d (.int .i64 b0_3), .d (.int .i64 b0_4), .d (.int .i64 b0_5), .d (.int .i64 b0_6), .row 50007, .d (.sl aA.ks (List.map aA.enc b0_8)), .d (.int .i64 b0_9), .d (.sl aC.ks (List.map aC.enc b0_10)), .d (.sl [.int .i64] (List.map (encI .i64) b0_11)), .d (.int .i64 b0_12), .d (.sl [.int .i64] (List.map (encI .i64) b0_13)), .d (.bool b0_14), .d (.int .i64 b0_15), .d (.str b0_16), .d (.str b0_17), .d (.int .i64 b0_18), .d (.bool b0_19), .d (.int .i64 b0_20), .d (.int .i64 b0_21), .d (.str b0_22), .d (.int .i64 b0_23), .d (.sl aE.ks (List.map aE.enc b0_24))]⟩, ⟨38, (List.map AV.d (aB.enc b1))⟩] [] [] [(3003, ⟨aA.ks, 34, 112, (List.map aA.enc w3003)⟩), (50007, ⟨aD.ks, 60, 32, (List.map aD.enc w50007)⟩)]) =
 cond (decide (x20 < x19)) (
 cond (decide (0 ≤ x20) && decide (x20 < (List.length (List.map aA.enc x18) : Int))) (
  γ80 [.agg [.d (.str (aU (cellAt (elemAt (List.map aA.enc x18) (Int.toNat x20)) 0))), .d (.str (aU (cellAt (elemAt (List.map aA.enc x18) (Int.toNat x20)) 1))), .d (.int .i64 (aL (cellAt (elemAt (List.map aA.enc x18) (Int.toNat x20)) 2))), .d (.bool (aY (cellAt (elemAt (List.map aA.enc x18) (Int.toNat x20)) 3))), .d (.int .i64 (aL (cellAt (elemAt (List.map aA.enc x18) (Int.toNat x20)) 4))), .d (.int .i64 (aL (cellAt (elemAt (List.map aA.enc x18) (Int.toNat x20)) 5))), .d (.str (aU (cellAt (elemAt (List.map aA.enc x18) (Int.toNat x20)) 6))), .d (.int .i64 (aL (cellAt (elemAt (List.map aA.enc x18) (Int.toNat x20)) 7))), .d (.sl aE.ks (dSl (cellAt (elemAt (List.map aA.enc x18) (Int.toNat x20)) 8)))]] [] [] fun r1 =>
  cond (decide ((List.length (List.map aA.enc w3003) + List.length (List.map aA.enc [r1])) * 112 ≤ 140737488355328)) (
  amb (C50 Γ γ103 γ80 γ104) Λ2 J (List.map aA.enc x18) x19 (IntKind.wrap .i64 (x20 + 1)) b0_0 b0_1 b0_2 b0_3 b0_4 b0_5 b0_6 (List.map aA.enc b0_8) b0_9 (List.map aC.enc b0_10) (List.map (encI .i64) b0_11) b0_12 (List.map (encI .i64) b0_13) b0_14 b0_15 b0_16 b0_17 b0_18 b0_19 b0_20 b0_21 b0_22 b0_23 (List.map aE.enc b0_24) (aB.enc b1) (((List.map aA.enc w3003) ++ (List.map aA.enc [r1]))) (List.map aD.enc w50007)) none) none) (
 cond (decide (0 ≤ 0) && decide (0 ≤ (List.length (List.map aC.enc b0_10) : Int)) && decide ((List.length (List.map aC.enc b0_10) : Int) * 128 ≤ 281474976710656)) (
 aj8 (C50 Γ γ103 γ80 γ104) Λ2 J (List.map aC.enc b0_10) (List.length (List.map aC.enc b0_10) : Int) 0 b0_0 b0_1 b0_2 b0_3 b0_4 b0_5 b0_6 b0_9 (List.map aC.enc b0_10) (List.map (encI .i64) b0_11) b0_12 (List.map (encI .i64) b0_13) b0_14 b0_15 b0_16 b0_17 b0_18 b0_19 b0_20 b0_21 b0_22 b0_23 (List.map aE.enc b0_24) (aB.enc b1) (List.map aC.enc []) (List.map aD.enc w50007) (List.map aA.enc w3003)) none) := by kernel_rfl
end
abbrev X50 : aP := C50 gG (cT 103 cP) (cT 80 cW) (cT 104 bN)
theorem aoA : X50 = aQ gG := by unfold X50 C50; rw [aK fun _ h => h, aK fun _ h => h, aK fun _ h => h]
noncomputable abbrev arz (a0 : (List (List D))) (a1 : Int) (a2 : Int) (a3 : Str) (a4 : Str) (a5 : Bool) (a6 : Int) (a7 : Int) (a8 : Int) (a9 : Int) (a10 : Int) (a11 : (List (List D))) (a12 : (List (List D))) (a13 : Int) (a14 : (List (List D))) (a15 : Bool) (a16 : Int) (a17 : Str) (a18 : Str) (a19 : Int) (a20 : Bool) (a21 : Int) (a22 : Int) (a23 : Str) (a24 : Int) (a25 : (List (List D))) (a26 : (List D)) (a27 : (List (List D))) (a28 : (List (List D))) (a29 : (List (List D))) : Res := aj8 X50 (bV SE gG (SE.hl 50) (SE.hr 50)) (J0 SE X50) a0 a1 a2 a3 a4 a5 a6 a7 a8 a9 a10 a11 a12 a13 a14 a15 a16 a17 a18 a19 a20 a21 a22 a23 a24 a25 a26 a27 a28 a29
noncomputable abbrev atF (a0 : (List (List D))) (a1 : Int) (a2 : Int) (a3 : Str) (a4 : Str) (a5 : Bool) (a6 : Int) (a7 : Int) (a8 : Int) (a9 : Int) (a10 : (List (List D))) (a11 : Int) (a12 : (List (List D))) (a13 : (List (List D))) (a14 : Int) (a15 : (List (List D))) (a16 : Bool) (a17 : Int) (a18 : Str) (a19 : Str) (a20 : Int) (a21 : Bool) (a22 : Int) (a23 : Int) (a24 : Str) (a25 : Int) (a26 : (List (List D))) (a27 : (List D)) (a28 : (List (List D))) (a29 : (List (List D))) : Res := amb X50 (bV SE gG (SE.hl 50) (SE.hr 50)) (J0 SE X50) a0 a1 a2 a3 a4 a5 a6 a7 a8 a9 a10 a11 a12 a13 a14 a15 a16 a17 a18 a19 a20 a21 a22 a23 a24 a25 a26 a27 a28 a29
theorem vR : ∀ (fu : Nat) (x39 : (List aC)) (x40 : Int) (x41 : Int) (b0_0 : Str) (b0_1 : Str) (b0_2 : Bool) (b0_3 : Int) (b0_4 : Int) (b0_5 : Int) (b0_6 : Int) (b0_9 : Int) (b0_10 : (List aC)) (b0_11 : (List Int)) (b0_12 : Int) (b0_13 : (List Int)) (b0_14 : Bool) (b0_15 : Int) (b0_16 : Str) (b0_17 : Str) (b0_18 : Int) (b0_19 : Bool) (b0_20 : Int) (b0_21 : Int) (b0_22 : Str) (b0_23 : Int) (b0_24 : (List aE)) (b1 : aB) (w3006 : (List aC)) (w50007 : (List aD)) (w50008 : (List aA)), Le (Option.map bM (jB fu x39 x40 x41 b0_0 b0_1 b0_2 b0_3 b0_4 b0_5 b0_6 b0_9 b0_10 b0_11 b0_12 b0_13 b0_14 b0_15 b0_16 b0_17 b0_18 b0_19 b0_20 b0_21 b0_22 b0_23 b0_24 b1 w3006 w50007 w50008)) (arz (List.map aC.enc x39) x40 x41 b0_0 b0_1 b0_2 b0_3 b0_4 b0_5 b0_6 b0_9 (List.map aC.enc b0_10) (List.map (encI .i64) b0_11) b0_12 (List.map (encI .i64) b0_13) b0_14 b0_15 b0_16 b0_17 b0_18 b0_19 b0_20 b0_21 b0_22 b0_23 (List.map aE.enc b0_24) (aB.enc b1) (List.map aC.enc w3006) (List.map aD.enc w50007) (List.map aA.enc w50008)) := by
 intro fu
 induction fu with
 | zero => intros; exact le_none
 | succ fu ih =>
  intro x39 x40 x41 b0_0 b0_1 b0_2 b0_3 b0_4 b0_5 b0_6 b0_9 b0_10 b0_11 b0_12 b0_13 b0_14 b0_15 b0_16 b0_17 b0_18 b0_19 b0_20 b0_21 b0_22 b0_23 b0_24 b1 w3006 w50007 w50008
  refine Le.trans ?_ (le_of_eq ((bC aoA).trans (aqQ _ _ _ _ _ _  x39 x40 x41 b0_0 b0_1 b0_2 b0_3 b0_4 b0_5 b0_6 b0_9 b0_10 b0_11 b0_12 b0_13 b0_14 b0_15 b0_16 b0_17 b0_18 b0_19 b0_20 b0_21 b0_22 b0_23 b0_24 b1 w3006 w50007 w50008)).symm)
  unfold jB
  refine lC ?_ ?_
  ·refine lG (by simp only [EN]) ?_
   refine aM (good := good) eX j7 (by first | (simp only [EN]; exact fK ((List.getD x39 (Int.toNat x41) default).Message)) | exact fK ((List.getD x39 (Int.toNat x41) default).Message)) fun r2 _ => ?_
   refine lG (by simp only [EN]) ?_
   first | (simp only [EN]; exact ih x39 x40 (IntKind.wrap .i64 (x41 + 1)) b0_0 b0_1 b0_2 b0_3 b0_4 b0_5 b0_6 b0_9 b0_10 b0_11 b0_12 b0_13 b0_14 b0_15 b0_16 b0_17 b0_18 b0_19 b0_20 b0_21 b0_22 b0_23 b0_24 b1 ((w3006 ++ [(aC.mk (List.getD x39 (Int.toNat x41) default).ID (List.getD x39 (Int.toNat x41) default).State r2)])) w50007 w50008) | exact ih x39 x40 (IntKind.wrap .i64 (x41 + 1)) b0_0 b0_1 b0_2 b0_3 b0_4 b0_5 b0_6 b0_9 b0_10 b0_11 b0_12 b0_13 b0_14 b0_15 b0_16 b0_17 b0_18 b0_19 b0_20 b0_21 b0_22 b0_23 b0_24 b1 ((w3006 ++ [(aC.mk (List.getD x39 (Int.toNat x41) default).ID (List.getD x39 (Int.toNat x41) default).State r2)])) w50007 w50008
  ·refine aM (good := good) eX fU (gI _) fun r3 _ => ?_
   refine aM (good := good) eX fU (gI _) fun r4 _ => ?_
   refine aM (good := good) eX j7 (fK _) fun r5 _ => ?_
   exact aI rfl
theorem vY : ∀ (fu : Nat) (x18 : (List aA)) (x19 : Int) (x20 : Int) (b0_0 : Str) (b0_1 : Str) (b0_2 : Bool) (b0_3 : Int) (b0_4 : Int) (b0_5 : Int) (b0_6 : Int) (b0_8 : (List aA)) (b0_9 : Int) (b0_10 : (List aC)) (b0_11 : (List Int)) (b0_12 : Int) (b0_13 : (List Int)) (b0_14 : Bool) (b0_15 : Int) (b0_16 : Str) (b0_17 : Str) (b0_18 : Int) (b0_19 : Bool) (b0_20 : Int) (b0_21 : Int) (b0_22 : Str) (b0_23 : Int) (b0_24 : (List aE)) (b1 : aB) (w3003 : (List aA)) (w50007 : (List aD)), Le (Option.map bM (jZ fu x18 x19 x20 b0_0 b0_1 b0_2 b0_3 b0_4 b0_5 b0_6 b0_8 b0_9 b0_10 b0_11 b0_12 b0_13 b0_14 b0_15 b0_16 b0_17 b0_18 b0_19 b0_20 b0_21 b0_22 b0_23 b0_24 b1 w3003 w50007)) (atF (List.map aA.enc x18) x19 x20 b0_0 b0_1 b0_2 b0_3 b0_4 b0_5 b0_6 (List.map aA.enc b0_8) b0_9 (List.map aC.enc b0_10) (List.map (encI .i64) b0_11) b0_12 (List.map (encI .i64) b0_13) b0_14 b0_15 b0_16 b0_17 b0_18 b0_19 b0_20 b0_21 b0_22 b0_23 (List.map aE.enc b0_24) (aB.enc b1) (List.map aA.enc w3003) (List.map aD.enc w50007)) := by
 intro fu
 induction fu with
 | zero => intros; exact le_none
 | succ fu ih =>
  intro x18 x19 x20 b0_0 b0_1 b0_2 b0_3 b0_4 b0_5 b0_6 b0_8 b0_9 b0_10 b0_11 b0_12 b0_13 b0_14 b0_15 b0_16 b0_17 b0_18 b0_19 b0_20 b0_21 b0_22 b0_23 b0_24 b1 w3003 w50007
  refine Le.trans ?_ (le_of_eq ((bC aoA).trans (aty _ _ _ _ _ _  x18 x19 x20 b0_0 b0_1 b0_2 b0_3 b0_4 b0_5 b0_6 b0_8 b0_9 b0_10 b0_11 b0_12 b0_13 b0_14 b0_15 b0_16 b0_17 b0_18 b0_19 b0_20 b0_21 b0_22 b0_23 b0_24 b1 w3003 w50007)).symm)
  unfold jZ
  refine lC ?_ ?_
  ·refine lG (by simp only [EN]) ?_
   refine aM (good := good) eX j7 (by first | (simp only [EN]; exact fK (List.getD x18 (Int.toNat x20) default)) | exact fK (List.getD x18 (Int.toNat x20) default)) fun r1 _ => ?_
   refine lG (by simp only [EN]) ?_
   first | (simp only [EN]; exact ih x18 x19 (IntKind.wrap .i64 (x20 + 1)) b0_0 b0_1 b0_2 b0_3 b0_4 b0_5 b0_6 b0_8 b0_9 b0_10 b0_11 b0_12 b0_13 b0_14 b0_15 b0_16 b0_17 b0_18 b0_19 b0_20 b0_21 b0_22 b0_23 b0_24 b1 (w3003 ++ [r1]) w50007) | exact ih x18 x19 (IntKind.wrap .i64 (x20 + 1)) b0_0 b0_1 b0_2 b0_3 b0_4 b0_5 b0_6 b0_8 b0_9 b0_10 b0_11 b0_12 b0_13 b0_14 b0_15 b0_16 b0_17 b0_18 b0_19 b0_20 b0_21 b0_22 b0_23 b0_24 b1 (w3003 ++ [r1]) w50007
  ·refine lG (by simp only [EN]) ?_
   first | (simp only [EN]; exact vR fuel b0_10 (List.length b0_10 : Int) 0 b0_0 b0_1 b0_2 b0_3 b0_4 b0_5 b0_6 b0_9 b0_10 b0_11 b0_12 b0_13 b0_14 b0_15 b0_16 b0_17 b0_18 b0_19 b0_20 b0_21 b0_22 b0_23 b0_24 b1 ([] : List aC) w50007 w3003) | exact vR fuel b0_10 (List.length b0_10 : Int) 0 b0_0 b0_1 b0_2 b0_3 b0_4 b0_5 b0_6 b0_9 b0_10 b0_11 b0_12 b0_13 b0_14 b0_15 b0_16 b0_17 b0_18 b0_19 b0_20 b0_21 b0_22 b0_23 b0_24 b1 ([] : List aC) w50007 w3003
theorem iK (p0 : aB) : Le (Option.map bM (fL p0)) (aZ SE 50 [aB.av p0] [] []) := by
 refine aS aoA rfl ?_
 refine Le.trans ?_ (le_of_eq (T50 _ _ _ _ _ _  p0).symm)
 unfold fL
 refine aM (good := good) eX sS (tA _) fun r0 _ => ?_
 refine lG (by simp only [EN]) ?_
 first | (simp only [EN]; exact vY fuel p0.Queue (List.length p0.Queue : Int) 0 p0.Client p0.User p0.Online p0.Conn p0.Expiry p0.Until p0.Dropped p0.Queue p0.Out.Limit p0.Out.Items p0.Out.Pool.Used p0.Out.Pool.Last p0.In.IDs p0.Will.Set p0.Will.Delay p0.Will.Message.Topic p0.Will.Message.Payload p0.Will.Message.Level p0.Will.Message.Retain p0.Will.Message.Priority p0.Will.Message.Expires p0.Will.Message.From p0.Will.Message.Seq p0.Will.Message.Props ((aB.mk ([] : Str) ([] : Str) false 0 0 0 0 ([] : List aD) ([] : List aA) (aG.mk 0 ([] : List aC) (aJ.mk ([] : List Int) 0)) (aR.mk ([] : List Int)) (aN.mk false 0 (aA.mk ([] : Str) ([] : Str) 0 false 0 0 ([] : Str) 0 ([] : List aE))))) ([] : List aA) r0) | exact vY fuel p0.Queue (List.length p0.Queue : Int) 0 p0.Client p0.User p0.Online p0.Conn p0.Expiry p0.Until p0.Dropped p0.Queue p0.Out.Limit p0.Out.Items p0.Out.Pool.Used p0.Out.Pool.Last p0.In.IDs p0.Will.Set p0.Will.Delay p0.Will.Message.Topic p0.Will.Message.Payload p0.Will.Message.Level p0.Will.Message.Retain p0.Will.Message.Priority p0.Will.Message.Expires p0.Will.Message.From p0.Will.Message.Seq p0.Will.Message.Props ((aB.mk ([] : Str) ([] : Str) false 0 0 0 0 ([] : List aD) ([] : List aA) (aG.mk 0 ([] : List aC) (aJ.mk ([] : List Int) 0)) (aR.mk ([] : List Int)) (aN.mk false 0 (aA.mk ([] : Str) ([] : Str) 0 false 0 0 ([] : Str) 0 ([] : List aE))))) ([] : List aA) r0
theorem sO (p0 : (List aD)) (p1 : Int) (p2 : (List aD)) : Le (Option.map cK (j0 p0 p1 p2)) (aZ SE 68 [.row 2000000000, .d (.int .i64 p1), .row 2000000001] [] [⟨aD.ks, 60, 32, (List.map aD.enc p0)⟩, ⟨aD.ks, 60, 32, (List.map aD.enc p2)⟩]) := aiI (f := 68) (enc := aD.enc) rfl rfl p0 p1 p2
def amu (C : aP) (Λ2 J : Lam) (a0 : Int) (a1 : Bool) (a2 : (List D)) (a3 : (List D)) (a4 : (List D)) : Res := lab SE C Λ2 J 26 0 [1, 1, 1, 1, 0] (bB [(2, .ptr 1000000000 0), (3, .ptr 1000000001 0), (4, .ptr 1000000002 0), (8, .d (.int .i64 a0)), (9, .d (.bool a1))] [⟨38, (List.map AV.d a2)⟩, ⟨60, (List.map AV.d a3)⟩, ⟨38, (List.map AV.d a4)⟩] [] [] [])
section
variable (Γ : Fun) (γ66 : Gm (Int)) (γ67 : Gm (Int × Bool)) (γ50 : Gm (aB)) (γ68 : Gm ((List aD))) (Λ2 J : Lam)
def C26 : aP := bA (bA (bA (bA (aQ Γ) 66 iW γ66) 67 iM γ67) 50 bM γ50) 68 cK γ68
theorem T26 (p0 : aB) (p1 : aD) : bD SE (C26 Γ γ66 γ67 γ50 γ68) Λ2 J 26 [aB.av p0, aD.av p1] [] [] =
 γ66 [aD.av p1] [] [] fun r0 =>
 cond (r0 != 0) (
 (some (.ret [.agg [.d (.str ([] : Str)), .d (.str ([] : Str)), .d (.bool false), .d (.int .i64 0), .d (.int .i64 0), .d (.int .i64 0), .d (.int .i64 0), .row 0, .row 1, .d (.int .i64 0), .row 2, .row 3, .d (.int .i64 0), .row 4, .d (.bool false), .d (.int .i64 0), .d (.str ([] : Str)), .d (.str ([] : Str)), .d (.int .i64 0), .d (.bool false), .d (.int .i64 0), .d (.int .i64 0), .d (.str ([] : Str)), .d (.int .i64 0), .row 5], .d (.bool false), .d (.int .i64 r0)] [] [⟨aD.ks, 60, 32, (List.map aD.enc [])⟩, ⟨aA.ks, 34, 112, (List.map aA.enc [])⟩, ⟨aC.ks, 122, 128, (List.map aC.enc [])⟩, ⟨[.int .i64], 3, 8, (List.map (encI .i64) [])⟩, ⟨[.int .i64], 3, 8, (List.map (encI .i64) [])⟩, ⟨aE.ks, 130, 32, (List.map aE.enc [])⟩]))) (
 γ67 [.d (.sl aD.ks (List.map aD.enc p0.Subs)), .d (.str p1.Filter)] [] [] fun r1 =>
 cond (!r1.2) (
 cond (decide ((List.length (List.map aD.enc p0.Subs) : Int) ≥ 32)) (
  (some (.ret [.agg [.d (.str ([] : Str)), .d (.str ([] : Str)), .d (.bool false), .d (.int .i64 0), .d (.int .i64 0), .d (.int .i64 0), .d (.int .i64 0), .row 0, .row 1, .d (.int .i64 0), .row 2, .row 3, .d (.int .i64 0), .row 4, .d (.bool false), .d (.int .i64 0), .d (.str ([] : Str)), .d (.str ([] : Str)), .d (.int .i64 0), .d (.bool false), .d (.int .i64 0), .d (.int .i64 0), .d (.str ([] : Str)), .d (.int .i64 0), .row 5], .d (.bool false), .d (.int .i64 6)] [] [⟨aD.ks, 60, 32, (List.map aD.enc [])⟩, ⟨aA.ks, 34, 112, (List.map aA.enc [])⟩, ⟨aC.ks, 122, 128, (List.map aC.enc [])⟩, ⟨[.int .i64], 3, 8, (List.map (encI .i64) [])⟩, ⟨[.int .i64], 3, 8, (List.map (encI .i64) [])⟩, ⟨aE.ks, 130, 32, (List.map aE.enc [])⟩]))) (
 amu (C26 Γ γ66 γ67 γ50 γ68) Λ2 J r1.1 r1.2 (aB.enc p0) (aD.enc p1) [D.str ([] : Str), D.str ([] : Str), D.bool false, D.int .i64 0, D.int .i64 0, D.int .i64 0, D.int .i64 0, D.sl aD.ks (List.map aD.enc []), D.sl aA.ks (List.map aA.enc []), D.int .i64 0, D.sl aC.ks (List.map aC.enc []), D.sl [.int .i64] (List.map (encI .i64) []), D.int .i64 0, D.sl [.int .i64] (List.map (encI .i64) []), D.bool false, D.int .i64 0, D.str ([] : Str), D.str ([] : Str), D.int .i64 0, D.bool false, D.int .i64 0, D.int .i64 0, D.str ([] : Str), D.int .i64 0, D.sl aE.ks (List.map aE.enc [])])) (
 amu (C26 Γ γ66 γ67 γ50 γ68) Λ2 J r1.1 r1.2 (aB.enc p0) (aD.enc p1) [D.str ([] : Str), D.str ([] : Str), D.bool false, D.int .i64 0, D.int .i64 0, D.int .i64 0, D.int .i64 0, D.sl aD.ks (List.map aD.enc []), D.sl aA.ks (List.map aA.enc []), D.int .i64 0, D.sl aC.ks (List.map aC.enc []), D.sl [.int .i64] (List.map (encI .i64) []), D.int .i64 0, D.sl [.int .i64] (List.map (encI .i64) []), D.bool false, D.int .i64 0, D.str ([] : Str), D.str ([] : Str), D.int .i64 0, D.bool false, D.int .i64 0, D.int .i64 0, D.str ([] : Str), D.int .i64 0, D.sl aE.ks (List.map aE.enc [])])) := by kernel_rfl
theorem auB (x8 : Int) (x9 : Bool) (b0 : aB) (b1 : aD) (b2 : aB) : cB SE (C26 Γ γ66 γ67 γ50 γ68) Λ2 J 26 0 [1, 1, 1, 1, 0] (bB [(2, .ptr 1000000000 0), (3, .ptr 1000000001 0), (4, .ptr 1000000002 0), (8, .d (.int .i64 x8)), (9, .d (.bool x9))] [⟨38, (List.map AV.d (aB.enc b0))⟩, ⟨60, (List.map AV.d (aD.enc b1))⟩, ⟨38, (List.map AV.d (aB.enc b2))⟩] [] [] []) =
 γ50 [aB.av b0] [] [] fun r2 =>
 cond x9 (
 cond (decide (0 ≤ x8) && decide (x8 < (List.length (List.map aD.enc r2.Subs) : Int))) (
  (some (.ret [.agg [.d (.str r2.Client), .d (.str r2.User), .d (.bool r2.Online), .d (.int .i64 r2.Conn), .d (.int .i64 r2.Expiry), .d (.int .i64 r2.Until), .d (.int .i64 r2.Dropped), .row 0, .row 1, .d (.int .i64 r2.Out.Limit), .row 2, .row 3, .d (.int .i64 r2.Out.Pool.Last), .row 4, .d (.bool r2.Will.Set), .d (.int .i64 r2.Will.Delay), .d (.str r2.Will.Message.Topic), .d (.str r2.Will.Message.Payload), .d (.int .i64 r2.Will.Message.Level), .d (.bool r2.Will.Message.Retain), .d (.int .i64 r2.Will.Message.Priority), .d (.int .i64 r2.Will.Message.Expires), .d (.str r2.Will.Message.From), .d (.int .i64 r2.Will.Message.Seq), .row 5], .d (.bool x9), .d (.int .i64 0)] [] [⟨aD.ks, 60, 32, (hI (List.map aD.enc r2.Subs) (Int.toNat x8) 0 (aD.enc b1))⟩, ⟨aA.ks, 34, 112, (List.map aA.enc r2.Queue)⟩, ⟨aC.ks, 122, 128, (List.map aC.enc r2.Out.Items)⟩, ⟨[.int .i64], 3, 8, (List.map (encI .i64) r2.Out.Pool.Used)⟩, ⟨[.int .i64], 3, 8, (List.map (encI .i64) r2.In.IDs)⟩, ⟨aE.ks, 130, 32, (List.map aE.enc r2.Will.Message.Props)⟩]))) none) (
 γ68 [.row 2000000000, .d (.int .i64 x8), .row 2000000001] [] [⟨aD.ks, 60, 32, (List.map aD.enc r2.Subs)⟩, ⟨aD.ks, 60, 32, (List.map aD.enc [b1])⟩] fun r3 =>
 (some (.ret [.agg [.d (.str r2.Client), .d (.str r2.User), .d (.bool r2.Online), .d (.int .i64 r2.Conn), .d (.int .i64 r2.Expiry), .d (.int .i64 r2.Until), .d (.int .i64 r2.Dropped), .row 0, .row 1, .d (.int .i64 r2.Out.Limit), .row 2, .row 3, .d (.int .i64 r2.Out.Pool.Last), .row 4, .d (.bool r2.Will.Set), .d (.int .i64 r2.Will.Delay), .d (.str r2.Will.Message.Topic), .d (.str r2.Will.Message.Payload), .d (.int .i64 r2.Will.Message.Level), .d (.bool r2.Will.Message.Retain), .d (.int .i64 r2.Will.Message.Priority), .d (.int .i64 r2.Will.Message.Expires), .d (.str r2.Will.Message.From), .d (.int .i64 r2.Will.Message.Seq), .row 5], .d (.bool x9), .d (.int .i64 0)] [] [⟨aD.ks, 60, 32, (List.map aD.enc r3)⟩, ⟨aA.ks, 34, 112, (List.map aA.enc r2.Queue)⟩, ⟨aC.ks, 122, 128, (List.map aC.enc r2.Out.Items)⟩, ⟨[.int .i64], 3, 8, (List.map (encI .i64) r2.Out.Pool.Used)⟩, ⟨[.int .i64], 3, 8, (List.map (encI .i64) r2.In.IDs)⟩, ⟨aE.ks, 130, 32, (List.map aE.enc r2.Will.Message.Props)⟩]))) := by kernel_rfl
end
abbrev X26 : aP := C26 gG (cT 66 iW) (cT 67 iM) (cT 50 bM) (cT 68 cK)
theorem aq0 : X26 = aQ gG := by unfold X26 C26; rw [aK fun _ h => h, aK fun _ h => h, aK fun _ h => h, aK fun _ h => h]
noncomputable abbrev auQ (a0 : Int) (a1 : Bool) (a2 : (List D)) (a3 : (List D)) (a4 : (List D)) : Res := amu X26 (bV SE gG (SE.hl 26) (SE.hr 26)) (J0 SE X26) a0 a1 a2 a3 a4
theorem lE (x8 : Int) (x9 : Bool) (b0 : aB) (b1 : aD) (b2 : aB) : Le (Option.map cY (kO x8 x9 b0 b1 b2)) (auQ x8 x9 (aB.enc b0) (aD.enc b1) (aB.enc b2)) := by
 refine Le.trans ?_ (le_of_eq ((bC aq0).trans (auB _ _ _ _ _ _ _  x8 x9 b0 b1 b2)).symm)
 unfold kO
 refine aM (good := good) eX gP (iK _) fun r2 _ => ?_
 refine lC ?_ ?_
 ·refine lG (by simp only [EN]) ?_
  exact aI (by first | rfl | simp only [EN, cY] <;> rfl)
 ·refine aM (good := good) eX rU (sO _ _ _) fun r3 _ => ?_
  exact aI rfl
theorem vE (p0 : aB) (p1 : aD) : Le (Option.map cY (kU p0 p1)) (aZ SE 26 [aB.av p0, aD.av p1] [] []) := by
 refine aS aq0 rfl ?_
 refine Le.trans ?_ (le_of_eq (T26 _ _ _ _ _ _ _  p0 p1).symm)
 unfold kU
 refine aM (good := good) eX adz (adU _) fun r0 _ => ?_
 refine lC ?_ ?_
 ·exact aI rfl
 ·refine aM (good := good) eX aaC (aaX _ _) fun r1 _ => ?_
  refine lC ?_ ?_
  ·refine lD (by simp only [EN]) ?_ ?_
   ·exact aI rfl
   ·first | (simp only [EN]; exact lE r1.1 r1.2 p0 p1 ((aB.mk ([] : Str) ([] : Str) false 0 0 0 0 ([] : List aD) ([] : List aA) (aG.mk 0 ([] : List aC) (aJ.mk ([] : List Int) 0)) (aR.mk ([] : List Int)) (aN.mk false 0 (aA.mk ([] : Str) ([] : Str) 0 false 0 0 ([] : Str) 0 ([] : List aE)))))) | exact lE r1.1 r1.2 p0 p1 ((aB.mk ([] : Str) ([] : Str) false 0 0 0 0 ([] : List aD) ([] : List aA) (aG.mk 0 ([] : List aC) (aJ.mk ([] : List Int) 0)) (aR.mk ([] : List Int)) (aN.mk false 0 (aA.mk ([] : Str) ([] : Str) 0 false 0 0 ([] : Str) 0 ([] : List aE)))))
  ·first | (simp only [EN]; exact lE r1.1 r1.2 p0 p1 ((aB.mk ([] : Str) ([] : Str) false 0 0 0 0 ([] : List aD) ([] : List aA) (aG.mk 0 ([] : List aC) (aJ.mk ([] : List Int) 0)) (aR.mk ([] : List Int)) (aN.mk false 0 (aA.mk ([] : Str) ([] : Str) 0 false 0 0 ([] : Str) 0 ([] : List aE)))))) | exact lE r1.1 r1.2 p0 p1 ((aB.mk ([] : Str) ([] : Str) false 0 0 0 0 ([] : List aD) ([] : List aA) (aG.mk 0 ([] : List aC) (aJ.mk ([] : List Int) 0)) (aR.mk ([] : List Int)) (aN.mk false 0 (aA.mk ([] : Str) ([] : Str) 0 false 0 0 ([] : Str) 0 ([] : List aE)))))
section
variable (Γ : Fun)  (Λ2 J : Lam)
def C51 : aP := aQ Γ
theorem T51 (p0 : aB) (p1 : Int) : bD SE (C51 Γ) Λ2 J 51 [aB.av p0, .d (.int .i64 p1)] [] [] =
 (some (.ret [aB.av (aB.mk p0.Client p0.User p0.Online p0.Conn p0.Expiry p0.Until (if 1099511627776 < (IntKind.wrap .i64 (p0.Dropped + p1)) then 1099511627776 else (IntKind.wrap .i64 (p0.Dropped + p1))) p0.Subs p0.Queue p0.Out p0.In p0.Will)] [] [])) := by kernel_rfl
end
abbrev X51 : aP := C51 gG
theorem avH : X51 = aQ gG := rfl
theorem j4 (p0 : aB) (p1 : Int) : Le (Option.map dI (mF p0 p1)) (aZ SE 51 [aB.av p0, .d (.int .i64 p1)] [] []) := by
 refine aS avH rfl ?_
 refine Le.trans ?_ (le_of_eq (T51 _ _ _  p0 p1).symm)
 unfold mF
 exact aI rfl
section
variable (Γ : Fun)  (Λ2 J : Lam)
def arL : aP := aQ Γ
theorem avY (p0 : aA) : bD SE (arL Γ) Λ2 J 106 [aA.av p0] [] [] =
 cond (decide (List.length (List.map aE.enc p0.Props) * 32 ≤ 140737488355328)) (
 (some (.ret [.agg [.d (.str p0.Topic), .d (.str p0.Payload), .d (.int .i64 p0.Level), .d (.bool p0.Retain), .d (.int .i64 p0.Priority), .d (.int .i64 p0.Expires), .d (.str p0.From), .d (.int .i64 p0.Seq), .row 0]] [] [⟨aE.ks, 130, 32, (List.map aE.enc p0.Props)⟩]))) none := by kernel_rfl
end
abbrev awM : aP := arL gG
theorem at0 : awM = aQ gG := rfl
theorem nQ (p0 : aA) : Le (Option.map jI (o8 p0)) (aZ SE 106 [aA.av p0] [] []) := by
 refine aS at0 rfl ?_
 refine Le.trans ?_ (le_of_eq (avY _ _ _  p0).symm)
 unfold o8
 refine lG (by simp only [EN]) ?_
 exact aI rfl
def akl (C : aP) (Λ2 J : Lam) (a0 : (List (List D))) (a1 : Int) (a2 : Int) (a3 : (List (List D))) : Res := lab SE C Λ2 J 105 0 [1, 1, 0, 1, 0] (bB [(5, .row 3005), (13, .d (.sl aA.ks a0)), (14, .d (.int .i64 a1)), (15, .d (.int .i64 a2))] [] [] [] [(3005, ⟨aA.ks, 34, 112, a3⟩)])
section
variable (Γ : Fun) (γ106 : Gm (aA)) (Λ2 J : Lam)
def aih : aP := bA (aQ Γ) 106 jI γ106
theorem awq (p0 : (List aA)) (p1 : Int) : bD SE (aih Γ γ106) Λ2 J 105 [.d (.sl aA.ks (List.map aA.enc p0)), .d (.int .i64 p1)] [] [] =
 cond (decide (0 ≤ 0) && decide (0 ≤ (IntKind.wrap .i64 ((List.length (List.map aA.enc p0) : Int) + p1))) && decide ((IntKind.wrap .i64 ((List.length (List.map aA.enc p0) : Int) + p1)) * 112 ≤ 281474976710656)) (
 akl (aih Γ γ106) Λ2 J (List.map aA.enc p0) (List.length (List.map aA.enc p0) : Int) 0 (List.map aA.enc [])) none := by kernel_rfl
theorem aqS (x13 : (List aA)) (x14 : Int) (x15 : Int) (w3005 : (List aA)) : cB SE (aih Γ γ106) Λ2 J 105 0 [1, 1, 0, 1, 0] (bB [(5, .row 3005), (13, .d (.sl aA.ks (List.map aA.enc x13))), (14, .d (.int .i64 x14)), (15, .d (.int .i64 x15))] [] [] [] [(3005, ⟨aA.ks, 34, 112, (List.map aA.enc w3005)⟩)]) =
 cond (decide (x15 < x14)) (
 cond (decide (0 ≤ x15) && decide (x15 < (List.length (List.map aA.enc x13) : Int))) (
  γ106 [.agg [.d (.str (aU (cellAt (elemAt (List.map aA.enc x13) (Int.toNat x15)) 0))), .d (.str (aU (cellAt (elemAt (List.map aA.enc x13) (Int.toNat x15)) 1))), .d (.int .i64 (aL (cellAt (elemAt (List.map aA.enc x13) (Int.toNat x15)) 2))), .d (.bool (aY (cellAt (elemAt (List.map aA.enc x13) (Int.toNat x15)) 3))), .d (.int .i64 (aL (cellAt (elemAt (List.map aA.enc x13) (Int.toNat x15)) 4))), .d (.int .i64 (aL (cellAt (elemAt (List.map aA.enc x13) (Int.toNat x15)) 5))), .d (.str (aU (cellAt (elemAt (List.map aA.enc x13) (Int.toNat x15)) 6))), .d (.int .i64 (aL (cellAt (elemAt (List.map aA.enc x13) (Int.toNat x15)) 7))), .d (.sl aE.ks (dSl (cellAt (elemAt (List.map aA.enc x13) (Int.toNat x15)) 8)))]] [] [] fun r0 =>
  cond (decide ((List.length (List.map aA.enc w3005) + List.length (List.map aA.enc [r0])) * 112 ≤ 140737488355328)) (
  akl (aih Γ γ106) Λ2 J (List.map aA.enc x13) x14 (IntKind.wrap .i64 (x15 + 1)) (((List.map aA.enc w3005) ++ (List.map aA.enc [r0])))) none) none) (
 (some (.ret [.row 0] [] [⟨aA.ks, 34, 112, (List.map aA.enc w3005)⟩]))) := by kernel_rfl
end
abbrev alT : aP := aih gG (cT 106 jI)
theorem apw : alT = aQ gG := by unfold alT aih; rw [aK fun _ h => h]
noncomputable abbrev asT (a0 : (List (List D))) (a1 : Int) (a2 : Int) (a3 : (List (List D))) : Res := akl alT (bV SE gG (SE.hl 105) (SE.hr 105)) (J0 SE alT) a0 a1 a2 a3
theorem zY : ∀ (fu : Nat) (x13 : (List aA)) (x14 : Int) (x15 : Int) (w3005 : (List aA)), Le (Option.map lS (tS fu x13 x14 x15 w3005)) (asT (List.map aA.enc x13) x14 x15 (List.map aA.enc w3005)) := by
 intro fu
 induction fu with
 | zero => intros; exact le_none
 | succ fu ih =>
  intro x13 x14 x15 w3005
  refine Le.trans ?_ (le_of_eq ((bC apw).trans (aqS _ _ _ _  x13 x14 x15 w3005)).symm)
  unfold tS
  refine lC ?_ ?_
  ·refine lG (by simp only [EN]) ?_
   refine aM (good := good) eX oP (by first | (simp only [EN]; exact nQ (List.getD x13 (Int.toNat x15) default)) | exact nQ (List.getD x13 (Int.toNat x15) default)) fun r0 _ => ?_
   refine lG (by simp only [EN]) ?_
   first | (simp only [EN]; exact ih x13 x14 (IntKind.wrap .i64 (x15 + 1)) (w3005 ++ [r0])) | exact ih x13 x14 (IntKind.wrap .i64 (x15 + 1)) (w3005 ++ [r0])
  ·exact aI rfl
theorem aiZ (p0 : (List aA)) (p1 : Int) : Le (Option.map lS (ac4 p0 p1)) (aZ SE 105 [.d (.sl aA.ks (List.map aA.enc p0)), .d (.int .i64 p1)] [] []) := by
 refine aS apw rfl ?_
 refine Le.trans ?_ (le_of_eq (awq _ _ _ _  p0 p1).symm)
 unfold ac4
 refine lG (by simp only [EN]) ?_
 first | (simp only [EN]; exact zY fuel p0 (List.length p0 : Int) 0 ([] : List aA)) | exact zY fuel p0 (List.length p0 : Int) 0 ([] : List aA)
def apE (C : aP) (Λ2 J : Lam) (a0 : (List D)) (a1 : (List (List D))) : Res := lab SE C Λ2 J 52 0 [1, 1, 1, 1, 0] (bB [(5, .ptr 1000000000 0), (11, .row 3011)] [⟨34, (List.map AV.d a0)⟩] [] [] [(3011, ⟨aA.ks, 34, 112, a1⟩)])
section
variable (Γ : Fun) (γ105 : Gm ((List aA))) (γ106 : Gm (aA)) (Λ2 J : Lam)
def C52 : aP := bA (bA (aQ Γ) 105 lS γ105) 106 jI γ106
theorem T52 (p0 : (List aA)) (p1 : aA) (p2 : Int) (p3 : Int) : bD SE (C52 Γ γ105 γ106) Λ2 J 52 [.d (.sl aA.ks (List.map aA.enc p0)), aA.av p1, .d (.int .i64 p2), .d (.int .i64 p3)] [] [] =
 γ105 [.d (.sl aA.ks (List.map aA.enc p0)), .d (.int .i64 1)] [] [] fun r0 =>
 cond (decide ((List.length (List.map aA.enc p0) : Int) < p2)) (
 γ106 [aA.av p1] [] [] fun r1 =>
 cond (decide ((List.length (List.map aA.enc r0) + List.length (List.map aA.enc [r1])) * 112 ≤ 140737488355328)) (
  (some (.ret [.row 0, .row 1, .d (.bool false)] [] [⟨aA.ks, 34, 112, ((List.map aA.enc r0) ++ (List.map aA.enc [r1]))⟩, ⟨aA.ks, 34, 112, []⟩]))) none) (
 cond (p3 != 1) (
 γ106 [aA.av p1] [] [] fun r2 =>
 (some (.ret [.row 0, .row 1, .d (.bool (p3 == 3))] [] [⟨aA.ks, 34, 112, (List.map aA.enc r0)⟩, ⟨aA.ks, 34, 112, (List.map aA.enc [r2])⟩]))) (
 cond (decide (p2 < 1)) (
 γ106 [aA.av p1] [] [] fun r3 =>
 (some (.ret [.row 0, .row 1, .d (.bool (p3 == 3))] [] [⟨aA.ks, 34, 112, (List.map aA.enc r0)⟩, ⟨aA.ks, 34, 112, (List.map aA.enc [r3])⟩]))) (
 apE (C52 Γ γ105 γ106) Λ2 J (aA.enc p1) (List.map aA.enc r0)))) := by kernel_rfl
theorem auI (b0 : aA) (w3011 : (List aA)) : cB SE (C52 Γ γ105 γ106) Λ2 J 52 0 [1, 1, 1, 1, 0] (bB [(5, .ptr 1000000000 0), (11, .row 3011)] [⟨34, (List.map AV.d (aA.enc b0))⟩] [] [] [(3011, ⟨aA.ks, 34, 112, (List.map aA.enc w3011)⟩)]) =
 cond (decide (0 ≤ 0) && decide (0 < (List.length (List.map aA.enc w3011) : Int))) (
 cond (decide (0 ≤ 1) && decide (1 ≤ ((List.length (List.map aA.enc w3011)) : Int))) (
  γ106 [aA.av b0] [] [] fun r4 =>
  cond (decide (0 ≤ (IntKind.wrap .i64 ((List.length (List.take (List.length (List.map aA.enc w3011)) (List.take ((List.length (List.map aA.enc w3011)) - (Int.toNat 1)) (List.drop (Int.toNat 1) (List.map aA.enc w3011))) ++ List.drop (min (List.length (List.take ((List.length (List.map aA.enc w3011)) - (Int.toNat 1)) (List.drop (Int.toNat 1) (List.map aA.enc w3011)))) (List.length (List.map aA.enc w3011))) (List.map aA.enc w3011)) : Int) - 1))) && decide ((IntKind.wrap .i64 ((List.length (List.take (List.length (List.map aA.enc w3011)) (List.take ((List.length (List.map aA.enc w3011)) - (Int.toNat 1)) (List.drop (Int.toNat 1) (List.map aA.enc w3011))) ++ List.drop (min (List.length (List.take ((List.length (List.map aA.enc w3011)) - (Int.toNat 1)) (List.drop (Int.toNat 1) (List.map aA.enc w3011)))) (List.length (List.map aA.enc w3011))) (List.map aA.enc w3011)) : Int) - 1)) < (List.length (List.take (List.length (List.map aA.enc w3011)) (List.take ((List.length (List.map aA.enc w3011)) - (Int.toNat 1)) (List.drop (Int.toNat 1) (List.map aA.enc w3011))) ++ List.drop (min (List.length (List.take ((List.length (List.map aA.enc w3011)) - (Int.toNat 1)) (List.drop (Int.toNat 1) (List.map aA.enc w3011)))) (List.length (List.map aA.enc w3011))) (List.map aA.enc w3011)) : Int))) (
  (some (.ret [.row 0, .row 1, .d (.bool false)] [] [⟨aA.ks, 34, 112, (hI (List.take (List.length (List.map aA.enc w3011)) (List.take ((List.length (List.map aA.enc w3011)) - (Int.toNat 1)) (List.drop (Int.toNat 1) (List.map aA.enc w3011))) ++ List.drop (min (List.length (List.take ((List.length (List.map aA.enc w3011)) - (Int.toNat 1)) (List.drop (Int.toNat 1) (List.map aA.enc w3011)))) (List.length (List.map aA.enc w3011))) (List.map aA.enc w3011)) (Int.toNat (IntKind.wrap .i64 ((List.length (List.take (List.length (List.map aA.enc w3011)) (List.take ((List.length (List.map aA.enc w3011)) - (Int.toNat 1)) (List.drop (Int.toNat 1) (List.map aA.enc w3011))) ++ List.drop (min (List.length (List.take ((List.length (List.map aA.enc w3011)) - (Int.toNat 1)) (List.drop (Int.toNat 1) (List.map aA.enc w3011)))) (List.length (List.map aA.enc w3011))) (List.map aA.enc w3011)) : Int) - 1))) 0 (aA.enc r4))⟩, ⟨aA.ks, 34, 112, [[D.str (aU (cellAt (elemAt (List.map aA.enc w3011) (Int.toNat 0)) 0)), D.str (aU (cellAt (elemAt (List.map aA.enc w3011) (Int.toNat 0)) 1)), D.int .i64 (aL (cellAt (elemAt (List.map aA.enc w3011) (Int.toNat 0)) 2)), D.bool (aY (cellAt (elemAt (List.map aA.enc w3011) (Int.toNat 0)) 3)), D.int .i64 (aL (cellAt (elemAt (List.map aA.enc w3011) (Int.toNat 0)) 4)), D.int .i64 (aL (cellAt (elemAt (List.map aA.enc w3011) (Int.toNat 0)) 5)), D.str (aU (cellAt (elemAt (List.map aA.enc w3011) (Int.toNat 0)) 6)), D.int .i64 (aL (cellAt (elemAt (List.map aA.enc w3011) (Int.toNat 0)) 7)), D.sl aE.ks (dSl (cellAt (elemAt (List.map aA.enc w3011) (Int.toNat 0)) 8))]]⟩]))) none) none) none := by kernel_rfl
end
abbrev X52 : aP := C52 gG (cT 105 lS) (cT 106 jI)
theorem ar4 : X52 = aQ gG := by unfold X52 C52; rw [aK fun _ h => h, aK fun _ h => h]
noncomputable abbrev atv (a0 : (List D)) (a1 : (List (List D))) : Res := apE X52 (bV SE gG (SE.hl 52) (SE.hr 52)) (J0 SE X52) a0 a1
theorem agI (b0 : aA) (w3011 : (List aA)) : Le (Option.map jV (aab b0 w3011)) (atv (aA.enc b0) (List.map aA.enc w3011)) := by
 refine Le.trans ?_ (le_of_eq ((bC ar4).trans (auI _ _ _ _ _  b0 w3011)).symm)
 unfold aab
 refine lG (by simp only [EN]) ?_
 refine lG (by simp only [EN]) ?_
 refine aM (good := good) eX oP (nQ _) fun r4 _ => ?_
 refine lG (by simp only [EN]) ?_
 exact aI (by first | rfl | simp only [EN, jV] <;> rfl)
theorem ajv (p0 : (List aA)) (p1 : aA) (p2 : Int) (p3 : Int) : Le (Option.map jV (aeg p0 p1 p2 p3)) (aZ SE 52 [.d (.sl aA.ks (List.map aA.enc p0)), aA.av p1, .d (.int .i64 p2), .d (.int .i64 p3)] [] []) := by
 refine aS ar4 rfl ?_
 refine Le.trans ?_ (le_of_eq (T52 _ _ _ _ _  p0 p1 p2 p3).symm)
 unfold aeg
 refine aM (good := good) eX ahE (aiZ _ _) fun r0 _ => ?_
 refine lD (by simp only [EN]) ?_ ?_
 ·refine aM (good := good) eX oP (nQ _) fun r1 _ => ?_
  refine lG (by simp only [EN]) ?_
  exact aI (by first | rfl | simp only [EN, jV] <;> rfl)
 ·refine lC ?_ ?_
  ·refine aM (good := good) eX oP (nQ _) fun r2 _ => ?_
   exact aI rfl
  ·refine lC ?_ ?_
   ·refine aM (good := good) eX oP (nQ _) fun r3 _ => ?_
    exact aI rfl
   ·exact agI p1 r0
def alJ (C : aP) (Λ2 J : Lam) (a0 : Int) (a1 : Int) (a2 : (List D)) (a3 : (List D)) (a4 : (List D)) (a5 : Str) (a6 : Str) (a7 : Bool) (a8 : Int) (a9 : Int) (a10 : Int) (a11 : Int) (a12 : Int) (a13 : Int) (a14 : Bool) (a15 : Int) (a16 : Str) (a17 : Str) (a18 : Int) (a19 : Bool) (a20 : Int) (a21 : Int) (a22 : Str) (a23 : Int) (a24 : (List (List D))) (a25 : (List (List D))) (a26 : (List (List D))) (a27 : (List (List D))) (a28 : (List (List D))) (a29 : (List (List D))) : Res := lab SE C Λ2 J 15 0 [1, 1, 1, 0] (bB [(2, .d (.int .i64 a0)), (3, .d (.int .i64 a1)), (4, .ptr 1000000000 0), (5, .ptr 1000000001 0), (8, .ptr 1000000002 0), (10, .ptr 1000000003 0)] [⟨38, (List.map AV.d a2)⟩, ⟨34, (List.map AV.d a3)⟩, ⟨38, (List.map AV.d a4)⟩, ⟨38, [.d (.str a5), .d (.str a6), .d (.bool a7), .d (.int .i64 a8), .d (.int .i64 a9), .d (.int .i64 a10), .d (.int .i64 a11), .row 50307, .row 50308, .d (.int .i64 a12), .row 50310, .row 50311, .d (.int .i64 a13), .row 50313, .d (.bool a14), .d (.int .i64 a15), .d (.str a16), .d (.str a17), .d (.int .i64 a18), .d (.bool a19), .d (.int .i64 a20), .d (.int .i64 a21), .d (.str a22), .d (.int .i64 a23), .row 50324]⟩] [] [] [(50307, ⟨aD.ks, 60, 32, a24⟩), (50308, ⟨aA.ks, 34, 112, a25⟩), (50310, ⟨aC.ks, 122, 128, a26⟩), (50311, ⟨[.int .i64], 3, 8, a27⟩), (50313, ⟨[.int .i64], 3, 8, a28⟩), (50324, ⟨aE.ks, 130, 32, a29⟩)])
section
variable (Γ : Fun) (γ50 : Gm (aB)) (γ51 : Gm (aB)) (γ52 : Gm ((List aA) × (List aA) × Bool)) (Λ2 J : Lam)
def C15 : aP := bA (bA (bA (aQ Γ) 50 bM γ50) 51 dI γ51) 52 jV γ52
theorem T15 (p0 : aB) (p1 : aA) (p2 : Int) (p3 : Int) : bD SE (C15 Γ γ50 γ51 γ52) Λ2 J 15 [aB.av p0, aA.av p1, .d (.int .i64 p2), .d (.int .i64 p3)] [] [] =
 γ50 [aB.av p0] [] [] fun r0 =>
 cond (!p0.Online) (
 cond (p1.Level == 0) (
  γ51 [aB.av r0, .d (.int .i64 1)] [] [] fun r1 =>
  (some (.ret [aB.av r1, .d (.bool false)] [] []))) (
 alJ (C15 Γ γ50 γ51 γ52) Λ2 J p2 p3 (aB.enc p0) (aA.enc p1) [D.str ([] : Str), D.str ([] : Str), D.bool false, D.int .i64 0, D.int .i64 0, D.int .i64 0, D.int .i64 0, D.sl aD.ks (List.map aD.enc []), D.sl aA.ks (List.map aA.enc []), D.int .i64 0, D.sl aC.ks (List.map aC.enc []), D.sl [.int .i64] (List.map (encI .i64) []), D.int .i64 0, D.sl [.int .i64] (List.map (encI .i64) []), D.bool false, D.int .i64 0, D.str ([] : Str), D.str ([] : Str), D.int .i64 0, D.bool false, D.int .i64 0, D.int .i64 0, D.str ([] : Str), D.int .i64 0, D.sl aE.ks (List.map aE.enc [])] r0.Client r0.User r0.Online r0.Conn r0.Expiry r0.Until r0.Dropped r0.Out.Limit r0.Out.Pool.Last r0.Will.Set r0.Will.Delay r0.Will.Message.Topic r0.Will.Message.Payload r0.Will.Message.Level r0.Will.Message.Retain r0.Will.Message.Priority r0.Will.Message.Expires r0.Will.Message.From r0.Will.Message.Seq (List.map aD.enc r0.Subs) (List.map aA.enc r0.Queue) (List.map aC.enc r0.Out.Items) (List.map (encI .i64) r0.Out.Pool.Used) (List.map (encI .i64) r0.In.IDs) (List.map aE.enc r0.Will.Message.Props))) (
 alJ (C15 Γ γ50 γ51 γ52) Λ2 J p2 p3 (aB.enc p0) (aA.enc p1) [D.str ([] : Str), D.str ([] : Str), D.bool false, D.int .i64 0, D.int .i64 0, D.int .i64 0, D.int .i64 0, D.sl aD.ks (List.map aD.enc []), D.sl aA.ks (List.map aA.enc []), D.int .i64 0, D.sl aC.ks (List.map aC.enc []), D.sl [.int .i64] (List.map (encI .i64) []), D.int .i64 0, D.sl [.int .i64] (List.map (encI .i64) []), D.bool false, D.int .i64 0, D.str ([] : Str), D.str ([] : Str), D.int .i64 0, D.bool false, D.int .i64 0, D.int .i64 0, D.str ([] : Str), D.int .i64 0, D.sl aE.ks (List.map aE.enc [])] r0.Client r0.User r0.Online r0.Conn r0.Expiry r0.Until r0.Dropped r0.Out.Limit r0.Out.Pool.Last r0.Will.Set r0.Will.Delay r0.Will.Message.Topic r0.Will.Message.Payload r0.Will.Message.Level r0.Will.Message.Retain r0.Will.Message.Priority r0.Will.Message.Expires r0.Will.Message.From r0.Will.Message.Seq (List.map aD.enc r0.Subs) (List.map aA.enc r0.Queue) (List.map aC.enc r0.Out.Items) (List.map (encI .i64) r0.Out.Pool.Used) (List.map (encI .i64) r0.In.IDs) (List.map aE.enc r0.Will.Message.Props)) := by kernel_rfl
theorem auc (x2 : Int) (x3 : Int) (b0 : aB) (b1 : aA) (b2 : aB) (b3_0 : Str) (b3_1 : Str) (b3_2 : Bool) (b3_3 : Int) (b3_4 : Int) (b3_5 : Int) (b3_6 : Int) (b3_9 : Int) (b3_12 : Int) (b3_14 : Bool) (b3_15 : Int) (b3_16 : Str) (b3_17 : Str) (b3_18 : Int) (b3_19 : Bool) (b3_20 : Int) (b3_21 : Int) (b3_22 : Str) (b3_23 : Int) (w50307 : (List aD)) (w50308 : (List aA)) (w50310 : (List aC)) (w50311 : (List Int)) (w50313 : (List Int)) (w50324 : (List aE)) : cB SE (C15 Γ γ50 γ51 γ52) Λ2 J 15 0 [1, 1, 1, 0] (bB [(2, .d (.int .i64 x2)), (3, .d (.int .i64 x3)), (4, .ptr 1000000000 0), (5, .ptr 1000000001 0), (8, .ptr 1000000002 0), (10, .ptr 1000000003 0)] [⟨38, (List.map AV.d (aB.enc b0))⟩, ⟨34, (List.map AV.d (aA.enc b1))⟩, ⟨38, (List.map AV.d (aB.enc b2))⟩, ⟨38, [.d (.str b3_0), .d (.str b3_1), .d (.bool b3_2), .d (.int .i64 b3_3), .d (.int .i64 b3_4), .d (.int .i64 b3_5), .d (.int .i64 b3_6), .row 50307, .row 50308, .d (.int .i64 b3_9), .row 50310, .row 50311, .d (.int .i64 b3_12), .row 50313, .d (.bool b3_14), .d (.int .i64 b3_15), .d (.str b3_16), .d (.str b3_17), .d (.int .i64 b3_18), .d (.bool b3_19), .d (.int .i64 b3_20), .d (.int .i64 b3_21), .d (.str b3_22), .d (.int .i64 b3_23), .row 50324]⟩] [] [] [(50307, ⟨aD.ks, 60, 32, (List.map aD.enc w50307)⟩), (50308, ⟨aA.ks, 34, 112, (List.map aA.enc w50308)⟩), (50310, ⟨aC.ks, 122, 128, (List.map aC.enc w50310)⟩), (50311, ⟨[.int .i64], 3, 8, (List.map (encI .i64) w50311)⟩), (50313, ⟨[.int .i64], 3, 8, (List.map (encI .i64) w50313)⟩), (50324, ⟨aE.ks, 130, 32, (List.map aE.enc w50324)⟩)]) =
 γ52 [.d (.sl aA.ks (List.map aA.enc w50308)), aA.av b1, .d (.int .i64 (if 256 < x2 then 256 else x2)), .d (.int .i64 x3)] [] [] fun r2 =>
 γ51 [aB.av (aB.mk b3_0 b3_1 b3_2 b3_3 b3_4 b3_5 b3_6 w50307 r2.1 (aG.mk b3_9 w50310 (aJ.mk w50311 b3_12)) (aR.mk w50313) (aN.mk b3_14 b3_15 (aA.mk b3_16 b3_17 b3_18 b3_19 b3_20 b3_21 b3_22 b3_23 w50324))), .d (.int .i64 (List.length (List.map aA.enc r2.2.1) : Int))] [] [] fun r3 =>
 cond r2.2.2 (
 (some (.ret [aB.av r3, .d (.bool b0.Online)] [] []))) (
 (some (.ret [aB.av r3, .d (.bool false)] [] []))) := by kernel_rfl
end
abbrev X15 : aP := C15 gG (cT 50 bM) (cT 51 dI) (cT 52 jV)
theorem aqV : X15 = aQ gG := by unfold X15 C15; rw [aK fun _ h => h, aK fun _ h => h, aK fun _ h => h]
noncomputable abbrev at5 (a0 : Int) (a1 : Int) (a2 : (List D)) (a3 : (List D)) (a4 : (List D)) (a5 : Str) (a6 : Str) (a7 : Bool) (a8 : Int) (a9 : Int) (a10 : Int) (a11 : Int) (a12 : Int) (a13 : Int) (a14 : Bool) (a15 : Int) (a16 : Str) (a17 : Str) (a18 : Int) (a19 : Bool) (a20 : Int) (a21 : Int) (a22 : Str) (a23 : Int) (a24 : (List (List D))) (a25 : (List (List D))) (a26 : (List (List D))) (a27 : (List (List D))) (a28 : (List (List D))) (a29 : (List (List D))) : Res := alJ X15 (bV SE gG (SE.hl 15) (SE.hr 15)) (J0 SE X15) a0 a1 a2 a3 a4 a5 a6 a7 a8 a9 a10 a11 a12 a13 a14 a15 a16 a17 a18 a19 a20 a21 a22 a23 a24 a25 a26 a27 a28 a29
theorem oD (x2 : Int) (x3 : Int) (b0 : aB) (b1 : aA) (b2 : aB) (b3_0 : Str) (b3_1 : Str) (b3_2 : Bool) (b3_3 : Int) (b3_4 : Int) (b3_5 : Int) (b3_6 : Int) (b3_9 : Int) (b3_12 : Int) (b3_14 : Bool) (b3_15 : Int) (b3_16 : Str) (b3_17 : Str) (b3_18 : Int) (b3_19 : Bool) (b3_20 : Int) (b3_21 : Int) (b3_22 : Str) (b3_23 : Int) (w50307 : (List aD)) (w50308 : (List aA)) (w50310 : (List aC)) (w50311 : (List Int)) (w50313 : (List Int)) (w50324 : (List aE)) : Le (Option.map jG (qH x2 x3 b0 b1 b2 b3_0 b3_1 b3_2 b3_3 b3_4 b3_5 b3_6 b3_9 b3_12 b3_14 b3_15 b3_16 b3_17 b3_18 b3_19 b3_20 b3_21 b3_22 b3_23 w50307 w50308 w50310 w50311 w50313 w50324)) (at5 x2 x3 (aB.enc b0) (aA.enc b1) (aB.enc b2) b3_0 b3_1 b3_2 b3_3 b3_4 b3_5 b3_6 b3_9 b3_12 b3_14 b3_15 b3_16 b3_17 b3_18 b3_19 b3_20 b3_21 b3_22 b3_23 (List.map aD.enc w50307) (List.map aA.enc w50308) (List.map aC.enc w50310) (List.map (encI .i64) w50311) (List.map (encI .i64) w50313) (List.map aE.enc w50324)) := by
 refine Le.trans ?_ (le_of_eq ((bC aqV).trans (auc _ _ _ _ _ _  x2 x3 b0 b1 b2 b3_0 b3_1 b3_2 b3_3 b3_4 b3_5 b3_6 b3_9 b3_12 b3_14 b3_15 b3_16 b3_17 b3_18 b3_19 b3_20 b3_21 b3_22 b3_23 w50307 w50308 w50310 w50311 w50313 w50324)).symm)
 unfold qH
 refine aM (good := good) eX ai0 (ajv _ _ _ _) fun r2 _ => ?_
 refine aM (good := good) eX n9 (by first | (simp only [EN]; exact j4 ((aB.mk b3_0 b3_1 b3_2 b3_3 b3_4 b3_5 b3_6 w50307 r2.1 (aG.mk b3_9 w50310 (aJ.mk w50311 b3_12)) (aR.mk w50313) (aN.mk b3_14 b3_15 (aA.mk b3_16 b3_17 b3_18 b3_19 b3_20 b3_21 b3_22 b3_23 w50324)))) (List.length r2.2.1 : Int)) | exact j4 ((aB.mk b3_0 b3_1 b3_2 b3_3 b3_4 b3_5 b3_6 w50307 r2.1 (aG.mk b3_9 w50310 (aJ.mk w50311 b3_12)) (aR.mk w50313) (aN.mk b3_14 b3_15 (aA.mk b3_16 b3_17 b3_18 b3_19 b3_20 b3_21 b3_22 b3_23 w50324)))) (List.length r2.2.1 : Int)) fun r3 _ => ?_
 refine lC ?_ ?_
 ·exact aI rfl
 ·exact aI rfl
theorem qM (p0 : aB) (p1 : aA) (p2 : Int) (p3 : Int) : Le (Option.map jG (tP p0 p1 p2 p3)) (aZ SE 15 [aB.av p0, aA.av p1, .d (.int .i64 p2), .d (.int .i64 p3)] [] []) := by
 refine aS aqV rfl ?_
 refine Le.trans ?_ (le_of_eq (T15 _ _ _ _ _ _  p0 p1 p2 p3).symm)
 unfold tP
 refine aM (good := good) eX gP (iK _) fun r0 _ => ?_
 refine lC ?_ ?_
 ·refine lC ?_ ?_
  ·refine aM (good := good) eX n9 (j4 _ _) fun r1 _ => ?_
   exact aI rfl
  ·first | (simp only [EN]; exact oD p2 p3 p0 p1 ((aB.mk ([] : Str) ([] : Str) false 0 0 0 0 ([] : List aD) ([] : List aA) (aG.mk 0 ([] : List aC) (aJ.mk ([] : List Int) 0)) (aR.mk ([] : List Int)) (aN.mk false 0 (aA.mk ([] : Str) ([] : Str) 0 false 0 0 ([] : Str) 0 ([] : List aE))))) r0.Client r0.User r0.Online r0.Conn r0.Expiry r0.Until r0.Dropped r0.Out.Limit r0.Out.Pool.Last r0.Will.Set r0.Will.Delay r0.Will.Message.Topic r0.Will.Message.Payload r0.Will.Message.Level r0.Will.Message.Retain r0.Will.Message.Priority r0.Will.Message.Expires r0.Will.Message.From r0.Will.Message.Seq r0.Subs r0.Queue r0.Out.Items r0.Out.Pool.Used r0.In.IDs r0.Will.Message.Props) | exact oD p2 p3 p0 p1 ((aB.mk ([] : Str) ([] : Str) false 0 0 0 0 ([] : List aD) ([] : List aA) (aG.mk 0 ([] : List aC) (aJ.mk ([] : List Int) 0)) (aR.mk ([] : List Int)) (aN.mk false 0 (aA.mk ([] : Str) ([] : Str) 0 false 0 0 ([] : Str) 0 ([] : List aE))))) r0.Client r0.User r0.Online r0.Conn r0.Expiry r0.Until r0.Dropped r0.Out.Limit r0.Out.Pool.Last r0.Will.Set r0.Will.Delay r0.Will.Message.Topic r0.Will.Message.Payload r0.Will.Message.Level r0.Will.Message.Retain r0.Will.Message.Priority r0.Will.Message.Expires r0.Will.Message.From r0.Will.Message.Seq r0.Subs r0.Queue r0.Out.Items r0.Out.Pool.Used r0.In.IDs r0.Will.Message.Props
 ·first | (simp only [EN]; exact oD p2 p3 p0 p1 ((aB.mk ([] : Str) ([] : Str) false 0 0 0 0 ([] : List aD) ([] : List aA) (aG.mk 0 ([] : List aC) (aJ.mk ([] : List Int) 0)) (aR.mk ([] : List Int)) (aN.mk false 0 (aA.mk ([] : Str) ([] : Str) 0 false 0 0 ([] : Str) 0 ([] : List aE))))) r0.Client r0.User r0.Online r0.Conn r0.Expiry r0.Until r0.Dropped r0.Out.Limit r0.Out.Pool.Last r0.Will.Set r0.Will.Delay r0.Will.Message.Topic r0.Will.Message.Payload r0.Will.Message.Level r0.Will.Message.Retain r0.Will.Message.Priority r0.Will.Message.Expires r0.Will.Message.From r0.Will.Message.Seq r0.Subs r0.Queue r0.Out.Items r0.Out.Pool.Used r0.In.IDs r0.Will.Message.Props) | exact oD p2 p3 p0 p1 ((aB.mk ([] : Str) ([] : Str) false 0 0 0 0 ([] : List aD) ([] : List aA) (aG.mk 0 ([] : List aC) (aJ.mk ([] : List Int) 0)) (aR.mk ([] : List Int)) (aN.mk false 0 (aA.mk ([] : Str) ([] : Str) 0 false 0 0 ([] : Str) 0 ([] : List aE))))) r0.Client r0.User r0.Online r0.Conn r0.Expiry r0.Until r0.Dropped r0.Out.Limit r0.Out.Pool.Last r0.Will.Set r0.Will.Delay r0.Will.Message.Topic r0.Will.Message.Payload r0.Will.Message.Level r0.Will.Message.Retain r0.Will.Message.Priority r0.Will.Message.Expires r0.Will.Message.From r0.Will.Message.Seq r0.Subs r0.Queue r0.Out.Items r0.Out.Pool.Used r0.In.IDs r0.Will.Message.Props
section
variable (Γ : Fun)  (Λ2 J : Lam)
def asg : aP := aQ Γ
theorem avx (p0 : aA) (p1 : Int) : bD SE (asg Γ) Λ2 J 113 [aA.av p0, .d (.int .i64 p1)] [] [] =
 cond (p0.Expires != 0) (
 (some (.ret [.d (.bool (decide (p1 ≥ p0.Expires)))] [] []))) (
 (some (.ret [.d (.bool false)] [] []))) := by kernel_rfl
end
abbrev awz : aP := asg gG
theorem auF : awz = aQ gG := rfl
theorem xI (p0 : aA) (p1 : Int) : Le (Option.map jS (uX p0 p1)) (aZ SE 113 [aA.av p0, .d (.int .i64 p1)] [] []) := by
 refine aS auF rfl ?_
 refine Le.trans ?_ (le_of_eq (avx _ _ _  p0 p1).symm)
 unfold uX
 refine lC ?_ ?_
 ·exact aI rfl
 ·exact aI rfl
section
variable (Γ : Fun)  (Λ2 J : Lam)
def ar3 : aP := aQ Γ
theorem avN (p0 : aG) : bD SE (ar3 Γ) Λ2 J 156 [aG.av p0] [] [] =
 (some (.ret [.d (.int .i64 (if 0 > (IntKind.wrap .i64 (p0.Limit - (List.length (List.map aC.enc p0.Items) : Int))) then 0 else (IntKind.wrap .i64 (p0.Limit - (List.length (List.map aC.enc p0.Items) : Int)))))] [] [])) := by kernel_rfl
end
abbrev au8 : aP := ar3 gG
theorem atx : au8 = aQ gG := rfl
theorem afV (p0 : aG) : Le (Option.map jD (yG p0)) (aZ SE 156 [aG.av p0] [] []) := by
 refine aS atx rfl ?_
 refine Le.trans ?_ (le_of_eq (avN _ _ _  p0).symm)
 unfold yG
 exact aI (by first | rfl | simp only [EN, jD] <;> rfl)
def aj3 (C : aP) (Λ2 J : Lam) (a0 : Str) (a1 : Nat) : Res := lab SE C Λ2 J 169 0 [1, 1, 0, 1, 0] (bB [(9, .it 4000)] [] [] [(4000, (a0, a1))] [])
section
variable (Γ : Fun) (γ161 : Gm (Bool)) (Λ2 J : Lam)
def ahF : aP := bA (aQ Γ) 161 fR γ161
theorem avX (p0 : Str) : bD SE (ahF Γ γ161) Λ2 J 169 [.d (.str p0)] [] [] =
 γ161 [.d (.str p0)] [] [] fun r0 =>
 cond (!r0) (
 (some (.ret [.d (.bool false)] [] []))) (
 aj3 (ahF Γ γ161) Λ2 J p0 0) := by kernel_rfl
theorem asb (s4000 : Str) (i4000 : Nat) : cB SE (ahF Γ γ161) Λ2 J 169 0 [1, 1, 0, 1, 0] (bB [(9, .it 4000)] [] [] [(4000, (s4000, i4000))] []) =
 cond (decide (i4000 < List.length s4000)) (
 cond (((dec s4000 i4000).1 : Int) == 43) (
  (some (.ret [.d (.bool false)] [] []))) (
 cond (((dec s4000 i4000).1 : Int) == 35) (
  (some (.ret [.d (.bool false)] [] []))) (
 aj3 (ahF Γ γ161) Λ2 J s4000 (i4000 + (dec s4000 i4000).2)))) (
 (some (.ret [.d (.bool true)] [] []))) := by kernel_rfl
end
abbrev alO : aP := ahF gG (cT 161 fR)
theorem apI : alO = aQ gG := by unfold alO ahF; rw [aK fun _ h => h]
noncomputable abbrev arf (a0 : Str) (a1 : Nat) : Res := aj3 alO (bV SE gG (SE.hl 169) (SE.hr 169)) (J0 SE alO) a0 a1
theorem afo : ∀ (fu : Nat) (s4000 : Str) (i4000 : Nat), Le (Option.map kQ (sW fu s4000 i4000)) (arf s4000 i4000) := by
 intro fu
 induction fu with
 | zero => intros; exact le_none
 | succ fu ih =>
  intro s4000 i4000
  refine Le.trans ?_ (le_of_eq ((bC apI).trans (asb _ _ _ _  s4000 i4000)).symm)
  unfold sW
  refine lC ?_ ?_
  ·refine lC ?_ ?_
   ·exact aI rfl
   ·refine lC ?_ ?_
    ·exact aI rfl
    ·exact ih s4000 (i4000 + (dec s4000 i4000).2)
  ·exact aI rfl
theorem ahD (p0 : Str) : Le (Option.map kQ (abo p0)) (aZ SE 169 [.d (.str p0)] [] []) := by
 refine aS apI rfl ?_
 refine Le.trans ?_ (le_of_eq (avX _ _ _ _  p0).symm)
 unfold abo
 refine aM (good := good) eX aa6 (acu _) fun r0 _ => ?_
 refine lC ?_ ?_
 ·exact aI rfl
 ·exact afo fuel p0 0
section
variable (Γ : Fun)  (Λ2 J : Lam)
def aqm : aP := aQ Γ
theorem avF (p0 : Int) (p1 : Int) : bD SE (aqm Γ) Λ2 J 170 [.d (.int .i64 p0), .d (.int .i64 p1)] [] [] =
 cond (decide (p0 ≥ 0)) (
 (some (.ret [.d (.bool (decide (p0 ≤ p1)))] [] []))) (
 (some (.ret [.d (.bool false)] [] []))) := by kernel_rfl
end
abbrev awx : aP := aqm gG
theorem atp : awx = aQ gG := rfl
theorem qS (p0 : Int) (p1 : Int) : Le (Option.map nP (qC p0 p1)) (aZ SE 170 [.d (.int .i64 p0), .d (.int .i64 p1)] [] []) := by
 refine aS atp rfl ?_
 refine Le.trans ?_ (le_of_eq (avF _ _ _  p0 p1).symm)
 unfold qC
 refine lC ?_ ?_
 ·exact aI rfl
 ·exact aI rfl
def uV (C : aP) (Λ2 J : Lam) (a0 : Str) (a1 : Int) : Res := lab SE C Λ2 J 184 0 [1, 1, 0, 1, 0] (bB [(0, .d (.str a0)), (3, .d (.int .i64 a1))] [] [] [] [])
def am5 (C : aP) (Λ2 J : Lam) (a0 : Str) : Res := lab SE C Λ2 J 184 0 [1, 1, 0, 0] (bB [(0, .d (.str a0))] [] [] [] [])
section
variable (Γ : Fun)  (Λ2 J : Lam)
def wQ : aP := aQ Γ
theorem awd (p0 : Str) : bD SE (wQ Γ) Λ2 J 184 [.d (.str p0)] [] [] =
 cond (decide ((List.length p0 : Int) < 1)) (
 (some (.ret [.d (.bool false)] [] []))) (
 cond (decide ((List.length p0 : Int) > 16)) (
 (some (.ret [.d (.bool false)] [] []))) (
 am5 (wQ Γ) Λ2 J p0)) := by kernel_rfl
theorem arU (x0 : Str) (x3 : Int) : cB SE (wQ Γ) Λ2 J 184 0 [1, 1, 0, 1, 0] (bB [(0, .d (.str x0)), (3, .d (.int .i64 x3))] [] [] [] []) =
 cond (decide (x3 < (List.length x0 : Int))) (
 cond (decide (0 ≤ x3) && decide (x3 < (List.length x0 : Int))) (
  cond (decide ((UInt8.toNat (List.getD x0 (Int.toNat x3) 0) : Int) < 97)) (
  cond (decide ((UInt8.toNat (List.getD x0 (Int.toNat x3) 0) : Int) < 48)) (
   cond ((UInt8.toNat (List.getD x0 (Int.toNat x3) 0) : Int) != 45) (
   (some (.ret [.d (.bool false)] [] []))) (
   uV (wQ Γ) Λ2 J x0 (IntKind.wrap .i64 (x3 + 1)))) (
  cond (decide ((UInt8.toNat (List.getD x0 (Int.toNat x3) 0) : Int) > 57)) (
   cond ((UInt8.toNat (List.getD x0 (Int.toNat x3) 0) : Int) != 45) (
   (some (.ret [.d (.bool false)] [] []))) (
   uV (wQ Γ) Λ2 J x0 (IntKind.wrap .i64 (x3 + 1)))) (
  uV (wQ Γ) Λ2 J x0 (IntKind.wrap .i64 (x3 + 1))))) (
  cond (decide ((UInt8.toNat (List.getD x0 (Int.toNat x3) 0) : Int) > 122)) (
  cond (decide ((UInt8.toNat (List.getD x0 (Int.toNat x3) 0) : Int) < 48)) (
   cond ((UInt8.toNat (List.getD x0 (Int.toNat x3) 0) : Int) != 45) (
   (some (.ret [.d (.bool false)] [] []))) (
   uV (wQ Γ) Λ2 J x0 (IntKind.wrap .i64 (x3 + 1)))) (
  cond (decide ((UInt8.toNat (List.getD x0 (Int.toNat x3) 0) : Int) > 57)) (
   cond ((UInt8.toNat (List.getD x0 (Int.toNat x3) 0) : Int) != 45) (
   (some (.ret [.d (.bool false)] [] []))) (
   uV (wQ Γ) Λ2 J x0 (IntKind.wrap .i64 (x3 + 1)))) (
  uV (wQ Γ) Λ2 J x0 (IntKind.wrap .i64 (x3 + 1))))) (
  uV (wQ Γ) Λ2 J x0 (IntKind.wrap .i64 (x3 + 1))))) none) (
 (some (.ret [.d (.bool true)] [] []))) := by kernel_rfl
theorem aqn (x0 : Str) : cB SE (wQ Γ) Λ2 J 184 0 [1, 1, 0, 0] (bB [(0, .d (.str x0))] [] [] [] []) =
 uV (wQ Γ) Λ2 J x0 0 := by kernel_rfl
end
abbrev akD : aP := wQ gG
theorem alI : akD = aQ gG := rfl
noncomputable abbrev arn (a0 : Str) (a1 : Int) : Res := uV akD (bV SE gG (SE.hl 184) (SE.hr 184)) (J0 SE akD) a0 a1
noncomputable abbrev arp (a0 : Str) : Res := am5 akD (bV SE gG (SE.hl 184) (SE.hr 184)) (J0 SE akD) a0
theorem afw : ∀ (fu : Nat) (x0 : Str) (x3 : Int), Le (Option.map jK (gN fu x0 x3)) (arn x0 x3) := by
 intro fu
 induction fu with
 | zero => intros; exact le_none
 | succ fu ih =>
  intro x0 x3
  refine Le.trans ?_ (le_of_eq ((bC alI).trans (arU _ _ _  x0 x3)).symm)
  unfold gN
  refine lC ?_ ?_
  ·refine lF ?_
   refine lC ?_ ?_
   ·refine lC ?_ ?_
    ·refine lC ?_ ?_
     ·exact aI rfl
     ·exact ih x0 (IntKind.wrap .i64 (x3 + 1))
    ·refine lC ?_ ?_
     ·refine lC ?_ ?_
      ·exact aI rfl
      ·exact ih x0 (IntKind.wrap .i64 (x3 + 1))
     ·exact ih x0 (IntKind.wrap .i64 (x3 + 1))
   ·refine lC ?_ ?_
    ·refine lC ?_ ?_
     ·refine lC ?_ ?_
      ·exact aI rfl
      ·exact ih x0 (IntKind.wrap .i64 (x3 + 1))
     ·refine lC ?_ ?_
      ·refine lC ?_ ?_
       ·exact aI rfl
       ·exact ih x0 (IntKind.wrap .i64 (x3 + 1))
      ·exact ih x0 (IntKind.wrap .i64 (x3 + 1))
    ·exact ih x0 (IntKind.wrap .i64 (x3 + 1))
  ·exact aI rfl
theorem afr (x0 : Str) : Le (Option.map jK (wC x0)) (arp x0) := by
 refine Le.trans ?_ (le_of_eq ((bC alI).trans (aqn _ _ _  x0)).symm)
 unfold wC
 exact afw fuel x0 0
theorem aca (p0 : Str) : Le (Option.map jK (abl p0)) (aZ SE 184 [.d (.str p0)] [] []) := by
 refine aS alI rfl ?_
 refine Le.trans ?_ (le_of_eq (awd _ _ _  p0).symm)
 unfold abl
 refine lC ?_ ?_
 ·exact aI rfl
 ·refine lC ?_ ?_
  ·exact aI rfl
  ·exact afr p0
def ag8 (C : aP) (Λ2 J : Lam) (a0 : (List (List D))) (a1 : (List (List D))) (a2 : Int) (a3 : Int) : Res := lab SE C Λ2 J 171 0 [1, 1, 0, 1, 0] (bB [(0, .d (.sl aE.ks a0)), (8, .d (.sl aE.ks a1)), (9, .d (.int .i64 a2)), (10, .d (.int .i64 a3))] [] [] [] [])
section
variable (Γ : Fun) (γ184 : Gm (Bool)) (Λ2 J : Lam)
def agn : aP := bA (aQ Γ) 184 jK γ184
theorem awA (p0 : (List aE)) : bD SE (agn Γ γ184) Λ2 J 171 [.d (.sl aE.ks (List.map aE.enc p0))] [] [] =
 cond (decide ((List.length (List.map aE.enc p0) : Int) > 8)) (
 (some (.ret [.d (.int .i64 5)] [] []))) (
 ag8 (agn Γ γ184) Λ2 J (List.map aE.enc p0) (List.map aE.enc p0) (List.length (List.map aE.enc p0) : Int) 0) := by kernel_rfl
theorem aqt (x0 : (List aE)) (x8 : (List aE)) (x9 : Int) (x10 : Int) : cB SE (agn Γ γ184) Λ2 J 171 0 [1, 1, 0, 1, 0] (bB [(0, .d (.sl aE.ks (List.map aE.enc x0))), (8, .d (.sl aE.ks (List.map aE.enc x8))), (9, .d (.int .i64 x9)), (10, .d (.int .i64 x10))] [] [] [] []) =
 cond (decide (x10 < x9)) (
 cond (decide (0 ≤ x10) && decide (x10 < (List.length (List.map aE.enc x8) : Int))) (
  γ184 [.d (.str (aU (cellAt (elemAt (List.map aE.enc x8) (Int.toNat x10)) 0)))] [] [] fun r0 =>
  cond (!r0) (
  (some (.ret [.d (.int .i64 16)] [] []))) (
  cond (decide ((List.length (aU (cellAt (elemAt (List.map aE.enc x8) (Int.toNat x10)) 1)) : Int) > 160)) (
  (some (.ret [.d (.int .i64 5)] [] []))) (
  cond (decide (x10 > 0)) (
  cond (decide (0 ≤ (IntKind.wrap .i64 (x10 - 1))) && decide ((IntKind.wrap .i64 (x10 - 1)) < (List.length (List.map aE.enc x0) : Int))) (
   cond (Op.bytesLess (aU (cellAt (elemAt (List.map aE.enc x8) (Int.toNat x10)) 0)) (aU (cellAt (elemAt (List.map aE.enc x0) (Int.toNat (IntKind.wrap .i64 (x10 - 1)))) 0)) || (aU (cellAt (elemAt (List.map aE.enc x8) (Int.toNat x10)) 0)) == (aU (cellAt (elemAt (List.map aE.enc x0) (Int.toNat (IntKind.wrap .i64 (x10 - 1)))) 0))) (
   (some (.ret [.d (.int .i64 16)] [] []))) (
   ag8 (agn Γ γ184) Λ2 J (List.map aE.enc x0) (List.map aE.enc x8) x9 (IntKind.wrap .i64 (x10 + 1)))) none) (
  ag8 (agn Γ γ184) Λ2 J (List.map aE.enc x0) (List.map aE.enc x8) x9 (IntKind.wrap .i64 (x10 + 1)))))) none) (
 (some (.ret [.d (.int .i64 0)] [] []))) := by kernel_rfl
end
abbrev amr : aP := agn gG (cT 184 jK)
theorem apx : amr = aQ gG := by unfold amr agn; rw [aK fun _ h => h]
noncomputable abbrev asO (a0 : (List (List D))) (a1 : (List (List D))) (a2 : Int) (a3 : Int) : Res := ag8 amr (bV SE gG (SE.hl 171) (SE.hr 171)) (J0 SE amr) a0 a1 a2 a3
theorem v8 : ∀ (fu : Nat) (x0 : (List aE)) (x8 : (List aE)) (x9 : Int) (x10 : Int), Le (Option.map jF (n8 fu x0 x8 x9 x10)) (asO (List.map aE.enc x0) (List.map aE.enc x8) x9 x10) := by
 intro fu
 induction fu with
 | zero => intros; exact le_none
 | succ fu ih =>
  intro x0 x8 x9 x10
  refine Le.trans ?_ (le_of_eq ((bC apx).trans (aqt _ _ _ _  x0 x8 x9 x10)).symm)
  unfold n8
  refine lC ?_ ?_
  ·refine lG (by simp only [EN]) ?_
   refine aM (good := good) eX ahy (by first | (simp only [EN]; exact aca ((List.getD x8 (Int.toNat x10) default).Key)) | exact aca ((List.getD x8 (Int.toNat x10) default).Key)) fun r0 _ => ?_
   refine lC ?_ ?_
   ·exact aI rfl
   ·refine lD (by simp only [EN]) ?_ ?_
    ·exact aI rfl
    ·refine lC ?_ ?_
     ·refine lG (by simp only [EN]) ?_
      refine lD (by simp only [EN]) ?_ ?_
      ·exact aI rfl
      ·exact ih x0 x8 x9 (IntKind.wrap .i64 (x10 + 1))
     ·exact ih x0 x8 x9 (IntKind.wrap .i64 (x10 + 1))
  ·exact aI rfl
theorem aag (p0 : (List aE)) : Le (Option.map jF (tR p0)) (aZ SE 171 [.d (.sl aE.ks (List.map aE.enc p0))] [] []) := by
 refine aS apx rfl ?_
 refine Le.trans ?_ (le_of_eq (awA _ _ _ _  p0).symm)
 unfold tR
 refine lD (by simp only [EN]) ?_ ?_
 ·exact aI rfl
 ·first | (simp only [EN]; exact v8 fuel p0 p0 (List.length p0 : Int) 0) | exact v8 fuel p0 p0 (List.length p0 : Int) 0
section
variable (Γ : Fun) (γ169 : Gm (Bool)) (γ170 : Gm (Bool)) (γ139 : Gm (Bool)) (γ171 : Gm (Int)) (Λ2 J : Lam)
def aow : aP := bA (bA (bA (bA (aQ Γ) 169 kQ γ169) 170 nP γ170) 139 eO γ139) 171 jF γ171
theorem avi (p0 : aA) : bD SE (aow Γ γ169 γ170 γ139 γ171) Λ2 J 141 [aA.av p0] [] [] =
 γ169 [.d (.str p0.Topic)] [] [] fun r0 =>
 cond (!r0) (
 (some (.ret [.d (.int .i64 12)] [] []))) (
 cond (decide ((List.length p0.Payload : Int) > 256)) (
 (some (.ret [.d (.int .i64 5)] [] []))) (
 γ170 [.d (.int .i64 p0.Level), .d (.int .i64 2)] [] [] fun r1 =>
 cond (!r1) (
 (some (.ret [.d (.int .i64 14)] [] []))) (
 γ170 [.d (.int .i64 p0.Priority), .d (.int .i64 9)] [] [] fun r2 =>
 cond (!r2) (
 (some (.ret [.d (.int .i64 1)] [] []))) (
 γ170 [.d (.int .i64 p0.Expires), .d (.int .i64 1099511627776)] [] [] fun r3 =>
 cond (!r3) (
 (some (.ret [.d (.int .i64 1)] [] []))) (
 cond (!(p0.From == ([] : Str))) (
 γ139 [.d (.str p0.From)] [] [] fun r4 =>
 cond (!r4) (
  (some (.ret [.d (.int .i64 11)] [] []))) (
 γ170 [.d (.int .i64 p0.Seq), .d (.int .i64 1099511627776)] [] [] fun r5 =>
 cond (!r5) (
  (some (.ret [.d (.int .i64 1)] [] []))) (
 γ171 [.d (.sl aE.ks (List.map aE.enc p0.Props))] [] [] fun r6 =>
 (some (.ret [.d (.int .i64 r6)] [] []))))) (
 γ170 [.d (.int .i64 p0.Seq), .d (.int .i64 1099511627776)] [] [] fun r7 =>
 cond (!r7) (
 (some (.ret [.d (.int .i64 1)] [] []))) (
 γ171 [.d (.sl aE.ks (List.map aE.enc p0.Props))] [] [] fun r8 =>
 (some (.ret [.d (.int .i64 r8)] [] []))))))))) := by kernel_rfl
end
abbrev aqv : aP := aow gG (cT 169 kQ) (cT 170 nP) (cT 139 eO) (cT 171 jF)
theorem auV : aqv = aQ gG := by unfold aqv aow; rw [aK fun _ h => h, aK fun _ h => h, aK fun _ h => h, aK fun _ h => h]
theorem agb (p0 : aA) : Le (Option.map k7 (xZ p0)) (aZ SE 141 [aA.av p0] [] []) := by
 refine aS auV rfl ?_
 refine Le.trans ?_ (le_of_eq (avi _ _ _ _ _ _ _  p0).symm)
 unfold xZ
 refine aM (good := good) eX ag6 (ahD _) fun r0 _ => ?_
 refine lC ?_ ?_
 ·exact aI rfl
 ·refine lC ?_ ?_
  ·exact aI rfl
  ·refine aM (good := good) eX pQ (qS _ _) fun r1 _ => ?_
   refine lC ?_ ?_
   ·exact aI rfl
   ·refine aM (good := good) eX pQ (qS _ _) fun r2 _ => ?_
    refine lC ?_ ?_
    ·exact aI rfl
    ·refine aM (good := good) eX pQ (qS _ _) fun r3 _ => ?_
     refine lC ?_ ?_
     ·exact aI rfl
     ·refine lC ?_ ?_
      ·refine aM (good := good) eX abT (adD _) fun r4 _ => ?_
       refine lC ?_ ?_
       ·exact aI rfl
       ·refine aM (good := good) eX pQ (qS _ _) fun r5 _ => ?_
        refine lC ?_ ?_
        ·exact aI rfl
        ·refine aM (good := good) eX yT (aag _) fun r6 _ => ?_
         exact aI rfl
      ·refine aM (good := good) eX pQ (qS _ _) fun r7 _ => ?_
       refine lC ?_ ?_
       ·exact aI rfl
       ·refine aM (good := good) eX yT (aag _) fun r8 _ => ?_
        exact aI rfl
section
variable (Γ : Fun)  (Λ2 J : Lam)
def aq6 : aP := aQ Γ
theorem avq (p0 : Int) : bD SE (aq6 Γ) Λ2 J 177 [.d (.int .i64 p0)] [] [] =
 (some (.ret [.d (.int .i64 (IntKind.wrap .i64 ((Int.tmod p0 65535) + 1)))] [] [])) := by kernel_rfl
end
abbrev awE : aP := aq6 gG
theorem ata : awE = aQ gG := rfl
theorem aiX (p0 : Int) : Le (Option.map nO (acG p0)) (aZ SE 177 [.d (.int .i64 p0)] [] []) := by
 refine aS ata rfl ?_
 refine Le.trans ?_ (le_of_eq (avq _ _ _  p0).symm)
 unfold acG
 exact aI rfl
section
variable (Γ : Fun)  (Λ2 J : Lam)
def ar5 : aP := aQ Γ
theorem aws (p0 : Int) : bD SE (ar5 Γ) Λ2 J 191 [.d (.int .i64 p0)] [] [] =
 (some (.ret [.d (.bool (p0 != p0))] [] [])) := by kernel_rfl
end
abbrev avo : aP := ar5 gG
theorem atr : avo = aQ gG := rfl
theorem yP (p0 : Int) : Le (Option.map kB (sX p0)) (aZ SE 191 [.d (.int .i64 p0)] [] []) := by
 refine aS atr rfl ?_
 refine Le.trans ?_ (le_of_eq (aws _ _ _  p0).symm)
 unfold sX
 exact aI rfl
section
variable (Γ : Fun) (γ191 : Gm (Bool)) (Λ2 J : Lam)
def aoQ : aP := bA (aQ Γ) 191 kB γ191
theorem awp (p0 : Int) (p1 : Int) : bD SE (aoQ Γ γ191) Λ2 J 185 [.d (.int .i64 p0), .d (.int .i64 p1)] [] [] =
 γ191 [.d (.int .i64 p0)] [] [] fun r0 =>
 cond r0 (
 γ191 [.d (.int .i64 p1)] [] [] fun r1 =>
 cond (!r1) (
  (some (.ret [.d (.bool true)] [] []))) (
 (some (.ret [.d (.bool (decide (p0 < p1)))] [] [])))) (
 (some (.ret [.d (.bool (decide (p0 < p1)))] [] []))) := by kernel_rfl
end
abbrev ar1 : aP := aoQ gG (cT 191 kB)
theorem aui : ar1 = aQ gG := by unfold ar1 aoQ; rw [aK fun _ h => h]
theorem zZ (p0 : Int) (p1 : Int) : Le (Option.map kR (yH p0 p1)) (aZ SE 185 [.d (.int .i64 p0), .d (.int .i64 p1)] [] []) := by
 refine aS aui rfl ?_
 refine Le.trans ?_ (le_of_eq (awp _ _ _ _  p0 p1).symm)
 unfold yH
 refine aM (good := good) eX xD (yP _) fun r0 _ => ?_
 refine lC ?_ ?_
 ·refine aM (good := good) eX xD (yP _) fun r1 _ => ?_
  refine lC ?_ ?_
  ·exact aI rfl
  ·exact aI rfl
 ·exact aI rfl
section
variable (Γ : Fun)  (Λ2 J : Lam)
def aqT : aP := aQ Γ
theorem au4 (p0 : Int) : bD SE (aqT Γ) Λ2 J 186 [.d (.int .i64 p0)] [] [] =
 (some (.ret [.d (.bool (p0 != p0))] [] [])) := by kernel_rfl
end
abbrev awa : aP := aqT gG
theorem auw : awa = aQ gG := rfl
theorem qB (p0 : Int) : Le (Option.map hZ (pC p0)) (aZ SE 186 [.d (.int .i64 p0)] [] []) := by
 refine aS auw rfl ?_
 refine Le.trans ?_ (le_of_eq (au4 _ _ _  p0).symm)
 unfold pC
 exact aI rfl
def agA (C : aP) (Λ2 J : Lam) (a0 : (List (List D))) (a1 : Int) (a2 : Int) (a3 : Int) (a4 : Int) : Res := lab SE C Λ2 J 175 0 [1, 1, 1, 0, 0] (bB [(0, .d (.sl [.int .i64] a0)), (1, .d (.int .i64 a1)), (6, .d (.int .i64 a2)), (7, .d (.int .i64 a3)), (8, .d (.int .i64 a4))] [] [] [] [])
section
variable (Γ : Fun) (γ185 : Gm (Bool)) (γ186 : Gm (Bool)) (Λ2 J : Lam)
def agt : aP := bA (bA (aQ Γ) 185 kR γ185) 186 hZ γ186
theorem avE (p0 : (List Int)) (p1 : Int) : bD SE (agt Γ γ185 γ186) Λ2 J 175 [.d (.sl [.int .i64] (List.map (encI .i64) p0)), .d (.int .i64 p1)] [] [] =
 agA (agt Γ γ185 γ186) Λ2 J (List.map (encI .i64) p0) p1 (List.length (List.map (encI .i64) p0) : Int) 0 (List.length (List.map (encI .i64) p0) : Int) := by kernel_rfl
theorem ark (x0 : (List Int)) (x1 : Int) (x6 : Int) (x7 : Int) (x8 : Int) : cB SE (agt Γ γ185 γ186) Λ2 J 175 0 [1, 1, 1, 0, 0] (bB [(0, .d (.sl [.int .i64] (List.map (encI .i64) x0))), (1, .d (.int .i64 x1)), (6, .d (.int .i64 x6)), (7, .d (.int .i64 x7)), (8, .d (.int .i64 x8))] [] [] [] []) =
 cond (decide (x7 < x8)) (
 cond (decide (0 ≤ (IntKind.wrap .i64 (shr .u64 (IntKind.wrap .u64 (IntKind.wrap .i64 (x7 + x8))) 1))) && decide ((IntKind.wrap .i64 (shr .u64 (IntKind.wrap .u64 (IntKind.wrap .i64 (x7 + x8))) 1)) < (List.length (List.map (encI .i64) x0) : Int))) (
  γ185 [.d (.int .i64 (aL (cellAt (elemAt (List.map (encI .i64) x0) (Int.toNat (IntKind.wrap .i64 (shr .u64 (IntKind.wrap .u64 (IntKind.wrap .i64 (x7 + x8))) 1)))) 0))), .d (.int .i64 x1)] [] [] fun r0 =>
  cond r0 (
  agA (agt Γ γ185 γ186) Λ2 J (List.map (encI .i64) x0) x1 x6 (IntKind.wrap .i64 ((IntKind.wrap .i64 (shr .u64 (IntKind.wrap .u64 (IntKind.wrap .i64 (x7 + x8))) 1)) + 1)) x8) (
  agA (agt Γ γ185 γ186) Λ2 J (List.map (encI .i64) x0) x1 x6 x7 (IntKind.wrap .i64 (shr .u64 (IntKind.wrap .u64 (IntKind.wrap .i64 (x7 + x8))) 1)))) none) (
 cond (decide (x7 < x6)) (
 cond (decide (0 ≤ x7) && decide (x7 < (List.length (List.map (encI .i64) x0) : Int))) (
  cond ((aL (cellAt (elemAt (List.map (encI .i64) x0) (Int.toNat x7)) 0)) == x1) (
  (some (.ret [.d (.int .i64 x7), .d (.bool true)] [] []))) (
  cond (decide (0 ≤ x7) && decide (x7 < (List.length (List.map (encI .i64) x0) : Int))) (
  γ186 [.d (.int .i64 (aL (cellAt (elemAt (List.map (encI .i64) x0) (Int.toNat x7)) 0)))] [] [] fun r1 =>
  cond r1 (
   γ186 [.d (.int .i64 x1)] [] [] fun r2 =>
   (some (.ret [.d (.int .i64 x7), .d (.bool r2)] [] []))) (
  (some (.ret [.d (.int .i64 x7), .d (.bool false)] [] [])))) none)) none) (
 (some (.ret [.d (.int .i64 x7), .d (.bool false)] [] [])))) := by kernel_rfl
end
abbrev alm : aP := agt gG (cT 185 kR) (cT 186 hZ)
theorem apd : alm = aQ gG := by unfold alm agt; rw [aK fun _ h => h, aK fun _ h => h]
noncomputable abbrev aqU (a0 : (List (List D))) (a1 : Int) (a2 : Int) (a3 : Int) (a4 : Int) : Res := agA alm (bV SE gG (SE.hl 175) (SE.hr 175)) (J0 SE alm) a0 a1 a2 a3 a4
theorem l8 : ∀ (fu : Nat) (x0 : (List Int)) (x1 : Int) (x6 : Int) (x7 : Int) (x8 : Int), Le (Option.map bO (dR fu x0 x1 x6 x7 x8)) (aqU (List.map (encI .i64) x0) x1 x6 x7 x8) := by
 intro fu
 induction fu with
 | zero => intros; exact le_none
 | succ fu ih =>
  intro x0 x1 x6 x7 x8
  refine Le.trans ?_ (le_of_eq ((bC apd).trans (ark _ _ _ _ _  x0 x1 x6 x7 x8)).symm)
  unfold dR
  refine lC ?_ ?_
  ·refine lG (by simp only [EN]) ?_
   refine aM (good := good) eX afv (by first | (simp only [EN]; exact zZ (List.getD x0 (Int.toNat (IntKind.wrap .i64 (shr .u64 (IntKind.wrap .u64 (IntKind.wrap .i64 (x7 + x8))) 1))) default) x1) | exact zZ (List.getD x0 (Int.toNat (IntKind.wrap .i64 (shr .u64 (IntKind.wrap .u64 (IntKind.wrap .i64 (x7 + x8))) 1))) default) x1) fun r0 _ => ?_
   refine lC ?_ ?_
   ·exact ih x0 x1 x6 (IntKind.wrap .i64 ((IntKind.wrap .i64 (shr .u64 (IntKind.wrap .u64 (IntKind.wrap .i64 (x7 + x8))) 1)) + 1)) x8
   ·exact ih x0 x1 x6 x7 (IntKind.wrap .i64 (shr .u64 (IntKind.wrap .u64 (IntKind.wrap .i64 (x7 + x8))) 1))
  ·refine lC ?_ ?_
   ·refine lG (by simp only [EN]) ?_
    refine lD (by simp only [EN]) ?_ ?_
    ·exact aI rfl
    ·refine lG (by simp only [EN]) ?_
     refine aM (good := good) eX uG (by first | (simp only [EN]; exact qB (List.getD x0 (Int.toNat x7) default)) | exact qB (List.getD x0 (Int.toNat x7) default)) fun r1 _ => ?_
     refine lC ?_ ?_
     ·refine aM (good := good) eX uG (qB _) fun r2 _ => ?_
      exact aI rfl
     ·exact aI rfl
   ·exact aI rfl
theorem nM (p0 : (List Int)) (p1 : Int) : Le (Option.map bO (hH p0 p1)) (aZ SE 175 [.d (.sl [.int .i64] (List.map (encI .i64) p0)), .d (.int .i64 p1)] [] []) := by
 refine aS apd rfl ?_
 refine Le.trans ?_ (le_of_eq (avE _ _ _ _ _  p0 p1).symm)
 unfold hH
 first | (simp only [EN]; exact l8 fuel p0 p1 (List.length p0 : Int) 0 (List.length p0 : Int)) | exact l8 fuel p0 p1 (List.length p0 : Int) 0 (List.length p0 : Int)
theorem xG (p0 : (List Int)) (p1 : Int) (p2 : (List Int)) : Le (Option.map dS (rQ p0 p1 p2)) (aZ SE 178 [.row 2000000000, .d (.int .i64 p1), .row 2000000001] [] [⟨[.int .i64], 3, 8, (List.map (encI .i64) p0)⟩, ⟨[.int .i64], 3, 8, (List.map (encI .i64) p2)⟩]) := aiI (f := 178) (enc := (encI .i64)) rfl rfl p0 p1 p2
def akv (C : aP) (Λ2 J : Lam) (a0 : Int) (a1 : Int) (a2 : Int) (a3 : (List D)) (a4 : (List D)) : Res := lab SE C Λ2 J 157 0 [1, 1, 1, 0, 1, 0] (bB [(1, .ptr 1000000000 0), (3, .ptr 1000000001 0), (5, .d (.int .i64 a0)), (18, .d (.int .i64 a1)), (19, .d (.int .i64 a2))] [⟨27, (List.map AV.d a3)⟩, ⟨27, (List.map AV.d a4)⟩] [] [] [])
section
variable (Γ : Fun) (γ177 : Gm (Int)) (γ175 : Gm (Int × Bool)) (γ104 : Gm ((List Int))) (γ178 : Gm ((List Int))) (Λ2 J : Lam)
def aic : aP := bA (bA (bA (bA (aQ Γ) 177 nO γ177) 175 bO γ175) 104 bN γ104) 178 dS γ178
theorem awy (p0 : aJ) : bD SE (aic Γ γ177 γ175 γ104 γ178) Λ2 J 157 [aJ.av p0] [] [] =
 cond (decide ((List.length (List.map (encI .i64) p0.Used) : Int) ≥ 32)) (
 (some (.ret [.d (.int .i64 0), .agg [.row 0, .d (.int .i64 0)], .d (.int .i64 6)] [] [⟨[.int .i64], 3, 8, (List.map (encI .i64) [])⟩]))) (
 akv (aic Γ γ177 γ175 γ104 γ178) Λ2 J p0.Last (IntKind.wrap .i64 ((List.length (List.map (encI .i64) p0.Used) : Int) + 1)) 0 (aJ.enc p0) [D.sl [.int .i64] (List.map (encI .i64) []), D.int .i64 0]) := by kernel_rfl
theorem arY (x5 : Int) (x18 : Int) (x19 : Int) (b0 : aJ) (b1 : aJ) : cB SE (aic Γ γ177 γ175 γ104 γ178) Λ2 J 157 0 [1, 1, 1, 0, 1, 0] (bB [(1, .ptr 1000000000 0), (3, .ptr 1000000001 0), (5, .d (.int .i64 x5)), (18, .d (.int .i64 x18)), (19, .d (.int .i64 x19))] [⟨27, (List.map AV.d (aJ.enc b0))⟩, ⟨27, (List.map AV.d (aJ.enc b1))⟩] [] [] []) =
 cond (decide (x19 < x18)) (
 γ177 [.d (.int .i64 x5)] [] [] fun r0 =>
 γ175 [.d (.sl [.int .i64] (List.map (encI .i64) b0.Used)), .d (.int .i64 r0)] [] [] fun r1 =>
 cond (!r1.2) (
  γ104 [.d (.sl [.int .i64] (List.map (encI .i64) b0.Used))] [] [] fun r2 =>
  γ178 [.row 2000000000, .d (.int .i64 r1.1), .row 2000000001] [] [⟨[.int .i64], 3, 8, (List.map (encI .i64) r2)⟩, ⟨[.int .i64], 3, 8, (List.map (encI .i64) [r0])⟩] fun r3 =>
  (some (.ret [.d (.int .i64 r0), .agg [.row 0, .d (.int .i64 r0)], .d (.int .i64 0)] [] [⟨[.int .i64], 3, 8, (List.map (encI .i64) r3)⟩]))) (
 akv (aic Γ γ177 γ175 γ104 γ178) Λ2 J r0 x18 (IntKind.wrap .i64 (x19 + 1)) (aJ.enc b0) (aJ.enc b1))) (
 (some (.ret [.d (.int .i64 0), .agg [.row 0, .d (.int .i64 0)], .d (.int .i64 6)] [] [⟨[.int .i64], 3, 8, (List.map (encI .i64) [])⟩]))) := by kernel_rfl
end
abbrev al5 : aP := aic gG (cT 177 nO) (cT 175 bO) (cT 104 bN) (cT 178 dS)
theorem apo : al5 = aQ gG := by unfold al5 aic; rw [aK fun _ h => h, aK fun _ h => h, aK fun _ h => h, aK fun _ h => h]
noncomputable abbrev arZ (a0 : Int) (a1 : Int) (a2 : Int) (a3 : (List D)) (a4 : (List D)) : Res := akv al5 (bV SE gG (SE.hl 157) (SE.hr 157)) (J0 SE al5) a0 a1 a2 a3 a4
theorem aaA : ∀ (fu : Nat) (x5 : Int) (x18 : Int) (x19 : Int) (b0 : aJ) (b1 : aJ), Le (Option.map lT (tV fu x5 x18 x19 b0 b1)) (arZ x5 x18 x19 (aJ.enc b0) (aJ.enc b1)) := by
 intro fu
 induction fu with
 | zero => intros; exact le_none
 | succ fu ih =>
  intro x5 x18 x19 b0 b1
  refine Le.trans ?_ (le_of_eq ((bC apo).trans (arY _ _ _ _ _ _ _  x5 x18 x19 b0 b1)).symm)
  unfold tV
  refine lC ?_ ?_
  ·refine aM (good := good) eX ah4 (aiX _) fun r0 _ => ?_
   refine aM (good := good) eX mX (nM _ _) fun r1 _ => ?_
   refine lC ?_ ?_
   ·refine aM (good := good) eX fU (gI _) fun r2 _ => ?_
    refine aM (good := good) eX wF (xG _ _ _) fun r3 _ => ?_
    exact aI rfl
   ·exact ih r0 x18 (IntKind.wrap .i64 (x19 + 1)) b0 b1
  ·exact aI rfl
theorem aiR (p0 : aJ) : Le (Option.map lT (acU p0)) (aZ SE 157 [aJ.av p0] [] []) := by
 refine aS apo rfl ?_
 refine Le.trans ?_ (le_of_eq (awy _ _ _ _ _ _ _  p0).symm)
 unfold acU
 refine lD (by simp only [EN]) ?_ ?_
 ·exact aI rfl
 ·first | (simp only [EN]; exact aaA fuel p0.Last (IntKind.wrap .i64 ((List.length p0.Used : Int) + 1)) 0 p0 (aJ.mk ([] : List Int) 0)) | exact aaA fuel p0.Last (IntKind.wrap .i64 ((List.length p0.Used : Int) + 1)) 0 p0 (aJ.mk ([] : List Int) 0)
section
variable (Γ : Fun) (γ138 : Gm ((List aE))) (Λ2 J : Lam)
def aoR : aP := bA (aQ Γ) 138 bP γ138
theorem avb (p0 : aA) : bD SE (aoR Γ γ138) Λ2 J 153 [aA.av p0] [] [] =
 γ138 [.d (.sl aE.ks (List.map aE.enc p0.Props))] [] [] fun r0 =>
 (some (.ret [.agg [.d (.str p0.Topic), .d (.str p0.Payload), .d (.int .i64 p0.Level), .d (.bool p0.Retain), .d (.int .i64 p0.Priority), .d (.int .i64 p0.Expires), .d (.str p0.From), .d (.int .i64 p0.Seq), .row 0]] [] [⟨aE.ks, 130, 32, (List.map aE.enc r0)⟩])) := by kernel_rfl
end
abbrev arV : aP := aoR gG (cT 138 bP)
theorem auS : arV = aQ gG := by unfold arV aoR; rw [aK fun _ h => h]
theorem oW (p0 : aA) : Le (Option.map dJ (oV p0)) (aZ SE 153 [aA.av p0] [] []) := by
 refine aS auS rfl ?_
 refine Le.trans ?_ (le_of_eq (avb _ _ _ _  p0).symm)
 unfold oV
 refine aM (good := good) eX lZ (l9 _) fun r0 _ => ?_
 exact aI rfl
def ajH (C : aP) (Λ2 J : Lam) (a0 : (List (List D))) (a1 : Int) (a2 : Int) (a3 : (List D)) (a4 : (List D)) (a5 : (List (List D))) : Res := lab SE C Λ2 J 110 0 [1, 1, 0, 1, 0] (bB [(1, .ptr 1000000000 0), (2, .ptr 1000000001 0), (3, .row 3003), (12, .d (.sl aC.ks a0)), (13, .d (.int .i64 a1)), (14, .d (.int .i64 a2))] [⟨29, (List.map AV.d a3)⟩, ⟨29, (List.map AV.d a4)⟩] [] [] [(3003, ⟨aC.ks, 122, 128, a5⟩)])
section
variable (Γ : Fun) (γ153 : Gm (aA)) (γ104 : Gm ((List Int))) (Λ2 J : Lam)
def ahz : aP := bA (bA (aQ Γ) 153 dJ γ153) 104 bN γ104
theorem avl (p0 : aG) : bD SE (ahz Γ γ153 γ104) Λ2 J 110 [aG.av p0] [] [] =
 cond (decide (0 ≤ 0) && decide (0 ≤ (IntKind.wrap .i64 ((List.length (List.map aC.enc p0.Items) : Int) + 1))) && decide ((IntKind.wrap .i64 ((List.length (List.map aC.enc p0.Items) : Int) + 1)) * 128 ≤ 281474976710656)) (
 ajH (ahz Γ γ153 γ104) Λ2 J (List.map aC.enc p0.Items) (List.length (List.map aC.enc p0.Items) : Int) 0 (aG.enc p0) [D.int .i64 0, D.sl aC.ks (List.map aC.enc []), D.sl [.int .i64] (List.map (encI .i64) []), D.int .i64 0] (List.map aC.enc [])) none := by kernel_rfl
theorem asH (x12 : (List aC)) (x13 : Int) (x14 : Int) (b0 : aG) (b1 : aG) (w3003 : (List aC)) : cB SE (ahz Γ γ153 γ104) Λ2 J 110 0 [1, 1, 0, 1, 0] (bB [(1, .ptr 1000000000 0), (2, .ptr 1000000001 0), (3, .row 3003), (12, .d (.sl aC.ks (List.map aC.enc x12))), (13, .d (.int .i64 x13)), (14, .d (.int .i64 x14))] [⟨29, (List.map AV.d (aG.enc b0))⟩, ⟨29, (List.map AV.d (aG.enc b1))⟩] [] [] [(3003, ⟨aC.ks, 122, 128, (List.map aC.enc w3003)⟩)]) =
 cond (decide (x14 < x13)) (
 cond (decide (0 ≤ x14) && decide (x14 < (List.length (List.map aC.enc x12) : Int))) (
  γ153 [.agg [.d (.str (aU (cellAt (elemAt (List.map aC.enc x12) (Int.toNat x14)) 2))), .d (.str (aU (cellAt (elemAt (List.map aC.enc x12) (Int.toNat x14)) 3))), .d (.int .i64 (aL (cellAt (elemAt (List.map aC.enc x12) (Int.toNat x14)) 4))), .d (.bool (aY (cellAt (elemAt (List.map aC.enc x12) (Int.toNat x14)) 5))), .d (.int .i64 (aL (cellAt (elemAt (List.map aC.enc x12) (Int.toNat x14)) 6))), .d (.int .i64 (aL (cellAt (elemAt (List.map aC.enc x12) (Int.toNat x14)) 7))), .d (.str (aU (cellAt (elemAt (List.map aC.enc x12) (Int.toNat x14)) 8))), .d (.int .i64 (aL (cellAt (elemAt (List.map aC.enc x12) (Int.toNat x14)) 9))), .d (.sl aE.ks (dSl (cellAt (elemAt (List.map aC.enc x12) (Int.toNat x14)) 10)))]] [] [] fun r0 =>
  cond (decide ((List.length (List.map aC.enc w3003) + List.length [[D.int .i64 (aL (cellAt (elemAt (List.map aC.enc x12) (Int.toNat x14)) 0)), D.int .i64 (aL (cellAt (elemAt (List.map aC.enc x12) (Int.toNat x14)) 1)), D.str r0.Topic, D.str r0.Payload, D.int .i64 r0.Level, D.bool r0.Retain, D.int .i64 r0.Priority, D.int .i64 r0.Expires, D.str r0.From, D.int .i64 r0.Seq, D.sl aE.ks (List.map aE.enc r0.Props)]]) * 128 ≤ 140737488355328)) (
  ajH (ahz Γ γ153 γ104) Λ2 J (List.map aC.enc x12) x13 (IntKind.wrap .i64 (x14 + 1)) (aG.enc b0) (aG.enc b1) (((List.map aC.enc w3003) ++ [[D.int .i64 (aL (cellAt (elemAt (List.map aC.enc x12) (Int.toNat x14)) 0)), D.int .i64 (aL (cellAt (elemAt (List.map aC.enc x12) (Int.toNat x14)) 1)), D.str r0.Topic, D.str r0.Payload, D.int .i64 r0.Level, D.bool r0.Retain, D.int .i64 r0.Priority, D.int .i64 r0.Expires, D.str r0.From, D.int .i64 r0.Seq, D.sl aE.ks (List.map aE.enc r0.Props)]]))) none) none) (
 γ104 [.d (.sl [.int .i64] (List.map (encI .i64) b0.Pool.Used))] [] [] fun r1 =>
 (some (.ret [.agg [.d (.int .i64 b0.Limit), .row 0, .row 1, .d (.int .i64 b0.Pool.Last)]] [] [⟨aC.ks, 122, 128, (List.map aC.enc w3003)⟩, ⟨[.int .i64], 3, 8, (List.map (encI .i64) r1)⟩]))) := by kernel_rfl
end
abbrev al1 : aP := ahz gG (cT 153 dJ) (cT 104 bN)
theorem apC : al1 = aQ gG := by unfold al1 ahz; rw [aK fun _ h => h, aK fun _ h => h]
noncomputable abbrev arh (a0 : (List (List D))) (a1 : Int) (a2 : Int) (a3 : (List D)) (a4 : (List D)) (a5 : (List (List D))) : Res := ajH al1 (bV SE gG (SE.hl 110) (SE.hr 110)) (J0 SE al1) a0 a1 a2 a3 a4 a5
theorem vL : ∀ (fu : Nat) (x12 : (List aC)) (x13 : Int) (x14 : Int) (b0 : aG) (b1 : aG) (w3003 : (List aC)), Le (Option.map dF (pD fu x12 x13 x14 b0 b1 w3003)) (arh (List.map aC.enc x12) x13 x14 (aG.enc b0) (aG.enc b1) (List.map aC.enc w3003)) := by
 intro fu
 induction fu with
 | zero => intros; exact le_none
 | succ fu ih =>
  intro x12 x13 x14 b0 b1 w3003
  refine Le.trans ?_ (le_of_eq ((bC apC).trans (asH _ _ _ _ _  x12 x13 x14 b0 b1 w3003)).symm)
  unfold pD
  refine lC ?_ ?_
  ·refine lG (by simp only [EN]) ?_
   refine aM (good := good) eX rC (by first | (simp only [EN]; exact oW ((List.getD x12 (Int.toNat x14) default).Message)) | exact oW ((List.getD x12 (Int.toNat x14) default).Message)) fun r0 _ => ?_
   refine lG (by simp only [EN]) ?_
   first | (simp only [EN]; exact ih x12 x13 (IntKind.wrap .i64 (x14 + 1)) b0 b1 ((w3003 ++ [(aC.mk (List.getD x12 (Int.toNat x14) default).ID (List.getD x12 (Int.toNat x14) default).State r0)]))) | exact ih x12 x13 (IntKind.wrap .i64 (x14 + 1)) b0 b1 ((w3003 ++ [(aC.mk (List.getD x12 (Int.toNat x14) default).ID (List.getD x12 (Int.toNat x14) default).State r0)]))
  ·refine aM (good := good) eX fU (gI _) fun r1 _ => ?_
   exact aI rfl
theorem kY (p0 : aG) : Le (Option.map dF (kH p0)) (aZ SE 110 [aG.av p0] [] []) := by
 refine aS apC rfl ?_
 refine Le.trans ?_ (le_of_eq (avl _ _ _ _ _  p0).symm)
 unfold kH
 refine lG (by simp only [EN]) ?_
 first | (simp only [EN]; exact vL fuel p0.Items (List.length p0.Items : Int) 0 p0 ((aG.mk 0 ([] : List aC) (aJ.mk ([] : List Int) 0))) ([] : List aC)) | exact vL fuel p0.Items (List.length p0.Items : Int) 0 p0 ((aG.mk 0 ([] : List aC) (aJ.mk ([] : List Int) 0))) ([] : List aC)
section
variable (Γ : Fun) (γ153 : Gm (aA)) (Λ2 J : Lam)
def aoD : aP := bA (aQ Γ) 153 dJ γ153
theorem awo (p0 : aC) : bD SE (aoD Γ γ153) Λ2 J 147 [aC.av p0] [] [] =
 γ153 [aA.av p0.Message] [] [] fun r0 =>
 (some (.ret [.agg [.d (.int .i64 3), .d (.int .i64 p0.ID), .d (.bool false), .d (.str r0.Topic), .d (.str r0.Payload), .d (.int .i64 r0.Level), .d (.bool r0.Retain), .d (.int .i64 r0.Priority), .d (.int .i64 r0.Expires), .d (.str r0.From), .d (.int .i64 r0.Seq), .row 0, .d (.str ([] : Str)), .d (.str ([] : Str)), .d (.bool false), .d (.int .i64 0), .d (.int .i64 0), .d (.int .i64 0), .d (.bool false), .d (.int .i64 0), .d (.str ([] : Str)), .d (.str ([] : Str)), .d (.int .i64 0), .d (.bool false), .d (.int .i64 0), .d (.int .i64 0), .d (.str ([] : Str)), .d (.int .i64 0), .row 1, .d (.bool false), .d (.int .i64 0), .row 2, .row 3, .row 4]] [] [⟨aE.ks, 130, 32, (List.map aE.enc r0.Props)⟩, ⟨aE.ks, 130, 32, (List.map aE.enc [])⟩, ⟨aD.ks, 60, 32, (List.map aD.enc [])⟩, ⟨[.str], 9, 16, (List.map bG [])⟩, ⟨[.int .i64], 3, 8, (List.map (encI .i64) [])⟩])) := by kernel_rfl
end
abbrev asx : aP := aoD gG (cT 153 dJ)
theorem atB : asx = aQ gG := by unfold asx aoD; rw [aK fun _ h => h]
theorem rB (p0 : aC) : Le (Option.map eS (qO p0)) (aZ SE 147 [aC.av p0] [] []) := by
 refine aS atB rfl ?_
 refine Le.trans ?_ (le_of_eq (awo _ _ _ _  p0).symm)
 unfold qO
 refine aM (good := good) eX rC (oW _) fun r0 _ => ?_
 exact aI rfl
section
variable (Γ : Fun) (γ156 : Gm (Int)) (γ141 : Gm (Int)) (γ157 : Gm (Int × aJ × Int)) (γ110 : Gm (aG)) (γ153 : Gm (aA)) (γ147 : Gm (aF)) (Λ2 J : Lam)
def aoW : aP := bA (bA (bA (bA (bA (bA (aQ Γ) 156 jD γ156) 141 k7 γ141) 157 lT γ157) 110 dF γ110) 153 dJ γ153) 147 eS γ147
theorem awg (p0 : aG) (p1 : aA) : bD SE (aoW Γ γ156 γ141 γ157 γ110 γ153 γ147) Λ2 J 114 [aG.av p0, aA.av p1] [] [] =
 cond (p1.Level == 0) (
 (some (.ret [.agg [.d (.int .i64 0), .row 0, .row 1, .d (.int .i64 0)], .agg [.d (.int .i64 0), .d (.int .i64 0), .d (.bool false), .d (.str ([] : Str)), .d (.str ([] : Str)), .d (.int .i64 0), .d (.bool false), .d (.int .i64 0), .d (.int .i64 0), .d (.str ([] : Str)), .d (.int .i64 0), .row 2, .d (.str ([] : Str)), .d (.str ([] : Str)), .d (.bool false), .d (.int .i64 0), .d (.int .i64 0), .d (.int .i64 0), .d (.bool false), .d (.int .i64 0), .d (.str ([] : Str)), .d (.str ([] : Str)), .d (.int .i64 0), .d (.bool false), .d (.int .i64 0), .d (.int .i64 0), .d (.str ([] : Str)), .d (.int .i64 0), .row 3, .d (.bool false), .d (.int .i64 0), .row 4, .row 5, .row 6], .d (.int .i64 14)] [] [⟨aC.ks, 122, 128, (List.map aC.enc [])⟩, ⟨[.int .i64], 3, 8, (List.map (encI .i64) [])⟩, ⟨aE.ks, 130, 32, (List.map aE.enc [])⟩, ⟨aE.ks, 130, 32, (List.map aE.enc [])⟩, ⟨aD.ks, 60, 32, (List.map aD.enc [])⟩, ⟨[.str], 9, 16, (List.map bG [])⟩, ⟨[.int .i64], 3, 8, (List.map (encI .i64) [])⟩]))) (
 γ156 [aG.av p0] [] [] fun r0 =>
 cond (r0 == 0) (
 (some (.ret [.agg [.d (.int .i64 0), .row 0, .row 1, .d (.int .i64 0)], .agg [.d (.int .i64 0), .d (.int .i64 0), .d (.bool false), .d (.str ([] : Str)), .d (.str ([] : Str)), .d (.int .i64 0), .d (.bool false), .d (.int .i64 0), .d (.int .i64 0), .d (.str ([] : Str)), .d (.int .i64 0), .row 2, .d (.str ([] : Str)), .d (.str ([] : Str)), .d (.bool false), .d (.int .i64 0), .d (.int .i64 0), .d (.int .i64 0), .d (.bool false), .d (.int .i64 0), .d (.str ([] : Str)), .d (.str ([] : Str)), .d (.int .i64 0), .d (.bool false), .d (.int .i64 0), .d (.int .i64 0), .d (.str ([] : Str)), .d (.int .i64 0), .row 3, .d (.bool false), .d (.int .i64 0), .row 4, .row 5, .row 6], .d (.int .i64 6)] [] [⟨aC.ks, 122, 128, (List.map aC.enc [])⟩, ⟨[.int .i64], 3, 8, (List.map (encI .i64) [])⟩, ⟨aE.ks, 130, 32, (List.map aE.enc [])⟩, ⟨aE.ks, 130, 32, (List.map aE.enc [])⟩, ⟨aD.ks, 60, 32, (List.map aD.enc [])⟩, ⟨[.str], 9, 16, (List.map bG [])⟩, ⟨[.int .i64], 3, 8, (List.map (encI .i64) [])⟩]))) (
 γ141 [aA.av p1] [] [] fun r1 =>
 cond (r1 != 0) (
 (some (.ret [.agg [.d (.int .i64 0), .row 0, .row 1, .d (.int .i64 0)], .agg [.d (.int .i64 0), .d (.int .i64 0), .d (.bool false), .d (.str ([] : Str)), .d (.str ([] : Str)), .d (.int .i64 0), .d (.bool false), .d (.int .i64 0), .d (.int .i64 0), .d (.str ([] : Str)), .d (.int .i64 0), .row 2, .d (.str ([] : Str)), .d (.str ([] : Str)), .d (.bool false), .d (.int .i64 0), .d (.int .i64 0), .d (.int .i64 0), .d (.bool false), .d (.int .i64 0), .d (.str ([] : Str)), .d (.str ([] : Str)), .d (.int .i64 0), .d (.bool false), .d (.int .i64 0), .d (.int .i64 0), .d (.str ([] : Str)), .d (.int .i64 0), .row 3, .d (.bool false), .d (.int .i64 0), .row 4, .row 5, .row 6], .d (.int .i64 r1)] [] [⟨aC.ks, 122, 128, (List.map aC.enc [])⟩, ⟨[.int .i64], 3, 8, (List.map (encI .i64) [])⟩, ⟨aE.ks, 130, 32, (List.map aE.enc [])⟩, ⟨aE.ks, 130, 32, (List.map aE.enc [])⟩, ⟨aD.ks, 60, 32, (List.map aD.enc [])⟩, ⟨[.str], 9, 16, (List.map bG [])⟩, ⟨[.int .i64], 3, 8, (List.map (encI .i64) [])⟩]))) (
 γ157 [aJ.av p0.Pool] [] [] fun r2 =>
 cond (r2.2.2 != 0) (
 (some (.ret [.agg [.d (.int .i64 0), .row 0, .row 1, .d (.int .i64 0)], .agg [.d (.int .i64 0), .d (.int .i64 0), .d (.bool false), .d (.str ([] : Str)), .d (.str ([] : Str)), .d (.int .i64 0), .d (.bool false), .d (.int .i64 0), .d (.int .i64 0), .d (.str ([] : Str)), .d (.int .i64 0), .row 2, .d (.str ([] : Str)), .d (.str ([] : Str)), .d (.bool false), .d (.int .i64 0), .d (.int .i64 0), .d (.int .i64 0), .d (.bool false), .d (.int .i64 0), .d (.str ([] : Str)), .d (.str ([] : Str)), .d (.int .i64 0), .d (.bool false), .d (.int .i64 0), .d (.int .i64 0), .d (.str ([] : Str)), .d (.int .i64 0), .row 3, .d (.bool false), .d (.int .i64 0), .row 4, .row 5, .row 6], .d (.int .i64 r2.2.2)] [] [⟨aC.ks, 122, 128, (List.map aC.enc [])⟩, ⟨[.int .i64], 3, 8, (List.map (encI .i64) [])⟩, ⟨aE.ks, 130, 32, (List.map aE.enc [])⟩, ⟨aE.ks, 130, 32, (List.map aE.enc [])⟩, ⟨aD.ks, 60, 32, (List.map aD.enc [])⟩, ⟨[.str], 9, 16, (List.map bG [])⟩, ⟨[.int .i64], 3, 8, (List.map (encI .i64) [])⟩]))) (
 γ110 [aG.av p0] [] [] fun r3 =>
 γ153 [aA.av p1] [] [] fun r4 =>
 cond (decide ((List.length (List.map aC.enc r3.Items) + List.length (List.map aC.enc [(aC.mk r2.1 1 r4)])) * 128 ≤ 140737488355328)) (
 γ147 [aC.av (aC.mk r2.1 1 r4)] [] [] fun r5 =>
 (some (.ret [.agg [.d (.int .i64 r3.Limit), .row 0, .row 1, .d (.int .i64 r2.2.1.Last)], .agg [.d (.int .i64 r5.Kind), .d (.int .i64 r5.ID), .d (.bool r5.Dup), .d (.str r5.Message.Topic), .d (.str r5.Message.Payload), .d (.int .i64 r5.Message.Level), .d (.bool r5.Message.Retain), .d (.int .i64 r5.Message.Priority), .d (.int .i64 r5.Message.Expires), .d (.str r5.Message.From), .d (.int .i64 r5.Message.Seq), .row 2, .d (.str r5.Client), .d (.str r5.User), .d (.bool r5.Clean), .d (.int .i64 r5.Keep), .d (.int .i64 r5.Expiry), .d (.int .i64 r5.Window), .d (.bool r5.Will.Set), .d (.int .i64 r5.Will.Delay), .d (.str r5.Will.Message.Topic), .d (.str r5.Will.Message.Payload), .d (.int .i64 r5.Will.Message.Level), .d (.bool r5.Will.Message.Retain), .d (.int .i64 r5.Will.Message.Priority), .d (.int .i64 r5.Will.Message.Expires), .d (.str r5.Will.Message.From), .d (.int .i64 r5.Will.Message.Seq), .row 3, .d (.bool r5.Present), .d (.int .i64 r5.Code), .row 4, .row 5, .row 6], .d (.int .i64 0)] [] [⟨aC.ks, 122, 128, ((List.map aC.enc r3.Items) ++ (List.map aC.enc [(aC.mk r2.1 1 r4)]))⟩, ⟨[.int .i64], 3, 8, (List.map (encI .i64) r2.2.1.Used)⟩, ⟨aE.ks, 130, 32, (List.map aE.enc r5.Message.Props)⟩, ⟨aE.ks, 130, 32, (List.map aE.enc r5.Will.Message.Props)⟩, ⟨aD.ks, 60, 32, (List.map aD.enc r5.Subs)⟩, ⟨[.str], 9, 16, (List.map bG r5.Filters)⟩, ⟨[.int .i64], 3, 8, (List.map (encI .i64) r5.Codes)⟩]))) none)))) := by kernel_rfl
end
abbrev aqK : aP := aoW gG (cT 156 jD) (cT 141 k7) (cT 157 lT) (cT 110 dF) (cT 153 dJ) (cT 147 eS)
theorem aun : aqK = aQ gG := by unfold aqK aoW; rw [aK fun _ h => h, aK fun _ h => h, aK fun _ h => h, aK fun _ h => h, aK fun _ h => h, aK fun _ h => h]
theorem yU (p0 : aG) (p1 : aA) : Le (Option.map iO (wW p0 p1)) (aZ SE 114 [aG.av p0, aA.av p1] [] []) := by
 refine aS aun rfl ?_
 refine Le.trans ?_ (le_of_eq (awg _ _ _ _ _ _ _ _ _  p0 p1).symm)
 unfold wW
 refine lC ?_ ?_
 ·exact aI rfl
 ·refine aM (good := good) eX aft (afV _) fun r0 _ => ?_
  refine lC ?_ ?_
  ·exact aI rfl
  ·refine aM (good := good) eX afs (agb _) fun r1 _ => ?_
   refine lC ?_ ?_
   ·exact aI rfl
   ·refine aM (good := good) eX ahS (aiR _) fun r2 _ => ?_
    refine lC ?_ ?_
    ·exact aI rfl
    ·refine aM (good := good) eX j2 (kY _) fun r3 _ => ?_
     refine aM (good := good) eX rC (oW _) fun r4 _ => ?_
     refine lG (by simp only [EN]) ?_
     refine aM (good := good) eX vF (rB _) fun r5 _ => ?_
     exact aI (by first | rfl | simp only [EN, iO] <;> rfl)
def ahb (C : aP) (Λ2 J : Lam) (a0 : Int) (a1 : (List D)) (a2 : (List D)) (a3 : (List (List D))) : Res := lab SE C Λ2 J 61 0 [1, 0, 0] (bB [(1, .d (.int .i64 a0)), (2, .row 3002), (3, .ptr 1000000000 0), (6, .ptr 1000000001 0)] [⟨38, (List.map AV.d a1)⟩, ⟨38, (List.map AV.d a2)⟩] [] [] [(3002, ⟨aF.ks, 49, 416, a3⟩)])
section
variable (Γ : Fun) (γ113 : Gm (Bool)) (γ51 : Gm (aB)) (γ80 : Gm (aA)) (γ114 : Gm (aG × aF × Int)) (Λ2 J : Lam)
def C61 : aP := bA (bA (bA (bA (aQ Γ) 113 jS γ113) 51 dI γ51) 80 cW γ80) 114 iO γ114
theorem T61 (p0 : aB) (p1 : Int) (p2 : (List aF)) : bD SE (C61 Γ γ113 γ51 γ80 γ114) Λ2 J 61 [aB.av p0, .d (.int .i64 p1), .row 2000000000] [] [⟨aF.ks, 49, 416, (List.map aF.enc p2)⟩] =
 ahb (C61 Γ γ113 γ51 γ80 γ114) Λ2 J p1 (aB.enc p0) [D.str ([] : Str), D.str ([] : Str), D.bool false, D.int .i64 0, D.int .i64 0, D.int .i64 0, D.int .i64 0, D.sl aD.ks (List.map aD.enc []), D.sl aA.ks (List.map aA.enc []), D.int .i64 0, D.sl aC.ks (List.map aC.enc []), D.sl [.int .i64] (List.map (encI .i64) []), D.int .i64 0, D.sl [.int .i64] (List.map (encI .i64) []), D.bool false, D.int .i64 0, D.str ([] : Str), D.str ([] : Str), D.int .i64 0, D.bool false, D.int .i64 0, D.int .i64 0, D.str ([] : Str), D.int .i64 0, D.sl aE.ks (List.map aE.enc [])] (List.map aF.enc p2) := by kernel_rfl
theorem at3 (x1 : Int) (b0 : aB) (b1 : aB) (w3002 : (List aF)) : cB SE (C61 Γ γ113 γ51 γ80 γ114) Λ2 J 61 0 [1, 0, 0] (bB [(1, .d (.int .i64 x1)), (2, .row 3002), (3, .ptr 1000000000 0), (6, .ptr 1000000001 0)] [⟨38, (List.map AV.d (aB.enc b0))⟩, ⟨38, (List.map AV.d (aB.enc b1))⟩] [] [] [(3002, ⟨aF.ks, 49, 416, (List.map aF.enc w3002)⟩)]) =
 cond (decide ((List.length (List.map aA.enc b0.Queue) : Int) > 0)) (
 cond (decide (0 ≤ 0) && decide (0 < (List.length (List.map aA.enc b0.Queue) : Int))) (
  γ113 [.agg [.d (.str (aU (cellAt (elemAt (List.map aA.enc b0.Queue) (Int.toNat 0)) 0))), .d (.str (aU (cellAt (elemAt (List.map aA.enc b0.Queue) (Int.toNat 0)) 1))), .d (.int .i64 (aL (cellAt (elemAt (List.map aA.enc b0.Queue) (Int.toNat 0)) 2))), .d (.bool (aY (cellAt (elemAt (List.map aA.enc b0.Queue) (Int.toNat 0)) 3))), .d (.int .i64 (aL (cellAt (elemAt (List.map aA.enc b0.Queue) (Int.toNat 0)) 4))), .d (.int .i64 (aL (cellAt (elemAt (List.map aA.enc b0.Queue) (Int.toNat 0)) 5))), .d (.str (aU (cellAt (elemAt (List.map aA.enc b0.Queue) (Int.toNat 0)) 6))), .d (.int .i64 (aL (cellAt (elemAt (List.map aA.enc b0.Queue) (Int.toNat 0)) 7))), .d (.sl aE.ks (dSl (cellAt (elemAt (List.map aA.enc b0.Queue) (Int.toNat 0)) 8)))], .d (.int .i64 x1)] [] [] fun r0 =>
  cond r0 (
  γ51 [aB.av b0, .d (.int .i64 1)] [] [] fun r1 =>
  cond (decide (0 ≤ 1) && decide (1 ≤ ((List.length (List.map aA.enc r1.Queue)) : Int))) (
   ahb (C61 Γ γ113 γ51 γ80 γ114) Λ2 J x1 [D.str r1.Client, D.str r1.User, D.bool r1.Online, D.int .i64 r1.Conn, D.int .i64 r1.Expiry, D.int .i64 r1.Until, D.int .i64 r1.Dropped, D.sl aD.ks (List.map aD.enc r1.Subs), D.sl aA.ks (bS (List.map aA.enc r1.Queue) (some 1) none), D.int .i64 r1.Out.Limit, D.sl aC.ks (List.map aC.enc r1.Out.Items), D.sl [.int .i64] (List.map (encI .i64) r1.Out.Pool.Used), D.int .i64 r1.Out.Pool.Last, D.sl [.int .i64] (List.map (encI .i64) r1.In.IDs), D.bool r1.Will.Set, D.int .i64 r1.Will.Delay, D.str r1.Will.Message.Topic, D.str r1.Will.Message.Payload, D.int .i64 r1.Will.Message.Level, D.bool r1.Will.Message.Retain, D.int .i64 r1.Will.Message.Priority, D.int .i64 r1.Will.Message.Expires, D.str r1.Will.Message.From, D.int .i64 r1.Will.Message.Seq, D.sl aE.ks (List.map aE.enc r1.Will.Message.Props)] (aB.enc b1) (List.map aF.enc w3002)) none) (
  cond ((aL (cellAt (elemAt (List.map aA.enc b0.Queue) (Int.toNat 0)) 2)) == 0) (
  γ80 [.agg [.d (.str (aU (cellAt (elemAt (List.map aA.enc b0.Queue) (Int.toNat 0)) 0))), .d (.str (aU (cellAt (elemAt (List.map aA.enc b0.Queue) (Int.toNat 0)) 1))), .d (.int .i64 (aL (cellAt (elemAt (List.map aA.enc b0.Queue) (Int.toNat 0)) 2))), .d (.bool (aY (cellAt (elemAt (List.map aA.enc b0.Queue) (Int.toNat 0)) 3))), .d (.int .i64 (aL (cellAt (elemAt (List.map aA.enc b0.Queue) (Int.toNat 0)) 4))), .d (.int .i64 (aL (cellAt (elemAt (List.map aA.enc b0.Queue) (Int.toNat 0)) 5))), .d (.str (aU (cellAt (elemAt (List.map aA.enc b0.Queue) (Int.toNat 0)) 6))), .d (.int .i64 (aL (cellAt (elemAt (List.map aA.enc b0.Queue) (Int.toNat 0)) 7))), .d (.sl aE.ks (dSl (cellAt (elemAt (List.map aA.enc b0.Queue) (Int.toNat 0)) 8)))]] [] [] fun r2 =>
  cond (decide ((List.length (List.map aF.enc w3002) + List.length [[D.int .i64 3, D.int .i64 0, D.bool false, D.str r2.Topic, D.str r2.Payload, D.int .i64 r2.Level, D.bool r2.Retain, D.int .i64 r2.Priority, D.int .i64 r2.Expires, D.str r2.From, D.int .i64 r2.Seq, D.sl aE.ks (List.map aE.enc r2.Props), D.str ([] : Str), D.str ([] : Str), D.bool false, D.int .i64 0, D.int .i64 0, D.int .i64 0, D.bool false, D.int .i64 0, D.str ([] : Str), D.str ([] : Str), D.int .i64 0, D.bool false, D.int .i64 0, D.int .i64 0, D.str ([] : Str), D.int .i64 0, D.sl aE.ks (List.map aE.enc []), D.bool false, D.int .i64 0, D.sl aD.ks (List.map aD.enc []), D.sl [.str] (List.map bG []), D.sl [.int .i64] (List.map (encI .i64) [])]]) * 416 ≤ 140737488355328)) (
   cond (decide (0 ≤ 1) && decide (1 ≤ ((List.length (List.map aA.enc b0.Queue)) : Int))) (
   ahb (C61 Γ γ113 γ51 γ80 γ114) Λ2 J x1 [D.str b0.Client, D.str b0.User, D.bool b0.Online, D.int .i64 b0.Conn, D.int .i64 b0.Expiry, D.int .i64 b0.Until, D.int .i64 b0.Dropped, D.sl aD.ks (List.map aD.enc b0.Subs), D.sl aA.ks (bS (List.map aA.enc b0.Queue) (some 1) none), D.int .i64 b0.Out.Limit, D.sl aC.ks (List.map aC.enc b0.Out.Items), D.sl [.int .i64] (List.map (encI .i64) b0.Out.Pool.Used), D.int .i64 b0.Out.Pool.Last, D.sl [.int .i64] (List.map (encI .i64) b0.In.IDs), D.bool b0.Will.Set, D.int .i64 b0.Will.Delay, D.str b0.Will.Message.Topic, D.str b0.Will.Message.Payload, D.int .i64 b0.Will.Message.Level, D.bool b0.Will.Message.Retain, D.int .i64 b0.Will.Message.Priority, D.int .i64 b0.Will.Message.Expires, D.str b0.Will.Message.From, D.int .i64 b0.Will.Message.Seq, D.sl aE.ks (List.map aE.enc b0.Will.Message.Props)] (aB.enc b1) (((List.map aF.enc w3002) ++ [[D.int .i64 3, D.int .i64 0, D.bool false, D.str r2.Topic, D.str r2.Payload, D.int .i64 r2.Level, D.bool r2.Retain, D.int .i64 r2.Priority, D.int .i64 r2.Expires, D.str r2.From, D.int .i64 r2.Seq, D.sl aE.ks (List.map aE.enc r2.Props), D.str ([] : Str), D.str ([] : Str), D.bool false, D.int .i64 0, D.int .i64 0, D.int .i64 0, D.bool false, D.int .i64 0, D.str ([] : Str), D.str ([] : Str), D.int .i64 0, D.bool false, D.int .i64 0, D.int .i64 0, D.str ([] : Str), D.int .i64 0, D.sl aE.ks (List.map aE.enc []), D.bool false, D.int .i64 0, D.sl aD.ks (List.map aD.enc []), D.sl [.str] (List.map bG []), D.sl [.int .i64] (List.map (encI .i64) [])]]))) none) none) (
  γ114 [aG.av b0.Out, .agg [.d (.str (aU (cellAt (elemAt (List.map aA.enc b0.Queue) (Int.toNat 0)) 0))), .d (.str (aU (cellAt (elemAt (List.map aA.enc b0.Queue) (Int.toNat 0)) 1))), .d (.int .i64 (aL (cellAt (elemAt (List.map aA.enc b0.Queue) (Int.toNat 0)) 2))), .d (.bool (aY (cellAt (elemAt (List.map aA.enc b0.Queue) (Int.toNat 0)) 3))), .d (.int .i64 (aL (cellAt (elemAt (List.map aA.enc b0.Queue) (Int.toNat 0)) 4))), .d (.int .i64 (aL (cellAt (elemAt (List.map aA.enc b0.Queue) (Int.toNat 0)) 5))), .d (.str (aU (cellAt (elemAt (List.map aA.enc b0.Queue) (Int.toNat 0)) 6))), .d (.int .i64 (aL (cellAt (elemAt (List.map aA.enc b0.Queue) (Int.toNat 0)) 7))), .d (.sl aE.ks (dSl (cellAt (elemAt (List.map aA.enc b0.Queue) (Int.toNat 0)) 8)))]] [] [] fun r3 =>
  cond (r3.2.2 != 0) (
  (some (.ret [aB.av b0, .row 0] [] [⟨aF.ks, 49, 416, (List.map aF.enc w3002)⟩]))) (
  cond (decide ((List.length (List.map aF.enc w3002) + List.length (List.map aF.enc [r3.2.1])) * 416 ≤ 140737488355328)) (
  cond (decide (0 ≤ 1) && decide (1 ≤ ((List.length (List.map aA.enc b0.Queue)) : Int))) (
   ahb (C61 Γ γ113 γ51 γ80 γ114) Λ2 J x1 [D.str b0.Client, D.str b0.User, D.bool b0.Online, D.int .i64 b0.Conn, D.int .i64 b0.Expiry, D.int .i64 b0.Until, D.int .i64 b0.Dropped, D.sl aD.ks (List.map aD.enc b0.Subs), D.sl aA.ks (bS (List.map aA.enc b0.Queue) (some 1) none), D.int .i64 r3.1.Limit, D.sl aC.ks (List.map aC.enc r3.1.Items), D.sl [.int .i64] (List.map (encI .i64) r3.1.Pool.Used), D.int .i64 r3.1.Pool.Last, D.sl [.int .i64] (List.map (encI .i64) b0.In.IDs), D.bool b0.Will.Set, D.int .i64 b0.Will.Delay, D.str b0.Will.Message.Topic, D.str b0.Will.Message.Payload, D.int .i64 b0.Will.Message.Level, D.bool b0.Will.Message.Retain, D.int .i64 b0.Will.Message.Priority, D.int .i64 b0.Will.Message.Expires, D.str b0.Will.Message.From, D.int .i64 b0.Will.Message.Seq, D.sl aE.ks (List.map aE.enc b0.Will.Message.Props)] (aB.enc b1) (((List.map aF.enc w3002) ++ (List.map aF.enc [r3.2.1])))) none) none)))) none) (
 (some (.ret [aB.av b0, .row 0] [] [⟨aF.ks, 49, 416, (List.map aF.enc w3002)⟩]))) := by kernel_rfl
end
abbrev X61 : aP := C61 gG (cT 113 jS) (cT 51 dI) (cT 80 cW) (cT 114 iO)
theorem asm : X61 = aQ gG := by unfold X61 C61; rw [aK fun _ h => h, aK fun _ h => h, aK fun _ h => h, aK fun _ h => h]
noncomputable abbrev asX (a0 : Int) (a1 : (List D)) (a2 : (List D)) (a3 : (List (List D))) : Res := ahb X61 (bV SE gG (SE.hl 61) (SE.hr 61)) (J0 SE X61) a0 a1 a2 a3
theorem xH : ∀ (fu : Nat) (x1 : Int) (b0 : aB) (b1 : aB) (w3002 : (List aF)), Le (Option.map dX (mH fu x1 b0 b1 w3002)) (asX x1 (aB.enc b0) (aB.enc b1) (List.map aF.enc w3002)) := by
 intro fu
 induction fu with
 | zero => intros; exact le_none
 | succ fu ih =>
  intro x1 b0 b1 w3002
  refine Le.trans ?_ (le_of_eq ((bC asm).trans (at3 _ _ _ _ _ _ _  x1 b0 b1 w3002)).symm)
  unfold mH
  refine lD (by simp only [EN]) ?_ ?_
  ·refine lG (by simp only [EN]) ?_
   refine aM (good := good) eX adQ (by first | (simp only [EN]; exact xI (List.getD b0.Queue (Int.toNat 0) default) x1) | exact xI (List.getD b0.Queue (Int.toNat 0) default) x1) fun r0 _ => ?_
   refine lC ?_ ?_
   ·refine aM (good := good) eX n9 (j4 _ _) fun r1 _ => ?_
    refine lG (by simp only [EN]) ?_
    first | (simp only [EN]; exact ih x1 (aB.mk r1.Client r1.User r1.Online r1.Conn r1.Expiry r1.Until r1.Dropped r1.Subs (bS r1.Queue (some 1) none) r1.Out r1.In r1.Will) b1 w3002) | exact ih x1 (aB.mk r1.Client r1.User r1.Online r1.Conn r1.Expiry r1.Until r1.Dropped r1.Subs (bS r1.Queue (some 1) none) r1.Out r1.In r1.Will) b1 w3002
   ·refine lD (by simp only [EN]) ?_ ?_
    ·refine aM (good := good) eX j7 (by first | (simp only [EN]; exact fK (List.getD b0.Queue (Int.toNat 0) default)) | exact fK (List.getD b0.Queue (Int.toNat 0) default)) fun r2 _ => ?_
     refine lG (by simp only [EN]) ?_
     refine lG (by simp only [EN]) ?_
     first | (simp only [EN]; exact ih x1 (aB.mk b0.Client b0.User b0.Online b0.Conn b0.Expiry b0.Until b0.Dropped b0.Subs (bS b0.Queue (some 1) none) b0.Out b0.In b0.Will) b1 ((w3002 ++ [(aF.mk 3 0 false r2 ([] : Str) ([] : Str) false 0 0 0 (aN.mk false 0 (aA.mk ([] : Str) ([] : Str) 0 false 0 0 ([] : Str) 0 ([] : List aE))) false 0 ([] : List aD) ([] : List Str) ([] : List Int))]))) | exact ih x1 (aB.mk b0.Client b0.User b0.Online b0.Conn b0.Expiry b0.Until b0.Dropped b0.Subs (bS b0.Queue (some 1) none) b0.Out b0.In b0.Will) b1 ((w3002 ++ [(aF.mk 3 0 false r2 ([] : Str) ([] : Str) false 0 0 0 (aN.mk false 0 (aA.mk ([] : Str) ([] : Str) 0 false 0 0 ([] : Str) 0 ([] : List aE))) false 0 ([] : List aD) ([] : List Str) ([] : List Int))]))
    ·refine aM (good := good) eX aeq (by first | (simp only [EN]; exact yU b0.Out (List.getD b0.Queue (Int.toNat 0) default)) | exact yU b0.Out (List.getD b0.Queue (Int.toNat 0) default)) fun r3 _ => ?_
     refine lC ?_ ?_
     ·exact aI rfl
     ·refine lG (by simp only [EN]) ?_
      refine lG (by simp only [EN]) ?_
      first | (simp only [EN]; exact ih x1 (aB.mk b0.Client b0.User b0.Online b0.Conn b0.Expiry b0.Until b0.Dropped b0.Subs (bS b0.Queue (some 1) none) r3.1 b0.In b0.Will) b1 (w3002 ++ [r3.2.1])) | exact ih x1 (aB.mk b0.Client b0.User b0.Online b0.Conn b0.Expiry b0.Until b0.Dropped b0.Subs (bS b0.Queue (some 1) none) r3.1 b0.In b0.Will) b1 (w3002 ++ [r3.2.1])
  ·exact aI rfl
theorem rE (p0 : aB) (p1 : Int) (p2 : (List aF)) : Le (Option.map dX (sH p0 p1 p2)) (aZ SE 61 [aB.av p0, .d (.int .i64 p1), .row 2000000000] [] [⟨aF.ks, 49, 416, (List.map aF.enc p2)⟩]) := by
 refine aS asm rfl ?_
 refine Le.trans ?_ (le_of_eq (T61 _ _ _ _ _ _ _  p0 p1 p2).symm)
 unfold sH
 first | (simp only [EN]; exact xH fuel p1 p0 ((aB.mk ([] : Str) ([] : Str) false 0 0 0 0 ([] : List aD) ([] : List aA) (aG.mk 0 ([] : List aC) (aJ.mk ([] : List Int) 0)) (aR.mk ([] : List Int)) (aN.mk false 0 (aA.mk ([] : Str) ([] : Str) 0 false 0 0 ([] : Str) 0 ([] : List aE))))) p2) | exact xH fuel p1 p0 ((aB.mk ([] : Str) ([] : Str) false 0 0 0 0 ([] : List aD) ([] : List aA) (aG.mk 0 ([] : List aC) (aJ.mk ([] : List Int) 0)) (aR.mk ([] : List Int)) (aN.mk false 0 (aA.mk ([] : Str) ([] : Str) 0 false 0 0 ([] : Str) 0 ([] : List aE))))) p2
section
variable (Γ : Fun) (γ50 : Gm (aB)) (γ61 : Gm (aB × (List aF))) (Λ2 J : Lam)
def C34 : aP := bA (bA (aQ Γ) 50 bM γ50) 61 dX γ61
theorem T34 (p0 : aB) (p1 : Int) : bD SE (C34 Γ γ50 γ61) Λ2 J 34 [aB.av p0, .d (.int .i64 p1)] [] [] =
 cond (!p0.Online) (
 γ50 [aB.av p0] [] [] fun r0 =>
 (some (.ret [aB.av r0, .row 0] [] [⟨aF.ks, 49, 416, []⟩]))) (
 γ50 [aB.av p0] [] [] fun r1 =>
 γ61 [aB.av r1, .d (.int .i64 p1), .row 2000000000] [] [⟨aF.ks, 49, 416, (List.map aF.enc [])⟩] fun r2 =>
 (some (.ret [aB.av r2.1, .row 0] [] [⟨aF.ks, 49, 416, (List.map aF.enc r2.2)⟩]))) := by kernel_rfl
end
abbrev X34 : aP := C34 gG (cT 50 bM) (cT 61 dX)
theorem av2 : X34 = aQ gG := by unfold X34 C34; rw [aK fun _ h => h, aK fun _ h => h]
theorem agE (p0 : aB) (p1 : Int) : Le (Option.map lQ (aao p0 p1)) (aZ SE 34 [aB.av p0, .d (.int .i64 p1)] [] []) := by
 refine aS av2 rfl ?_
 refine Le.trans ?_ (le_of_eq (T34 _ _ _ _ _  p0 p1).symm)
 unfold aao
 refine lC ?_ ?_
 ·refine aM (good := good) eX gP (iK _) fun r0 _ => ?_
  exact aI rfl
 ·refine aM (good := good) eX gP (iK _) fun r1 _ => ?_
  refine aM (good := good) eX tY (by first | (simp only [EN]; exact rE r1 p1 ([] : List aF)) | exact rE r1 p1 ([] : List aF)) fun r2 _ => ?_
  exact aI rfl
section
variable (Γ : Fun)  (Λ2 J : Lam)
def arX : aP := aQ Γ
theorem aww (p0 : aC) (p1 : Int) : bD SE (arX Γ) Λ2 J 152 [aC.av p0, .ptr 2000000000 0] [⟨3, [.d (.int .i64 p1)]⟩] [] =
 (some (.ret [.d (.bool (p0.ID == p1))] [⟨3, [.d (.int .i64 p1)]⟩] [])) := by kernel_rfl
end
abbrev avG : aP := arX gG
theorem atz : avG = aQ gG := rfl
theorem xY (p0 : aC) (p1 : Int) : Le (Option.map jQ (vK p0 p1)) (aZ SE 152 [aC.av p0, .ptr 2000000000 0] [⟨3, [.d (.int .i64 p1)]⟩] []) := by
 refine aS atz rfl ?_
 refine Le.trans ?_ (le_of_eq (aww _ _ _  p0 p1).symm)
 unfold vK
 exact aI rfl
def aj9 (C : aP) (Λ2 J : Lam) (a0 : (List (List D))) (a1 : Int) (a2 : Int) (a3 : Int) : Res := lab SE C Λ2 J 151 1 [1, 0, 1, 0] (bB [(0, .d (.sl aC.ks a0)), (1, .fn 152 [] [.ptr 2000000000 0]), (7, .d (.int .i64 a1)), (8, .d (.int .i64 a2))] [] [⟨3, [.d (.int .i64 a3)]⟩] [] [])
section
variable (Γ : Fun) (γ152 : Gm (Bool × Int)) (Λ2 J : Lam)
def ahX : aP := bA (aQ Γ) 152 jQ γ152
theorem au7 (p0 : (List aC)) (p1_0 : Int) : bD SE (ahX Γ γ152) Λ2 J 151 [.d (.sl aC.ks (List.map aC.enc p0)), .fn 152 [] [.ptr 2000000000 0]] [⟨3, [.d (.int .i64 p1_0)]⟩] [] =
 aj9 (ahX Γ γ152) Λ2 J (List.map aC.enc p0) (List.length (List.map aC.enc p0) : Int) 0 p1_0 := by kernel_rfl
theorem ar0 (x0 : (List aC)) (x7 : Int) (x8 : Int) (q0_0 : Int) : cB SE (ahX Γ γ152) Λ2 J 151 1 [1, 0, 1, 0] (bB [(0, .d (.sl aC.ks (List.map aC.enc x0))), (1, .fn 152 [] [.ptr 2000000000 0]), (7, .d (.int .i64 x7)), (8, .d (.int .i64 x8))] [] [⟨3, [.d (.int .i64 q0_0)]⟩] [] []) =
 cond (decide (x8 < x7)) (
 cond (decide (0 ≤ x8) && decide (x8 < (List.length (List.map aC.enc x0) : Int))) (
  γ152 [.agg [.d (.int .i64 (aL (cellAt (elemAt (List.map aC.enc x0) (Int.toNat x8)) 0))), .d (.int .i64 (aL (cellAt (elemAt (List.map aC.enc x0) (Int.toNat x8)) 1))), .d (.str (aU (cellAt (elemAt (List.map aC.enc x0) (Int.toNat x8)) 2))), .d (.str (aU (cellAt (elemAt (List.map aC.enc x0) (Int.toNat x8)) 3))), .d (.int .i64 (aL (cellAt (elemAt (List.map aC.enc x0) (Int.toNat x8)) 4))), .d (.bool (aY (cellAt (elemAt (List.map aC.enc x0) (Int.toNat x8)) 5))), .d (.int .i64 (aL (cellAt (elemAt (List.map aC.enc x0) (Int.toNat x8)) 6))), .d (.int .i64 (aL (cellAt (elemAt (List.map aC.enc x0) (Int.toNat x8)) 7))), .d (.str (aU (cellAt (elemAt (List.map aC.enc x0) (Int.toNat x8)) 8))), .d (.int .i64 (aL (cellAt (elemAt (List.map aC.enc x0) (Int.toNat x8)) 9))), .d (.sl aE.ks (dSl (cellAt (elemAt (List.map aC.enc x0) (Int.toNat x8)) 10)))], .ptr 2000000000 0] [⟨3, [.d (.int .i64 q0_0)]⟩] [] fun r0 =>
  cond r0.1 (
  (some (.ret [.d (.int .i64 x8)] [⟨3, [.d (.int .i64 r0.2)]⟩] []))) (
  aj9 (ahX Γ γ152) Λ2 J (List.map aC.enc x0) x7 (IntKind.wrap .i64 (x8 + 1)) r0.2)) none) (
 (some (.ret [.d (.int .i64 (-1))] [⟨3, [.d (.int .i64 q0_0)]⟩] []))) := by kernel_rfl
end
abbrev amh : aP := ahX gG (cT 152 jQ)
theorem apD : amh = aQ gG := by unfold amh ahX; rw [aK fun _ h => h]
noncomputable abbrev asA (a0 : (List (List D))) (a1 : Int) (a2 : Int) (a3 : Int) : Res := aj9 amh (bV SE gG (SE.hl 151) (SE.hr 151)) (J0 SE amh) a0 a1 a2 a3
theorem iR : ∀ (fu : Nat) (x0 : (List aC)) (x7 : Int) (x8 : Int) (q0_0 : Int), Le (Option.map bL (dD fu x0 x7 x8 q0_0)) (asA (List.map aC.enc x0) x7 x8 q0_0) := by
 intro fu
 induction fu with
 | zero => intros; exact le_none
 | succ fu ih =>
  intro x0 x7 x8 q0_0
  refine Le.trans ?_ (le_of_eq ((bC apD).trans (ar0 _ _ _ _  x0 x7 x8 q0_0)).symm)
  unfold dD
  refine lC ?_ ?_
  ·refine lG (by simp only [EN]) ?_
   refine aM (good := good) eX ad4 (by first | (simp only [EN]; exact xY (List.getD x0 (Int.toNat x8) default) q0_0) | exact xY (List.getD x0 (Int.toNat x8) default) q0_0) fun r0 _ => ?_
   refine lC ?_ ?_
   ·exact aI rfl
   ·exact ih x0 x7 (IntKind.wrap .i64 (x8 + 1)) r0.2
  ·exact aI rfl
theorem o6 (p0 : (List aC)) (p1_0 : Int) : Le (Option.map bL (fT p0 p1_0)) (aZ SE 151 [.d (.sl aC.ks (List.map aC.enc p0)), .fn 152 [] [.ptr 2000000000 0]] [⟨3, [.d (.int .i64 p1_0)]⟩] []) := by
 refine aS apD rfl ?_
 refine Le.trans ?_ (le_of_eq (au7 _ _ _ _  p0 p1_0).symm)
 unfold fT
 first | (simp only [EN]; exact iR fuel p0 (List.length p0 : Int) 0 p1_0) | exact iR fuel p0 (List.length p0 : Int) 0 p1_0
section
variable (Γ : Fun) (γ151 : Gm (Int × Int)) (Λ2 J : Lam)
def aop : aP := bA (aQ Γ) 151 bL γ151
theorem awC (p0 : (List aC)) (p1 : Int) : bD SE (aop Γ γ151) Λ2 J 109 [.d (.sl aC.ks (List.map aC.enc p0)), .d (.int .i64 p1)] [] [] =
 γ151 [.d (.sl aC.ks (List.map aC.enc p0)), .fn 152 [] [.ptr 2000000000 0]] [⟨3, [.d (.int .i64 p1)]⟩] [] fun r0 =>
 (some (.ret [.d (.int .i64 r0.1)] [] [])) := by kernel_rfl
end
abbrev aqM : aP := aop gG (cT 151 bL)
theorem atE : aqM = aQ gG := by unfold aqM aop; rw [aK fun _ h => h]
theorem aga (p0 : (List aC)) (p1 : Int) : Le (Option.map kS (yL p0 p1)) (aZ SE 109 [.d (.sl aC.ks (List.map aC.enc p0)), .d (.int .i64 p1)] [] []) := by
 refine aS atE rfl ?_
 refine Le.trans ?_ (le_of_eq (awC _ _ _ _  p0 p1).symm)
 unfold yL
 refine aM (good := good) eX o5 (o6 _ _) fun r0 _ => ?_
 exact aI rfl
theorem xE (p0 : (List Int)) (p1 : Int) (p2 : Int) : Le (Option.map dU (rR p0 p1 p2)) (aZ SE 176 [.row 2000000000, .d (.int .i64 p1), .d (.int .i64 p2)] [] [⟨[.int .i64], 3, 8, (List.map (encI .i64) p0)⟩]) := aeL (f := 176) (enc := (encI .i64)) rfl rfl p0 p1 p2
section
variable (Γ : Fun) (γ104 : Gm ((List Int))) (γ175 : Gm (Int × Bool)) (γ176 : Gm ((List Int))) (Λ2 J : Lam)
def ao9 : aP := bA (bA (bA (aQ Γ) 104 bN γ104) 175 bO γ175) 176 dU γ176
theorem avv (p0 : aJ) (p1 : Int) : bD SE (ao9 Γ γ104 γ175 γ176) Λ2 J 154 [aJ.av p0, .d (.int .i64 p1)] [] [] =
 γ104 [.d (.sl [.int .i64] (List.map (encI .i64) p0.Used))] [] [] fun r0 =>
 γ175 [.d (.sl [.int .i64] (List.map (encI .i64) r0)), .d (.int .i64 p1)] [] [] fun r1 =>
 cond r1.2 (
 γ176 [.row 2000000000, .d (.int .i64 r1.1), .d (.int .i64 (IntKind.wrap .i64 (r1.1 + 1)))] [] [⟨[.int .i64], 3, 8, (List.map (encI .i64) r0)⟩] fun r2 =>
 (some (.ret [.agg [.row 0, .d (.int .i64 p0.Last)], .d (.bool r1.2)] [] [⟨[.int .i64], 3, 8, (List.map (encI .i64) r2)⟩]))) (
 (some (.ret [.agg [.row 0, .d (.int .i64 p0.Last)], .d (.bool r1.2)] [] [⟨[.int .i64], 3, 8, (List.map (encI .i64) r0)⟩]))) := by kernel_rfl
end
abbrev aql : aP := ao9 gG (cT 104 bN) (cT 175 bO) (cT 176 dU)
theorem atm : aql = aQ gG := by unfold aql ao9; rw [aK fun _ h => h, aK fun _ h => h, aK fun _ h => h]
theorem adI (p0 : aJ) (p1 : Int) : Le (Option.map nN (adw p0 p1)) (aZ SE 154 [aJ.av p0, .d (.int .i64 p1)] [] []) := by
 refine aS atm rfl ?_
 refine Le.trans ?_ (le_of_eq (avv _ _ _ _ _ _  p0 p1).symm)
 unfold adw
 refine aM (good := good) eX fU (gI _) fun r0 _ => ?_
 refine aM (good := good) eX mX (nM _ _) fun r1 _ => ?_
 refine lC ?_ ?_
 ·refine aM (good := good) eX wT (xE _ _ _) fun r2 _ => ?_
  exact aI rfl
 ·exact aI rfl
theorem p7 (p0 : (List aC)) (p1 : Int) (p2 : Int) : Le (Option.map bZ (lI p0 p1 p2)) (aZ SE 155 [.row 2000000000, .d (.int .i64 p1), .d (.int .i64 p2)] [] [⟨aC.ks, 122, 128, (List.map aC.enc p0)⟩]) := aeL (f := 155) (enc := aC.enc) rfl rfl p0 p1 p2
section
variable (Γ : Fun) (γ154 : Gm (aJ × Bool)) (γ110 : Gm (aG)) (γ155 : Gm ((List aC))) (Λ2 J : Lam)
def aor : aP := bA (bA (bA (aQ Γ) 154 nN γ154) 110 dF γ110) 155 bZ γ155
theorem av8 (p0 : aG) (p1 : Int) : bD SE (aor Γ γ154 γ110 γ155) Λ2 J 111 [aG.av p0, .d (.int .i64 p1)] [] [] =
 cond (decide (0 ≤ p1) && decide (p1 < (List.length (List.map aC.enc p0.Items) : Int))) (
 γ154 [aJ.av p0.Pool, .d (.int .i64 (aL (cellAt (elemAt (List.map aC.enc p0.Items) (Int.toNat p1)) 0)))] [] [] fun r0 =>
 γ110 [aG.av p0] [] [] fun r1 =>
 γ155 [.row 2000000000, .d (.int .i64 p1), .d (.int .i64 (IntKind.wrap .i64 (p1 + 1)))] [] [⟨aC.ks, 122, 128, (List.map aC.enc r1.Items)⟩] fun r2 =>
 (some (.ret [.agg [.d (.int .i64 r1.Limit), .row 0, .row 1, .d (.int .i64 r0.1.Last)]] [] [⟨aC.ks, 122, 128, (List.map aC.enc r2)⟩, ⟨[.int .i64], 3, 8, (List.map (encI .i64) r0.1.Used)⟩]))) none := by kernel_rfl
end
abbrev asw : aP := aor gG (cT 154 nN) (cT 110 dF) (cT 155 bZ)
theorem au3 : asw = aQ gG := by unfold asw aor; rw [aK fun _ h => h, aK fun _ h => h, aK fun _ h => h]
theorem xN (p0 : aG) (p1 : Int) : Le (Option.map jN (rD p0 p1)) (aZ SE 111 [aG.av p0, .d (.int .i64 p1)] [] []) := by
 refine aS au3 rfl ?_
 refine Le.trans ?_ (le_of_eq (av8 _ _ _ _ _ _  p0 p1).symm)
 unfold rD
 refine lG (by simp only [EN]) ?_
 refine aM (good := good) eX aie (by first | (simp only [EN]; exact adI p0.Pool ((List.getD p0.Items (Int.toNat p1) default).ID)) | exact adI p0.Pool ((List.getD p0.Items (Int.toNat p1) default).ID)) fun r0 _ => ?_
 refine aM (good := good) eX j2 (kY _) fun r1 _ => ?_
 refine aM (good := good) eX pI (p7 _ _ _) fun r2 _ => ?_
 exact aI rfl
section
variable (Γ : Fun)  (Λ2 J : Lam)
def aq9 : aP := aQ Γ
theorem awk (p0 : Int) : bD SE (aq9 Γ) Λ2 J 112 [.d (.int .i64 p0)] [] [] =
 (some (.ret [.agg [.d (.int .i64 6), .d (.int .i64 p0), .d (.bool false), .d (.str ([] : Str)), .d (.str ([] : Str)), .d (.int .i64 0), .d (.bool false), .d (.int .i64 0), .d (.int .i64 0), .d (.str ([] : Str)), .d (.int .i64 0), .row 0, .d (.str ([] : Str)), .d (.str ([] : Str)), .d (.bool false), .d (.int .i64 0), .d (.int .i64 0), .d (.int .i64 0), .d (.bool false), .d (.int .i64 0), .d (.str ([] : Str)), .d (.str ([] : Str)), .d (.int .i64 0), .d (.bool false), .d (.int .i64 0), .d (.int .i64 0), .d (.str ([] : Str)), .d (.int .i64 0), .row 1, .d (.bool false), .d (.int .i64 0), .row 2, .row 3, .row 4]] [] [⟨aE.ks, 130, 32, (List.map aE.enc [])⟩, ⟨aE.ks, 130, 32, (List.map aE.enc [])⟩, ⟨aD.ks, 60, 32, (List.map aD.enc [])⟩, ⟨[.str], 9, 16, (List.map bG [])⟩, ⟨[.int .i64], 3, 8, (List.map (encI .i64) [])⟩])) := by kernel_rfl
end
abbrev avA : aP := aq9 gG
theorem atT : avA = aQ gG := rfl
theorem oY (p0 : Int) : Le (Option.map fG (oK p0)) (aZ SE 112 [.d (.int .i64 p0)] [] []) := by
 refine aS atT rfl ?_
 refine Le.trans ?_ (le_of_eq (awk _ _ _  p0).symm)
 unfold oK
 exact aI rfl
end Te
end PX
