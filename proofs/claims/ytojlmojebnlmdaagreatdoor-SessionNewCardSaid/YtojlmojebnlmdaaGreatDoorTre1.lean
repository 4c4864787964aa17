import Derived.Test.YtojlmojebnlmdaaGreatDoorTre0
set_option linter.unusedVariables false
set_option linter.unusedSimpArgs false
set_option maxRecDepth 100000
noncomputable section
namespace PX
open Go
open Md
namespace Te
theorem abv (p0 : List Int) (p1 : Int) (p2 : List Int) : Le (Option.map bI (mF p0 p1 p2)) (bA SE 178 [.row 2000000000, .d (.int .i64 p1), .row 2000000001] [] [⟨[.int .i64], 3, 8, (List.map eI p0)⟩, ⟨[.int .i64], 3, 8, (List.map eI p2)⟩]) := al9 (f := 178) (enc := eI) rfl rfl p0 p1 p2
def anp (C : aP) (Λ2 J : Lam) (a0 a1 a2 : Int) (a3 a4 : List D) : Res := lab SE C Λ2 J 157 0 [1, 1, 1, 0, 1, 0] (aW [(1, .ptr 1000000000 0), (3, .ptr 1000000001 0), (5, .d (.int .i64 a0)), (18, .d (.int .i64 a1)), (19, .d (.int .i64 a2))] [⟨27, (List.map AV.d a3)⟩, ⟨27, (List.map AV.d a4)⟩] [] [] [])
section
variable (Γ : Fun) (γ177 : Gm (Int)) (γ175 : Gm (Int × Bool)) (γ104 γ178 : Gm ((List Int))) (Λ2 J : Lam)
def alQ : aP := aY (aY (aY (aY (aQ Γ) 177 stringslite_IndexByte_out γ177) 175 aX γ175) 104 bI γ104) 178 bI γ178
theorem aE0 (p0 : aO) : bF SE (alQ Γ γ177 γ175 γ104 γ178) Λ2 J 157 [aO.av p0] [] [] =
 cond (decide ((lM eI p0.Used : Int) ≥ 32)) (
 (some (.ret [.d (.int .i64 0), .agg [.row 0, .d (.int .i64 0)], .d (.int .i64 6)] [] [⟨[.int .i64], 3, 8, (List.map eI [])⟩]))) (
 anp (alQ Γ γ177 γ175 γ104 γ178) Λ2 J p0.Last (w6 ((lM eI p0.Used : Int) + 1)) 0 (aO.enc p0) [D.sl [.int .i64] (List.map eI []), D.int .i64 0]) := by kernel_rfl
theorem axh (x5 x18 x19 : Int) (b0 b1 : aO) : bT SE (alQ Γ γ177 γ175 γ104 γ178) Λ2 J 157 0 [1, 1, 1, 0, 1, 0] (aW [(1, .ptr 1000000000 0), (3, .ptr 1000000001 0), (5, .d (.int .i64 x5)), (18, .d (.int .i64 x18)), (19, .d (.int .i64 x19))] [⟨27, (List.map AV.d (aO.enc b0))⟩, ⟨27, (List.map AV.d (aO.enc b1))⟩] [] [] []) =
 cond (decide (x19 < x18)) (
 γ177 [.d (.int .i64 x5)] [] [] fun r0 =>
 γ175 [.d (.sl [.int .i64] (List.map eI b0.Used)), .d (.int .i64 r0)] [] [] fun r1 =>
 cond (!r1.2) (
  γ104 [.d (.sl [.int .i64] (List.map eI b0.Used))] [] [] fun r2 =>
  γ178 [.row 2000000000, .d (.int .i64 r1.1), .row 2000000001] [] [⟨[.int .i64], 3, 8, (List.map eI r2)⟩, ⟨[.int .i64], 3, 8, (List.map eI [r0])⟩] fun r3 =>
  (some (.ret [.d (.int .i64 r0), .agg [.row 0, .d (.int .i64 r0)], .d (.int .i64 0)] [] [⟨[.int .i64], 3, 8, (List.map eI r3)⟩]))) (
 anp (alQ Γ γ177 γ175 γ104 γ178) Λ2 J r0 x18 (w6 (x19 + 1)) (aO.enc b0) (aO.enc b1))) (
 (some (.ret [.d (.int .i64 0), .agg [.row 0, .d (.int .i64 0)], .d (.int .i64 6)] [] [⟨[.int .i64], 3, 8, (List.map eI [])⟩]))) := by kernel_rfl
end
abbrev aqo : aP := alQ gG (cT 177 stringslite_IndexByte_out) (cT 175 aX) (cT 104 bI) (cT 178 bI)
theorem auY : aqo = aQ gG := by unfold aqo alQ; repeat rw [bC fun _ h => h]
abbrev azC := anp aqo (bP SE gG (SE.hl 157) (SE.hr 157)) (J0 SE aqo)
theorem ajW : ∀ (fu : Nat) (x5 x18 x19 : Int) (b0 b1 : aO), Le (Option.map eZ (o9 fu x5 x18 x19 b0 b1)) (azC x5 x18 x19 (aO.enc b0) (aO.enc b1)) := by
 intro fu
 induction fu with
 | zero => intros; exact le_none
 | succ fu ih =>
  intro x5 x18 x19 b0 b1
  refine Le.trans ?_ (le_of_eq ((aZ auY).trans (axh ..)).symm)
  unfold o9
  refine lC ?_ ?_
  ·refine lQ eX stringslite_IndexByte_inj (amT _) fun r0 _ => ?_
   refine lQ eX cG (kJ _ _) fun r1 _ => ?_
   refine lC ?_ ?_
   ·refine lQ eX dM (hZ _) fun r2 _ => ?_
    refine lQ eX dM (abv _ _ _) fun r3 _ => ?_
    exact aJ rfl
   ·exact ih r0 x18 (w6 (x19 + 1)) b0 b1
  ·exact aJ rfl
theorem am0 (p0 : aO) : Le (Option.map eZ (aaC p0)) (bA SE 157 [aO.av p0] [] []) := by
 refine aV auY rfl ?_
 refine Le.trans ?_ (le_of_eq (aE0 ..).symm)
 unfold aaC
 refine lD (by simp only [EN]) ?_ ?_
 ·exact aJ rfl
 ·(try simp only [EN]); exact ajW fuel p0.Last (w6 ((List.length p0.Used : Int) + 1)) 0 p0 (aO.mk [] 0)
section
variable (Γ : Fun) (γ138 : Gm ((List aG))) (Λ2 J : Lam)
def aut : aP := aY (aQ Γ) 138 cN γ138
theorem aEH (p0 : aA) : bF SE (aut Γ γ138) Λ2 J 153 [aA.av p0] [] [] =
 γ138 [.d (.sl aG.ks (List.map aG.enc p0.Props))] [] [] fun r0 =>
 (some (.ret [.agg [.d (.str p0.Topic), .d (.str p0.Payload), .d (.int .i64 p0.Level), .d (.bool p0.Retain), .d (.int .i64 p0.Priority), .d (.int .i64 p0.Expires), .d (.str p0.From), .d (.int .i64 p0.Seq), .row 0]] [] [⟨aG.ks, 130, 32, (List.map aG.enc r0)⟩])) := by kernel_rfl
end
abbrev ayE : aP := aut gG (cT 138 cN)
theorem aCa : ayE = aQ gG := by unfold ayE aut; rw [bC fun _ h => h]
theorem wI (p0 : aA) : Le (Option.map bX (l8 p0)) (bA SE 153 [aA.av p0] [] []) := by
 refine aV aCa rfl ?_
 refine Le.trans ?_ (le_of_eq (aEH ..).symm)
 unfold l8
 refine lQ eX n3 (oO _) fun r0 _ => ?_
 exact aJ rfl
def aom (C : aP) (Λ2 J : Lam) (a0 : List (List D)) (a1 a2 : Int) (a3 a4 : List D) (a5 : List (List D)) : Res := lab SE C Λ2 J 110 0 [1, 1, 0, 1, 0] (aW [(1, .ptr 1000000000 0), (2, .ptr 1000000001 0), (3, .row 3003), (12, .d (.sl aD.ks a0)), (13, .d (.int .i64 a1)), (14, .d (.int .i64 a2))] [⟨29, (List.map AV.d a3)⟩, ⟨29, (List.map AV.d a4)⟩] [] [] [(3003, ⟨aD.ks, 122, 128, a5⟩)])
section
variable (Γ : Fun) (γ153 : Gm (aA)) (γ104 : Gm ((List Int))) (Λ2 J : Lam)
def alL : aP := aY (aY (aQ Γ) 153 bX γ153) 104 bI γ104
theorem aDG (p0 : aI) : bF SE (alL Γ γ153 γ104) Λ2 J 110 [aI.av p0] [] [] =
 cond (decide (0 ≤ 0) && decide (0 ≤ (w6 ((lM aD.enc p0.Items : Int) + 1))) && decide ((w6 ((lM aD.enc p0.Items : Int) + 1)) * 128 ≤ 281474976710656)) (
 aom (alL Γ γ153 γ104) Λ2 J (List.map aD.enc p0.Items) (lM aD.enc p0.Items : Int) 0 (aI.enc p0) [D.int .i64 0, D.sl aD.ks (List.map aD.enc []), D.sl [.int .i64] (List.map eI []), D.int .i64 0] (List.map aD.enc [])) none := by kernel_rfl
theorem ayh (x12 : List aD) (x13 x14 : Int) (b0 b1 : aI) (w3003 : List aD) : bT SE (alL Γ γ153 γ104) Λ2 J 110 0 [1, 1, 0, 1, 0] (aW [(1, .ptr 1000000000 0), (2, .ptr 1000000001 0), (3, .row 3003), (12, .d (.sl aD.ks (List.map aD.enc x12))), (13, .d (.int .i64 x13)), (14, .d (.int .i64 x14))] [⟨29, (List.map AV.d (aI.enc b0))⟩, ⟨29, (List.map AV.d (aI.enc b1))⟩] [] [] [(3003, ⟨aD.ks, 122, 128, (List.map aD.enc w3003)⟩)]) =
 cond (decide (x14 < x13)) (
 cond (iB x14 (lM aD.enc x12 : Int)) (
  γ153 [.agg [.d (.str (bD (cE aD.enc x12 x14 2))), .d (.str (bD (cE aD.enc x12 x14 3))), .d (.int .i64 (aR (cE aD.enc x12 x14 4))), .d (.bool (bN (cE aD.enc x12 x14 5))), .d (.int .i64 (aR (cE aD.enc x12 x14 6))), .d (.int .i64 (aR (cE aD.enc x12 x14 7))), .d (.str (bD (cE aD.enc x12 x14 8))), .d (.int .i64 (aR (cE aD.enc x12 x14 9))), .d (.sl aG.ks (dSl (cE aD.enc x12 x14 10)))]] [] [] fun r0 =>
  cond (decide ((lM aD.enc w3003 + List.length [[D.int .i64 (aR (cE aD.enc x12 x14 0)), D.int .i64 (aR (cE aD.enc x12 x14 1)), D.str r0.Topic, D.str r0.Payload, D.int .i64 r0.Level, D.bool r0.Retain, D.int .i64 r0.Priority, D.int .i64 r0.Expires, D.str r0.From, D.int .i64 r0.Seq, D.sl aG.ks (List.map aG.enc r0.Props)]]) * 128 ≤ 140737488355328)) (
  aom (alL Γ γ153 γ104) Λ2 J (List.map aD.enc x12) x13 (w6 (x14 + 1)) (aI.enc b0) (aI.enc b1) (((List.map aD.enc w3003) ++ [[D.int .i64 (aR (cE aD.enc x12 x14 0)), D.int .i64 (aR (cE aD.enc x12 x14 1)), D.str r0.Topic, D.str r0.Payload, D.int .i64 r0.Level, D.bool r0.Retain, D.int .i64 r0.Priority, D.int .i64 r0.Expires, D.str r0.From, D.int .i64 r0.Seq, D.sl aG.ks (List.map aG.enc r0.Props)]]))) none) none) (
 γ104 [.d (.sl [.int .i64] (List.map eI b0.Pool.Used))] [] [] fun r1 =>
 (some (.ret [.agg [.d (.int .i64 b0.Limit), .row 0, .row 1, .d (.int .i64 b0.Pool.Last)]] [] [⟨aD.ks, 122, 128, (List.map aD.enc w3003)⟩, ⟨[.int .i64], 3, 8, (List.map eI r1)⟩]))) := by kernel_rfl
end
abbrev aqx : aP := alL gG (cT 153 bX) (cT 104 bI)
theorem avu : aqx = aQ gG := by unfold aqx alL; repeat rw [bC fun _ h => h]
abbrev ayu := aom aqx (bP SE gG (SE.hl 110) (SE.hr 110)) (J0 SE aqx)
theorem agb : ∀ (fu : Nat) (x12 : List aD) (x13 x14 : Int) (b0 b1 : aI) (w3003 : List aD), Le (Option.map bY (j0 fu x12 x13 x14 b0 b1 w3003)) (ayu (List.map aD.enc x12) x13 x14 (aI.enc b0) (aI.enc b1) (List.map aD.enc w3003)) := by
 intro fu
 induction fu with
 | zero => intros; exact le_none
 | succ fu ih =>
  intro x12 x13 x14 b0 b1 w3003
  refine Le.trans ?_ (le_of_eq ((aZ avu).trans (ayh ..)).symm)
  unfold j0
  refine lC ?_ ?_
  ·refine lG (by simp only [EN]) ?_
   refine lQ eX c8 (by (try simp only [EN]); exact wI ((List.getD x12 (Int.toNat x14) default).Message)) fun r0 _ => ?_
   refine lG (by simp only [EN]) ?_
   (try simp only [EN]); exact ih x12 x13 (w6 (x14 + 1)) b0 b1 ((w3003 ++ [(aD.mk (List.getD x12 (Int.toNat x14) default).ID (List.getD x12 (Int.toNat x14) default).State r0)]))
  ·refine lQ eX dM (hZ _) fun r1 _ => ?_
   exact aJ rfl
theorem mT (p0 : aI) : Le (Option.map bY (iE p0)) (bA SE 110 [aI.av p0] [] []) := by
 refine aV avu rfl ?_
 refine Le.trans ?_ (le_of_eq (aDG ..).symm)
 unfold iE
 refine lG (by simp only [EN]) ?_
 (try simp only [EN]); exact agb fuel p0.Items (List.length p0.Items : Int) 0 p0 ((aI.mk 0 [] (aO.mk [] 0))) []
section
variable (Γ : Fun) (γ153 : Gm (aA)) (Λ2 J : Lam)
def auf : aP := aY (aQ Γ) 153 bX γ153
theorem aEx (p0 : aD) : bF SE (auf Γ γ153) Λ2 J 147 [aD.av p0] [] [] =
 γ153 [aA.av p0.Message] [] [] fun r0 =>
 (some (.ret [.agg [.d (.int .i64 3), .d (.int .i64 p0.ID), .d (.bool false), .d (.str r0.Topic), .d (.str r0.Payload), .d (.int .i64 r0.Level), .d (.bool r0.Retain), .d (.int .i64 r0.Priority), .d (.int .i64 r0.Expires), .d (.str r0.From), .d (.int .i64 r0.Seq), .row 0, .d (.str []), .d (.str []), .d (.bool false), .d (.int .i64 0), .d (.int .i64 0), .d (.int .i64 0), .d (.bool false), .d (.int .i64 0), .d (.str []), .d (.str []), .d (.int .i64 0), .d (.bool false), .d (.int .i64 0), .d (.int .i64 0), .d (.str []), .d (.int .i64 0), .row 1, .d (.bool false), .d (.int .i64 0), .row 2, .row 3, .row 4]] [] [⟨aG.ks, 130, 32, (List.map aG.enc r0.Props)⟩, ⟨aG.ks, 130, 32, (List.map aG.enc [])⟩, ⟨aF.ks, 60, 32, (List.map aF.enc [])⟩, ⟨[.str], 9, 16, (List.map bL [])⟩, ⟨[.int .i64], 3, 8, (List.map eI [])⟩])) := by kernel_rfl
end
abbrev ayA : aP := auf gG (cT 153 bX)
theorem aBc : ayA = aQ gG := by unfold ayA auf; rw [bC fun _ h => h]
theorem aaM (p0 : aD) : Le (Option.map bW (nP p0)) (bA SE 147 [aD.av p0] [] []) := by
 refine aV aBc rfl ?_
 refine Le.trans ?_ (le_of_eq (aEx ..).symm)
 unfold nP
 refine lQ eX c8 (wI _) fun r0 _ => ?_
 exact aJ rfl
section
variable (Γ : Fun) (γ156 γ141 : Gm (Int)) (γ157 : Gm (Int × aO × Int)) (γ110 : Gm (aI)) (γ153 : Gm (aA)) (γ147 : Gm (aC)) (Λ2 J : Lam)
def atD : aP := aY (aY (aY (aY (aY (aY (aQ Γ) 156 stringslite_IndexByte_out γ156) 141 stringslite_IndexByte_out γ141) 157 eZ γ157) 110 bY γ110) 153 bX γ153) 147 bW γ147
theorem aF9 (p0 : aI) (p1 : aA) : bF SE (atD Γ γ156 γ141 γ157 γ110 γ153 γ147) Λ2 J 114 [aI.av p0, aA.av p1] [] [] =
 cond (p1.Level == 0) (
 (some (.ret [.agg [.d (.int .i64 0), .row 0, .row 1, .d (.int .i64 0)], .agg [.d (.int .i64 0), .d (.int .i64 0), .d (.bool false), .d (.str []), .d (.str []), .d (.int .i64 0), .d (.bool false), .d (.int .i64 0), .d (.int .i64 0), .d (.str []), .d (.int .i64 0), .row 2, .d (.str []), .d (.str []), .d (.bool false), .d (.int .i64 0), .d (.int .i64 0), .d (.int .i64 0), .d (.bool false), .d (.int .i64 0), .d (.str []), .d (.str []), .d (.int .i64 0), .d (.bool false), .d (.int .i64 0), .d (.int .i64 0), .d (.str []), .d (.int .i64 0), .row 3, .d (.bool false), .d (.int .i64 0), .row 4, .row 5, .row 6], .d (.int .i64 14)] [] [⟨aD.ks, 122, 128, (List.map aD.enc [])⟩, ⟨[.int .i64], 3, 8, (List.map eI [])⟩, ⟨aG.ks, 130, 32, (List.map aG.enc [])⟩, ⟨aG.ks, 130, 32, (List.map aG.enc [])⟩, ⟨aF.ks, 60, 32, (List.map aF.enc [])⟩, ⟨[.str], 9, 16, (List.map bL [])⟩, ⟨[.int .i64], 3, 8, (List.map eI [])⟩]))) (
 γ156 [aI.av p0] [] [] fun r0 =>
 cond (r0 == 0) (
 (some (.ret [.agg [.d (.int .i64 0), .row 0, .row 1, .d (.int .i64 0)], .agg [.d (.int .i64 0), .d (.int .i64 0), .d (.bool false), .d (.str []), .d (.str []), .d (.int .i64 0), .d (.bool false), .d (.int .i64 0), .d (.int .i64 0), .d (.str []), .d (.int .i64 0), .row 2, .d (.str []), .d (.str []), .d (.bool false), .d (.int .i64 0), .d (.int .i64 0), .d (.int .i64 0), .d (.bool false), .d (.int .i64 0), .d (.str []), .d (.str []), .d (.int .i64 0), .d (.bool false), .d (.int .i64 0), .d (.int .i64 0), .d (.str []), .d (.int .i64 0), .row 3, .d (.bool false), .d (.int .i64 0), .row 4, .row 5, .row 6], .d (.int .i64 6)] [] [⟨aD.ks, 122, 128, (List.map aD.enc [])⟩, ⟨[.int .i64], 3, 8, (List.map eI [])⟩, ⟨aG.ks, 130, 32, (List.map aG.enc [])⟩, ⟨aG.ks, 130, 32, (List.map aG.enc [])⟩, ⟨aF.ks, 60, 32, (List.map aF.enc [])⟩, ⟨[.str], 9, 16, (List.map bL [])⟩, ⟨[.int .i64], 3, 8, (List.map eI [])⟩]))) (
 γ141 [aA.av p1] [] [] fun r1 =>
 cond (r1 != 0) (
 (some (.ret [.agg [.d (.int .i64 0), .row 0, .row 1, .d (.int .i64 0)], .agg [.d (.int .i64 0), .d (.int .i64 0), .d (.bool false), .d (.str []), .d (.str []), .d (.int .i64 0), .d (.bool false), .d (.int .i64 0), .d (.int .i64 0), .d (.str []), .d (.int .i64 0), .row 2, .d (.str []), .d (.str []), .d (.bool false), .d (.int .i64 0), .d (.int .i64 0), .d (.int .i64 0), .d (.bool false), .d (.int .i64 0), .d (.str []), .d (.str []), .d (.int .i64 0), .d (.bool false), .d (.int .i64 0), .d (.int .i64 0), .d (.str []), .d (.int .i64 0), .row 3, .d (.bool false), .d (.int .i64 0), .row 4, .row 5, .row 6], .d (.int .i64 r1)] [] [⟨aD.ks, 122, 128, (List.map aD.enc [])⟩, ⟨[.int .i64], 3, 8, (List.map eI [])⟩, ⟨aG.ks, 130, 32, (List.map aG.enc [])⟩, ⟨aG.ks, 130, 32, (List.map aG.enc [])⟩, ⟨aF.ks, 60, 32, (List.map aF.enc [])⟩, ⟨[.str], 9, 16, (List.map bL [])⟩, ⟨[.int .i64], 3, 8, (List.map eI [])⟩]))) (
 γ157 [aO.av p0.Pool] [] [] fun r2 =>
 cond (r2.2.2 != 0) (
 (some (.ret [.agg [.d (.int .i64 0), .row 0, .row 1, .d (.int .i64 0)], .agg [.d (.int .i64 0), .d (.int .i64 0), .d (.bool false), .d (.str []), .d (.str []), .d (.int .i64 0), .d (.bool false), .d (.int .i64 0), .d (.int .i64 0), .d (.str []), .d (.int .i64 0), .row 2, .d (.str []), .d (.str []), .d (.bool false), .d (.int .i64 0), .d (.int .i64 0), .d (.int .i64 0), .d (.bool false), .d (.int .i64 0), .d (.str []), .d (.str []), .d (.int .i64 0), .d (.bool false), .d (.int .i64 0), .d (.int .i64 0), .d (.str []), .d (.int .i64 0), .row 3, .d (.bool false), .d (.int .i64 0), .row 4, .row 5, .row 6], .d (.int .i64 r2.2.2)] [] [⟨aD.ks, 122, 128, (List.map aD.enc [])⟩, ⟨[.int .i64], 3, 8, (List.map eI [])⟩, ⟨aG.ks, 130, 32, (List.map aG.enc [])⟩, ⟨aG.ks, 130, 32, (List.map aG.enc [])⟩, ⟨aF.ks, 60, 32, (List.map aF.enc [])⟩, ⟨[.str], 9, 16, (List.map bL [])⟩, ⟨[.int .i64], 3, 8, (List.map eI [])⟩]))) (
 γ110 [aI.av p0] [] [] fun r3 =>
 γ153 [aA.av p1] [] [] fun r4 =>
 cond (decide ((lM aD.enc r3.Items + lM aD.enc [(aD.mk r2.1 1 r4)]) * 128 ≤ 140737488355328)) (
 γ147 [aD.av (aD.mk r2.1 1 r4)] [] [] fun r5 =>
 (some (.ret [.agg [.d (.int .i64 r3.Limit), .row 0, .row 1, .d (.int .i64 r2.2.1.Last)], .agg [.d (.int .i64 r5.Kind), .d (.int .i64 r5.ID), .d (.bool r5.Dup), .d (.str r5.Message.Topic), .d (.str r5.Message.Payload), .d (.int .i64 r5.Message.Level), .d (.bool r5.Message.Retain), .d (.int .i64 r5.Message.Priority), .d (.int .i64 r5.Message.Expires), .d (.str r5.Message.From), .d (.int .i64 r5.Message.Seq), .row 2, .d (.str r5.Client), .d (.str r5.User), .d (.bool r5.Clean), .d (.int .i64 r5.Keep), .d (.int .i64 r5.Expiry), .d (.int .i64 r5.Window), .d (.bool r5.Will.Set), .d (.int .i64 r5.Will.Delay), .d (.str r5.Will.Message.Topic), .d (.str r5.Will.Message.Payload), .d (.int .i64 r5.Will.Message.Level), .d (.bool r5.Will.Message.Retain), .d (.int .i64 r5.Will.Message.Priority), .d (.int .i64 r5.Will.Message.Expires), .d (.str r5.Will.Message.From), .d (.int .i64 r5.Will.Message.Seq), .row 3, .d (.bool r5.Present), .d (.int .i64 r5.Code), .row 4, .row 5, .row 6], .d (.int .i64 0)] [] [⟨aD.ks, 122, 128, ((List.map aD.enc r3.Items) ++ (List.map aD.enc [(aD.mk r2.1 1 r4)]))⟩, ⟨[.int .i64], 3, 8, (List.map eI r2.2.1.Used)⟩, ⟨aG.ks, 130, 32, (List.map aG.enc r5.Message.Props)⟩, ⟨aG.ks, 130, 32, (List.map aG.enc r5.Will.Message.Props)⟩, ⟨aF.ks, 60, 32, (List.map aF.enc r5.Subs)⟩, ⟨[.str], 9, 16, (List.map bL r5.Filters)⟩, ⟨[.int .i64], 3, 8, (List.map eI r5.Codes)⟩]))) none)))) := by kernel_rfl
end
abbrev az2 : aP := atD gG (cT 156 stringslite_IndexByte_out) (cT 141 stringslite_IndexByte_out) (cT 157 eZ) (cT 110 bY) (cT 153 bX) (cT 147 bW)
theorem aBb : az2 = aQ gG := by unfold az2 atD; repeat rw [bC fun _ h => h]
theorem aiX (p0 : aI) (p1 : aA) : Le (Option.map jO (qG p0 p1)) (bA SE 114 [aI.av p0, aA.av p1] [] []) := by
 refine aV aBb rfl ?_
 refine Le.trans ?_ (le_of_eq (aF9 ..).symm)
 unfold qG
 refine lC ?_ ?_
 ·exact aJ rfl
 ·refine lQ eX stringslite_IndexByte_inj (ajm _) fun r0 _ => ?_
  refine lC ?_ ?_
  ·exact aJ rfl
  ·refine lQ eX stringslite_IndexByte_inj (uS _) fun r1 _ => ?_
   refine lC ?_ ?_
   ·exact aJ rfl
   ·refine lQ eX afC (am0 _) fun r2 _ => ?_
    refine lC ?_ ?_
    ·exact aJ rfl
    ·refine lQ eX fC (mT _) fun r3 _ => ?_
     refine lQ eX c8 (wI _) fun r4 _ => ?_
     refine lG (by simp only [EN]) ?_
     refine lQ eX eP (aaM _) fun r5 _ => ?_
     exact aJ (by first | rfl | simp only [EN, jO] <;> rfl)
def akt (C : aP) (Λ2 J : Lam) (a0 : Int) (a1 a2 : List D) (a3 : List (List D)) : Res := lab SE C Λ2 J 61 0 [1, 0, 0] (aW [(1, .d (.int .i64 a0)), (2, .row 3002), (3, .ptr 1000000000 0), (6, .ptr 1000000001 0)] [⟨38, (List.map AV.d a1)⟩, ⟨38, (List.map AV.d a2)⟩] [] [] [(3002, ⟨aC.ks, 49, 416, a3⟩)])
section
variable (Γ : Fun) (γ113 : Gm (Bool)) (γ51 : Gm (aB)) (γ80 : Gm (aA)) (γ114 : Gm (aI × aC × Int)) (Λ2 J : Lam)
def C61 : aP := aY (aY (aY (aY (aQ Γ) 113 stringslite_HasPrefix_out γ113) 51 bQ γ51) 80 bX γ80) 114 jO γ114
theorem T61 (p0 : aB) (p1 : Int) (p2 : List aC) : bF SE (C61 Γ γ113 γ51 γ80 γ114) Λ2 J 61 [aB.av p0, .d (.int .i64 p1), .row 2000000000] [] [⟨aC.ks, 49, 416, (List.map aC.enc p2)⟩] =
 akt (C61 Γ γ113 γ51 γ80 γ114) Λ2 J p1 (aB.enc p0) [D.str [], D.str [], D.bool false, D.int .i64 0, D.int .i64 0, D.int .i64 0, D.int .i64 0, D.sl aF.ks (List.map aF.enc []), D.sl aA.ks (List.map aA.enc []), D.int .i64 0, D.sl aD.ks (List.map aD.enc []), D.sl [.int .i64] (List.map eI []), D.int .i64 0, D.sl [.int .i64] (List.map eI []), D.bool false, D.int .i64 0, D.str [], D.str [], D.int .i64 0, D.bool false, D.int .i64 0, D.int .i64 0, D.str [], D.int .i64 0, D.sl aG.ks (List.map aG.enc [])] (List.map aC.enc p2) := by kernel_rfl
theorem aCx (x1 : Int) (b0 b1 : aB) (w3002 : List aC) : bT SE (C61 Γ γ113 γ51 γ80 γ114) Λ2 J 61 0 [1, 0, 0] (aW [(1, .d (.int .i64 x1)), (2, .row 3002), (3, .ptr 1000000000 0), (6, .ptr 1000000001 0)] [⟨38, (List.map AV.d (aB.enc b0))⟩, ⟨38, (List.map AV.d (aB.enc b1))⟩] [] [] [(3002, ⟨aC.ks, 49, 416, (List.map aC.enc w3002)⟩)]) =
 cond (decide ((lM aA.enc b0.Queue : Int) > 0)) (
 cond (decide (0 ≤ 0) && decide (0 < (lM aA.enc b0.Queue : Int))) (
  γ113 [.agg [.d (.str (bD (cE aA.enc b0.Queue 0 0))), .d (.str (bD (cE aA.enc b0.Queue 0 1))), .d (.int .i64 (aR (cE aA.enc b0.Queue 0 2))), .d (.bool (bN (cE aA.enc b0.Queue 0 3))), .d (.int .i64 (aR (cE aA.enc b0.Queue 0 4))), .d (.int .i64 (aR (cE aA.enc b0.Queue 0 5))), .d (.str (bD (cE aA.enc b0.Queue 0 6))), .d (.int .i64 (aR (cE aA.enc b0.Queue 0 7))), .d (.sl aG.ks (dSl (cE aA.enc b0.Queue 0 8)))], .d (.int .i64 x1)] [] [] fun r0 =>
  cond r0 (
  γ51 [aB.av b0, .d (.int .i64 1)] [] [] fun r1 =>
  cond (decide (0 ≤ 1) && decide (1 ≤ ((lM aA.enc r1.Queue) : Int))) (
   akt (C61 Γ γ113 γ51 γ80 γ114) Λ2 J x1 [D.str r1.Client, D.str r1.User, D.bool r1.Online, D.int .i64 r1.Conn, D.int .i64 r1.Expiry, D.int .i64 r1.Until, D.int .i64 r1.Dropped, D.sl aF.ks (List.map aF.enc r1.Subs), D.sl aA.ks (bR (List.map aA.enc r1.Queue) (some 1) none), D.int .i64 r1.Out.Limit, D.sl aD.ks (List.map aD.enc r1.Out.Items), D.sl [.int .i64] (List.map eI r1.Out.Pool.Used), D.int .i64 r1.Out.Pool.Last, D.sl [.int .i64] (List.map eI r1.In.IDs), D.bool r1.Will.Set, D.int .i64 r1.Will.Delay, D.str r1.Will.Message.Topic, D.str r1.Will.Message.Payload, D.int .i64 r1.Will.Message.Level, D.bool r1.Will.Message.Retain, D.int .i64 r1.Will.Message.Priority, D.int .i64 r1.Will.Message.Expires, D.str r1.Will.Message.From, D.int .i64 r1.Will.Message.Seq, D.sl aG.ks (List.map aG.enc r1.Will.Message.Props)] (aB.enc b1) (List.map aC.enc w3002)) none) (
  cond ((aR (cE aA.enc b0.Queue 0 2)) == 0) (
  γ80 [.agg [.d (.str (bD (cE aA.enc b0.Queue 0 0))), .d (.str (bD (cE aA.enc b0.Queue 0 1))), .d (.int .i64 (aR (cE aA.enc b0.Queue 0 2))), .d (.bool (bN (cE aA.enc b0.Queue 0 3))), .d (.int .i64 (aR (cE aA.enc b0.Queue 0 4))), .d (.int .i64 (aR (cE aA.enc b0.Queue 0 5))), .d (.str (bD (cE aA.enc b0.Queue 0 6))), .d (.int .i64 (aR (cE aA.enc b0.Queue 0 7))), .d (.sl aG.ks (dSl (cE aA.enc b0.Queue 0 8)))]] [] [] fun r2 =>
  cond (decide ((lM aC.enc w3002 + List.length [[D.int .i64 3, D.int .i64 0, D.bool false, D.str r2.Topic, D.str r2.Payload, D.int .i64 r2.Level, D.bool r2.Retain, D.int .i64 r2.Priority, D.int .i64 r2.Expires, D.str r2.From, D.int .i64 r2.Seq, D.sl aG.ks (List.map aG.enc r2.Props), D.str [], D.str [], D.bool false, D.int .i64 0, D.int .i64 0, D.int .i64 0, D.bool false, D.int .i64 0, D.str [], D.str [], D.int .i64 0, D.bool false, D.int .i64 0, D.int .i64 0, D.str [], D.int .i64 0, D.sl aG.ks (List.map aG.enc []), D.bool false, D.int .i64 0, D.sl aF.ks (List.map aF.enc []), D.sl [.str] (List.map bL []), D.sl [.int .i64] (List.map eI [])]]) * 416 ≤ 140737488355328)) (
   cond (decide (0 ≤ 1) && decide (1 ≤ ((lM aA.enc b0.Queue) : Int))) (
   akt (C61 Γ γ113 γ51 γ80 γ114) Λ2 J x1 [D.str b0.Client, D.str b0.User, D.bool b0.Online, D.int .i64 b0.Conn, D.int .i64 b0.Expiry, D.int .i64 b0.Until, D.int .i64 b0.Dropped, D.sl aF.ks (List.map aF.enc b0.Subs), D.sl aA.ks (bR (List.map aA.enc b0.Queue) (some 1) none), D.int .i64 b0.Out.Limit, D.sl aD.ks (List.map aD.enc b0.Out.Items), D.sl [.int .i64] (List.map eI b0.Out.Pool.Used), D.int .i64 b0.Out.Pool.Last, D.sl [.int .i64] (List.map eI b0.In.IDs), D.bool b0.Will.Set, D.int .i64 b0.Will.Delay, D.str b0.Will.Message.Topic, D.str b0.Will.Message.Payload, D.int .i64 b0.Will.Message.Level, D.bool b0.Will.Message.Retain, D.int .i64 b0.Will.Message.Priority, D.int .i64 b0.Will.Message.Expires, D.str b0.Will.Message.From, D.int .i64 b0.Will.Message.Seq, D.sl aG.ks (List.map aG.enc b0.Will.Message.Props)] (aB.enc b1) (((List.map aC.enc w3002) ++ [[D.int .i64 3, D.int .i64 0, D.bool false, D.str r2.Topic, D.str r2.Payload, D.int .i64 r2.Level, D.bool r2.Retain, D.int .i64 r2.Priority, D.int .i64 r2.Expires, D.str r2.From, D.int .i64 r2.Seq, D.sl aG.ks (List.map aG.enc r2.Props), D.str [], D.str [], D.bool false, D.int .i64 0, D.int .i64 0, D.int .i64 0, D.bool false, D.int .i64 0, D.str [], D.str [], D.int .i64 0, D.bool false, D.int .i64 0, D.int .i64 0, D.str [], D.int .i64 0, D.sl aG.ks (List.map aG.enc []), D.bool false, D.int .i64 0, D.sl aF.ks (List.map aF.enc []), D.sl [.str] (List.map bL []), D.sl [.int .i64] (List.map eI [])]]))) none) none) (
  γ114 [aI.av b0.Out, .agg [.d (.str (bD (cE aA.enc b0.Queue 0 0))), .d (.str (bD (cE aA.enc b0.Queue 0 1))), .d (.int .i64 (aR (cE aA.enc b0.Queue 0 2))), .d (.bool (bN (cE aA.enc b0.Queue 0 3))), .d (.int .i64 (aR (cE aA.enc b0.Queue 0 4))), .d (.int .i64 (aR (cE aA.enc b0.Queue 0 5))), .d (.str (bD (cE aA.enc b0.Queue 0 6))), .d (.int .i64 (aR (cE aA.enc b0.Queue 0 7))), .d (.sl aG.ks (dSl (cE aA.enc b0.Queue 0 8)))]] [] [] fun r3 =>
  cond (r3.2.2 != 0) (
  (some (.ret [aB.av b0, .row 0] [] [⟨aC.ks, 49, 416, (List.map aC.enc w3002)⟩]))) (
  cond (decide ((lM aC.enc w3002 + lM aC.enc [r3.2.1]) * 416 ≤ 140737488355328)) (
  cond (decide (0 ≤ 1) && decide (1 ≤ ((lM aA.enc b0.Queue) : Int))) (
   akt (C61 Γ γ113 γ51 γ80 γ114) Λ2 J x1 [D.str b0.Client, D.str b0.User, D.bool b0.Online, D.int .i64 b0.Conn, D.int .i64 b0.Expiry, D.int .i64 b0.Until, D.int .i64 b0.Dropped, D.sl aF.ks (List.map aF.enc b0.Subs), D.sl aA.ks (bR (List.map aA.enc b0.Queue) (some 1) none), D.int .i64 r3.1.Limit, D.sl aD.ks (List.map aD.enc r3.1.Items), D.sl [.int .i64] (List.map eI r3.1.Pool.Used), D.int .i64 r3.1.Pool.Last, D.sl [.int .i64] (List.map eI b0.In.IDs), D.bool b0.Will.Set, D.int .i64 b0.Will.Delay, D.str b0.Will.Message.Topic, D.str b0.Will.Message.Payload, D.int .i64 b0.Will.Message.Level, D.bool b0.Will.Message.Retain, D.int .i64 b0.Will.Message.Priority, D.int .i64 b0.Will.Message.Expires, D.str b0.Will.Message.From, D.int .i64 b0.Will.Message.Seq, D.sl aG.ks (List.map aG.enc b0.Will.Message.Props)] (aB.enc b1) (((List.map aC.enc w3002) ++ (List.map aC.enc [r3.2.1])))) none) none)))) none) (
 (some (.ret [aB.av b0, .row 0] [] [⟨aC.ks, 49, 416, (List.map aC.enc w3002)⟩]))) := by kernel_rfl
end
abbrev X61 : aP := C61 gG (cT 113 stringslite_HasPrefix_out) (cT 51 bQ) (cT 80 bX) (cT 114 jO)
theorem ayc : X61 = aQ gG := by unfold X61 C61; repeat rw [bC fun _ h => h]
abbrev aBO := akt X61 (bP SE gG (SE.hl 61) (SE.hr 61)) (J0 SE X61)
theorem ahM : ∀ (fu : Nat) (x1 : Int) (b0 b1 : aB) (w3002 : List aC), Le (Option.map bK (gU fu x1 b0 b1 w3002)) (aBO x1 (aB.enc b0) (aB.enc b1) (List.map aC.enc w3002)) := by
 intro fu
 induction fu with
 | zero => intros; exact le_none
 | succ fu ih =>
  intro x1 b0 b1 w3002
  refine Le.trans ?_ (le_of_eq ((aZ ayc).trans (aCx ..)).symm)
  unfold gU
  refine lD (by simp only [EN]) ?_ ?_
  ·refine lG (by simp only [EN]) ?_
   refine lQ eX stringslite_HasPrefix_inj (by (try simp only [EN]); exact ahp (List.getD b0.Queue (Int.toNat 0) default) x1) fun r0 _ => ?_
   refine lC ?_ ?_
   ·refine lQ eX dH (sN _ _) fun r1 _ => ?_
    refine lG (by simp only [EN]) ?_
    (try simp only [EN]); exact ih x1 (aB.mk r1.Client r1.User r1.Online r1.Conn r1.Expiry r1.Until r1.Dropped r1.Subs (bR r1.Queue (some 1) none) r1.Out r1.In r1.Will) b1 w3002
   ·refine lD (by simp only [EN]) ?_ ?_
    ·refine lQ eX c8 (by (try simp only [EN]); exact mM (List.getD b0.Queue (Int.toNat 0) default)) fun r2 _ => ?_
     refine lG (by simp only [EN]) ?_
     refine lG (by simp only [EN]) ?_
     (try simp only [EN]); exact ih x1 (aB.mk b0.Client b0.User b0.Online b0.Conn b0.Expiry b0.Until b0.Dropped b0.Subs (bR b0.Queue (some 1) none) b0.Out b0.In b0.Will) b1 ((w3002 ++ [(aC.mk 3 0 false r2 [] [] false 0 0 0 (aU.mk false 0 (aA.mk [] [] 0 false 0 0 [] 0 [])) false 0 [] [] [])]))
    ·refine lQ eX aii (by (try simp only [EN]); exact aiX b0.Out (List.getD b0.Queue (Int.toNat 0) default)) fun r3 _ => ?_
     refine lC ?_ ?_
     ·exact aJ rfl
     ·refine lG (by simp only [EN]) ?_
      refine lG (by simp only [EN]) ?_
      (try simp only [EN]); exact ih x1 (aB.mk b0.Client b0.User b0.Online b0.Conn b0.Expiry b0.Until b0.Dropped b0.Subs (bR b0.Queue (some 1) none) r3.1 b0.In b0.Will) b1 (w3002 ++ [r3.2.1])
  ·exact aJ rfl
theorem zM (p0 : aB) (p1 : Int) (p2 : List aC) : Le (Option.map bK (mE p0 p1 p2)) (bA SE 61 [aB.av p0, .d (.int .i64 p1), .row 2000000000] [] [⟨aC.ks, 49, 416, (List.map aC.enc p2)⟩]) := by
 refine aV ayc rfl ?_
 refine Le.trans ?_ (le_of_eq (T61 ..).symm)
 unfold mE
 (try simp only [EN]); exact ahM fuel p1 p0 ((aB.mk [] [] false 0 0 0 0 [] [] (aI.mk 0 [] (aO.mk [] 0)) (bE.mk []) (aU.mk false 0 (aA.mk [] [] 0 false 0 0 [] 0 [])))) p2
section
variable (Γ : Fun) (γ50 : Gm (aB)) (γ61 : Gm (aB × (List aC))) (Λ2 J : Lam)
def C34 : aP := aY (aY (aQ Γ) 50 cB γ50) 61 bK γ61
theorem T34 (p0 : aB) (p1 : Int) : bF SE (C34 Γ γ50 γ61) Λ2 J 34 [aB.av p0, .d (.int .i64 p1)] [] [] =
 cond (!p0.Online) (
 γ50 [aB.av p0] [] [] fun r0 =>
 (some (.ret [aB.av r0, .row 0] [] [⟨aC.ks, 49, 416, []⟩]))) (
 γ50 [aB.av p0] [] [] fun r1 =>
 γ61 [aB.av r1, .d (.int .i64 p1), .row 2000000000] [] [⟨aC.ks, 49, 416, (List.map aC.enc [])⟩] fun r2 =>
 (some (.ret [aB.av r2.1, .row 0] [] [⟨aC.ks, 49, 416, (List.map aC.enc r2.2)⟩]))) := by kernel_rfl
end
abbrev X34 : aP := C34 gG (cT 50 cB) (cT 61 bK)
theorem aF8 : X34 = aQ gG := by unfold X34 C34; repeat rw [bC fun _ h => h]
theorem aaz (p0 : aB) (p1 : Int) : Le (Option.map bK (qO p0 p1)) (bA SE 34 [aB.av p0, .d (.int .i64 p1)] [] []) := by
 refine aV aF8 rfl ?_
 refine Le.trans ?_ (le_of_eq (T34 ..).symm)
 unfold qO
 refine lC ?_ ?_
 ·refine lQ eX gA (jM _) fun r0 _ => ?_
  exact aJ rfl
 ·refine lQ eX gA (jM _) fun r1 _ => ?_
  refine lQ eX eA (by (try simp only [EN]); exact zM r1 p1 []) fun r2 _ => ?_
  exact aJ rfl
section
variable (Γ : Fun)  (Λ2 J : Lam)
def ayj : aP := aQ Γ
theorem aFS (p0 : aD) (p1 : Int) : bF SE (ayj Γ) Λ2 J 152 [aD.av p0, .ptr 2000000000 0] [⟨3, [.d (.int .i64 p1)]⟩] [] =
 (some (.ret [.d (.bool (p0.ID == p1))] [⟨3, [.d (.int .i64 p1)]⟩] [])) := by kernel_rfl
end
abbrev aFa : aP := ayj gG
theorem aDk : aFa = aQ gG := rfl
theorem ahz (p0 : aD) (p1 : Int) : Le (Option.map kE (vU p0 p1)) (bA SE 152 [aD.av p0, .ptr 2000000000 0] [⟨3, [.d (.int .i64 p1)]⟩] []) := by
 refine aV aDk rfl ?_
 refine Le.trans ?_ (le_of_eq (aFS ..).symm)
 unfold vU
 exact aJ rfl
def apq (C : aP) (Λ2 J : Lam) (a0 : List (List D)) (a1 a2 a3 : Int) : Res := lab SE C Λ2 J 151 1 [1, 0, 1, 0] (aW [(0, .d (.sl aD.ks a0)), (1, .fn 152 [] [.ptr 2000000000 0]), (7, .d (.int .i64 a1)), (8, .d (.int .i64 a2))] [] [⟨3, [.d (.int .i64 a3)]⟩] [] [])
section
variable (Γ : Fun) (γ152 : Gm (Bool × Int)) (Λ2 J : Lam)
def aly : aP := aY (aQ Γ) 152 kE γ152
theorem aEo (p0 : List aD) (p1_0 : Int) : bF SE (aly Γ γ152) Λ2 J 151 [.d (.sl aD.ks (List.map aD.enc p0)), .fn 152 [] [.ptr 2000000000 0]] [⟨3, [.d (.int .i64 p1_0)]⟩] [] =
 apq (aly Γ γ152) Λ2 J (List.map aD.enc p0) (lM aD.enc p0 : Int) 0 p1_0 := by kernel_rfl
theorem az0 (x0 : List aD) (x7 x8 q0_0 : Int) : bT SE (aly Γ γ152) Λ2 J 151 1 [1, 0, 1, 0] (aW [(0, .d (.sl aD.ks (List.map aD.enc x0))), (1, .fn 152 [] [.ptr 2000000000 0]), (7, .d (.int .i64 x7)), (8, .d (.int .i64 x8))] [] [⟨3, [.d (.int .i64 q0_0)]⟩] [] []) =
 cond (decide (x8 < x7)) (
 cond (iB x8 (lM aD.enc x0 : Int)) (
  γ152 [.agg [.d (.int .i64 (aR (cE aD.enc x0 x8 0))), .d (.int .i64 (aR (cE aD.enc x0 x8 1))), .d (.str (bD (cE aD.enc x0 x8 2))), .d (.str (bD (cE aD.enc x0 x8 3))), .d (.int .i64 (aR (cE aD.enc x0 x8 4))), .d (.bool (bN (cE aD.enc x0 x8 5))), .d (.int .i64 (aR (cE aD.enc x0 x8 6))), .d (.int .i64 (aR (cE aD.enc x0 x8 7))), .d (.str (bD (cE aD.enc x0 x8 8))), .d (.int .i64 (aR (cE aD.enc x0 x8 9))), .d (.sl aG.ks (dSl (cE aD.enc x0 x8 10)))], .ptr 2000000000 0] [⟨3, [.d (.int .i64 q0_0)]⟩] [] fun r0 =>
  cond r0.1 (
  (some (.ret [.d (.int .i64 x8)] [⟨3, [.d (.int .i64 r0.2)]⟩] []))) (
  apq (aly Γ γ152) Λ2 J (List.map aD.enc x0) x7 (w6 (x8 + 1)) r0.2)) none) (
 (some (.ret [.d (.int .i64 (-1))] [⟨3, [.d (.int .i64 q0_0)]⟩] []))) := by kernel_rfl
end
abbrev arw : aP := aly gG (cT 152 kE)
theorem avp : arw = aQ gG := by unfold arw aly; rw [bC fun _ h => h]
abbrev azX := apq arw (bP SE gG (SE.hl 151) (SE.hr 151)) (J0 SE arw)
theorem rV : ∀ (fu : Nat) (x0 : List aD) (x7 x8 q0_0 : Int), Le (Option.map cL (cM fu x0 x7 x8 q0_0)) (azX (List.map aD.enc x0) x7 x8 q0_0) := by
 intro fu
 induction fu with
 | zero => intros; exact le_none
 | succ fu ih =>
  intro x0 x7 x8 q0_0
  refine Le.trans ?_ (le_of_eq ((aZ avp).trans (az0 ..)).symm)
  unfold cM
  refine lC ?_ ?_
  ·refine lG (by simp only [EN]) ?_
   refine lQ eX agQ (by (try simp only [EN]); exact ahz (List.getD x0 (Int.toNat x8) default) q0_0) fun r0 _ => ?_
   refine lC ?_ ?_
   ·exact aJ rfl
   ·exact ih x0 x7 (w6 (x8 + 1)) r0.2
  ·exact aJ rfl
theorem tB (p0 : List aD) (p1_0 : Int) : Le (Option.map cL (eL p0 p1_0)) (bA SE 151 [.d (.sl aD.ks (List.map aD.enc p0)), .fn 152 [] [.ptr 2000000000 0]] [⟨3, [.d (.int .i64 p1_0)]⟩] []) := by
 refine aV avp rfl ?_
 refine Le.trans ?_ (le_of_eq (aEo ..).symm)
 unfold eL
 (try simp only [EN]); exact rV fuel p0 (List.length p0 : Int) 0 p1_0
section
variable (Γ : Fun) (γ151 : Gm (Int × Int)) (Λ2 J : Lam)
def atA : aP := aY (aQ Γ) 151 cL γ151
theorem aFx (p0 : List aD) (p1 : Int) : bF SE (atA Γ γ151) Λ2 J 109 [.d (.sl aD.ks (List.map aD.enc p0)), .d (.int .i64 p1)] [] [] =
 γ151 [.d (.sl aD.ks (List.map aD.enc p0)), .fn 152 [] [.ptr 2000000000 0]] [⟨3, [.d (.int .i64 p1)]⟩] [] fun r0 =>
 (rI r0.1) := by kernel_rfl
end
abbrev axc : aP := atA gG (cT 151 cL)
theorem aA0 : axc = aQ gG := by unfold axc atA; rw [bC fun _ h => h]
theorem ads (p0 : List aD) (p1 : Int) : Le (Option.map stringslite_IndexByte_out (sA p0 p1)) (bA SE 109 [.d (.sl aD.ks (List.map aD.enc p0)), .d (.int .i64 p1)] [] []) := by
 refine aV aA0 rfl ?_
 refine Le.trans ?_ (le_of_eq (aFx ..).symm)
 unfold sA
 refine lQ eX sX (tB _ _) fun r0 _ => ?_
 exact aJ rfl
theorem abz (p0 : List Int) (p1 p2 : Int) : Le (Option.map bI (rE p0 p1 p2)) (bA SE 176 [.row 2000000000, .d (.int .i64 p1), .d (.int .i64 p2)] [] [⟨[.int .i64], 3, 8, (List.map eI p0)⟩]) := ahx (f := 176) (enc := eI) rfl rfl p0 p1 p2
section
variable (Γ : Fun) (γ104 : Gm ((List Int))) (γ175 : Gm (Int × Bool)) (γ176 : Gm ((List Int))) (Λ2 J : Lam)
def auD : aP := aY (aY (aY (aQ Γ) 104 bI γ104) 175 aX γ175) 176 bI γ176
theorem aF6 (p0 : aO) (p1 : Int) : bF SE (auD Γ γ104 γ175 γ176) Λ2 J 154 [aO.av p0, .d (.int .i64 p1)] [] [] =
 γ104 [.d (.sl [.int .i64] (List.map eI p0.Used))] [] [] fun r0 =>
 γ175 [.d (.sl [.int .i64] (List.map eI r0)), .d (.int .i64 p1)] [] [] fun r1 =>
 cond r1.2 (
 γ176 [.row 2000000000, .d (.int .i64 r1.1), .d (.int .i64 (w6 (r1.1 + 1)))] [] [⟨[.int .i64], 3, 8, (List.map eI r0)⟩] fun r2 =>
 (some (.ret [.agg [.row 0, .d (.int .i64 p0.Last)], .d (.bool r1.2)] [] [⟨[.int .i64], 3, 8, (List.map eI r2)⟩]))) (
 (some (.ret [.agg [.row 0, .d (.int .i64 p0.Last)], .d (.bool r1.2)] [] [⟨[.int .i64], 3, 8, (List.map eI r0)⟩]))) := by kernel_rfl
end
abbrev axG : aP := auD gG (cT 104 bI) (cT 175 aX) (cT 176 bI)
theorem aC2 : axG = aQ gG := by unfold axG auD; repeat rw [bC fun _ h => h]
theorem amR (p0 : aO) (p1 : Int) : Le (Option.map fY (aag p0 p1)) (bA SE 154 [aO.av p0, .d (.int .i64 p1)] [] []) := by
 refine aV aC2 rfl ?_
 refine Le.trans ?_ (le_of_eq (aF6 ..).symm)
 unfold aag
 refine lQ eX dM (hZ _) fun r0 _ => ?_
 refine lQ eX cG (kJ _ _) fun r1 _ => ?_
 refine lC ?_ ?_
 ·refine lQ eX dM (abz _ _ _) fun r2 _ => ?_
  exact aJ rfl
 ·exact aJ rfl
theorem uB (p0 : List aD) (p1 p2 : Int) : Le (Option.map cV (iX p0 p1 p2)) (bA SE 155 [.row 2000000000, .d (.int .i64 p1), .d (.int .i64 p2)] [] [⟨aD.ks, 122, 128, (List.map aD.enc p0)⟩]) := ahx (f := 155) (enc := aD.enc) rfl rfl p0 p1 p2
section
variable (Γ : Fun) (γ154 : Gm (aO × Bool)) (γ110 : Gm (aI)) (γ155 : Gm ((List aD))) (Λ2 J : Lam)
def auL : aP := aY (aY (aY (aQ Γ) 154 fY γ154) 110 bY γ110) 155 cV γ155
theorem aFk (p0 : aI) (p1 : Int) : bF SE (auL Γ γ154 γ110 γ155) Λ2 J 111 [aI.av p0, .d (.int .i64 p1)] [] [] =
 cond (iB p1 (lM aD.enc p0.Items : Int)) (
 γ154 [aO.av p0.Pool, .d (.int .i64 (aR (cE aD.enc p0.Items p1 0)))] [] [] fun r0 =>
 γ110 [aI.av p0] [] [] fun r1 =>
 γ155 [.row 2000000000, .d (.int .i64 p1), .d (.int .i64 (w6 (p1 + 1)))] [] [⟨aD.ks, 122, 128, (List.map aD.enc r1.Items)⟩] fun r2 =>
 (some (.ret [.agg [.d (.int .i64 r1.Limit), .row 0, .row 1, .d (.int .i64 r0.1.Last)]] [] [⟨aD.ks, 122, 128, (List.map aD.enc r2)⟩, ⟨[.int .i64], 3, 8, (List.map eI r0.1.Used)⟩]))) none := by kernel_rfl
end
abbrev axP : aP := auL gG (cT 154 fY) (cT 110 bY) (cT 155 cV)
theorem aCR : axP = aQ gG := by unfold axP auL; repeat rw [bC fun _ h => h]
theorem abI (p0 : aI) (p1 : Int) : Le (Option.map bY (o5 p0 p1)) (bA SE 111 [aI.av p0, .d (.int .i64 p1)] [] []) := by
 refine aV aCR rfl ?_
 refine Le.trans ?_ (le_of_eq (aFk ..).symm)
 unfold o5
 refine lG (by simp only [EN]) ?_
 refine lQ eX afh (by (try simp only [EN]); exact amR p0.Pool ((List.getD p0.Items (Int.toNat p1) default).ID)) fun r0 _ => ?_
 refine lQ eX fC (mT _) fun r1 _ => ?_
 refine lQ eX tG (uB _ _ _) fun r2 _ => ?_
 exact aJ rfl
section
variable (Γ : Fun)  (Λ2 J : Lam)
def ax4 : aP := aQ Γ
theorem aE5 (p0 : Int) : bF SE (ax4 Γ) Λ2 J 112 [.d (.int .i64 p0)] [] [] =
 (some (.ret [.agg [.d (.int .i64 6), .d (.int .i64 p0), .d (.bool false), .d (.str []), .d (.str []), .d (.int .i64 0), .d (.bool false), .d (.int .i64 0), .d (.int .i64 0), .d (.str []), .d (.int .i64 0), .row 0, .d (.str []), .d (.str []), .d (.bool false), .d (.int .i64 0), .d (.int .i64 0), .d (.int .i64 0), .d (.bool false), .d (.int .i64 0), .d (.str []), .d (.str []), .d (.int .i64 0), .d (.bool false), .d (.int .i64 0), .d (.int .i64 0), .d (.str []), .d (.int .i64 0), .row 1, .d (.bool false), .d (.int .i64 0), .row 2, .row 3, .row 4]] [] [⟨aG.ks, 130, 32, (List.map aG.enc [])⟩, ⟨aG.ks, 130, 32, (List.map aG.enc [])⟩, ⟨aF.ks, 60, 32, (List.map aF.enc [])⟩, ⟨[.str], 9, 16, (List.map bL [])⟩, ⟨[.int .i64], 3, 8, (List.map eI [])⟩])) := by kernel_rfl
end
abbrev aGl : aP := ax4 gG
theorem aCT : aGl = aQ gG := rfl
theorem wL (p0 : Int) : Le (Option.map bW (oS p0)) (bA SE 112 [.d (.int .i64 p0)] [] []) := by
 refine aV aCT rfl ?_
 refine Le.trans ?_ (le_of_eq (aE5 ..).symm)
 unfold oS
 exact aJ rfl
def aqP (C : aP) (Λ2 J : Lam) (a0 : Int) (a1 a2 a3 a4 : List D) : Res := lab SE C Λ2 J 60 0 [1, 1, 1, 1, 0, 0] (aW [(2, .ptr 1000000000 0), (3, .ptr 1000000001 0), (4, .ptr 1000000002 0), (7, .d (.int .i64 a0)), (8, .ptr 1000000003 0)] [⟨29, (List.map AV.d a1)⟩, ⟨49, (List.map AV.d a2)⟩, ⟨29, (List.map AV.d a3)⟩, ⟨122, (List.map AV.d a4)⟩] [] [] [])
section
variable (Γ : Fun) (γ109 : Gm (Int)) (γ110 γ111 : Gm (aI)) (γ112 : Gm (aC)) (Λ2 J : Lam)
def C60 : aP := aY (aY (aY (aY (aQ Γ) 109 stringslite_IndexByte_out γ109) 110 bY γ110) 111 bY γ111) 112 bW γ112
theorem T60 (p0 : aI) (p1 : aC) : bF SE (C60 Γ γ109 γ110 γ111 γ112) Λ2 J 60 [aI.av p0, aC.av p1] [] [] =
 γ109 [.d (.sl aD.ks (List.map aD.enc p0.Items)), .d (.int .i64 p1.ID)] [] [] fun r0 =>
 cond (decide (r0 ≥ 0)) (
 cond (iB r0 (lM aD.enc p0.Items : Int)) (
  aqP (C60 Γ γ109 γ110 γ111 γ112) Λ2 J r0 (aI.enc p0) (aC.enc p1) [D.int .i64 0, D.sl aD.ks (List.map aD.enc []), D.sl [.int .i64] (List.map eI []), D.int .i64 0] [D.int .i64 (aR (cE aD.enc p0.Items r0 0)), D.int .i64 (aR (cE aD.enc p0.Items r0 1)), D.str (bD (cE aD.enc p0.Items r0 2)), D.str (bD (cE aD.enc p0.Items r0 3)), D.int .i64 (aR (cE aD.enc p0.Items r0 4)), D.bool (bN (cE aD.enc p0.Items r0 5)), D.int .i64 (aR (cE aD.enc p0.Items r0 6)), D.int .i64 (aR (cE aD.enc p0.Items r0 7)), D.str (bD (cE aD.enc p0.Items r0 8)), D.int .i64 (aR (cE aD.enc p0.Items r0 9)), D.sl aG.ks (dSl (cE aD.enc p0.Items r0 10))]) none) (
 aqP (C60 Γ γ109 γ110 γ111 γ112) Λ2 J r0 (aI.enc p0) (aC.enc p1) [D.int .i64 0, D.sl aD.ks (List.map aD.enc []), D.sl [.int .i64] (List.map eI []), D.int .i64 0] [D.int .i64 0, D.int .i64 0, D.str [], D.str [], D.int .i64 0, D.bool false, D.int .i64 0, D.int .i64 0, D.str [], D.int .i64 0, D.sl aG.ks (List.map aG.enc [])]) := by kernel_rfl
theorem aBm (x7 : Int) (b0 : aI) (b1 : aC) (b2 : aI) (b3 : aD) : bT SE (C60 Γ γ109 γ110 γ111 γ112) Λ2 J 60 0 [1, 1, 1, 1, 0, 0] (aW [(2, .ptr 1000000000 0), (3, .ptr 1000000001 0), (4, .ptr 1000000002 0), (7, .d (.int .i64 x7)), (8, .ptr 1000000003 0)] [⟨29, (List.map AV.d (aI.enc b0))⟩, ⟨49, (List.map AV.d (aC.enc b1))⟩, ⟨29, (List.map AV.d (aI.enc b2))⟩, ⟨122, (List.map AV.d (aD.enc b3))⟩] [] [] []) =
 cond (b1.Kind == 4) (
 cond (decide (x7 < 0)) (
  γ110 [aI.av b0] [] [] fun r1 =>
  (some (.ret [.agg [.d (.int .i64 r1.Limit), .row 0, .row 1, .d (.int .i64 r1.Pool.Last)], .row 2, .d (.int .i64 0)] [] [⟨aD.ks, 122, 128, (List.map aD.enc r1.Items)⟩, ⟨[.int .i64], 3, 8, (List.map eI r1.Pool.Used)⟩, ⟨aC.ks, 49, 416, []⟩]))) (
 cond (b3.Message.Level == 1) (
  γ111 [aI.av b0, .d (.int .i64 x7)] [] [] fun r2 =>
  (some (.ret [.agg [.d (.int .i64 r2.Limit), .row 0, .row 1, .d (.int .i64 r2.Pool.Last)], .row 2, .d (.int .i64 0)] [] [⟨aD.ks, 122, 128, (List.map aD.enc r2.Items)⟩, ⟨[.int .i64], 3, 8, (List.map eI r2.Pool.Used)⟩, ⟨aC.ks, 49, 416, []⟩]))) (
 (some (.ret [.agg [.d (.int .i64 0), .row 0, .row 1, .d (.int .i64 0)], .row 2, .d (.int .i64 23)] [] [⟨aD.ks, 122, 128, (List.map aD.enc [])⟩, ⟨[.int .i64], 3, 8, (List.map eI [])⟩, ⟨aC.ks, 49, 416, []⟩]))))) (
 cond (b1.Kind == 5) (
 cond (decide (x7 < 0)) (
  γ110 [aI.av b0] [] [] fun r3 =>
  γ112 [.d (.int .i64 b1.ID)] [] [] fun r4 =>
  (some (.ret [.agg [.d (.int .i64 r3.Limit), .row 0, .row 1, .d (.int .i64 r3.Pool.Last)], .row 2, .d (.int .i64 0)] [] [⟨aD.ks, 122, 128, (List.map aD.enc r3.Items)⟩, ⟨[.int .i64], 3, 8, (List.map eI r3.Pool.Used)⟩, ⟨aC.ks, 49, 416, (List.map aC.enc [r4])⟩]))) (
 cond (b3.Message.Level == 2) (
  γ110 [aI.av b0] [] [] fun r5 =>
  cond (iB x7 (lM aD.enc r5.Items : Int)) (
  γ112 [.d (.int .i64 b1.ID)] [] [] fun r6 =>
  (some (.ret [.agg [.d (.int .i64 r5.Limit), .row 0, .row 1, .d (.int .i64 r5.Pool.Last)], .row 2, .d (.int .i64 0)] [] [⟨aD.ks, 122, 128, (m7 (List.map aD.enc r5.Items) (Int.toNat x7) 1 [D.int .i64 2])⟩, ⟨[.int .i64], 3, 8, (List.map eI r5.Pool.Used)⟩, ⟨aC.ks, 49, 416, (List.map aC.enc [r6])⟩]))) none) (
 (some (.ret [.agg [.d (.int .i64 0), .row 0, .row 1, .d (.int .i64 0)], .row 2, .d (.int .i64 23)] [] [⟨aD.ks, 122, 128, (List.map aD.enc [])⟩, ⟨[.int .i64], 3, 8, (List.map eI [])⟩, ⟨aC.ks, 49, 416, []⟩]))))) (
 cond (b1.Kind == 7) (
 cond (decide (x7 < 0)) (
  γ110 [aI.av b0] [] [] fun r7 =>
  (some (.ret [.agg [.d (.int .i64 r7.Limit), .row 0, .row 1, .d (.int .i64 r7.Pool.Last)], .row 2, .d (.int .i64 0)] [] [⟨aD.ks, 122, 128, (List.map aD.enc r7.Items)⟩, ⟨[.int .i64], 3, 8, (List.map eI r7.Pool.Used)⟩, ⟨aC.ks, 49, 416, []⟩]))) (
 cond (b3.State == 2) (
  γ111 [aI.av b0, .d (.int .i64 x7)] [] [] fun r8 =>
  (some (.ret [.agg [.d (.int .i64 r8.Limit), .row 0, .row 1, .d (.int .i64 r8.Pool.Last)], .row 2, .d (.int .i64 0)] [] [⟨aD.ks, 122, 128, (List.map aD.enc r8.Items)⟩, ⟨[.int .i64], 3, 8, (List.map eI r8.Pool.Used)⟩, ⟨aC.ks, 49, 416, []⟩]))) (
 (some (.ret [.agg [.d (.int .i64 0), .row 0, .row 1, .d (.int .i64 0)], .row 2, .d (.int .i64 23)] [] [⟨aD.ks, 122, 128, (List.map aD.enc [])⟩, ⟨[.int .i64], 3, 8, (List.map eI [])⟩, ⟨aC.ks, 49, 416, []⟩]))))) (
 (some (.ret [.agg [.d (.int .i64 0), .row 0, .row 1, .d (.int .i64 0)], .row 2, .d (.int .i64 10)] [] [⟨aD.ks, 122, 128, (List.map aD.enc [])⟩, ⟨[.int .i64], 3, 8, (List.map eI [])⟩, ⟨aC.ks, 49, 416, []⟩]))))) := by kernel_rfl
end
abbrev X60 : aP := C60 gG (cT 109 stringslite_IndexByte_out) (cT 110 bY) (cT 111 bY) (cT 112 bW)
theorem ayI : X60 = aQ gG := by unfold X60 C60; repeat rw [bC fun _ h => h]
abbrev aA3 := aqP X60 (bP SE gG (SE.hl 60) (SE.hr 60)) (J0 SE X60)
theorem zA (x7 : Int) (b0 : aI) (b1 : aC) (b2 : aI) (b3 : aD) : Le (Option.map gM (lB x7 b0 b1 b2 b3)) (aA3 x7 (aI.enc b0) (aC.enc b1) (aI.enc b2) (aD.enc b3)) := by
 refine Le.trans ?_ (le_of_eq ((aZ ayI).trans (aBm ..)).symm)
 unfold lB
 refine lC ?_ ?_
 ·refine lC ?_ ?_
  ·refine lQ eX fC (mT _) fun r1 _ => ?_
   exact aJ rfl
  ·refine lC ?_ ?_
   ·refine lQ eX fC (abI _ _) fun r2 _ => ?_
    exact aJ rfl
   ·exact aJ rfl
 ·refine lC ?_ ?_
  ·refine lC ?_ ?_
   ·refine lQ eX fC (mT _) fun r3 _ => ?_
    refine lQ eX eP (wL _) fun r4 _ => ?_
    exact aJ rfl
   ·refine lC ?_ ?_
    ·refine lQ eX fC (mT _) fun r5 _ => ?_
     refine lG (by simp only [EN]) ?_
     refine lQ eX eP (wL _) fun r6 _ => ?_
     exact aJ (by first | rfl | simp only [EN, gM] <;> rfl)
    ·exact aJ rfl
  ·refine lC ?_ ?_
   ·refine lC ?_ ?_
    ·refine lQ eX fC (mT _) fun r7 _ => ?_
     exact aJ rfl
    ·refine lC ?_ ?_
     ·refine lQ eX fC (abI _ _) fun r8 _ => ?_
      exact aJ rfl
     ·exact aJ rfl
   ·exact aJ rfl
theorem ait (p0 : aI) (p1 : aC) : Le (Option.map gM (sS p0 p1)) (bA SE 60 [aI.av p0, aC.av p1] [] []) := by
 refine aV ayI rfl ?_
 refine Le.trans ?_ (le_of_eq (T60 ..).symm)
 unfold sS
 refine lQ eX stringslite_IndexByte_inj (ads _ _) fun r0 _ => ?_
 refine lC ?_ ?_
 ·refine lG (by simp only [EN]) ?_
  (try simp only [EN]); exact zA r0 p0 p1 ((aI.mk 0 [] (aO.mk [] 0))) (List.getD p0.Items (Int.toNat r0) default)
 ·(try simp only [EN]); exact zA r0 p0 p1 ((aI.mk 0 [] (aO.mk [] 0))) ((aD.mk 0 0 (aA.mk [] [] 0 false 0 0 [] 0 [])))
section
variable (Γ : Fun) (γ60 : Gm (aI × (List aC) × Int)) (γ50 : Gm (aB)) (γ61 : Gm (aB × (List aC))) (Λ2 J : Lam)
def C19 : aP := aY (aY (aY (aQ Γ) 60 gM γ60) 50 cB γ50) 61 bK γ61
theorem T19 (p0 : aB) (p1 : aC) (p2 : Int) : bF SE (C19 Γ γ60 γ50 γ61) Λ2 J 19 [aB.av p0, aC.av p1, .d (.int .i64 p2)] [] [] =
 γ60 [aI.av p0.Out, aC.av p1] [] [] fun r0 =>
 cond (r0.2.2 != 0) (
 (some (.ret [.agg [.d (.str []), .d (.str []), .d (.bool false), .d (.int .i64 0), .d (.int .i64 0), .d (.int .i64 0), .d (.int .i64 0), .d (.sl aF.ks (List.map aF.enc [])), .d (.sl aA.ks (List.map aA.enc [])), .d (.int .i64 0), .d (.sl aD.ks (List.map aD.enc [])), .d (.sl [.int .i64] (List.map eI [])), .d (.int .i64 0), .d (.sl [.int .i64] (List.map eI [])), .d (.bool false), .d (.int .i64 0), .d (.str []), .d (.str []), .d (.int .i64 0), .d (.bool false), .d (.int .i64 0), .d (.int .i64 0), .d (.str []), .d (.int .i64 0), .d (.sl aG.ks (List.map aG.enc []))], .row 0, .d (.int .i64 r0.2.2)] [] [⟨aC.ks, 49, 416, []⟩]))) (
 γ50 [aB.av p0] [] [] fun r1 =>
 cond (!p0.Online) (
 (some (.ret [aB.av (aB.mk r1.Client r1.User r1.Online r1.Conn r1.Expiry r1.Until r1.Dropped r1.Subs r1.Queue r0.1 r1.In r1.Will), .row 0, .d (.int .i64 0)] [] [⟨aC.ks, 49, 416, (List.map aC.enc r0.2.1)⟩]))) (
 γ61 [aB.av (aB.mk r1.Client r1.User r1.Online r1.Conn r1.Expiry r1.Until r1.Dropped r1.Subs r1.Queue r0.1 r1.In r1.Will), .d (.int .i64 p2), .row 2000000000] [] [⟨aC.ks, 49, 416, (List.map aC.enc r0.2.1)⟩] fun r2 =>
 (some (.ret [aB.av r2.1, .row 0, .d (.int .i64 0)] [] [⟨aC.ks, 49, 416, (List.map aC.enc r2.2)⟩])))) := by kernel_rfl
end
abbrev X19 : aP := C19 gG (cT 60 gM) (cT 50 cB) (cT 61 bK)
theorem aDV : X19 = aQ gG := by unfold X19 C19; repeat rw [bC fun _ h => h]
theorem xO (p0 : aB) (p1 : aC) (p2 : Int) : Le (Option.map cX (nU p0 p1 p2)) (bA SE 19 [aB.av p0, aC.av p1, .d (.int .i64 p2)] [] []) := by
 refine aV aDV rfl ?_
 refine Le.trans ?_ (le_of_eq (T19 ..).symm)
 unfold nU
 refine lQ eX agS (ait _ _) fun r0 _ => ?_
 refine lC ?_ ?_
 ·exact aJ rfl
 ·refine lQ eX gA (jM _) fun r1 _ => ?_
  refine lC ?_ ?_
  ·exact aJ rfl
  ·refine lQ eX eA (zM _ _ _) fun r2 _ => ?_
   exact aJ rfl
section
variable (Γ : Fun)  (Λ2 J : Lam)
def C65 : aP := aQ Γ
theorem T65 (p0 : aA) : bF SE (C65 Γ) Λ2 J 65 [aA.av p0] [] [] =
 (rB (p0.Level == 0)) := by kernel_rfl
end
abbrev X65 : aP := C65 gG
theorem aEY : X65 = aQ gG := rfl
theorem zT (p0 : aA) : Le (Option.map stringslite_HasPrefix_out (mU p0)) (bA SE 65 [aA.av p0] [] []) := by
 refine aV aEY rfl ?_
 refine Le.trans ?_ (le_of_eq (T65 ..).symm)
 unfold mU
 exact aJ rfl
def apg (C : aP) (Λ2 J : Lam) (a0 : List (List D)) (a1 a2 : Int) : Res := lab SE C Λ2 J 123 0 [1, 0, 1, 0] (aW [(0, .d (.sl aA.ks a0)), (1, .fn 65 [] []), (7, .d (.int .i64 a1)), (8, .d (.int .i64 a2))] [] [] [] [])
section
variable (Γ : Fun) (γ65 : Gm (Bool)) (Λ2 J : Lam)
def alG : aP := aY (aQ Γ) 65 stringslite_HasPrefix_out γ65
theorem aEf (p0 : List aA) : bF SE (alG Γ γ65) Λ2 J 123 [.d (.sl aA.ks (List.map aA.enc p0)), .fn 65 [] []] [] [] =
 apg (alG Γ γ65) Λ2 J (List.map aA.enc p0) (lM aA.enc p0 : Int) 0 := by kernel_rfl
theorem ayf (x0 : List aA) (x7 x8 : Int) : bT SE (alG Γ γ65) Λ2 J 123 0 [1, 0, 1, 0] (aW [(0, .d (.sl aA.ks (List.map aA.enc x0))), (1, .fn 65 [] []), (7, .d (.int .i64 x7)), (8, .d (.int .i64 x8))] [] [] [] []) =
 cond (decide (x8 < x7)) (
 cond (iB x8 (lM aA.enc x0 : Int)) (
  γ65 [.agg [.d (.str (bD (cE aA.enc x0 x8 0))), .d (.str (bD (cE aA.enc x0 x8 1))), .d (.int .i64 (aR (cE aA.enc x0 x8 2))), .d (.bool (bN (cE aA.enc x0 x8 3))), .d (.int .i64 (aR (cE aA.enc x0 x8 4))), .d (.int .i64 (aR (cE aA.enc x0 x8 5))), .d (.str (bD (cE aA.enc x0 x8 6))), .d (.int .i64 (aR (cE aA.enc x0 x8 7))), .d (.sl aG.ks (dSl (cE aA.enc x0 x8 8)))]] [] [] fun r0 =>
  cond r0 (
  (rI x8)) (
  apg (alG Γ γ65) Λ2 J (List.map aA.enc x0) x7 (w6 (x8 + 1)))) none) (
 (rI (-1))) := by kernel_rfl
end
abbrev aqA : aP := alG gG (cT 65 stringslite_HasPrefix_out)
theorem avi : aqA = aQ gG := by unfold aqA alG; rw [bC fun _ h => h]
abbrev awT := apg aqA (bP SE gG (SE.hl 123) (SE.hr 123)) (J0 SE aqA)
theorem qH : ∀ (fu : Nat) (x0 : List aA) (x7 x8 : Int), Le (Option.map stringslite_IndexByte_out (cJ fu x0 x7 x8)) (awT (List.map aA.enc x0) x7 x8) := by
 intro fu
 induction fu with
 | zero => intros; exact le_none
 | succ fu ih =>
  intro x0 x7 x8
  refine Le.trans ?_ (le_of_eq ((aZ avi).trans (ayf ..)).symm)
  unfold cJ
  refine lC ?_ ?_
  ·refine lG (by simp only [EN]) ?_
   refine lQ eX stringslite_HasPrefix_inj (by (try simp only [EN]); exact zT (List.getD x0 (Int.toNat x8) default)) fun r0 _ => ?_
   refine lC ?_ ?_
   ·exact aJ rfl
   ·exact ih x0 x7 (w6 (x8 + 1))
  ·exact aJ rfl
theorem rX (p0 : List aA) : Le (Option.map stringslite_IndexByte_out (dC p0)) (bA SE 123 [.d (.sl aA.ks (List.map aA.enc p0)), .fn 65 [] []] [] []) := by
 refine aV avi rfl ?_
 refine Le.trans ?_ (le_of_eq (aEf ..).symm)
 unfold dC
 (try simp only [EN]); exact qH fuel p0 (List.length p0 : Int) 0
def am5 (C : aP) (Λ2 J : Lam) (a0 a1 : Int) (a2 : List (List D)) : Res := lab SE C Λ2 J 64 0 [1, 1, 1, 0, 1, 0] (aW [(0, .row 3000), (1, .fn 65 [] []), (5, .d (.int .i64 a0)), (6, .d (.int .i64 a1))] [] [] [] [(3000, ⟨aA.ks, 34, 112, a2⟩)])
section
variable (Γ : Fun) (γ123 : Gm (Int)) (γ65 : Gm (Bool)) (Λ2 J : Lam)
def C64 : aP := aY (aY (aQ Γ) 123 stringslite_IndexByte_out γ123) 65 stringslite_HasPrefix_out γ65
theorem T64 (p0 : List aA) : bF SE (C64 Γ γ123 γ65) Λ2 J 64 [.row 2000000000, .fn 65 [] []] [] [⟨aA.ks, 34, 112, (List.map aA.enc p0)⟩] =
 γ123 [.d (.sl aA.ks (List.map aA.enc p0)), .fn 65 [] []] [] [] fun r0 =>
 cond (r0 == (-1)) (
 (some (.ret [.row 0] [] [⟨aA.ks, 34, 112, (List.map aA.enc p0)⟩]))) (
 am5 (C64 Γ γ123 γ65) Λ2 J r0 (w6 (r0 + 1)) (List.map aA.enc p0)) := by kernel_rfl
theorem aB6 (x5 x6 : Int) (w3000 : List aA) : bT SE (C64 Γ γ123 γ65) Λ2 J 64 0 [1, 1, 1, 0, 1, 0] (aW [(0, .row 3000), (1, .fn 65 [] []), (5, .d (.int .i64 x5)), (6, .d (.int .i64 x6))] [] [] [] [(3000, ⟨aA.ks, 34, 112, (List.map aA.enc w3000)⟩)]) =
 cond (decide (x6 < (lM aA.enc w3000 : Int))) (
 cond (iB x6 (lM aA.enc w3000 : Int)) (
  γ65 [.agg [.d (.str (bD (cE aA.enc w3000 x6 0))), .d (.str (bD (cE aA.enc w3000 x6 1))), .d (.int .i64 (aR (cE aA.enc w3000 x6 2))), .d (.bool (bN (cE aA.enc w3000 x6 3))), .d (.int .i64 (aR (cE aA.enc w3000 x6 4))), .d (.int .i64 (aR (cE aA.enc w3000 x6 5))), .d (.str (bD (cE aA.enc w3000 x6 6))), .d (.int .i64 (aR (cE aA.enc w3000 x6 7))), .d (.sl aG.ks (dSl (cE aA.enc w3000 x6 8)))]] [] [] fun r1 =>
  cond (!r1) (
  cond (iB x5 (lM aA.enc w3000 : Int)) (
   am5 (C64 Γ γ123 γ65) Λ2 J (w6 (x5 + 1)) (w6 (x6 + 1)) ((m7 (List.map aA.enc w3000) (Int.toNat x5) 0 [D.str (bD (cE aA.enc w3000 x6 0)), D.str (bD (cE aA.enc w3000 x6 1)), D.int .i64 (aR (cE aA.enc w3000 x6 2)), D.bool (bN (cE aA.enc w3000 x6 3)), D.int .i64 (aR (cE aA.enc w3000 x6 4)), D.int .i64 (aR (cE aA.enc w3000 x6 5)), D.str (bD (cE aA.enc w3000 x6 6)), D.int .i64 (aR (cE aA.enc w3000 x6 7)), D.sl aG.ks (dSl (cE aA.enc w3000 x6 8))]))) none) (
  am5 (C64 Γ γ123 γ65) Λ2 J x5 (w6 (x6 + 1)) (List.map aA.enc w3000))) none) (
 cond (decide (0 ≤ x5) && decide (x5 ≤ ((lM aA.enc w3000) : Int))) (
 cond (decide (0 ≤ x5) && decide (x5 ≤ (List.length (List.take (Int.toNat x5) (List.map aA.enc w3000) ++ List.replicate ((lM aA.enc w3000) - (Int.toNat x5)) [D.str [], D.str [], D.int .i64 0, D.bool false, D.int .i64 0, D.int .i64 0, D.str [], D.int .i64 0, D.sl aG.ks (List.map aG.enc [])] ++ List.drop ((Int.toNat x5) + ((lM aA.enc w3000) - (Int.toNat x5))) (List.map aA.enc w3000)) : Int))) (
  (some (.ret [.row 0] [] [⟨aA.ks, 34, 112, (List.take (Int.toNat x5) (List.take (Int.toNat x5) (List.map aA.enc w3000) ++ List.replicate ((lM aA.enc w3000) - (Int.toNat x5)) [D.str [], D.str [], D.int .i64 0, D.bool false, D.int .i64 0, D.int .i64 0, D.str [], D.int .i64 0, D.sl aG.ks (List.map aG.enc [])] ++ List.drop ((Int.toNat x5) + ((lM aA.enc w3000) - (Int.toNat x5))) (List.map aA.enc w3000)))⟩]))) none) none) := by kernel_rfl
end
abbrev X64 : aP := C64 gG (cT 123 stringslite_IndexByte_out) (cT 65 stringslite_HasPrefix_out)
theorem ayr : X64 = aQ gG := by unfold X64 C64; repeat rw [bC fun _ h => h]
abbrev aBQ := am5 X64 (bP SE gG (SE.hl 64) (SE.hr 64)) (J0 SE X64)
theorem pY : ∀ (fu : Nat) (x5 x6 : Int) (w3000 : List aA), Le (Option.map eW (cC fu x5 x6 w3000)) (aBQ x5 x6 (List.map aA.enc w3000)) := by
 intro fu
 induction fu with
 | zero => intros; exact le_none
 | succ fu ih =>
  intro x5 x6 w3000
  refine Le.trans ?_ (le_of_eq ((aZ ayr).trans (aB6 ..)).symm)
  unfold cC
  refine lD (by simp only [EN]) ?_ ?_
  ·refine lG (by simp only [EN]) ?_
   refine lQ eX stringslite_HasPrefix_inj (by (try simp only [EN]); exact zT (List.getD w3000 (Int.toNat x6) default)) fun r1 _ => ?_
   refine lC ?_ ?_
   ·refine lG (by simp only [EN]) ?_
    (try simp only [EN]); exact ih (w6 (x5 + 1)) (w6 (x6 + 1)) ((List.set w3000 (Int.toNat x5) (List.getD w3000 (Int.toNat x6) default)))
   ·exact ih x5 (w6 (x6 + 1)) w3000
  ·refine lG (by simp only [EN]) ?_
   refine lG (by simp only [EN]) ?_
   exact aJ (by first | rfl | simp only [EN, eW] <;> rfl)
theorem rU (p0 : List aA) : Le (Option.map eW (dA p0)) (bA SE 64 [.row 2000000000, .fn 65 [] []] [] [⟨aA.ks, 34, 112, (List.map aA.enc p0)⟩]) := by
 refine aV ayr rfl ?_
 refine Le.trans ?_ (le_of_eq (T64 ..).symm)
 unfold dA
 refine lQ eX stringslite_IndexByte_inj (rX _) fun r0 _ => ?_
 refine lC ?_ ?_
 ·exact aJ rfl
 ·exact pY fuel r0 (w6 (r0 + 1)) p0
section
variable (Γ : Fun) (γ50 : Gm (aB)) (γ64 : Gm ((List aA))) (γ51 : Gm (aB)) (Λ2 J : Lam)
def C23 : aP := aY (aY (aY (aQ Γ) 50 cB γ50) 64 eW γ64) 51 bQ γ51
theorem T23 (p0 : aB) (p1 : Int) : bF SE (C23 Γ γ50 γ64 γ51) Λ2 J 23 [aB.av p0, .d (.int .i64 p1)] [] [] =
 γ50 [aB.av p0] [] [] fun r0 =>
 γ64 [.row 2000000000, .fn 65 [] []] [] [⟨aA.ks, 34, 112, (List.map aA.enc r0.Queue)⟩] fun r1 =>
 γ51 [aB.av (aB.mk r0.Client r0.User false 0 r0.Expiry (if 1099511627776 < (w6 (p1 + p0.Expiry)) then 1099511627776 else (w6 (p1 + p0.Expiry))) r0.Dropped r0.Subs r1 r0.Out r0.In r0.Will), .d (.int .i64 (w6 ((lM aA.enc r0.Queue : Int) - (lM aA.enc r1 : Int))))] [] [] fun r2 =>
 (some (.ret [aB.av r2] [] [])) := by kernel_rfl
end
abbrev X23 : aP := C23 gG (cT 50 cB) (cT 64 eW) (cT 51 bQ)
theorem aEF : X23 = aQ gG := by unfold X23 C23; repeat rw [bC fun _ h => h]
theorem sD (p0 : aB) (p1 : Int) : Le (Option.map bQ (j6 p0 p1)) (bA SE 23 [aB.av p0, .d (.int .i64 p1)] [] []) := by
 refine aV aEF rfl ?_
 refine Le.trans ?_ (le_of_eq (T23 ..).symm)
 unfold j6
 refine lQ eX gA (jM _) fun r0 _ => ?_
 refine lQ eX ae6 (rU _) fun r1 _ => ?_
 refine lQ eX dH (by (try simp only [EN]); exact sN ((aB.mk r0.Client r0.User false 0 r0.Expiry (if 1099511627776 < (w6 (p1 + p0.Expiry)) then 1099511627776 else (w6 (p1 + p0.Expiry))) r0.Dropped r0.Subs r1 r0.Out r0.In r0.Will)) ((w6 ((List.length r0.Queue : Int) - (List.length r1 : Int))))) fun r2 _ => ?_
 exact aJ rfl
def am6 (C : aP) (Λ2 J : Lam) (a0 a1 : Int) (a2 : List D) (a3 : List (List D)) : Res := lab SE C Λ2 J 91 0 [1, 1, 0, 1, 0] (aW [(1, .ptr 1000000000 0), (3, .row 3003), (9, .d (.int .i64 a0)), (10, .d (.int .i64 a1))] [⟨29, (List.map AV.d a2)⟩] [] [] [(3003, ⟨aC.ks, 49, 416, a3⟩)])
section
variable (Γ : Fun) (γ112 γ147 : Gm (aC)) (Λ2 J : Lam)
def C91 : aP := aY (aY (aQ Γ) 112 bW γ112) 147 bW γ147
theorem T91 (p0 : aI) : bF SE (C91 Γ γ112 γ147) Λ2 J 91 [aI.av p0] [] [] =
 am6 (C91 Γ γ112 γ147) Λ2 J (lM aD.enc p0.Items : Int) 0 (aI.enc p0) (List.map aC.enc []) := by kernel_rfl
theorem aCo (x9 x10 : Int) (b0 : aI) (w3003 : List aC) : bT SE (C91 Γ γ112 γ147) Λ2 J 91 0 [1, 1, 0, 1, 0] (aW [(1, .ptr 1000000000 0), (3, .row 3003), (9, .d (.int .i64 x9)), (10, .d (.int .i64 x10))] [⟨29, (List.map AV.d (aI.enc b0))⟩] [] [] [(3003, ⟨aC.ks, 49, 416, (List.map aC.enc w3003)⟩)]) =
 cond (decide (x10 < x9)) (
 cond (iB x10 (lM aD.enc b0.Items : Int)) (
  cond ((aR (cE aD.enc b0.Items x10 1)) == 2) (
  γ112 [.d (.int .i64 (aR (cE aD.enc b0.Items x10 0)))] [] [] fun r0 =>
  cond (decide ((lM aC.enc w3003 + lM aC.enc [r0]) * 416 ≤ 140737488355328)) (
   am6 (C91 Γ γ112 γ147) Λ2 J x9 (w6 (x10 + 1)) (aI.enc b0) (((List.map aC.enc w3003) ++ (List.map aC.enc [r0])))) none) (
  γ147 [.agg [.d (.int .i64 (aR (cE aD.enc b0.Items x10 0))), .d (.int .i64 (aR (cE aD.enc b0.Items x10 1))), .d (.str (bD (cE aD.enc b0.Items x10 2))), .d (.str (bD (cE aD.enc b0.Items x10 3))), .d (.int .i64 (aR (cE aD.enc b0.Items x10 4))), .d (.bool (bN (cE aD.enc b0.Items x10 5))), .d (.int .i64 (aR (cE aD.enc b0.Items x10 6))), .d (.int .i64 (aR (cE aD.enc b0.Items x10 7))), .d (.str (bD (cE aD.enc b0.Items x10 8))), .d (.int .i64 (aR (cE aD.enc b0.Items x10 9))), .d (.sl aG.ks (dSl (cE aD.enc b0.Items x10 10)))]] [] [] fun r1 =>
  cond (decide ((lM aC.enc w3003 + lM aC.enc [(aC.mk r1.Kind r1.ID true r1.Message r1.Client r1.User r1.Clean r1.Keep r1.Expiry r1.Window r1.Will r1.Present r1.Code r1.Subs r1.Filters r1.Codes)]) * 416 ≤ 140737488355328)) (
  am6 (C91 Γ γ112 γ147) Λ2 J x9 (w6 (x10 + 1)) (aI.enc b0) (((List.map aC.enc w3003) ++ (List.map aC.enc [(aC.mk r1.Kind r1.ID true r1.Message r1.Client r1.User r1.Clean r1.Keep r1.Expiry r1.Window r1.Will r1.Present r1.Code r1.Subs r1.Filters r1.Codes)])))) none)) none) (
 (some (.ret [.row 0] [] [⟨aC.ks, 49, 416, (List.map aC.enc w3003)⟩]))) := by kernel_rfl
end
abbrev X91 : aP := C91 gG (cT 112 bW) (cT 147 bW)
theorem awJ : X91 = aQ gG := by unfold X91 C91; repeat rw [bC fun _ h => h]
abbrev aBo := am6 X91 (bP SE gG (SE.hl 91) (SE.hr 91)) (J0 SE X91)
theorem afw : ∀ (fu : Nat) (x9 x10 : Int) (b0 : aI) (w3003 : List aC), Le (Option.map dI (gV fu x9 x10 b0 w3003)) (aBo x9 x10 (aI.enc b0) (List.map aC.enc w3003)) := by
 intro fu
 induction fu with
 | zero => intros; exact le_none
 | succ fu ih =>
  intro x9 x10 b0 w3003
  refine Le.trans ?_ (le_of_eq ((aZ awJ).trans (aCo ..)).symm)
  unfold gV
  refine lC ?_ ?_
  ·refine lG (by simp only [EN]) ?_
   refine lD (by simp only [EN]) ?_ ?_
   ·refine lQ eX eP (by (try simp only [EN]); exact wL ((List.getD b0.Items (Int.toNat x10) default).ID)) fun r0 _ => ?_
    refine lG (by simp only [EN]) ?_
    (try simp only [EN]); exact ih x9 (w6 (x10 + 1)) b0 (w3003 ++ [r0])
   ·refine lQ eX eP (by (try simp only [EN]); exact aaM (List.getD b0.Items (Int.toNat x10) default)) fun r1 _ => ?_
    refine lG (by simp only [EN]) ?_
    (try simp only [EN]); exact ih x9 (w6 (x10 + 1)) b0 (w3003 ++ [(aC.mk r1.Kind r1.ID true r1.Message r1.Client r1.User r1.Clean r1.Keep r1.Expiry r1.Window r1.Will r1.Present r1.Code r1.Subs r1.Filters r1.Codes)])
  ·exact aJ rfl
theorem ah4 (p0 : aI) : Le (Option.map dI (oX p0)) (bA SE 91 [aI.av p0] [] []) := by
 refine aV awJ rfl ?_
 refine Le.trans ?_ (le_of_eq (T91 ..).symm)
 unfold oX
 (try simp only [EN]); exact afw fuel (List.length p0.Items : Int) 0 p0 []
section
variable (Γ : Fun) (γ50 : Gm (aB)) (γ80 : Gm (aA)) (γ91 : Gm ((List aC))) (γ61 : Gm (aB × (List aC))) (Λ2 J : Lam)
def C36 : aP := aY (aY (aY (aY (aQ Γ) 50 cB γ50) 80 bX γ80) 91 dI γ91) 61 bK γ61
theorem T36 (p0 : aB) (p1 : aC) (p2 p3 : Int) : bF SE (C36 Γ γ50 γ80 γ91 γ61) Λ2 J 36 [aB.av p0, aC.av p1, .d (.int .i64 p2), .d (.int .i64 p3)] [] [] =
 γ50 [aB.av p0] [] [] fun r0 =>
 γ80 [aA.av p1.Will.Message] [] [] fun r1 =>
 γ91 [aI.av (aI.mk p1.Window r0.Out.Items r0.Out.Pool)] [] [] fun r2 =>
 γ61 [aB.av (aB.mk r0.Client p1.User true p2 p1.Expiry 0 r0.Dropped r0.Subs r0.Queue (aI.mk p1.Window r0.Out.Items r0.Out.Pool) r0.In (aU.mk p1.Will.Set p1.Will.Delay r1)), .d (.int .i64 p3), .row 2000000000] [] [⟨aC.ks, 49, 416, (List.map aC.enc r2)⟩] fun r3 =>
 (some (.ret [aB.av r3.1, .row 0] [] [⟨aC.ks, 49, 416, (List.map aC.enc r3.2)⟩])) := by kernel_rfl
end
abbrev X36 : aP := C36 gG (cT 50 cB) (cT 80 bX) (cT 91 dI) (cT 61 bK)
theorem aEE : X36 = aQ gG := by unfold X36 C36; repeat rw [bC fun _ h => h]
theorem xR (p0 : aB) (p1 : aC) (p2 p3 : Int) : Le (Option.map bK (nS p0 p1 p2 p3)) (bA SE 36 [aB.av p0, aC.av p1, .d (.int .i64 p2), .d (.int .i64 p3)] [] []) := by
 refine aV aEE rfl ?_
 refine Le.trans ?_ (le_of_eq (T36 ..).symm)
 unfold nS
 refine lQ eX gA (jM _) fun r0 _ => ?_
 refine lQ eX c8 (mM _) fun r1 _ => ?_
 refine lQ eX aaO (ah4 _) fun r2 _ => ?_
 refine lQ eX eA (zM _ _ _) fun r3 _ => ?_
 exact aJ rfl
section
variable (Γ : Fun)  (Λ2 J : Lam)
def C24 : aP := aQ Γ
theorem T24 (p0 : aB) (p1 : Int) : bF SE (C24 Γ) Λ2 J 24 [aB.av p0, .d (.int .i64 p1)] [] [] =
 cond (!p0.Online) (
 (rB (decide (p1 ≥ p0.Until)))) (
 (rB false)) := by kernel_rfl
end
abbrev X24 : aP := C24 gG
theorem aEs : X24 = aQ gG := rfl
theorem sM (p0 : aB) (p1 : Int) : Le (Option.map stringslite_HasPrefix_out (j5 p0 p1)) (bA SE 24 [aB.av p0, .d (.int .i64 p1)] [] []) := by
 refine aV aEs rfl ?_
 refine Le.trans ?_ (le_of_eq (T24 ..).symm)
 unfold j5
 refine lC ?_ ?_
 ·exact aJ rfl
 ·exact aJ rfl
section
variable (Γ : Fun) (γ31 : Gm (aB)) (γ26 : Gm (aB × Bool × Int)) (γ15 : Gm (aB × Bool)) (γ34 : Gm (aB × (List aC))) (γ19 : Gm (aB × (List aC) × Int)) (γ23 : Gm (aB)) (γ36 : Gm (aB × (List aC))) (γ24 : Gm (Bool)) (Λ2 J : Lam)
def C14 : aP := aY (aY (aY (aY (aY (aY (aY (aY (aQ Γ) 31 cB γ31) 26 dV γ26) 15 cU γ15) 34 bK γ34) 19 cX γ19) 23 bQ γ23) 36 bK γ36) 24 stringslite_HasPrefix_out γ24
theorem T14 : bF SE (C14 Γ γ31 γ26 γ15 γ34 γ19 γ23 γ36 γ24) Λ2 J 14 [] [] [] =
 γ31 [.agg [.d (.int .i64 1), .d (.int .i64 0), .d (.bool false), .d (.str []), .d (.str []), .d (.int .i64 0), .d (.bool false), .d (.int .i64 0), .d (.int .i64 0), .d (.str []), .d (.int .i64 0), .d (.sl aG.ks (List.map aG.enc [])), .d (.str ([99] : Str)), .d (.str []), .d (.bool false), .d (.int .i64 0), .d (.int .i64 5), .d (.int .i64 1), .d (.bool false), .d (.int .i64 0), .d (.str []), .d (.str []), .d (.int .i64 0), .d (.bool false), .d (.int .i64 0), .d (.int .i64 0), .d (.str []), .d (.int .i64 0), .d (.sl aG.ks (List.map aG.enc [])), .d (.bool false), .d (.int .i64 0), .d (.sl aF.ks (List.map aF.enc [])), .d (.sl [.str] (List.map bL [])), .d (.sl [.int .i64] (List.map eI []))], .d (.int .i64 3)] [] [] fun r0 =>
 γ26 [aB.av r0, aF.av (aF.mk ([116] : Str) 0 false)] [] [] fun r1 =>
 γ15 [aB.av r1.1, .agg [.d (.str ([116] : Str)), .d (.str []), .d (.int .i64 1), .d (.bool false), .d (.int .i64 0), .d (.int .i64 0), .d (.str []), .d (.int .i64 1), .d (.sl aG.ks (List.map aG.enc []))], .d (.int .i64 9), .d (.int .i64 2)] [] [] fun r2 =>
 γ15 [aB.av r2.1, .agg [.d (.str ([116] : Str)), .d (.str []), .d (.int .i64 1), .d (.bool false), .d (.int .i64 0), .d (.int .i64 0), .d (.str []), .d (.int .i64 2), .d (.sl aG.ks (List.map aG.enc []))], .d (.int .i64 9), .d (.int .i64 2)] [] [] fun r3 =>
 γ34 [aB.av r3.1, .d (.int .i64 0)] [] [] fun r4 =>
 γ19 [aB.av r4.1, .agg [.d (.int .i64 4), .d (.int .i64 1), .d (.bool false), .d (.str []), .d (.str []), .d (.int .i64 0), .d (.bool false), .d (.int .i64 0), .d (.int .i64 0), .d (.str []), .d (.int .i64 0), .d (.sl aG.ks (List.map aG.enc [])), .d (.str []), .d (.str []), .d (.bool false), .d (.int .i64 0), .d (.int .i64 0), .d (.int .i64 0), .d (.bool false), .d (.int .i64 0), .d (.str []), .d (.str []), .d (.int .i64 0), .d (.bool false), .d (.int .i64 0), .d (.int .i64 0), .d (.str []), .d (.int .i64 0), .d (.sl aG.ks (List.map aG.enc [])), .d (.bool false), .d (.int .i64 0), .d (.sl aF.ks (List.map aF.enc [])), .d (.sl [.str] (List.map bL [])), .d (.sl [.int .i64] (List.map eI []))], .d (.int .i64 0)] [] [] fun r5 =>
 γ23 [aB.av r5.1, .d (.int .i64 10)] [] [] fun r6 =>
 γ36 [aB.av r6, .agg [.d (.int .i64 1), .d (.int .i64 0), .d (.bool false), .d (.str []), .d (.str []), .d (.int .i64 0), .d (.bool false), .d (.int .i64 0), .d (.int .i64 0), .d (.str []), .d (.int .i64 0), .d (.sl aG.ks (List.map aG.enc [])), .d (.str ([99] : Str)), .d (.str []), .d (.bool false), .d (.int .i64 0), .d (.int .i64 0), .d (.int .i64 1), .d (.bool false), .d (.int .i64 0), .d (.str []), .d (.str []), .d (.int .i64 0), .d (.bool false), .d (.int .i64 0), .d (.int .i64 0), .d (.str []), .d (.int .i64 0), .d (.sl aG.ks (List.map aG.enc [])), .d (.bool false), .d (.int .i64 0), .d (.sl aF.ks (List.map aF.enc [])), .d (.sl [.str] (List.map bL [])), .d (.sl [.int .i64] (List.map eI []))], .d (.int .i64 4), .d (.int .i64 12)] [] [] fun r7 =>
 cond (!r1.2.1) (
 cond (r1.2.2 == 0) (
  cond (!r2.2) (
  cond ((lM aC.enc r4.2 : Int) == 1) (
   cond (decide (0 ≤ 0) && decide (0 < (lM aC.enc r4.2 : Int))) (
   cond ((aR (cE aC.enc r4.2 0 1)) == 1) (
    cond (decide (0 ≤ 0) && decide (0 < (lM aC.enc r4.2 : Int))) (
    cond ((aR (cE aC.enc r4.2 0 10)) == 1) (
     cond ((lM aC.enc r5.2.1 : Int) == 1) (
     cond (decide (0 ≤ 0) && decide (0 < (lM aC.enc r5.2.1 : Int))) (
      cond ((aR (cE aC.enc r5.2.1 0 1)) == 2) (
      cond (r5.2.2 == 0) (
       cond (r6.Until == 15) (
       γ24 [aB.av r6, .d (.int .i64 14)] [] [] fun r8 =>
       cond (!r8) (
        γ24 [aB.av r6, .d (.int .i64 15)] [] [] fun r9 =>
        cond r9 (
        cond r7.1.Online (
         cond (r7.1.Conn == 4) (
         cond ((lM aC.enc r7.2 : Int) == 1) (
          cond (decide (0 ≤ 0) && decide (0 < (lM aC.enc r7.2 : Int))) (
          cond (bN (cE aC.enc r7.2 0 2)) (
           cond (decide (0 ≤ 0) && decide (0 < (lM aC.enc r7.2 : Int))) (
           (rB ((aR (cE aC.enc r7.2 0 1)) == 2))) none) (
          (rB false))) none) (
         (rB false))) (
         (rB false))) (
        (rB false))) (
        (rB false))) (
       (rB false))) (
       (rB false))) (
      (rB false))) (
      (rB false))) none) (
     (rB false))) (
    (rB false))) none) (
   (rB false))) none) (
  (rB false))) (
  (rB false))) (
 (rB false))) (
 (rB false)) := by kernel_rfl
end
abbrev X14 : aP := C14 gG (cT 31 cB) (cT 26 dV) (cT 15 cU) (cT 34 bK) (cT 19 cX) (cT 23 bQ) (cT 36 bK) (cT 24 stringslite_HasPrefix_out)
theorem aEP : X14 = aQ gG := by unfold X14 C14; repeat rw [bC fun _ h => h]
theorem bZ : Le (Option.map stringslite_HasPrefix_out (cA)) (bA SE 14 [] [] []) := by
 refine aV aEP rfl ?_
 refine Le.trans ?_ (le_of_eq (T14 _ _ _ _ _ _ _ _ _ _ _ ).symm)
 unfold cA
 refine lQ eX gA (by (try simp only [EN]); exact aaV ((aC.mk 1 0 false (aA.mk [] [] 0 false 0 0 [] 0 []) ([99] : Str) [] false 0 5 1 (aU.mk false 0 (aA.mk [] [] 0 false 0 0 [] 0 [])) false 0 [] [] [])) 3) fun r0 _ => ?_
 refine lQ eX yV (aat _ _) fun r1 _ => ?_
 refine lQ eX pN (by (try simp only [EN]); exact uM r1.1 ((aA.mk ([116] : Str) [] 1 false 0 0 [] 1 [])) 9 2) fun r2 _ => ?_
 refine lQ eX pN (by (try simp only [EN]); exact uM r2.1 ((aA.mk ([116] : Str) [] 1 false 0 0 [] 2 [])) 9 2) fun r3 _ => ?_
 refine lQ eX eA (aaz _ _) fun r4 _ => ?_
 refine lQ eX sL (by (try simp only [EN]); exact xO r4.1 ((aC.mk 4 1 false (aA.mk [] [] 0 false 0 0 [] 0 []) [] [] false 0 0 0 (aU.mk false 0 (aA.mk [] [] 0 false 0 0 [] 0 [])) false 0 [] [] [])) 0) fun r5 _ => ?_
 refine lQ eX dH (sD _ _) fun r6 _ => ?_
 refine lQ eX eA (by (try simp only [EN]); exact xR r6 ((aC.mk 1 0 false (aA.mk [] [] 0 false 0 0 [] 0 []) ([99] : Str) [] false 0 0 1 (aU.mk false 0 (aA.mk [] [] 0 false 0 0 [] 0 [])) false 0 [] [] [])) 4 12) fun r7 _ => ?_
 refine lC ?_ ?_
 ·refine lC ?_ ?_
  ·refine lC ?_ ?_
   ·refine lD (by simp only [EN]) ?_ ?_
    ·refine lG (by simp only [EN]) ?_
     refine lD (by simp only [EN]) ?_ ?_
     ·refine lG (by simp only [EN]) ?_
      refine lD (by simp only [EN]) ?_ ?_
      ·refine lD (by simp only [EN]) ?_ ?_
       ·refine lG (by simp only [EN]) ?_
        refine lD (by simp only [EN]) ?_ ?_
        ·refine lC ?_ ?_
         ·refine lC ?_ ?_
          ·refine lQ eX stringslite_HasPrefix_inj (sM _ _) fun r8 _ => ?_
           refine lC ?_ ?_
           ·refine lQ eX stringslite_HasPrefix_inj (sM _ _) fun r9 _ => ?_
            refine lC ?_ ?_
            ·refine lC ?_ ?_
             ·refine lC ?_ ?_
              ·refine lD (by simp only [EN]) ?_ ?_
               ·refine lG (by simp only [EN]) ?_
                refine lD (by simp only [EN]) ?_ ?_
                ·refine lG (by simp only [EN]) ?_
                 exact aJ (by first | rfl | simp only [EN, stringslite_HasPrefix_out] <;> rfl)
                ·exact aJ rfl
               ·exact aJ rfl
              ·exact aJ rfl
             ·exact aJ rfl
            ·exact aJ rfl
           ·exact aJ rfl
          ·exact aJ rfl
         ·exact aJ rfl
        ·exact aJ rfl
       ·exact aJ rfl
      ·exact aJ rfl
     ·exact aJ rfl
    ·exact aJ rfl
   ·exact aJ rfl
  ·exact aJ rfl
 ·exact aJ rfl
def aod (C : aP) (Λ2 J : Lam) (a0 a1 a2 : List D) : Res := lab SE C Λ2 J 73 0 [1, 1, 1, 1, 1, 1, 1, 1, 1, 0, 0] (aW [(1, .ptr 1000000000 0), (2, .ptr 1000000001 0), (3, .ptr 1000000002 0)] [⟨49, (List.map AV.d a0)⟩, ⟨49, (List.map AV.d a1)⟩, ⟨49, (List.map AV.d a2)⟩] [] [] [])
def apf (C : aP) (Λ2 J : Lam) (a0 a1 a2 : List D) : Res := lab SE C Λ2 J 73 0 [1, 1, 1, 1, 1, 1, 1, 1, 0, 0] (aW [(1, .ptr 1000000000 0), (2, .ptr 1000000001 0), (3, .ptr 1000000002 0)] [⟨49, (List.map AV.d a0)⟩, ⟨49, (List.map AV.d a1)⟩, ⟨49, (List.map AV.d a2)⟩] [] [] [])
def apc (C : aP) (Λ2 J : Lam) (a0 a1 a2 : List D) : Res := lab SE C Λ2 J 73 0 [1, 1, 1, 1, 1, 1, 1, 0, 0] (aW [(1, .ptr 1000000000 0), (2, .ptr 1000000001 0), (3, .ptr 1000000002 0)] [⟨49, (List.map AV.d a0)⟩, ⟨49, (List.map AV.d a1)⟩, ⟨49, (List.map AV.d a2)⟩] [] [] [])
def akD (C : aP) (Λ2 J : Lam) (a0 a1 a2 : List D) : Res := lab SE C Λ2 J 73 0 [1, 1, 1, 1, 1, 1, 0, 0] (aW [(1, .ptr 1000000000 0), (2, .ptr 1000000001 0), (3, .ptr 1000000002 0)] [⟨49, (List.map AV.d a0)⟩, ⟨49, (List.map AV.d a1)⟩, ⟨49, (List.map AV.d a2)⟩] [] [] [])
def apo (C : aP) (Λ2 J : Lam) (a0 a1 a2 : List D) : Res := lab SE C Λ2 J 73 0 [1, 1, 1, 1, 1, 0, 0] (aW [(1, .ptr 1000000000 0), (2, .ptr 1000000001 0), (3, .ptr 1000000002 0)] [⟨49, (List.map AV.d a0)⟩, ⟨49, (List.map AV.d a1)⟩, ⟨49, (List.map AV.d a2)⟩] [] [] [])
def aoO (C : aP) (Λ2 J : Lam) (a0 a1 a2 : List D) : Res := lab SE C Λ2 J 73 0 [1, 1, 1, 1, 0, 0] (aW [(1, .ptr 1000000000 0), (2, .ptr 1000000001 0), (3, .ptr 1000000002 0)] [⟨49, (List.map AV.d a0)⟩, ⟨49, (List.map AV.d a1)⟩, ⟨49, (List.map AV.d a2)⟩] [] [] [])
def aj8 (C : aP) (Λ2 J : Lam) (a0 a1 a2 : List D) : Res := lab SE C Λ2 J 73 0 [1, 1, 1, 0, 0] (aW [(1, .ptr 1000000000 0), (2, .ptr 1000000001 0), (3, .ptr 1000000002 0)] [⟨49, (List.map AV.d a0)⟩, ⟨49, (List.map AV.d a1)⟩, ⟨49, (List.map AV.d a2)⟩] [] [] [])
section
variable (Γ : Fun)  (Λ2 J : Lam)
def C73 : aP := aQ Γ
theorem T73 (p0 : aC) : bF SE (C73 Γ) Λ2 J 73 [aC.av p0] [] [] =
 cond (p0.Kind == 3) (
 aj8 (C73 Γ) Λ2 J (aC.enc p0) [D.int .i64 0, D.int .i64 0, D.bool false, D.str [], D.str [], D.int .i64 0, D.bool false, D.int .i64 0, D.int .i64 0, D.str [], D.int .i64 0, D.sl aG.ks (List.map aG.enc []), D.str [], D.str [], D.bool false, D.int .i64 0, D.int .i64 0, D.int .i64 0, D.bool false, D.int .i64 0, D.str [], D.str [], D.int .i64 0, D.bool false, D.int .i64 0, D.int .i64 0, D.str [], D.int .i64 0, D.sl aG.ks (List.map aG.enc []), D.bool false, D.int .i64 0, D.sl aF.ks (List.map aF.enc []), D.sl [.str] (List.map bL []), D.sl [.int .i64] (List.map eI [])] [D.int .i64 p0.Kind, D.int .i64 p0.ID, D.bool false, D.str [], D.str [], D.int .i64 0, D.bool false, D.int .i64 0, D.int .i64 0, D.str [], D.int .i64 0, D.sl aG.ks (List.map aG.enc []), D.str [], D.str [], D.bool false, D.int .i64 0, D.int .i64 0, D.int .i64 0, D.bool false, D.int .i64 0, D.str [], D.str [], D.int .i64 0, D.bool false, D.int .i64 0, D.int .i64 0, D.str [], D.int .i64 0, D.sl aG.ks (List.map aG.enc []), D.bool false, D.int .i64 0, D.sl aF.ks (List.map aF.enc []), D.sl [.str] (List.map bL []), D.sl [.int .i64] (List.map eI [])]) (
 cond (decide (p0.Kind ≥ 4)) (
 cond (decide (p0.Kind ≤ 11)) (
  aj8 (C73 Γ) Λ2 J (aC.enc p0) [D.int .i64 0, D.int .i64 0, D.bool false, D.str [], D.str [], D.int .i64 0, D.bool false, D.int .i64 0, D.int .i64 0, D.str [], D.int .i64 0, D.sl aG.ks (List.map aG.enc []), D.str [], D.str [], D.bool false, D.int .i64 0, D.int .i64 0, D.int .i64 0, D.bool false, D.int .i64 0, D.str [], D.str [], D.int .i64 0, D.bool false, D.int .i64 0, D.int .i64 0, D.str [], D.int .i64 0, D.sl aG.ks (List.map aG.enc []), D.bool false, D.int .i64 0, D.sl aF.ks (List.map aF.enc []), D.sl [.str] (List.map bL []), D.sl [.int .i64] (List.map eI [])] [D.int .i64 p0.Kind, D.int .i64 p0.ID, D.bool false, D.str [], D.str [], D.int .i64 0, D.bool false, D.int .i64 0, D.int .i64 0, D.str [], D.int .i64 0, D.sl aG.ks (List.map aG.enc []), D.str [], D.str [], D.bool false, D.int .i64 0, D.int .i64 0, D.int .i64 0, D.bool false, D.int .i64 0, D.str [], D.str [], D.int .i64 0, D.bool false, D.int .i64 0, D.int .i64 0, D.str [], D.int .i64 0, D.sl aG.ks (List.map aG.enc []), D.bool false, D.int .i64 0, D.sl aF.ks (List.map aF.enc []), D.sl [.str] (List.map bL []), D.sl [.int .i64] (List.map eI [])]) (
 aj8 (C73 Γ) Λ2 J (aC.enc p0) [D.int .i64 0, D.int .i64 0, D.bool false, D.str [], D.str [], D.int .i64 0, D.bool false, D.int .i64 0, D.int .i64 0, D.str [], D.int .i64 0, D.sl aG.ks (List.map aG.enc []), D.str [], D.str [], D.bool false, D.int .i64 0, D.int .i64 0, D.int .i64 0, D.bool false, D.int .i64 0, D.str [], D.str [], D.int .i64 0, D.bool false, D.int .i64 0, D.int .i64 0, D.str [], D.int .i64 0, D.sl aG.ks (List.map aG.enc []), D.bool false, D.int .i64 0, D.sl aF.ks (List.map aF.enc []), D.sl [.str] (List.map bL []), D.sl [.int .i64] (List.map eI [])] [D.int .i64 p0.Kind, D.int .i64 0, D.bool false, D.str [], D.str [], D.int .i64 0, D.bool false, D.int .i64 0, D.int .i64 0, D.str [], D.int .i64 0, D.sl aG.ks (List.map aG.enc []), D.str [], D.str [], D.bool false, D.int .i64 0, D.int .i64 0, D.int .i64 0, D.bool false, D.int .i64 0, D.str [], D.str [], D.int .i64 0, D.bool false, D.int .i64 0, D.int .i64 0, D.str [], D.int .i64 0, D.sl aG.ks (List.map aG.enc []), D.bool false, D.int .i64 0, D.sl aF.ks (List.map aF.enc []), D.sl [.str] (List.map bL []), D.sl [.int .i64] (List.map eI [])])) (
 aj8 (C73 Γ) Λ2 J (aC.enc p0) [D.int .i64 0, D.int .i64 0, D.bool false, D.str [], D.str [], D.int .i64 0, D.bool false, D.int .i64 0, D.int .i64 0, D.str [], D.int .i64 0, D.sl aG.ks (List.map aG.enc []), D.str [], D.str [], D.bool false, D.int .i64 0, D.int .i64 0, D.int .i64 0, D.bool false, D.int .i64 0, D.str [], D.str [], D.int .i64 0, D.bool false, D.int .i64 0, D.int .i64 0, D.str [], D.int .i64 0, D.sl aG.ks (List.map aG.enc []), D.bool false, D.int .i64 0, D.sl aF.ks (List.map aF.enc []), D.sl [.str] (List.map bL []), D.sl [.int .i64] (List.map eI [])] [D.int .i64 p0.Kind, D.int .i64 0, D.bool false, D.str [], D.str [], D.int .i64 0, D.bool false, D.int .i64 0, D.int .i64 0, D.str [], D.int .i64 0, D.sl aG.ks (List.map aG.enc []), D.str [], D.str [], D.bool false, D.int .i64 0, D.int .i64 0, D.int .i64 0, D.bool false, D.int .i64 0, D.str [], D.str [], D.int .i64 0, D.bool false, D.int .i64 0, D.int .i64 0, D.str [], D.int .i64 0, D.sl aG.ks (List.map aG.enc []), D.bool false, D.int .i64 0, D.sl aF.ks (List.map aF.enc []), D.sl [.str] (List.map bL []), D.sl [.int .i64] (List.map eI [])])) := by kernel_rfl
theorem ayx (b0 b1 b2 : aC) : bT SE (C73 Γ) Λ2 J 73 0 [1, 1, 1, 1, 1, 1, 1, 1, 1, 0, 0] (aW [(1, .ptr 1000000000 0), (2, .ptr 1000000001 0), (3, .ptr 1000000002 0)] [⟨49, (List.map AV.d (aC.enc b0))⟩, ⟨49, (List.map AV.d (aC.enc b1))⟩, ⟨49, (List.map AV.d (aC.enc b2))⟩] [] [] []) =
 cond (b0.Kind == 9) (
 (some (.ret [aC.av (aC.mk b2.Kind b2.ID b2.Dup b2.Message b2.Client b2.User b2.Clean b2.Keep b2.Expiry b2.Window b2.Will b2.Present b2.Code b2.Subs b2.Filters b0.Codes)] [] []))) (
 cond (b0.Kind == 11) (
 (some (.ret [aC.av (aC.mk b2.Kind b2.ID b2.Dup b2.Message b2.Client b2.User b2.Clean b2.Keep b2.Expiry b2.Window b2.Will b2.Present b2.Code b2.Subs b2.Filters b0.Codes)] [] []))) (
 (some (.ret [aC.av b2] [] [])))) := by kernel_rfl
theorem axv (b0 b1 b2 : aC) : bT SE (C73 Γ) Λ2 J 73 0 [1, 1, 1, 1, 1, 1, 1, 1, 0, 0] (aW [(1, .ptr 1000000000 0), (2, .ptr 1000000001 0), (3, .ptr 1000000002 0)] [⟨49, (List.map AV.d (aC.enc b0))⟩, ⟨49, (List.map AV.d (aC.enc b1))⟩, ⟨49, (List.map AV.d (aC.enc b2))⟩] [] [] []) =
 cond (b0.Kind == 10) (
 aod (C73 Γ) Λ2 J (aC.enc b0) (aC.enc b1) (aC.enc (aC.mk b2.Kind b2.ID b2.Dup b2.Message b2.Client b2.User b2.Clean b2.Keep b2.Expiry b2.Window b2.Will b2.Present b2.Code b2.Subs b0.Filters b2.Codes))) (
 aod (C73 Γ) Λ2 J (aC.enc b0) (aC.enc b1) (aC.enc b2)) := by kernel_rfl
theorem ayz (b0 b1 b2 : aC) : bT SE (C73 Γ) Λ2 J 73 0 [1, 1, 1, 1, 1, 1, 1, 0, 0] (aW [(1, .ptr 1000000000 0), (2, .ptr 1000000001 0), (3, .ptr 1000000002 0)] [⟨49, (List.map AV.d (aC.enc b0))⟩, ⟨49, (List.map AV.d (aC.enc b1))⟩, ⟨49, (List.map AV.d (aC.enc b2))⟩] [] [] []) =
 cond (b0.Kind == 8) (
 apf (C73 Γ) Λ2 J (aC.enc b0) (aC.enc b1) (aC.enc (aC.mk b2.Kind b2.ID b2.Dup b2.Message b2.Client b2.User b2.Clean b2.Keep b2.Expiry b2.Window b2.Will b2.Present b2.Code b0.Subs b2.Filters b2.Codes))) (
 apf (C73 Γ) Λ2 J (aC.enc b0) (aC.enc b1) (aC.enc b2)) := by kernel_rfl
theorem azg (b0 b1 b2 : aC) : bT SE (C73 Γ) Λ2 J 73 0 [1, 1, 1, 1, 1, 1, 0, 0] (aW [(1, .ptr 1000000000 0), (2, .ptr 1000000001 0), (3, .ptr 1000000002 0)] [⟨49, (List.map AV.d (aC.enc b0))⟩, ⟨49, (List.map AV.d (aC.enc b1))⟩, ⟨49, (List.map AV.d (aC.enc b2))⟩] [] [] []) =
 cond (b0.Kind == 3) (
 apc (C73 Γ) Λ2 J (aC.enc b0) (aC.enc b1) (aC.enc (aC.mk b2.Kind b2.ID b0.Dup b0.Message b2.Client b2.User b2.Clean b2.Keep b2.Expiry b2.Window b2.Will b2.Present b2.Code b2.Subs b2.Filters b2.Codes))) (
 apc (C73 Γ) Λ2 J (aC.enc b0) (aC.enc b1) (aC.enc b2)) := by kernel_rfl
theorem ayd (b0 b1 b2 : aC) : bT SE (C73 Γ) Λ2 J 73 0 [1, 1, 1, 1, 1, 0, 0] (aW [(1, .ptr 1000000000 0), (2, .ptr 1000000001 0), (3, .ptr 1000000002 0)] [⟨49, (List.map AV.d (aC.enc b0))⟩, ⟨49, (List.map AV.d (aC.enc b1))⟩, ⟨49, (List.map AV.d (aC.enc b2))⟩] [] [] []) =
 cond (b0.Kind == 2) (
 akD (C73 Γ) Λ2 J (aC.enc b0) (aC.enc b1) (aC.enc (aC.mk b2.Kind b2.ID b2.Dup b2.Message b2.Client b2.User b2.Clean b2.Keep b2.Expiry b2.Window b2.Will b2.Present b0.Code b2.Subs b2.Filters b2.Codes))) (
 cond (b0.Kind == 14) (
 akD (C73 Γ) Λ2 J (aC.enc b0) (aC.enc b1) (aC.enc (aC.mk b2.Kind b2.ID b2.Dup b2.Message b2.Client b2.User b2.Clean b2.Keep b2.Expiry b2.Window b2.Will b2.Present b0.Code b2.Subs b2.Filters b2.Codes))) (
 akD (C73 Γ) Λ2 J (aC.enc b0) (aC.enc b1) (aC.enc b2))) := by kernel_rfl
theorem aAj (b0 b1 b2 : aC) : bT SE (C73 Γ) Λ2 J 73 0 [1, 1, 1, 1, 0, 0] (aW [(1, .ptr 1000000000 0), (2, .ptr 1000000001 0), (3, .ptr 1000000002 0)] [⟨49, (List.map AV.d (aC.enc b0))⟩, ⟨49, (List.map AV.d (aC.enc b1))⟩, ⟨49, (List.map AV.d (aC.enc b2))⟩] [] [] []) =
 cond (b0.Kind == 2) (
 apo (C73 Γ) Λ2 J (aC.enc b0) (aC.enc b1) (aC.enc (aC.mk b2.Kind b2.ID b2.Dup b2.Message b2.Client b2.User b2.Clean b2.Keep b2.Expiry b2.Window b2.Will b0.Present b2.Code b2.Subs b2.Filters b2.Codes))) (
 apo (C73 Γ) Λ2 J (aC.enc b0) (aC.enc b1) (aC.enc b2)) := by kernel_rfl
theorem aCw (b0 b1 b2 : aC) : bT SE (C73 Γ) Λ2 J 73 0 [1, 1, 1, 0, 0] (aW [(1, .ptr 1000000000 0), (2, .ptr 1000000001 0), (3, .ptr 1000000002 0)] [⟨49, (List.map AV.d (aC.enc b0))⟩, ⟨49, (List.map AV.d (aC.enc b1))⟩, ⟨49, (List.map AV.d (aC.enc b2))⟩] [] [] []) =
 cond (b0.Kind == 1) (
 aoO (C73 Γ) Λ2 J (aC.enc b0) (aC.enc b1) (aC.enc (aC.mk b2.Kind b2.ID b2.Dup b2.Message b0.Client b0.User b0.Clean b0.Keep b0.Expiry b0.Window b0.Will b2.Present b2.Code b2.Subs b2.Filters b2.Codes))) (
 aoO (C73 Γ) Λ2 J (aC.enc b0) (aC.enc b1) (aC.enc b2)) := by kernel_rfl
end
abbrev X73 : aP := C73 gG
theorem ahR : X73 = aQ gG := rfl
abbrev ayi := aod X73 (bP SE gG (SE.hl 73) (SE.hr 73)) (J0 SE X73)
abbrev azw := apf X73 (bP SE gG (SE.hl 73) (SE.hr 73)) (J0 SE X73)
abbrev awz := apc X73 (bP SE gG (SE.hl 73) (SE.hr 73)) (J0 SE X73)
abbrev ayH := akD X73 (bP SE gG (SE.hl 73) (SE.hr 73)) (J0 SE X73)
abbrev azY := apo X73 (bP SE gG (SE.hl 73) (SE.hr 73)) (J0 SE X73)
abbrev ax0 := aoO X73 (bP SE gG (SE.hl 73) (SE.hr 73)) (J0 SE X73)
abbrev aCS := aj8 X73 (bP SE gG (SE.hl 73) (SE.hr 73)) (J0 SE X73)
theorem xM (b0 b1 b2 : aC) : Le (Option.map cY (qB b0 b1 b2)) (ayi (aC.enc b0) (aC.enc b1) (aC.enc b2)) := by
 refine Le.trans ?_ (le_of_eq ((aZ ahR).trans (ayx ..)).symm)
 unfold qB
 refine lC ?_ ?_
 ·exact aJ rfl
 ·refine lC ?_ ?_
  ·exact aJ rfl
  ·exact aJ rfl
theorem xD (b0 b1 b2 : aC) : Le (Option.map cY (pU b0 b1 b2)) (azw (aC.enc b0) (aC.enc b1) (aC.enc b2)) := by
 refine Le.trans ?_ (le_of_eq ((aZ ahR).trans (axv ..)).symm)
 unfold pU
 refine lC ?_ ?_
 ·exact xM b0 b1 (aC.mk b2.Kind b2.ID b2.Dup b2.Message b2.Client b2.User b2.Clean b2.Keep b2.Expiry b2.Window b2.Will b2.Present b2.Code b2.Subs b0.Filters b2.Codes)
 ·exact xM b0 b1 b2
theorem xG (b0 b1 b2 : aC) : Le (Option.map cY (pW b0 b1 b2)) (awz (aC.enc b0) (aC.enc b1) (aC.enc b2)) := by
 refine Le.trans ?_ (le_of_eq ((aZ ahR).trans (ayz ..)).symm)
 unfold pW
 refine lC ?_ ?_
 ·exact xD b0 b1 (aC.mk b2.Kind b2.ID b2.Dup b2.Message b2.Client b2.User b2.Clean b2.Keep b2.Expiry b2.Window b2.Will b2.Present b2.Code b0.Subs b2.Filters b2.Codes)
 ·exact xD b0 b1 b2
theorem rY (b0 b1 b2 : aC) : Le (Option.map cY (mI b0 b1 b2)) (ayH (aC.enc b0) (aC.enc b1) (aC.enc b2)) := by
 refine Le.trans ?_ (le_of_eq ((aZ ahR).trans (azg ..)).symm)
 unfold mI
 refine lC ?_ ?_
 ·exact xG b0 b1 (aC.mk b2.Kind b2.ID b0.Dup b0.Message b2.Client b2.User b2.Clean b2.Keep b2.Expiry b2.Window b2.Will b2.Present b2.Code b2.Subs b2.Filters b2.Codes)
 ·exact xG b0 b1 b2
theorem xK (b0 b1 b2 : aC) : Le (Option.map cY (pV b0 b1 b2)) (azY (aC.enc b0) (aC.enc b1) (aC.enc b2)) := by
 refine Le.trans ?_ (le_of_eq ((aZ ahR).trans (ayd ..)).symm)
 unfold pV
 refine lC ?_ ?_
 ·exact rY b0 b1 (aC.mk b2.Kind b2.ID b2.Dup b2.Message b2.Client b2.User b2.Clean b2.Keep b2.Expiry b2.Window b2.Will b2.Present b0.Code b2.Subs b2.Filters b2.Codes)
 ·refine lC ?_ ?_
  ·exact rY b0 b1 (aC.mk b2.Kind b2.ID b2.Dup b2.Message b2.Client b2.User b2.Clean b2.Keep b2.Expiry b2.Window b2.Will b2.Present b0.Code b2.Subs b2.Filters b2.Codes)
  ·exact rY b0 b1 b2
theorem xE (b0 b1 b2 : aC) : Le (Option.map cY (p8 b0 b1 b2)) (ax0 (aC.enc b0) (aC.enc b1) (aC.enc b2)) := by
 refine Le.trans ?_ (le_of_eq ((aZ ahR).trans (aAj ..)).symm)
 unfold p8
 refine lC ?_ ?_
 ·exact xK b0 b1 (aC.mk b2.Kind b2.ID b2.Dup b2.Message b2.Client b2.User b2.Clean b2.Keep b2.Expiry b2.Window b2.Will b0.Present b2.Code b2.Subs b2.Filters b2.Codes)
 ·exact xK b0 b1 b2
theorem n8 (b0 b1 b2 : aC) : Le (Option.map cY (kA b0 b1 b2)) (aCS (aC.enc b0) (aC.enc b1) (aC.enc b2)) := by
 refine Le.trans ?_ (le_of_eq ((aZ ahR).trans (aCw ..)).symm)
 unfold kA
 refine lC ?_ ?_
 ·exact xE b0 b1 (aC.mk b2.Kind b2.ID b2.Dup b2.Message b0.Client b0.User b0.Clean b0.Keep b0.Expiry b0.Window b0.Will b2.Present b2.Code b2.Subs b2.Filters b2.Codes)
 ·exact xE b0 b1 b2
theorem ag1 (p0 : aC) : Le (Option.map cY (uN p0)) (bA SE 73 [aC.av p0] [] []) := by
 refine aV ahR rfl ?_
 refine Le.trans ?_ (le_of_eq (T73 ..).symm)
 unfold uN
 refine lC ?_ ?_
 ·(try simp only [EN]); exact n8 p0 ((aC.mk 0 0 false (aA.mk [] [] 0 false 0 0 [] 0 []) [] [] false 0 0 0 (aU.mk false 0 (aA.mk [] [] 0 false 0 0 [] 0 [])) false 0 [] [] [])) ((aC.mk p0.Kind p0.ID false (aA.mk [] [] 0 false 0 0 [] 0 []) [] [] false 0 0 0 (aU.mk false 0 (aA.mk [] [] 0 false 0 0 [] 0 [])) false 0 [] [] []))
 ·refine lC ?_ ?_
  ·refine lC ?_ ?_
   ·(try simp only [EN]); exact n8 p0 ((aC.mk 0 0 false (aA.mk [] [] 0 false 0 0 [] 0 []) [] [] false 0 0 0 (aU.mk false 0 (aA.mk [] [] 0 false 0 0 [] 0 [])) false 0 [] [] [])) ((aC.mk p0.Kind p0.ID false (aA.mk [] [] 0 false 0 0 [] 0 []) [] [] false 0 0 0 (aU.mk false 0 (aA.mk [] [] 0 false 0 0 [] 0 [])) false 0 [] [] []))
   ·(try simp only [EN]); exact n8 p0 ((aC.mk 0 0 false (aA.mk [] [] 0 false 0 0 [] 0 []) [] [] false 0 0 0 (aU.mk false 0 (aA.mk [] [] 0 false 0 0 [] 0 [])) false 0 [] [] [])) ((aC.mk p0.Kind 0 false (aA.mk [] [] 0 false 0 0 [] 0 []) [] [] false 0 0 0 (aU.mk false 0 (aA.mk [] [] 0 false 0 0 [] 0 [])) false 0 [] [] []))
  ·(try simp only [EN]); exact n8 p0 ((aC.mk 0 0 false (aA.mk [] [] 0 false 0 0 [] 0 []) [] [] false 0 0 0 (aU.mk false 0 (aA.mk [] [] 0 false 0 0 [] 0 [])) false 0 [] [] [])) ((aC.mk p0.Kind 0 false (aA.mk [] [] 0 false 0 0 [] 0 []) [] [] false 0 0 0 (aU.mk false 0 (aA.mk [] [] 0 false 0 0 [] 0 [])) false 0 [] [] []))
def aoC (C : aP) (Λ2 J : Lam) (a0 a1 : List (List D)) (a2 : Int) : Res := lab SE C Λ2 J 149 0 [1, 1, 0, 1, 0] (aW [(0, .d (.sl aG.ks a0)), (1, .d (.sl aG.ks a1)), (5, .d (.int .i64 a2))] [] [] [] [])
section
variable (Γ : Fun)  (Λ2 J : Lam)
def aoj : aP := aQ Γ
theorem aDL (p0 p1 : List aG) : bF SE (aoj Γ) Λ2 J 149 [.d (.sl aG.ks (List.map aG.enc p0)), .d (.sl aG.ks (List.map aG.enc p1))] [] [] =
 cond ((lM aG.enc p0 : Int) != (lM aG.enc p1 : Int)) (
 (rB false)) (
 aoC (aoj Γ) Λ2 J (List.map aG.enc p0) (List.map aG.enc p1) 0) := by kernel_rfl
theorem ayg (x0 x1 : List aG) (x5 : Int) : bT SE (aoj Γ) Λ2 J 149 0 [1, 1, 0, 1, 0] (aW [(0, .d (.sl aG.ks (List.map aG.enc x0))), (1, .d (.sl aG.ks (List.map aG.enc x1))), (5, .d (.int .i64 x5))] [] [] [] []) =
 cond (decide (x5 < (lM aG.enc x0 : Int))) (
 cond (iB x5 (lM aG.enc x0 : Int)) (
  cond (iB x5 (lM aG.enc x1 : Int)) (
  cond (!(((bD (cE aG.enc x0 x5 0)) == (bD (cE aG.enc x1 x5 0))) && (((bD (cE aG.enc x0 x5 1)) == (bD (cE aG.enc x1 x5 1))) && true))) (
   (rB false)) (
  aoC (aoj Γ) Λ2 J (List.map aG.enc x0) (List.map aG.enc x1) (w6 (x5 + 1)))) none) none) (
 (rB true)) := by kernel_rfl
end
abbrev auW : aP := aoj gG
theorem ave : auW = aQ gG := rfl
abbrev azi := aoC auW (bP SE gG (SE.hl 149) (SE.hr 149)) (J0 SE auW)
theorem abE : ∀ (fu : Nat) (x0 x1 : List aG) (x5 : Int), Le (Option.map stringslite_HasPrefix_out (e9 fu x0 x1 x5)) (azi (List.map aG.enc x0) (List.map aG.enc x1) x5) := by
 intro fu
 induction fu with
 | zero => intros; exact le_none
 | succ fu ih =>
  intro x0 x1 x5
  refine Le.trans ?_ (le_of_eq ((aZ ave).trans (ayg ..)).symm)
  unfold e9
  refine lD (by simp only [EN]) ?_ ?_
  ·refine lG (by simp only [EN]) ?_
   refine lG (by simp only [EN]) ?_
   refine lD (by simp only [EN]) ?_ ?_
   ·exact aJ rfl
   ·exact ih x0 x1 (w6 (x5 + 1))
  ·exact aJ rfl
theorem ada (p0 p1 : List aG) : Le (Option.map stringslite_HasPrefix_out (lE p0 p1)) (bA SE 149 [.d (.sl aG.ks (List.map aG.enc p0)), .d (.sl aG.ks (List.map aG.enc p1))] [] []) := by
 refine aV ave rfl ?_
 refine Le.trans ?_ (le_of_eq (aDL ..).symm)
 unfold lE
 refine lD (by simp only [EN]) ?_ ?_
 ·exact aJ rfl
 ·exact abE fuel p0 p1 0
section
variable (Γ : Fun) (γ149 : Gm (Bool)) (Λ2 J : Lam)
def C97 : aP := aY (aQ Γ) 149 stringslite_HasPrefix_out γ149
theorem T97 (p0 p1 : aA) : bF SE (C97 Γ γ149) Λ2 J 97 [aA.av p0, aA.av p1] [] [] =
 cond (p0.Topic == p1.Topic) (
 cond (p0.Payload == p1.Payload) (
  cond (p0.Level == p1.Level) (
  cond (p0.Retain == p1.Retain) (
   cond (p0.Priority == p1.Priority) (
   cond (p0.Expires == p1.Expires) (
    cond (p0.From == p1.From) (
    cond (p0.Seq == p1.Seq) (
     γ149 [.d (.sl aG.ks (List.map aG.enc p0.Props)), .d (.sl aG.ks (List.map aG.enc p1.Props))] [] [] fun r0 =>
     (rB r0)) (
    (rB false))) (
    (rB false))) (
   (rB false))) (
   (rB false))) (
  (rB false))) (
  (rB false))) (
 (rB false))) (
 (rB false)) := by kernel_rfl
end
abbrev X97 : aP := C97 gG (cT 149 stringslite_HasPrefix_out)
theorem aET : X97 = aQ gG := by unfold X97 C97; rw [bC fun _ h => h]
theorem iL (p0 p1 : aA) : Le (Option.map stringslite_HasPrefix_out (fA p0 p1)) (bA SE 97 [aA.av p0, aA.av p1] [] []) := by
 refine aV aET rfl ?_
 refine Le.trans ?_ (le_of_eq (T97 ..).symm)
 unfold fA
 refine lC ?_ ?_
 ·refine lC ?_ ?_
  ·refine lC ?_ ?_
   ·refine lC ?_ ?_
    ·refine lC ?_ ?_
     ·refine lC ?_ ?_
      ·refine lC ?_ ?_
       ·refine lC ?_ ?_
        ·refine lQ eX stringslite_HasPrefix_inj (ada _ _) fun r0 _ => ?_
         exact aJ rfl
        ·exact aJ rfl
       ·exact aJ rfl
      ·exact aJ rfl
     ·exact aJ rfl
    ·exact aJ rfl
   ·exact aJ rfl
  ·exact aJ rfl
 ·exact aJ rfl
section
variable (Γ : Fun) (γ97 : Gm (Bool)) (Λ2 J : Lam)
def auO : aP := aY (aQ Γ) 97 stringslite_HasPrefix_out γ97
theorem aEy (p0 p1 : aU) : bF SE (auO Γ γ97) Λ2 J 119 [aU.av p0, aU.av p1] [] [] =
 cond (p0.Set == p1.Set) (
 cond (p0.Delay == p1.Delay) (
  γ97 [aA.av p0.Message, aA.av p1.Message] [] [] fun r0 =>
  (rB r0)) (
 (rB false))) (
 (rB false)) := by kernel_rfl
end
abbrev ayM : aP := auO gG (cT 97 stringslite_HasPrefix_out)
theorem aBv : ayM = aQ gG := by unfold ayM auO; rw [bC fun _ h => h]
theorem adC (p0 p1 : aU) : Le (Option.map stringslite_HasPrefix_out (lY p0 p1)) (bA SE 119 [aU.av p0, aU.av p1] [] []) := by
 refine aV aBv rfl ?_
 refine Le.trans ?_ (le_of_eq (aEy ..).symm)
 unfold lY
 refine lC ?_ ?_
 ·refine lC ?_ ?_
  ·refine lQ eX stringslite_HasPrefix_inj (iL _ _) fun r0 _ => ?_
   exact aJ rfl
  ·exact aJ rfl
 ·exact aJ rfl
def aoi (C : aP) (Λ2 J : Lam) (a0 a1 : List (List D)) (a2 : Int) : Res := lab SE C Λ2 J 120 0 [1, 1, 0, 1, 0] (aW [(0, .d (.sl aF.ks a0)), (1, .d (.sl aF.ks a1)), (5, .d (.int .i64 a2))] [] [] [] [])
section
variable (Γ : Fun)  (Λ2 J : Lam)
def apv : aP := aQ Γ
theorem aEg (p0 p1 : List aF) : bF SE (apv Γ) Λ2 J 120 [.d (.sl aF.ks (List.map aF.enc p0)), .d (.sl aF.ks (List.map aF.enc p1))] [] [] =
 cond ((lM aF.enc p0 : Int) != (lM aF.enc p1 : Int)) (
 (rB false)) (
 aoi (apv Γ) Λ2 J (List.map aF.enc p0) (List.map aF.enc p1) 0) := by kernel_rfl
theorem awZ (x0 x1 : List aF) (x5 : Int) : bT SE (apv Γ) Λ2 J 120 0 [1, 1, 0, 1, 0] (aW [(0, .d (.sl aF.ks (List.map aF.enc x0))), (1, .d (.sl aF.ks (List.map aF.enc x1))), (5, .d (.int .i64 x5))] [] [] [] []) =
 cond (decide (x5 < (lM aF.enc x0 : Int))) (
 cond (iB x5 (lM aF.enc x0 : Int)) (
  cond (iB x5 (lM aF.enc x1 : Int)) (
  cond (!(((bD (cE aF.enc x0 x5 0)) == (bD (cE aF.enc x1 x5 0))) && (((aR (cE aF.enc x0 x5 1)) == (aR (cE aF.enc x1 x5 1))) && (((bN (cE aF.enc x0 x5 2)) == (bN (cE aF.enc x1 x5 2))) && true)))) (
   (rB false)) (
  aoi (apv Γ) Λ2 J (List.map aF.enc x0) (List.map aF.enc x1) (w6 (x5 + 1)))) none) none) (
 (rB true)) := by kernel_rfl
end
abbrev auq : aP := apv gG
theorem avC : auq = aQ gG := rfl
abbrev aAg := aoi auq (bP SE gG (SE.hl 120) (SE.hr 120)) (J0 SE auq)
theorem abZ : ∀ (fu : Nat) (x0 x1 : List aF) (x5 : Int), Le (Option.map stringslite_HasPrefix_out (fV fu x0 x1 x5)) (aAg (List.map aF.enc x0) (List.map aF.enc x1) x5) := by
 intro fu
 induction fu with
 | zero => intros; exact le_none
 | succ fu ih =>
  intro x0 x1 x5
  refine Le.trans ?_ (le_of_eq ((aZ avC).trans (awZ ..)).symm)
  unfold fV
  refine lD (by simp only [EN]) ?_ ?_
  ·refine lG (by simp only [EN]) ?_
   refine lG (by simp only [EN]) ?_
   refine lD (by simp only [EN]) ?_ ?_
   ·exact aJ rfl
   ·exact ih x0 x1 (w6 (x5 + 1))
  ·exact aJ rfl
theorem adt (p0 p1 : List aF) : Le (Option.map stringslite_HasPrefix_out (lX p0 p1)) (bA SE 120 [.d (.sl aF.ks (List.map aF.enc p0)), .d (.sl aF.ks (List.map aF.enc p1))] [] []) := by
 refine aV avC rfl ?_
 refine Le.trans ?_ (le_of_eq (aEg ..).symm)
 unfold lX
 refine lD (by simp only [EN]) ?_ ?_
 ·exact aJ rfl
 ·exact abZ fuel p0 p1 0
def aoH (C : aP) (Λ2 J : Lam) (a0 a1 : List (List D)) (a2 : Int) : Res := lab SE C Λ2 J 121 0 [1, 1, 0, 1, 0] (aW [(0, .d (.sl [.str] a0)), (1, .d (.sl [.str] a1)), (5, .d (.int .i64 a2))] [] [] [] [])
section
variable (Γ : Fun)  (Λ2 J : Lam)
def ans : aP := aQ Γ
theorem aDJ (p0 p1 : List Str) : bF SE (ans Γ) Λ2 J 121 [.d (.sl [.str] (List.map bL p0)), .d (.sl [.str] (List.map bL p1))] [] [] =
 cond ((lM bL p0 : Int) != (lM bL p1 : Int)) (
 (rB false)) (
 aoH (ans Γ) Λ2 J (List.map bL p0) (List.map bL p1) 0) := by kernel_rfl
theorem aAm (x0 x1 : List Str) (x5 : Int) : bT SE (ans Γ) Λ2 J 121 0 [1, 1, 0, 1, 0] (aW [(0, .d (.sl [.str] (List.map bL x0))), (1, .d (.sl [.str] (List.map bL x1))), (5, .d (.int .i64 x5))] [] [] [] []) =
 cond (decide (x5 < (lM bL x0 : Int))) (
 cond (iB x5 (lM bL x0 : Int)) (
  cond (iB x5 (lM bL x1 : Int)) (
  cond (!((bD (cE bL x0 x5 0)) == (bD (cE bL x1 x5 0)))) (
   (rB false)) (
  aoH (ans Γ) Λ2 J (List.map bL x0) (List.map bL x1) (w6 (x5 + 1)))) none) none) (
 (rB true)) := by kernel_rfl
end
abbrev atC : aP := ans gG
theorem au9 : atC = aQ gG := rfl
abbrev awO := aoH atC (bP SE gG (SE.hl 121) (SE.hr 121)) (J0 SE atC)
theorem aef : ∀ (fu : Nat) (x0 x1 : List Str) (x5 : Int), Le (Option.map stringslite_HasPrefix_out (iW fu x0 x1 x5)) (awO (List.map bL x0) (List.map bL x1) x5) := by
 intro fu
 induction fu with
 | zero => intros; exact le_none
 | succ fu ih =>
  intro x0 x1 x5
  refine Le.trans ?_ (le_of_eq ((aZ au9).trans (aAm ..)).symm)
  unfold iW
  refine lD (by simp only [EN]) ?_ ?_
  ·refine lG (by simp only [EN]) ?_
   refine lG (by simp only [EN]) ?_
   refine lD (by simp only [EN]) ?_ ?_
   ·exact aJ rfl
   ·exact ih x0 x1 (w6 (x5 + 1))
  ·exact aJ rfl
theorem agU (p0 p1 : List Str) : Le (Option.map stringslite_HasPrefix_out (qZ p0 p1)) (bA SE 121 [.d (.sl [.str] (List.map bL p0)), .d (.sl [.str] (List.map bL p1))] [] []) := by
 refine aV au9 rfl ?_
 refine Le.trans ?_ (le_of_eq (aDJ ..).symm)
 unfold qZ
 refine lD (by simp only [EN]) ?_ ?_
 ·exact aJ rfl
 ·exact aef fuel p0 p1 0
def ao4 (C : aP) (Λ2 J : Lam) (a0 a1 : List (List D)) (a2 : Int) : Res := lab SE C Λ2 J 122 0 [1, 1, 0, 1, 0] (aW [(0, .d (.sl [.int .i64] a0)), (1, .d (.sl [.int .i64] a1)), (5, .d (.int .i64 a2))] [] [] [] [])
section
variable (Γ : Fun)  (Λ2 J : Lam)
def aoK : aP := aQ Γ
theorem aEj (p0 p1 : List Int) : bF SE (aoK Γ) Λ2 J 122 [.d (.sl [.int .i64] (List.map eI p0)), .d (.sl [.int .i64] (List.map eI p1))] [] [] =
 cond ((lM eI p0 : Int) != (lM eI p1 : Int)) (
 (rB false)) (
 ao4 (aoK Γ) Λ2 J (List.map eI p0) (List.map eI p1) 0) := by kernel_rfl
theorem ay0 (x0 x1 : List Int) (x5 : Int) : bT SE (aoK Γ) Λ2 J 122 0 [1, 1, 0, 1, 0] (aW [(0, .d (.sl [.int .i64] (List.map eI x0))), (1, .d (.sl [.int .i64] (List.map eI x1))), (5, .d (.int .i64 x5))] [] [] [] []) =
 cond (decide (x5 < (lM eI x0 : Int))) (
 cond (iB x5 (lM eI x0 : Int)) (
  cond (iB x5 (lM eI x1 : Int)) (
  cond ((aR (cE eI x0 x5 0)) != (aR (cE eI x1 x5 0))) (
   (rB false)) (
  ao4 (aoK Γ) Λ2 J (List.map eI x0) (List.map eI x1) (w6 (x5 + 1)))) none) none) (
 (rB true)) := by kernel_rfl
end
abbrev ats : aP := aoK gG
theorem avm : ats = aQ gG := rfl
abbrev azm := ao4 ats (bP SE gG (SE.hl 122) (SE.hr 122)) (J0 SE ats)
theorem aaD : ∀ (fu : Nat) (x0 x1 : List Int) (x5 : Int), Le (Option.map stringslite_HasPrefix_out (eH fu x0 x1 x5)) (azm (List.map eI x0) (List.map eI x1) x5) := by
 intro fu
 induction fu with
 | zero => intros; exact le_none
 | succ fu ih =>
  intro x0 x1 x5
  refine Le.trans ?_ (le_of_eq ((aZ avm).trans (ay0 ..)).symm)
  unfold eH
  refine lD (by simp only [EN]) ?_ ?_
  ·refine lG (by simp only [EN]) ?_
   refine lG (by simp only [EN]) ?_
   refine lD (by simp only [EN]) ?_ ?_
   ·exact aJ rfl
   ·exact ih x0 x1 (w6 (x5 + 1))
  ·exact aJ rfl
theorem abY (p0 p1 : List Int) : Le (Option.map stringslite_HasPrefix_out (jX p0 p1)) (bA SE 122 [.d (.sl [.int .i64] (List.map eI p0)), .d (.sl [.int .i64] (List.map eI p1))] [] []) := by
 refine aV avm rfl ?_
 refine Le.trans ?_ (le_of_eq (aEj ..).symm)
 unfold jX
 refine lD (by simp only [EN]) ?_ ?_
 ·exact aJ rfl
 ·exact aaD fuel p0 p1 0
def au7 (C : aP) (Λ2 J : Lam) (a0 a1 : List D) : Res := lab SE C Λ2 J 63 0 [1, 1, 1, 0] (aW [(2, .ptr 1000000000 0), (3, .ptr 1000000001 0)] [⟨49, (List.map AV.d a0)⟩, ⟨49, (List.map AV.d a1)⟩] [] [] [])
def au5 (C : aP) (Λ2 J : Lam) (a0 a1 : List D) : Res := lab SE C Λ2 J 63 0 [1, 1, 0, 0] (aW [(2, .ptr 1000000000 0), (3, .ptr 1000000001 0)] [⟨49, (List.map AV.d a0)⟩, ⟨49, (List.map AV.d a1)⟩] [] [] [])
section
variable (Γ : Fun) (γ97 γ119 γ120 γ121 γ122 : Gm (Bool)) (Λ2 J : Lam)
def C63 : aP := aY (aY (aY (aY (aY (aQ Γ) 97 stringslite_HasPrefix_out γ97) 119 stringslite_HasPrefix_out γ119) 120 stringslite_HasPrefix_out γ120) 121 stringslite_HasPrefix_out γ121) 122 stringslite_HasPrefix_out γ122
theorem T63 (p0 p1 : aC) : bF SE (C63 Γ γ97 γ119 γ120 γ121 γ122) Λ2 J 63 [aC.av p0, aC.av p1] [] [] =
 cond (p0.Kind != p1.Kind) (
 (rB false)) (
 cond (p0.ID != p1.ID) (
 (rB false)) (
 cond (p0.Dup != p1.Dup) (
 (rB false)) (
 γ97 [aA.av p0.Message, aA.av p1.Message] [] [] fun r0 =>
 cond (!r0) (
 (rB false)) (
 cond (!(p0.Client == p1.Client)) (
 (rB false)) (
 cond (!(p0.User == p1.User)) (
 (rB false)) (
 au5 (C63 Γ γ97 γ119 γ120 γ121 γ122) Λ2 J (aC.enc p0) (aC.enc p1))))))) := by kernel_rfl
theorem aCd (b0 b1 : aC) : bT SE (C63 Γ γ97 γ119 γ120 γ121 γ122) Λ2 J 63 0 [1, 1, 1, 0] (aW [(2, .ptr 1000000000 0), (3, .ptr 1000000001 0)] [⟨49, (List.map AV.d (aC.enc b0))⟩, ⟨49, (List.map AV.d (aC.enc b1))⟩] [] [] []) =
 cond (b0.Present == b1.Present) (
 cond (b0.Code == b1.Code) (
  γ120 [.d (.sl aF.ks (List.map aF.enc b0.Subs)), .d (.sl aF.ks (List.map aF.enc b1.Subs))] [] [] fun r2 =>
  cond r2 (
  γ121 [.d (.sl [.str] (List.map bL b0.Filters)), .d (.sl [.str] (List.map bL b1.Filters))] [] [] fun r3 =>
  cond r3 (
   γ122 [.d (.sl [.int .i64] (List.map eI b0.Codes)), .d (.sl [.int .i64] (List.map eI b1.Codes))] [] [] fun r4 =>
   (rB r4)) (
  (rB false))) (
  (rB false))) (
 (rB false))) (
 (rB false)) := by kernel_rfl
theorem aC3 (b0 b1 : aC) : bT SE (C63 Γ γ97 γ119 γ120 γ121 γ122) Λ2 J 63 0 [1, 1, 0, 0] (aW [(2, .ptr 1000000000 0), (3, .ptr 1000000001 0)] [⟨49, (List.map AV.d (aC.enc b0))⟩, ⟨49, (List.map AV.d (aC.enc b1))⟩] [] [] []) =
 cond (b0.Clean != b1.Clean) (
 (rB false)) (
 cond (b0.Keep != b1.Keep) (
 (rB false)) (
 cond (b0.Expiry != b1.Expiry) (
 (rB false)) (
 cond (b0.Window != b1.Window) (
 (rB false)) (
 γ119 [aU.av b0.Will, aU.av b1.Will] [] [] fun r1 =>
 cond (!r1) (
 (rB false)) (
 au7 (C63 Γ γ97 γ119 γ120 γ121 γ122) Λ2 J (aC.enc b0) (aC.enc b1)))))) := by kernel_rfl
end
abbrev X63 : aP := C63 gG (cT 97 stringslite_HasPrefix_out) (cT 119 stringslite_HasPrefix_out) (cT 120 stringslite_HasPrefix_out) (cT 121 stringslite_HasPrefix_out) (cT 122 stringslite_HasPrefix_out)
theorem at7 : X63 = aQ gG := by unfold X63 C63; repeat rw [bC fun _ h => h]
abbrev aDu := au7 X63 (bP SE gG (SE.hl 63) (SE.hr 63)) (J0 SE X63)
abbrev aCN := au5 X63 (bP SE gG (SE.hl 63) (SE.hr 63)) (J0 SE X63)
theorem aex (b0 b1 : aC) : Le (Option.map stringslite_HasPrefix_out (nN b0 b1)) (aDu (aC.enc b0) (aC.enc b1)) := by
 refine Le.trans ?_ (le_of_eq ((aZ at7).trans (aCd ..)).symm)
 unfold nN
 refine lC ?_ ?_
 ·refine lC ?_ ?_
  ·refine lQ eX stringslite_HasPrefix_inj (adt _ _) fun r2 _ => ?_
   refine lC ?_ ?_
   ·refine lQ eX stringslite_HasPrefix_inj (agU _ _) fun r3 _ => ?_
    refine lC ?_ ?_
    ·refine lQ eX stringslite_HasPrefix_inj (abY _ _) fun r4 _ => ?_
     exact aJ rfl
    ·exact aJ rfl
   ·exact aJ rfl
  ·exact aJ rfl
 ·exact aJ rfl
theorem aed (b0 b1 : aC) : Le (Option.map stringslite_HasPrefix_out (nF b0 b1)) (aCN (aC.enc b0) (aC.enc b1)) := by
 refine Le.trans ?_ (le_of_eq ((aZ at7).trans (aC3 ..)).symm)
 unfold nF
 refine lC ?_ ?_
 ·exact aJ rfl
 ·refine lC ?_ ?_
  ·exact aJ rfl
  ·refine lC ?_ ?_
   ·exact aJ rfl
   ·refine lC ?_ ?_
    ·exact aJ rfl
    ·refine lQ eX stringslite_HasPrefix_inj (adC _ _) fun r1 _ => ?_
     refine lC ?_ ?_
     ·exact aJ rfl
     ·exact aex b0 b1
theorem aaJ (p0 p1 : aC) : Le (Option.map stringslite_HasPrefix_out (jP p0 p1)) (bA SE 63 [aC.av p0, aC.av p1] [] []) := by
 refine aV at7 rfl ?_
 refine Le.trans ?_ (le_of_eq (T63 ..).symm)
 unfold jP
 refine lC ?_ ?_
 ·exact aJ rfl
 ·refine lC ?_ ?_
  ·exact aJ rfl
  ·refine lC ?_ ?_
   ·exact aJ rfl
   ·refine lQ eX stringslite_HasPrefix_inj (iL _ _) fun r0 _ => ?_
    refine lC ?_ ?_
    ·exact aJ rfl
    ·refine lC ?_ ?_
     ·exact aJ rfl
     ·refine lC ?_ ?_
      ·exact aJ rfl
      ·exact aed p0 p1
section
variable (Γ : Fun)  (Λ2 J : Lam)
def axl : aP := aQ Γ
theorem aEw (p0 : Int) : bF SE (axl Γ) Λ2 J 100 [.d (.int .u8 p0)] [] [] =
 cond (decide (p0 ≥ 97)) (
 (rB (decide (p0 ≤ 122)))) (
 (rB false)) := by kernel_rfl
end
abbrev aEJ : aP := axl gG
theorem aBX : aEJ = aQ gG := rfl
theorem zQ (p0 : Int) : Le (Option.map stringslite_HasPrefix_out (mV p0)) (bA SE 100 [.d (.int .u8 p0)] [] []) := by
 refine aV aBX rfl ?_
 refine Le.trans ?_ (le_of_eq (aEw ..).symm)
 unfold mV
 refine lC ?_ ?_
 ·exact aJ rfl
 ·exact aJ rfl
end Te
end PX
