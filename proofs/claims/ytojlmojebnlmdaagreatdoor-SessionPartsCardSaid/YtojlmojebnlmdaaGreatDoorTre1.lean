import Derived.Test.YtojlmojebnlmdaaGreatDoorTre0
set_option linter.unusedVariables false
set_option linter.unusedSimpArgs false
set_option maxRecDepth 100000
noncomputable section
namespace PX
open Go
open Md
namespace Te
theorem abC (p0 : List Int) (p1 : Int) (p2 : List Int) : Le (Option.map bI (l8 p0 p1 p2)) (bA SE 178 [.row 2000000000, .d (.int .i64 p1), .row 2000000001] [] [⟨[.int .i64], 3, 8, (List.map eI p0)⟩, ⟨[.int .i64], 3, 8, (List.map eI p2)⟩]) := al9 (f := 178) (enc := eI) rfl rfl p0 p1 p2
def aps (C : aP) (Λ2 J : Lam) (a0 a1 a2 : Int) (a3 a4 : List D) : Res := lab SE C Λ2 J 157 0 [1, 1, 1, 0, 1, 0] (aW [(1, .ptr 1000000000 0), (3, .ptr 1000000001 0), (5, .d (.int .i64 a0)), (18, .d (.int .i64 a1)), (19, .d (.int .i64 a2))] [⟨27, (List.map AV.d a3)⟩, ⟨27, (List.map AV.d a4)⟩] [] [] [])
section
variable (Γ : Fun) (γ177 : Gm (Int)) (γ175 : Gm (Int × Bool)) (γ104 γ178 : Gm ((List Int))) (Λ2 J : Lam)
def alr : aP := aY (aY (aY (aY (aQ Γ) 177 stringslite_IndexByte_out γ177) 175 aX γ175) 104 bI γ104) 178 bI γ178
theorem aDP (p0 : aN) : bF SE (alr Γ γ177 γ175 γ104 γ178) Λ2 J 157 [aN.av p0] [] [] =
 cond (decide ((lM eI p0.Used : Int) ≥ 32)) (
 (some (.ret [.d (.int .i64 0), .agg [.row 0, .d (.int .i64 0)], .d (.int .i64 6)] [] [⟨[.int .i64], 3, 8, (List.map eI [])⟩]))) (
 aps (alr Γ γ177 γ175 γ104 γ178) Λ2 J p0.Last (w6 ((lM eI p0.Used : Int) + 1)) 0 (aN.enc p0) [D.sl [.int .i64] (List.map eI []), D.int .i64 0]) := by kernel_rfl
theorem ax6 (x5 x18 x19 : Int) (b0 b1 : aN) : bT SE (alr Γ γ177 γ175 γ104 γ178) Λ2 J 157 0 [1, 1, 1, 0, 1, 0] (aW [(1, .ptr 1000000000 0), (3, .ptr 1000000001 0), (5, .d (.int .i64 x5)), (18, .d (.int .i64 x18)), (19, .d (.int .i64 x19))] [⟨27, (List.map AV.d (aN.enc b0))⟩, ⟨27, (List.map AV.d (aN.enc b1))⟩] [] [] []) =
 cond (decide (x19 < x18)) (
 γ177 [.d (.int .i64 x5)] [] [] fun r0 =>
 γ175 [.d (.sl [.int .i64] (List.map eI b0.Used)), .d (.int .i64 r0)] [] [] fun r1 =>
 cond (!r1.2) (
  γ104 [.d (.sl [.int .i64] (List.map eI b0.Used))] [] [] fun r2 =>
  γ178 [.row 2000000000, .d (.int .i64 r1.1), .row 2000000001] [] [⟨[.int .i64], 3, 8, (List.map eI r2)⟩, ⟨[.int .i64], 3, 8, (List.map eI [r0])⟩] fun r3 =>
  (some (.ret [.d (.int .i64 r0), .agg [.row 0, .d (.int .i64 r0)], .d (.int .i64 0)] [] [⟨[.int .i64], 3, 8, (List.map eI r3)⟩]))) (
 aps (alr Γ γ177 γ175 γ104 γ178) Λ2 J r0 x18 (w6 (x19 + 1)) (aN.enc b0) (aN.enc b1))) (
 (some (.ret [.d (.int .i64 0), .agg [.row 0, .d (.int .i64 0)], .d (.int .i64 6)] [] [⟨[.int .i64], 3, 8, (List.map eI [])⟩]))) := by kernel_rfl
end
abbrev aqi : aP := alr gG (cT 177 stringslite_IndexByte_out) (cT 175 aX) (cT 104 bI) (cT 178 bI)
theorem avf : aqi = aQ gG := by unfold aqi alr; repeat rw [bB fun _ h => h]
abbrev ax0 := aps aqi (bP SE gG (SE.hl 157) (SE.hr 157)) (J0 SE aqi)
theorem ajj : ∀ (fu : Nat) (x5 x18 x19 : Int) (b0 b1 : aN), Le (Option.map eZ (oT fu x5 x18 x19 b0 b1)) (ax0 x5 x18 x19 (aN.enc b0) (aN.enc b1)) := by
 intro fu
 induction fu with
 | zero => intros; exact le_none
 | succ fu ih =>
  intro x5 x18 x19 b0 b1
  refine Le.trans ?_ (le_of_eq ((aZ avf).trans (ax6 ..)).symm)
  unfold oT
  refine lC ?_ ?_
  ·refine lQ eX stringslite_IndexByte_inj (amB _) fun r0 _ => ?_
   refine lQ eX cG (kK _ _) fun r1 _ => ?_
   refine lC ?_ ?_
   ·refine lQ eX dN (hJ _) fun r2 _ => ?_
    refine lQ eX dN (abC _ _ _) fun r3 _ => ?_
    exact aJ rfl
   ·exact ih r0 x18 (w6 (x19 + 1)) b0 b1
  ·exact aJ rfl
theorem amE (p0 : aN) : Le (Option.map eZ (aaw p0)) (bA SE 157 [aN.av p0] [] []) := by
 refine aV avf rfl ?_
 refine Le.trans ?_ (le_of_eq (aDP ..).symm)
 unfold aaw
 refine lD (by simp only [EN]) ?_ ?_
 ·exact aJ rfl
 ·(try simp only [EN]); exact ajj fuel p0.Last (w6 ((List.length p0.Used : Int) + 1)) 0 p0 (aN.mk [] 0)
section
variable (Γ : Fun) (γ138 : Gm ((List aG))) (Λ2 J : Lam)
def atO : aP := aY (aQ Γ) 138 cM γ138
theorem aGq (p0 : aA) : bF SE (atO Γ γ138) Λ2 J 153 [aA.av p0] [] [] =
 γ138 [.d (.sl aG.ks (List.map aG.enc p0.Props))] [] [] fun r0 =>
 (some (.ret [.agg [.d (.str p0.Topic), .d (.str p0.Payload), .d (.int .i64 p0.Level), .d (.bool p0.Retain), .d (.int .i64 p0.Priority), .d (.int .i64 p0.Expires), .d (.str p0.From), .d (.int .i64 p0.Seq), .row 0]] [] [⟨aG.ks, 130, 32, (List.map aG.enc r0)⟩])) := by kernel_rfl
end
abbrev axF : aP := atO gG (cT 138 cM)
theorem aBg : axF = aQ gG := by unfold axF atO; rw [bB fun _ h => h]
theorem wD (p0 : aA) : Le (Option.map bW (lL p0)) (bA SE 153 [aA.av p0] [] []) := by
 refine aV aBg rfl ?_
 refine Le.trans ?_ (le_of_eq (aGq ..).symm)
 unfold lL
 refine lQ eX nS (oE _) fun r0 _ => ?_
 exact aJ rfl
def anp (C : aP) (Λ2 J : Lam) (a0 : List (List D)) (a1 a2 : Int) (a3 a4 : List D) (a5 : List (List D)) : Res := lab SE C Λ2 J 110 0 [1, 1, 0, 1, 0] (aW [(1, .ptr 1000000000 0), (2, .ptr 1000000001 0), (3, .row 3003), (12, .d (.sl aD.ks a0)), (13, .d (.int .i64 a1)), (14, .d (.int .i64 a2))] [⟨29, (List.map AV.d a3)⟩, ⟨29, (List.map AV.d a4)⟩] [] [] [(3003, ⟨aD.ks, 122, 128, a5⟩)])
section
variable (Γ : Fun) (γ153 : Gm (aA)) (γ104 : Gm ((List Int))) (Λ2 J : Lam)
def alR : aP := aY (aY (aQ Γ) 153 bW γ153) 104 bI γ104
theorem aGl (p0 : aI) : bF SE (alR Γ γ153 γ104) Λ2 J 110 [aI.av p0] [] [] =
 cond (decide (0 ≤ 0) && decide (0 ≤ (w6 ((lM aD.enc p0.Items : Int) + 1))) && decide ((w6 ((lM aD.enc p0.Items : Int) + 1)) * 128 ≤ 281474976710656)) (
 anp (alR Γ γ153 γ104) Λ2 J (List.map aD.enc p0.Items) (lM aD.enc p0.Items : Int) 0 (aI.enc p0) [D.int .i64 0, D.sl aD.ks (List.map aD.enc []), D.sl [.int .i64] (List.map eI []), D.int .i64 0] (List.map aD.enc [])) none := by kernel_rfl
theorem axB (x12 : List aD) (x13 x14 : Int) (b0 b1 : aI) (w3003 : List aD) : bT SE (alR Γ γ153 γ104) Λ2 J 110 0 [1, 1, 0, 1, 0] (aW [(1, .ptr 1000000000 0), (2, .ptr 1000000001 0), (3, .row 3003), (12, .d (.sl aD.ks (List.map aD.enc x12))), (13, .d (.int .i64 x13)), (14, .d (.int .i64 x14))] [⟨29, (List.map AV.d (aI.enc b0))⟩, ⟨29, (List.map AV.d (aI.enc b1))⟩] [] [] [(3003, ⟨aD.ks, 122, 128, (List.map aD.enc w3003)⟩)]) =
 cond (decide (x14 < x13)) (
 cond (iB x14 (lM aD.enc x12 : Int)) (
  γ153 [.agg [.d (.str (bC (cE aD.enc x12 x14 2))), .d (.str (bC (cE aD.enc x12 x14 3))), .d (.int .i64 (aR (cE aD.enc x12 x14 4))), .d (.bool (bM (cE aD.enc x12 x14 5))), .d (.int .i64 (aR (cE aD.enc x12 x14 6))), .d (.int .i64 (aR (cE aD.enc x12 x14 7))), .d (.str (bC (cE aD.enc x12 x14 8))), .d (.int .i64 (aR (cE aD.enc x12 x14 9))), .d (.sl aG.ks (dSl (cE aD.enc x12 x14 10)))]] [] [] fun r0 =>
  cond (decide ((lM aD.enc w3003 + List.length [[D.int .i64 (aR (cE aD.enc x12 x14 0)), D.int .i64 (aR (cE aD.enc x12 x14 1)), D.str r0.Topic, D.str r0.Payload, D.int .i64 r0.Level, D.bool r0.Retain, D.int .i64 r0.Priority, D.int .i64 r0.Expires, D.str r0.From, D.int .i64 r0.Seq, D.sl aG.ks (List.map aG.enc r0.Props)]]) * 128 ≤ 140737488355328)) (
  anp (alR Γ γ153 γ104) Λ2 J (List.map aD.enc x12) x13 (w6 (x14 + 1)) (aI.enc b0) (aI.enc b1) (((List.map aD.enc w3003) ++ [[D.int .i64 (aR (cE aD.enc x12 x14 0)), D.int .i64 (aR (cE aD.enc x12 x14 1)), D.str r0.Topic, D.str r0.Payload, D.int .i64 r0.Level, D.bool r0.Retain, D.int .i64 r0.Priority, D.int .i64 r0.Expires, D.str r0.From, D.int .i64 r0.Seq, D.sl aG.ks (List.map aG.enc r0.Props)]]))) none) none) (
 γ104 [.d (.sl [.int .i64] (List.map eI b0.Pool.Used))] [] [] fun r1 =>
 (some (.ret [.agg [.d (.int .i64 b0.Limit), .row 0, .row 1, .d (.int .i64 b0.Pool.Last)]] [] [⟨aD.ks, 122, 128, (List.map aD.enc w3003)⟩, ⟨[.int .i64], 3, 8, (List.map eI r1)⟩]))) := by kernel_rfl
end
abbrev aqM : aP := alR gG (cT 153 bW) (cT 104 bI)
theorem avN : aqM = aQ gG := by unfold aqM alR; repeat rw [bB fun _ h => h]
abbrev axy := anp aqM (bP SE gG (SE.hl 110) (SE.hr 110)) (J0 SE aqM)
theorem agk : ∀ (fu : Nat) (x12 : List aD) (x13 x14 : Int) (b0 b1 : aI) (w3003 : List aD), Le (Option.map bX (j1 fu x12 x13 x14 b0 b1 w3003)) (axy (List.map aD.enc x12) x13 x14 (aI.enc b0) (aI.enc b1) (List.map aD.enc w3003)) := by
 intro fu
 induction fu with
 | zero => intros; exact le_none
 | succ fu ih =>
  intro x12 x13 x14 b0 b1 w3003
  refine Le.trans ?_ (le_of_eq ((aZ avN).trans (axB ..)).symm)
  unfold j1
  refine lC ?_ ?_
  ·refine lG (by simp only [EN]) ?_
   refine lQ eX dB (by (try simp only [EN]); exact wD ((List.getD x12 (Int.toNat x14) default).Message)) fun r0 _ => ?_
   refine lG (by simp only [EN]) ?_
   (try simp only [EN]); exact ih x12 x13 (w6 (x14 + 1)) b0 b1 ((w3003 ++ [(aD.mk (List.getD x12 (Int.toNat x14) default).ID (List.getD x12 (Int.toNat x14) default).State r0)]))
  ·refine lQ eX dN (hJ _) fun r1 _ => ?_
   exact aJ rfl
theorem mQ (p0 : aI) : Le (Option.map bX (iA p0)) (bA SE 110 [aI.av p0] [] []) := by
 refine aV avN rfl ?_
 refine Le.trans ?_ (le_of_eq (aGl ..).symm)
 unfold iA
 refine lG (by simp only [EN]) ?_
 (try simp only [EN]); exact agk fuel p0.Items (List.length p0.Items : Int) 0 p0 ((aI.mk 0 [] (aN.mk [] 0))) []
section
variable (Γ : Fun) (γ153 : Gm (aA)) (Λ2 J : Lam)
def atK : aP := aY (aQ Γ) 153 bW γ153
theorem aGo (p0 : aD) : bF SE (atK Γ γ153) Λ2 J 147 [aD.av p0] [] [] =
 γ153 [aA.av p0.Message] [] [] fun r0 =>
 (some (.ret [.agg [.d (.int .i64 3), .d (.int .i64 p0.ID), .d (.bool false), .d (.str r0.Topic), .d (.str r0.Payload), .d (.int .i64 r0.Level), .d (.bool r0.Retain), .d (.int .i64 r0.Priority), .d (.int .i64 r0.Expires), .d (.str r0.From), .d (.int .i64 r0.Seq), .row 0, .d (.str []), .d (.str []), .d (.bool false), .d (.int .i64 0), .d (.int .i64 0), .d (.int .i64 0), .d (.bool false), .d (.int .i64 0), .d (.str []), .d (.str []), .d (.int .i64 0), .d (.bool false), .d (.int .i64 0), .d (.int .i64 0), .d (.str []), .d (.int .i64 0), .row 1, .d (.bool false), .d (.int .i64 0), .row 2, .row 3, .row 4]] [] [⟨aG.ks, 130, 32, (List.map aG.enc r0.Props)⟩, ⟨aG.ks, 130, 32, (List.map aG.enc [])⟩, ⟨aF.ks, 60, 32, (List.map aF.enc [])⟩, ⟨[.str], 9, 16, (List.map bL [])⟩, ⟨[.int .i64], 3, 8, (List.map eI [])⟩])) := by kernel_rfl
end
abbrev ays : aP := atK gG (cT 153 bW)
theorem aCU : ays = aQ gG := by unfold ays atK; rw [bB fun _ h => h]
theorem aaI (p0 : aD) : Le (Option.map bU (nK p0)) (bA SE 147 [aD.av p0] [] []) := by
 refine aV aCU rfl ?_
 refine Le.trans ?_ (le_of_eq (aGo ..).symm)
 unfold nK
 refine lQ eX dB (wD _) fun r0 _ => ?_
 exact aJ rfl
section
variable (Γ : Fun) (γ156 γ141 : Gm (Int)) (γ157 : Gm (Int × aN × Int)) (γ110 : Gm (aI)) (γ153 : Gm (aA)) (γ147 : Gm (aC)) (Λ2 J : Lam)
def atb : aP := aY (aY (aY (aY (aY (aY (aQ Γ) 156 stringslite_IndexByte_out γ156) 141 stringslite_IndexByte_out γ141) 157 eZ γ157) 110 bX γ110) 153 bW γ153) 147 bU γ147
theorem aFp (p0 : aI) (p1 : aA) : bF SE (atb Γ γ156 γ141 γ157 γ110 γ153 γ147) Λ2 J 114 [aI.av p0, aA.av p1] [] [] =
 cond (p1.Level == 0) (
 (some (.ret [.agg [.d (.int .i64 0), .row 0, .row 1, .d (.int .i64 0)], .agg [.d (.int .i64 0), .d (.int .i64 0), .d (.bool false), .d (.str []), .d (.str []), .d (.int .i64 0), .d (.bool false), .d (.int .i64 0), .d (.int .i64 0), .d (.str []), .d (.int .i64 0), .row 2, .d (.str []), .d (.str []), .d (.bool false), .d (.int .i64 0), .d (.int .i64 0), .d (.int .i64 0), .d (.bool false), .d (.int .i64 0), .d (.str []), .d (.str []), .d (.int .i64 0), .d (.bool false), .d (.int .i64 0), .d (.int .i64 0), .d (.str []), .d (.int .i64 0), .row 3, .d (.bool false), .d (.int .i64 0), .row 4, .row 5, .row 6], .d (.int .i64 14)] [] [⟨aD.ks, 122, 128, (List.map aD.enc [])⟩, ⟨[.int .i64], 3, 8, (List.map eI [])⟩, ⟨aG.ks, 130, 32, (List.map aG.enc [])⟩, ⟨aG.ks, 130, 32, (List.map aG.enc [])⟩, ⟨aF.ks, 60, 32, (List.map aF.enc [])⟩, ⟨[.str], 9, 16, (List.map bL [])⟩, ⟨[.int .i64], 3, 8, (List.map eI [])⟩]))) (
 γ156 [aI.av p0] [] [] fun r0 =>
 cond (r0 == 0) (
 (some (.ret [.agg [.d (.int .i64 0), .row 0, .row 1, .d (.int .i64 0)], .agg [.d (.int .i64 0), .d (.int .i64 0), .d (.bool false), .d (.str []), .d (.str []), .d (.int .i64 0), .d (.bool false), .d (.int .i64 0), .d (.int .i64 0), .d (.str []), .d (.int .i64 0), .row 2, .d (.str []), .d (.str []), .d (.bool false), .d (.int .i64 0), .d (.int .i64 0), .d (.int .i64 0), .d (.bool false), .d (.int .i64 0), .d (.str []), .d (.str []), .d (.int .i64 0), .d (.bool false), .d (.int .i64 0), .d (.int .i64 0), .d (.str []), .d (.int .i64 0), .row 3, .d (.bool false), .d (.int .i64 0), .row 4, .row 5, .row 6], .d (.int .i64 6)] [] [⟨aD.ks, 122, 128, (List.map aD.enc [])⟩, ⟨[.int .i64], 3, 8, (List.map eI [])⟩, ⟨aG.ks, 130, 32, (List.map aG.enc [])⟩, ⟨aG.ks, 130, 32, (List.map aG.enc [])⟩, ⟨aF.ks, 60, 32, (List.map aF.enc [])⟩, ⟨[.str], 9, 16, (List.map bL [])⟩, ⟨[.int .i64], 3, 8, (List.map eI [])⟩]))) (
 γ141 [aA.av p1] [] [] fun r1 =>
 cond (r1 != 0) (
 (some (.ret [.agg [.d (.int .i64 0), .row 0, .row 1, .d (.int .i64 0)], .agg [.d (.int .i64 0), .d (.int .i64 0), .d (.bool false), .d (.str []), .d (.str []), .d (.int .i64 0), .d (.bool false), .d (.int .i64 0), .d (.int .i64 0), .d (.str []), .d (.int .i64 0), .row 2, .d (.str []), .d (.str []), .d (.bool false), .d (.int .i64 0), .d (.int .i64 0), .d (.int .i64 0), .d (.bool false), .d (.int .i64 0), .d (.str []), .d (.str []), .d (.int .i64 0), .d (.bool false), .d (.int .i64 0), .d (.int .i64 0), .d (.str []), .d (.int .i64 0), .row 3, .d (.bool false), .d (.int .i64 0), .row 4, .row 5, .row 6], .d (.int .i64 r1)] [] [⟨aD.ks, 122, 128, (List.map aD.enc [])⟩, ⟨[.int .i64], 3, 8, (List.map eI [])⟩, ⟨aG.ks, 130, 32, (List.map aG.enc [])⟩, ⟨aG.ks, 130, 32, (List.map aG.enc [])⟩, ⟨aF.ks, 60, 32, (List.map aF.enc [])⟩, ⟨[.str], 9, 16, (List.map bL [])⟩, ⟨[.int .i64], 3, 8, (List.map eI [])⟩]))) (
 γ157 [aN.av p0.Pool] [] [] fun r2 =>
 cond (r2.2.2 != 0) (
 (some (.ret [.agg [.d (.int .i64 0), .row 0, .row 1, .d (.int .i64 0)], .agg [.d (.int .i64 0), .d (.int .i64 0), .d (.bool false), .d (.str []), .d (.str []), .d (.int .i64 0), .d (.bool false), .d (.int .i64 0), .d (.int .i64 0), .d (.str []), .d (.int .i64 0), .row 2, .d (.str []), .d (.str []), .d (.bool false), .d (.int .i64 0), .d (.int .i64 0), .d (.int .i64 0), .d (.bool false), .d (.int .i64 0), .d (.str []), .d (.str []), .d (.int .i64 0), .d (.bool false), .d (.int .i64 0), .d (.int .i64 0), .d (.str []), .d (.int .i64 0), .row 3, .d (.bool false), .d (.int .i64 0), .row 4, .row 5, .row 6], .d (.int .i64 r2.2.2)] [] [⟨aD.ks, 122, 128, (List.map aD.enc [])⟩, ⟨[.int .i64], 3, 8, (List.map eI [])⟩, ⟨aG.ks, 130, 32, (List.map aG.enc [])⟩, ⟨aG.ks, 130, 32, (List.map aG.enc [])⟩, ⟨aF.ks, 60, 32, (List.map aF.enc [])⟩, ⟨[.str], 9, 16, (List.map bL [])⟩, ⟨[.int .i64], 3, 8, (List.map eI [])⟩]))) (
 γ110 [aI.av p0] [] [] fun r3 =>
 γ153 [aA.av p1] [] [] fun r4 =>
 cond (decide ((lM aD.enc r3.Items + lM aD.enc [(aD.mk r2.1 1 r4)]) * 128 ≤ 140737488355328)) (
 γ147 [aD.av (aD.mk r2.1 1 r4)] [] [] fun r5 =>
 (some (.ret [.agg [.d (.int .i64 r3.Limit), .row 0, .row 1, .d (.int .i64 r2.2.1.Last)], .agg [.d (.int .i64 r5.Kind), .d (.int .i64 r5.ID), .d (.bool r5.Dup), .d (.str r5.Message.Topic), .d (.str r5.Message.Payload), .d (.int .i64 r5.Message.Level), .d (.bool r5.Message.Retain), .d (.int .i64 r5.Message.Priority), .d (.int .i64 r5.Message.Expires), .d (.str r5.Message.From), .d (.int .i64 r5.Message.Seq), .row 2, .d (.str r5.Client), .d (.str r5.User), .d (.bool r5.Clean), .d (.int .i64 r5.Keep), .d (.int .i64 r5.Expiry), .d (.int .i64 r5.Window), .d (.bool r5.Will.Set), .d (.int .i64 r5.Will.Delay), .d (.str r5.Will.Message.Topic), .d (.str r5.Will.Message.Payload), .d (.int .i64 r5.Will.Message.Level), .d (.bool r5.Will.Message.Retain), .d (.int .i64 r5.Will.Message.Priority), .d (.int .i64 r5.Will.Message.Expires), .d (.str r5.Will.Message.From), .d (.int .i64 r5.Will.Message.Seq), .row 3, .d (.bool r5.Present), .d (.int .i64 r5.Code), .row 4, .row 5, .row 6], .d (.int .i64 0)] [] [⟨aD.ks, 122, 128, ((List.map aD.enc r3.Items) ++ (List.map aD.enc [(aD.mk r2.1 1 r4)]))⟩, ⟨[.int .i64], 3, 8, (List.map eI r2.2.1.Used)⟩, ⟨aG.ks, 130, 32, (List.map aG.enc r5.Message.Props)⟩, ⟨aG.ks, 130, 32, (List.map aG.enc r5.Will.Message.Props)⟩, ⟨aF.ks, 60, 32, (List.map aF.enc r5.Subs)⟩, ⟨[.str], 9, 16, (List.map bL r5.Filters)⟩, ⟨[.int .i64], 3, 8, (List.map eI r5.Codes)⟩]))) none)))) := by kernel_rfl
end
abbrev axO : aP := atb gG (cT 156 stringslite_IndexByte_out) (cT 141 stringslite_IndexByte_out) (cT 157 eZ) (cT 110 bX) (cT 153 bW) (cT 147 bU)
theorem aC9 : axO = aQ gG := by unfold axO atb; repeat rw [bB fun _ h => h]
theorem aiR (p0 : aI) (p1 : aA) : Le (Option.map jH (nL p0 p1)) (bA SE 114 [aI.av p0, aA.av p1] [] []) := by
 refine aV aC9 rfl ?_
 refine Le.trans ?_ (le_of_eq (aFp ..).symm)
 unfold nL
 refine lC ?_ ?_
 ·exact aJ rfl
 ·refine lQ eX stringslite_IndexByte_inj (ajl _) fun r0 _ => ?_
  refine lC ?_ ?_
  ·exact aJ rfl
  ·refine lQ eX stringslite_IndexByte_inj (uJ _) fun r1 _ => ?_
   refine lC ?_ ?_
   ·exact aJ rfl
   ·refine lQ eX aeW (amE _) fun r2 _ => ?_
    refine lC ?_ ?_
    ·exact aJ rfl
    ·refine lQ eX fE (mQ _) fun r3 _ => ?_
     refine lQ eX dB (wD _) fun r4 _ => ?_
     refine lG (by simp only [EN]) ?_
     refine lQ eX eO (aaI _) fun r5 _ => ?_
     exact aJ (by first | rfl | simp only [EN, jH] <;> rfl)
def akf (C : aP) (Λ2 J : Lam) (a0 : Int) (a1 a2 : List D) (a3 : List (List D)) : Res := lab SE C Λ2 J 61 0 [1, 0, 0] (aW [(1, .d (.int .i64 a0)), (2, .row 3002), (3, .ptr 1000000000 0), (6, .ptr 1000000001 0)] [⟨38, (List.map AV.d a1)⟩, ⟨38, (List.map AV.d a2)⟩] [] [] [(3002, ⟨aC.ks, 49, 416, a3⟩)])
section
variable (Γ : Fun) (γ113 : Gm (Bool)) (γ51 : Gm (aB)) (γ80 : Gm (aA)) (γ114 : Gm (aI × aC × Int)) (Λ2 J : Lam)
def C61 : aP := aY (aY (aY (aY (aQ Γ) 113 stringslite_HasPrefix_out γ113) 51 bR γ51) 80 bW γ80) 114 jH γ114
theorem T61 (p0 : aB) (p1 : Int) (p2 : List aC) : bF SE (C61 Γ γ113 γ51 γ80 γ114) Λ2 J 61 [aB.av p0, .d (.int .i64 p1), .row 2000000000] [] [⟨aC.ks, 49, 416, (List.map aC.enc p2)⟩] =
 akf (C61 Γ γ113 γ51 γ80 γ114) Λ2 J p1 (aB.enc p0) [D.str [], D.str [], D.bool false, D.int .i64 0, D.int .i64 0, D.int .i64 0, D.int .i64 0, D.sl aF.ks (List.map aF.enc []), D.sl aA.ks (List.map aA.enc []), D.int .i64 0, D.sl aD.ks (List.map aD.enc []), D.sl [.int .i64] (List.map eI []), D.int .i64 0, D.sl [.int .i64] (List.map eI []), D.bool false, D.int .i64 0, D.str [], D.str [], D.int .i64 0, D.bool false, D.int .i64 0, D.int .i64 0, D.str [], D.int .i64 0, D.sl aG.ks (List.map aG.enc [])] (List.map aC.enc p2) := by kernel_rfl
theorem aDv (x1 : Int) (b0 b1 : aB) (w3002 : List aC) : bT SE (C61 Γ γ113 γ51 γ80 γ114) Λ2 J 61 0 [1, 0, 0] (aW [(1, .d (.int .i64 x1)), (2, .row 3002), (3, .ptr 1000000000 0), (6, .ptr 1000000001 0)] [⟨38, (List.map AV.d (aB.enc b0))⟩, ⟨38, (List.map AV.d (aB.enc b1))⟩] [] [] [(3002, ⟨aC.ks, 49, 416, (List.map aC.enc w3002)⟩)]) =
 cond (decide ((lM aA.enc b0.Queue : Int) > 0)) (
 cond (decide (0 ≤ 0) && decide (0 < (lM aA.enc b0.Queue : Int))) (
  γ113 [.agg [.d (.str (bC (cE aA.enc b0.Queue 0 0))), .d (.str (bC (cE aA.enc b0.Queue 0 1))), .d (.int .i64 (aR (cE aA.enc b0.Queue 0 2))), .d (.bool (bM (cE aA.enc b0.Queue 0 3))), .d (.int .i64 (aR (cE aA.enc b0.Queue 0 4))), .d (.int .i64 (aR (cE aA.enc b0.Queue 0 5))), .d (.str (bC (cE aA.enc b0.Queue 0 6))), .d (.int .i64 (aR (cE aA.enc b0.Queue 0 7))), .d (.sl aG.ks (dSl (cE aA.enc b0.Queue 0 8)))], .d (.int .i64 x1)] [] [] fun r0 =>
  cond r0 (
  γ51 [aB.av b0, .d (.int .i64 1)] [] [] fun r1 =>
  cond (decide (0 ≤ 1) && decide (1 ≤ ((lM aA.enc r1.Queue) : Int))) (
   akf (C61 Γ γ113 γ51 γ80 γ114) Λ2 J x1 [D.str r1.Client, D.str r1.User, D.bool r1.Online, D.int .i64 r1.Conn, D.int .i64 r1.Expiry, D.int .i64 r1.Until, D.int .i64 r1.Dropped, D.sl aF.ks (List.map aF.enc r1.Subs), D.sl aA.ks (bQ (List.map aA.enc r1.Queue) (some 1) none), D.int .i64 r1.Out.Limit, D.sl aD.ks (List.map aD.enc r1.Out.Items), D.sl [.int .i64] (List.map eI r1.Out.Pool.Used), D.int .i64 r1.Out.Pool.Last, D.sl [.int .i64] (List.map eI r1.In.IDs), D.bool r1.Will.Set, D.int .i64 r1.Will.Delay, D.str r1.Will.Message.Topic, D.str r1.Will.Message.Payload, D.int .i64 r1.Will.Message.Level, D.bool r1.Will.Message.Retain, D.int .i64 r1.Will.Message.Priority, D.int .i64 r1.Will.Message.Expires, D.str r1.Will.Message.From, D.int .i64 r1.Will.Message.Seq, D.sl aG.ks (List.map aG.enc r1.Will.Message.Props)] (aB.enc b1) (List.map aC.enc w3002)) none) (
  cond ((aR (cE aA.enc b0.Queue 0 2)) == 0) (
  γ80 [.agg [.d (.str (bC (cE aA.enc b0.Queue 0 0))), .d (.str (bC (cE aA.enc b0.Queue 0 1))), .d (.int .i64 (aR (cE aA.enc b0.Queue 0 2))), .d (.bool (bM (cE aA.enc b0.Queue 0 3))), .d (.int .i64 (aR (cE aA.enc b0.Queue 0 4))), .d (.int .i64 (aR (cE aA.enc b0.Queue 0 5))), .d (.str (bC (cE aA.enc b0.Queue 0 6))), .d (.int .i64 (aR (cE aA.enc b0.Queue 0 7))), .d (.sl aG.ks (dSl (cE aA.enc b0.Queue 0 8)))]] [] [] fun r2 =>
  cond (decide ((lM aC.enc w3002 + List.length [[D.int .i64 3, D.int .i64 0, D.bool false, D.str r2.Topic, D.str r2.Payload, D.int .i64 r2.Level, D.bool r2.Retain, D.int .i64 r2.Priority, D.int .i64 r2.Expires, D.str r2.From, D.int .i64 r2.Seq, D.sl aG.ks (List.map aG.enc r2.Props), D.str [], D.str [], D.bool false, D.int .i64 0, D.int .i64 0, D.int .i64 0, D.bool false, D.int .i64 0, D.str [], D.str [], D.int .i64 0, D.bool false, D.int .i64 0, D.int .i64 0, D.str [], D.int .i64 0, D.sl aG.ks (List.map aG.enc []), D.bool false, D.int .i64 0, D.sl aF.ks (List.map aF.enc []), D.sl [.str] (List.map bL []), D.sl [.int .i64] (List.map eI [])]]) * 416 ≤ 140737488355328)) (
   cond (decide (0 ≤ 1) && decide (1 ≤ ((lM aA.enc b0.Queue) : Int))) (
   akf (C61 Γ γ113 γ51 γ80 γ114) Λ2 J x1 [D.str b0.Client, D.str b0.User, D.bool b0.Online, D.int .i64 b0.Conn, D.int .i64 b0.Expiry, D.int .i64 b0.Until, D.int .i64 b0.Dropped, D.sl aF.ks (List.map aF.enc b0.Subs), D.sl aA.ks (bQ (List.map aA.enc b0.Queue) (some 1) none), D.int .i64 b0.Out.Limit, D.sl aD.ks (List.map aD.enc b0.Out.Items), D.sl [.int .i64] (List.map eI b0.Out.Pool.Used), D.int .i64 b0.Out.Pool.Last, D.sl [.int .i64] (List.map eI b0.In.IDs), D.bool b0.Will.Set, D.int .i64 b0.Will.Delay, D.str b0.Will.Message.Topic, D.str b0.Will.Message.Payload, D.int .i64 b0.Will.Message.Level, D.bool b0.Will.Message.Retain, D.int .i64 b0.Will.Message.Priority, D.int .i64 b0.Will.Message.Expires, D.str b0.Will.Message.From, D.int .i64 b0.Will.Message.Seq, D.sl aG.ks (List.map aG.enc b0.Will.Message.Props)] (aB.enc b1) (((List.map aC.enc w3002) ++ [[D.int .i64 3, D.int .i64 0, D.bool false, D.str r2.Topic, D.str r2.Payload, D.int .i64 r2.Level, D.bool r2.Retain, D.int .i64 r2.Priority, D.int .i64 r2.Expires, D.str r2.From, D.int .i64 r2.Seq, D.sl aG.ks (List.map aG.enc r2.Props), D.str [], D.str [], D.bool false, D.int .i64 0, D.int .i64 0, D.int .i64 0, D.bool false, D.int .i64 0, D.str [], D.str [], D.int .i64 0, D.bool false, D.int .i64 0, D.int .i64 0, D.str [], D.int .i64 0, D.sl aG.ks (List.map aG.enc []), D.bool false, D.int .i64 0, D.sl aF.ks (List.map aF.enc []), D.sl [.str] (List.map bL []), D.sl [.int .i64] (List.map eI [])]]))) none) none) (
  γ114 [aI.av b0.Out, .agg [.d (.str (bC (cE aA.enc b0.Queue 0 0))), .d (.str (bC (cE aA.enc b0.Queue 0 1))), .d (.int .i64 (aR (cE aA.enc b0.Queue 0 2))), .d (.bool (bM (cE aA.enc b0.Queue 0 3))), .d (.int .i64 (aR (cE aA.enc b0.Queue 0 4))), .d (.int .i64 (aR (cE aA.enc b0.Queue 0 5))), .d (.str (bC (cE aA.enc b0.Queue 0 6))), .d (.int .i64 (aR (cE aA.enc b0.Queue 0 7))), .d (.sl aG.ks (dSl (cE aA.enc b0.Queue 0 8)))]] [] [] fun r3 =>
  cond (r3.2.2 != 0) (
  (some (.ret [aB.av b0, .row 0] [] [⟨aC.ks, 49, 416, (List.map aC.enc w3002)⟩]))) (
  cond (decide ((lM aC.enc w3002 + lM aC.enc [r3.2.1]) * 416 ≤ 140737488355328)) (
  cond (decide (0 ≤ 1) && decide (1 ≤ ((lM aA.enc b0.Queue) : Int))) (
   akf (C61 Γ γ113 γ51 γ80 γ114) Λ2 J x1 [D.str b0.Client, D.str b0.User, D.bool b0.Online, D.int .i64 b0.Conn, D.int .i64 b0.Expiry, D.int .i64 b0.Until, D.int .i64 b0.Dropped, D.sl aF.ks (List.map aF.enc b0.Subs), D.sl aA.ks (bQ (List.map aA.enc b0.Queue) (some 1) none), D.int .i64 r3.1.Limit, D.sl aD.ks (List.map aD.enc r3.1.Items), D.sl [.int .i64] (List.map eI r3.1.Pool.Used), D.int .i64 r3.1.Pool.Last, D.sl [.int .i64] (List.map eI b0.In.IDs), D.bool b0.Will.Set, D.int .i64 b0.Will.Delay, D.str b0.Will.Message.Topic, D.str b0.Will.Message.Payload, D.int .i64 b0.Will.Message.Level, D.bool b0.Will.Message.Retain, D.int .i64 b0.Will.Message.Priority, D.int .i64 b0.Will.Message.Expires, D.str b0.Will.Message.From, D.int .i64 b0.Will.Message.Seq, D.sl aG.ks (List.map aG.enc b0.Will.Message.Props)] (aB.enc b1) (((List.map aC.enc w3002) ++ (List.map aC.enc [r3.2.1])))) none) none)))) none) (
 (some (.ret [aB.av b0, .row 0] [] [⟨aC.ks, 49, 416, (List.map aC.enc w3002)⟩]))) := by kernel_rfl
end
abbrev X61 : aP := C61 gG (cT 113 stringslite_HasPrefix_out) (cT 51 bR) (cT 80 bW) (cT 114 jH)
theorem azg : X61 = aQ gG := by unfold X61 C61; repeat rw [bB fun _ h => h]
abbrev aB4 := akf X61 (bP SE gG (SE.hl 61) (SE.hr 61)) (J0 SE X61)
theorem aif : ∀ (fu : Nat) (x1 : Int) (b0 b1 : aB) (w3002 : List aC), Le (Option.map bK (eE fu x1 b0 b1 w3002)) (aB4 x1 (aB.enc b0) (aB.enc b1) (List.map aC.enc w3002)) := by
 intro fu
 induction fu with
 | zero => intros; exact le_none
 | succ fu ih =>
  intro x1 b0 b1 w3002
  refine Le.trans ?_ (le_of_eq ((aZ azg).trans (aDv ..)).symm)
  unfold eE
  refine lD (by simp only [EN]) ?_ ?_
  ·refine lG (by simp only [EN]) ?_
   refine lQ eX stringslite_HasPrefix_inj (by (try simp only [EN]); exact ah5 (List.getD b0.Queue (Int.toNat 0) default) x1) fun r0 _ => ?_
   refine lC ?_ ?_
   ·refine lQ eX dK (sI _ _) fun r1 _ => ?_
    refine lG (by simp only [EN]) ?_
    (try simp only [EN]); exact ih x1 (aB.mk r1.Client r1.User r1.Online r1.Conn r1.Expiry r1.Until r1.Dropped r1.Subs (bQ r1.Queue (some 1) none) r1.Out r1.In r1.Will) b1 w3002
   ·refine lD (by simp only [EN]) ?_ ?_
    ·refine lQ eX dB (by (try simp only [EN]); exact mP (List.getD b0.Queue (Int.toNat 0) default)) fun r2 _ => ?_
     refine lG (by simp only [EN]) ?_
     refine lG (by simp only [EN]) ?_
     (try simp only [EN]); exact ih x1 (aB.mk b0.Client b0.User b0.Online b0.Conn b0.Expiry b0.Until b0.Dropped b0.Subs (bQ b0.Queue (some 1) none) b0.Out b0.In b0.Will) b1 ((w3002 ++ [(aC.mk 3 0 false r2 [] [] false 0 0 0 (aT.mk false 0 (aA.mk [] [] 0 false 0 0 [] 0 [])) false 0 [] [] [])]))
    ·refine lQ eX ahM (by (try simp only [EN]); exact aiR b0.Out (List.getD b0.Queue (Int.toNat 0) default)) fun r3 _ => ?_
     refine lC ?_ ?_
     ·exact aJ rfl
     ·refine lG (by simp only [EN]) ?_
      refine lG (by simp only [EN]) ?_
      (try simp only [EN]); exact ih x1 (aB.mk b0.Client b0.User b0.Online b0.Conn b0.Expiry b0.Until b0.Dropped b0.Subs (bQ b0.Queue (some 1) none) r3.1 b0.In b0.Will) b1 (w3002 ++ [r3.2.1])
  ·exact aJ rfl
theorem aad (p0 : aB) (p1 : Int) (p2 : List aC) : Le (Option.map bK (hR p0 p1 p2)) (bA SE 61 [aB.av p0, .d (.int .i64 p1), .row 2000000000] [] [⟨aC.ks, 49, 416, (List.map aC.enc p2)⟩]) := by
 refine aV azg rfl ?_
 refine Le.trans ?_ (le_of_eq (T61 ..).symm)
 unfold hR
 (try simp only [EN]); exact aif fuel p1 p0 ((aB.mk [] [] false 0 0 0 0 [] [] (aI.mk 0 [] (aN.mk [] 0)) (bE.mk []) (aT.mk false 0 (aA.mk [] [] 0 false 0 0 [] 0 [])))) p2
section
variable (Γ : Fun) (γ50 : Gm (aB)) (γ61 : Gm (aB × (List aC))) (Λ2 J : Lam)
def C34 : aP := aY (aY (aQ Γ) 50 cB γ50) 61 bK γ61
theorem T34 (p0 : aB) (p1 : Int) : bF SE (C34 Γ γ50 γ61) Λ2 J 34 [aB.av p0, .d (.int .i64 p1)] [] [] =
 cond (!p0.Online) (
 γ50 [aB.av p0] [] [] fun r0 =>
 (some (.ret [aB.av r0, .row 0] [] [⟨aC.ks, 49, 416, []⟩]))) (
 γ50 [aB.av p0] [] [] fun r1 =>
 γ61 [aB.av r1, .d (.int .i64 p1), .row 2000000000] [] [⟨aC.ks, 49, 416, (List.map aC.enc [])⟩] fun r2 =>
 (some (.ret [aB.av r2.1, .row 0] [] [⟨aC.ks, 49, 416, (List.map aC.enc r2.2)⟩]))) := by kernel_rfl
end
abbrev X34 : aP := C34 gG (cT 50 cB) (cT 61 bK)
theorem aGe : X34 = aQ gG := by unfold X34 C34; repeat rw [bB fun _ h => h]
theorem zM (p0 : aB) (p1 : Int) : Le (Option.map bK (lZ p0 p1)) (bA SE 34 [aB.av p0, .d (.int .i64 p1)] [] []) := by
 refine aV aGe rfl ?_
 refine Le.trans ?_ (le_of_eq (T34 ..).symm)
 unfold lZ
 refine lC ?_ ?_
 ·refine lQ eX gB (jI _) fun r0 _ => ?_
  exact aJ rfl
 ·refine lQ eX gB (jI _) fun r1 _ => ?_
  refine lQ eX dX (by (try simp only [EN]); exact aad r1 p1 []) fun r2 _ => ?_
  exact aJ rfl
section
variable (Γ : Fun)  (Λ2 J : Lam)
def ay4 : aP := aQ Γ
theorem aDZ (p0 : aD) (p1 : Int) : bF SE (ay4 Γ) Λ2 J 152 [aD.av p0, .ptr 2000000000 0] [⟨3, [.d (.int .i64 p1)]⟩] [] =
 (some (.ret [.d (.bool (p0.ID == p1))] [⟨3, [.d (.int .i64 p1)]⟩] [])) := by kernel_rfl
end
abbrev aFF : aP := ay4 gG
theorem aDs : aFF = aQ gG := rfl
theorem ahh (p0 : aD) (p1 : Int) : Le (Option.map kA (vX p0 p1)) (bA SE 152 [aD.av p0, .ptr 2000000000 0] [⟨3, [.d (.int .i64 p1)]⟩] []) := by
 refine aV aDs rfl ?_
 refine Le.trans ?_ (le_of_eq (aDZ ..).symm)
 unfold vX
 exact aJ rfl
def aoA (C : aP) (Λ2 J : Lam) (a0 : List (List D)) (a1 a2 a3 : Int) : Res := lab SE C Λ2 J 151 1 [1, 0, 1, 0] (aW [(0, .d (.sl aD.ks a0)), (1, .fn 152 [] [.ptr 2000000000 0]), (7, .d (.int .i64 a1)), (8, .d (.int .i64 a2))] [] [⟨3, [.d (.int .i64 a3)]⟩] [] [])
section
variable (Γ : Fun) (γ152 : Gm (Bool × Int)) (Λ2 J : Lam)
def alD : aP := aY (aQ Γ) 152 kA γ152
theorem aGh (p0 : List aD) (p1_0 : Int) : bF SE (alD Γ γ152) Λ2 J 151 [.d (.sl aD.ks (List.map aD.enc p0)), .fn 152 [] [.ptr 2000000000 0]] [⟨3, [.d (.int .i64 p1_0)]⟩] [] =
 aoA (alD Γ γ152) Λ2 J (List.map aD.enc p0) (lM aD.enc p0 : Int) 0 p1_0 := by kernel_rfl
theorem axz (x0 : List aD) (x7 x8 q0_0 : Int) : bT SE (alD Γ γ152) Λ2 J 151 1 [1, 0, 1, 0] (aW [(0, .d (.sl aD.ks (List.map aD.enc x0))), (1, .fn 152 [] [.ptr 2000000000 0]), (7, .d (.int .i64 x7)), (8, .d (.int .i64 x8))] [] [⟨3, [.d (.int .i64 q0_0)]⟩] [] []) =
 cond (decide (x8 < x7)) (
 cond (iB x8 (lM aD.enc x0 : Int)) (
  γ152 [.agg [.d (.int .i64 (aR (cE aD.enc x0 x8 0))), .d (.int .i64 (aR (cE aD.enc x0 x8 1))), .d (.str (bC (cE aD.enc x0 x8 2))), .d (.str (bC (cE aD.enc x0 x8 3))), .d (.int .i64 (aR (cE aD.enc x0 x8 4))), .d (.bool (bM (cE aD.enc x0 x8 5))), .d (.int .i64 (aR (cE aD.enc x0 x8 6))), .d (.int .i64 (aR (cE aD.enc x0 x8 7))), .d (.str (bC (cE aD.enc x0 x8 8))), .d (.int .i64 (aR (cE aD.enc x0 x8 9))), .d (.sl aG.ks (dSl (cE aD.enc x0 x8 10)))], .ptr 2000000000 0] [⟨3, [.d (.int .i64 q0_0)]⟩] [] fun r0 =>
  cond r0.1 (
  (some (.ret [.d (.int .i64 x8)] [⟨3, [.d (.int .i64 r0.2)]⟩] []))) (
  aoA (alD Γ γ152) Λ2 J (List.map aD.enc x0) x7 (w6 (x8 + 1)) r0.2)) none) (
 (some (.ret [.d (.int .i64 (-1))] [⟨3, [.d (.int .i64 q0_0)]⟩] []))) := by kernel_rfl
end
abbrev arL : aP := alD gG (cT 152 kA)
theorem avi : arL = aQ gG := by unfold arL alD; rw [bB fun _ h => h]
abbrev axn := aoA arL (bP SE gG (SE.hl 151) (SE.hr 151)) (J0 SE arL)
theorem rM : ∀ (fu : Nat) (x0 : List aD) (x7 x8 q0_0 : Int), Le (Option.map cK (cL fu x0 x7 x8 q0_0)) (axn (List.map aD.enc x0) x7 x8 q0_0) := by
 intro fu
 induction fu with
 | zero => intros; exact le_none
 | succ fu ih =>
  intro x0 x7 x8 q0_0
  refine Le.trans ?_ (le_of_eq ((aZ avi).trans (axz ..)).symm)
  unfold cL
  refine lC ?_ ?_
  ·refine lG (by simp only [EN]) ?_
   refine lQ eX agW (by (try simp only [EN]); exact ahh (List.getD x0 (Int.toNat x8) default) q0_0) fun r0 _ => ?_
   refine lC ?_ ?_
   ·exact aJ rfl
   ·exact ih x0 x7 (w6 (x8 + 1)) r0.2
  ·exact aJ rfl
theorem sU (p0 : List aD) (p1_0 : Int) : Le (Option.map cK (eM p0 p1_0)) (bA SE 151 [.d (.sl aD.ks (List.map aD.enc p0)), .fn 152 [] [.ptr 2000000000 0]] [⟨3, [.d (.int .i64 p1_0)]⟩] []) := by
 refine aV avi rfl ?_
 refine Le.trans ?_ (le_of_eq (aGh ..).symm)
 unfold eM
 (try simp only [EN]); exact rM fuel p0 (List.length p0 : Int) 0 p1_0
section
variable (Γ : Fun) (γ151 : Gm (Int × Int)) (Λ2 J : Lam)
def auL : aP := aY (aQ Γ) 151 cK γ151
theorem aD4 (p0 : List aD) (p1 : Int) : bF SE (auL Γ γ151) Λ2 J 109 [.d (.sl aD.ks (List.map aD.enc p0)), .d (.int .i64 p1)] [] [] =
 γ151 [.d (.sl aD.ks (List.map aD.enc p0)), .fn 152 [] [.ptr 2000000000 0]] [⟨3, [.d (.int .i64 p1)]⟩] [] fun r0 =>
 (rI r0.1) := by kernel_rfl
end
abbrev aAf : aP := auL gG (cT 151 cK)
theorem aCE : aAf = aQ gG := by unfold aAf auL; rw [bB fun _ h => h]
theorem ac6 (p0 : List aD) (p1 : Int) : Le (Option.map stringslite_IndexByte_out (rT p0 p1)) (bA SE 109 [.d (.sl aD.ks (List.map aD.enc p0)), .d (.int .i64 p1)] [] []) := by
 refine aV aCE rfl ?_
 refine Le.trans ?_ (le_of_eq (aD4 ..).symm)
 unfold rT
 refine lQ eX sB (sU _ _) fun r0 _ => ?_
 exact aJ rfl
theorem abk (p0 : List Int) (p1 p2 : Int) : Le (Option.map bI (qF p0 p1 p2)) (bA SE 176 [.row 2000000000, .d (.int .i64 p1), .d (.int .i64 p2)] [] [⟨[.int .i64], 3, 8, (List.map eI p0)⟩]) := ahU (f := 176) (enc := eI) rfl rfl p0 p1 p2
section
variable (Γ : Fun) (γ104 : Gm ((List Int))) (γ175 : Gm (Int × Bool)) (γ176 : Gm ((List Int))) (Λ2 J : Lam)
def atd : aP := aY (aY (aY (aQ Γ) 104 bI γ104) 175 aX γ175) 176 bI γ176
theorem aE0 (p0 : aN) (p1 : Int) : bF SE (atd Γ γ104 γ175 γ176) Λ2 J 154 [aN.av p0, .d (.int .i64 p1)] [] [] =
 γ104 [.d (.sl [.int .i64] (List.map eI p0.Used))] [] [] fun r0 =>
 γ175 [.d (.sl [.int .i64] (List.map eI r0)), .d (.int .i64 p1)] [] [] fun r1 =>
 cond r1.2 (
 γ176 [.row 2000000000, .d (.int .i64 r1.1), .d (.int .i64 (w6 (r1.1 + 1)))] [] [⟨[.int .i64], 3, 8, (List.map eI r0)⟩] fun r2 =>
 (some (.ret [.agg [.row 0, .d (.int .i64 p0.Last)], .d (.bool r1.2)] [] [⟨[.int .i64], 3, 8, (List.map eI r2)⟩]))) (
 (some (.ret [.agg [.row 0, .d (.int .i64 p0.Last)], .d (.bool r1.2)] [] [⟨[.int .i64], 3, 8, (List.map eI r0)⟩]))) := by kernel_rfl
end
abbrev aAt : aP := atd gG (cT 104 bI) (cT 175 aX) (cT 176 bI)
theorem aBc : aAt = aQ gG := by unfold aAt atd; repeat rw [bB fun _ h => h]
theorem amO (p0 : aN) (p1 : Int) : Le (Option.map fY (zT p0 p1)) (bA SE 154 [aN.av p0, .d (.int .i64 p1)] [] []) := by
 refine aV aBc rfl ?_
 refine Le.trans ?_ (le_of_eq (aE0 ..).symm)
 unfold zT
 refine lQ eX dN (hJ _) fun r0 _ => ?_
 refine lQ eX cG (kK _ _) fun r1 _ => ?_
 refine lC ?_ ?_
 ·refine lQ eX dN (abk _ _ _) fun r2 _ => ?_
  exact aJ rfl
 ·exact aJ rfl
theorem tX (p0 : List aD) (p1 p2 : Int) : Le (Option.map cX (iO p0 p1 p2)) (bA SE 155 [.row 2000000000, .d (.int .i64 p1), .d (.int .i64 p2)] [] [⟨aD.ks, 122, 128, (List.map aD.enc p0)⟩]) := ahU (f := 155) (enc := aD.enc) rfl rfl p0 p1 p2
section
variable (Γ : Fun) (γ154 : Gm (aN × Bool)) (γ110 : Gm (aI)) (γ155 : Gm ((List aD))) (Λ2 J : Lam)
def atn : aP := aY (aY (aY (aQ Γ) 154 fY γ154) 110 bX γ110) 155 cX γ155
theorem aDT (p0 : aI) (p1 : Int) : bF SE (atn Γ γ154 γ110 γ155) Λ2 J 111 [aI.av p0, .d (.int .i64 p1)] [] [] =
 cond (iB p1 (lM aD.enc p0.Items : Int)) (
 γ154 [aN.av p0.Pool, .d (.int .i64 (aR (cE aD.enc p0.Items p1 0)))] [] [] fun r0 =>
 γ110 [aI.av p0] [] [] fun r1 =>
 γ155 [.row 2000000000, .d (.int .i64 p1), .d (.int .i64 (w6 (p1 + 1)))] [] [⟨aD.ks, 122, 128, (List.map aD.enc r1.Items)⟩] fun r2 =>
 (some (.ret [.agg [.d (.int .i64 r1.Limit), .row 0, .row 1, .d (.int .i64 r0.1.Last)]] [] [⟨aD.ks, 122, 128, (List.map aD.enc r2)⟩, ⟨[.int .i64], 3, 8, (List.map eI r0.1.Used)⟩]))) none := by kernel_rfl
end
abbrev ayZ : aP := atn gG (cT 154 fY) (cT 110 bX) (cT 155 cX)
theorem aCM : ayZ = aQ gG := by unfold ayZ atn; repeat rw [bB fun _ h => h]
theorem abl (p0 : aI) (p1 : Int) : Le (Option.map bX (oM p0 p1)) (bA SE 111 [aI.av p0, .d (.int .i64 p1)] [] []) := by
 refine aV aCM rfl ?_
 refine Le.trans ?_ (le_of_eq (aDT ..).symm)
 unfold oM
 refine lG (by simp only [EN]) ?_
 refine lQ eX afy (by (try simp only [EN]); exact amO p0.Pool ((List.getD p0.Items (Int.toNat p1) default).ID)) fun r0 _ => ?_
 refine lQ eX fE (mQ _) fun r1 _ => ?_
 refine lQ eX tU (tX _ _ _) fun r2 _ => ?_
 exact aJ rfl
section
variable (Γ : Fun)  (Λ2 J : Lam)
def axg : aP := aQ Γ
theorem aEt (p0 : Int) : bF SE (axg Γ) Λ2 J 112 [.d (.int .i64 p0)] [] [] =
 (some (.ret [.agg [.d (.int .i64 6), .d (.int .i64 p0), .d (.bool false), .d (.str []), .d (.str []), .d (.int .i64 0), .d (.bool false), .d (.int .i64 0), .d (.int .i64 0), .d (.str []), .d (.int .i64 0), .row 0, .d (.str []), .d (.str []), .d (.bool false), .d (.int .i64 0), .d (.int .i64 0), .d (.int .i64 0), .d (.bool false), .d (.int .i64 0), .d (.str []), .d (.str []), .d (.int .i64 0), .d (.bool false), .d (.int .i64 0), .d (.int .i64 0), .d (.str []), .d (.int .i64 0), .row 1, .d (.bool false), .d (.int .i64 0), .row 2, .row 3, .row 4]] [] [⟨aG.ks, 130, 32, (List.map aG.enc [])⟩, ⟨aG.ks, 130, 32, (List.map aG.enc [])⟩, ⟨aF.ks, 60, 32, (List.map aF.enc [])⟩, ⟨[.str], 9, 16, (List.map bL [])⟩, ⟨[.int .i64], 3, 8, (List.map eI [])⟩])) := by kernel_rfl
end
abbrev aD8 : aP := axg gG
theorem aBL : aD8 = aQ gG := rfl
theorem wF (p0 : Int) : Le (Option.map bU (oO p0)) (bA SE 112 [.d (.int .i64 p0)] [] []) := by
 refine aV aBL rfl ?_
 refine Le.trans ?_ (le_of_eq (aEt ..).symm)
 unfold oO
 exact aJ rfl
def arF (C : aP) (Λ2 J : Lam) (a0 : Int) (a1 a2 a3 a4 : List D) : Res := lab SE C Λ2 J 60 0 [1, 1, 1, 1, 0, 0] (aW [(2, .ptr 1000000000 0), (3, .ptr 1000000001 0), (4, .ptr 1000000002 0), (7, .d (.int .i64 a0)), (8, .ptr 1000000003 0)] [⟨29, (List.map AV.d a1)⟩, ⟨49, (List.map AV.d a2)⟩, ⟨29, (List.map AV.d a3)⟩, ⟨122, (List.map AV.d a4)⟩] [] [] [])
section
variable (Γ : Fun) (γ109 : Gm (Int)) (γ110 γ111 : Gm (aI)) (γ112 : Gm (aC)) (Λ2 J : Lam)
def C60 : aP := aY (aY (aY (aY (aQ Γ) 109 stringslite_IndexByte_out γ109) 110 bX γ110) 111 bX γ111) 112 bU γ112
theorem T60 (p0 : aI) (p1 : aC) : bF SE (C60 Γ γ109 γ110 γ111 γ112) Λ2 J 60 [aI.av p0, aC.av p1] [] [] =
 γ109 [.d (.sl aD.ks (List.map aD.enc p0.Items)), .d (.int .i64 p1.ID)] [] [] fun r0 =>
 cond (decide (r0 ≥ 0)) (
 cond (iB r0 (lM aD.enc p0.Items : Int)) (
  arF (C60 Γ γ109 γ110 γ111 γ112) Λ2 J r0 (aI.enc p0) (aC.enc p1) [D.int .i64 0, D.sl aD.ks (List.map aD.enc []), D.sl [.int .i64] (List.map eI []), D.int .i64 0] [D.int .i64 (aR (cE aD.enc p0.Items r0 0)), D.int .i64 (aR (cE aD.enc p0.Items r0 1)), D.str (bC (cE aD.enc p0.Items r0 2)), D.str (bC (cE aD.enc p0.Items r0 3)), D.int .i64 (aR (cE aD.enc p0.Items r0 4)), D.bool (bM (cE aD.enc p0.Items r0 5)), D.int .i64 (aR (cE aD.enc p0.Items r0 6)), D.int .i64 (aR (cE aD.enc p0.Items r0 7)), D.str (bC (cE aD.enc p0.Items r0 8)), D.int .i64 (aR (cE aD.enc p0.Items r0 9)), D.sl aG.ks (dSl (cE aD.enc p0.Items r0 10))]) none) (
 arF (C60 Γ γ109 γ110 γ111 γ112) Λ2 J r0 (aI.enc p0) (aC.enc p1) [D.int .i64 0, D.sl aD.ks (List.map aD.enc []), D.sl [.int .i64] (List.map eI []), D.int .i64 0] [D.int .i64 0, D.int .i64 0, D.str [], D.str [], D.int .i64 0, D.bool false, D.int .i64 0, D.int .i64 0, D.str [], D.int .i64 0, D.sl aG.ks (List.map aG.enc [])]) := by kernel_rfl
theorem aBF (x7 : Int) (b0 : aI) (b1 : aC) (b2 : aI) (b3 : aD) : bT SE (C60 Γ γ109 γ110 γ111 γ112) Λ2 J 60 0 [1, 1, 1, 1, 0, 0] (aW [(2, .ptr 1000000000 0), (3, .ptr 1000000001 0), (4, .ptr 1000000002 0), (7, .d (.int .i64 x7)), (8, .ptr 1000000003 0)] [⟨29, (List.map AV.d (aI.enc b0))⟩, ⟨49, (List.map AV.d (aC.enc b1))⟩, ⟨29, (List.map AV.d (aI.enc b2))⟩, ⟨122, (List.map AV.d (aD.enc b3))⟩] [] [] []) =
 cond (b1.Kind == 4) (
 cond (decide (x7 < 0)) (
  γ110 [aI.av b0] [] [] fun r1 =>
  (some (.ret [.agg [.d (.int .i64 r1.Limit), .row 0, .row 1, .d (.int .i64 r1.Pool.Last)], .row 2, .d (.int .i64 0)] [] [⟨aD.ks, 122, 128, (List.map aD.enc r1.Items)⟩, ⟨[.int .i64], 3, 8, (List.map eI r1.Pool.Used)⟩, ⟨aC.ks, 49, 416, []⟩]))) (
 cond (b3.Message.Level == 1) (
  γ111 [aI.av b0, .d (.int .i64 x7)] [] [] fun r2 =>
  (some (.ret [.agg [.d (.int .i64 r2.Limit), .row 0, .row 1, .d (.int .i64 r2.Pool.Last)], .row 2, .d (.int .i64 0)] [] [⟨aD.ks, 122, 128, (List.map aD.enc r2.Items)⟩, ⟨[.int .i64], 3, 8, (List.map eI r2.Pool.Used)⟩, ⟨aC.ks, 49, 416, []⟩]))) (
 (some (.ret [.agg [.d (.int .i64 0), .row 0, .row 1, .d (.int .i64 0)], .row 2, .d (.int .i64 23)] [] [⟨aD.ks, 122, 128, (List.map aD.enc [])⟩, ⟨[.int .i64], 3, 8, (List.map eI [])⟩, ⟨aC.ks, 49, 416, []⟩]))))) (
 cond (b1.Kind == 5) (
 cond (decide (x7 < 0)) (
  γ110 [aI.av b0] [] [] fun r3 =>
  γ112 [.d (.int .i64 b1.ID)] [] [] fun r4 =>
  (some (.ret [.agg [.d (.int .i64 r3.Limit), .row 0, .row 1, .d (.int .i64 r3.Pool.Last)], .row 2, .d (.int .i64 0)] [] [⟨aD.ks, 122, 128, (List.map aD.enc r3.Items)⟩, ⟨[.int .i64], 3, 8, (List.map eI r3.Pool.Used)⟩, ⟨aC.ks, 49, 416, (List.map aC.enc [r4])⟩]))) (
 cond (b3.Message.Level == 2) (
  γ110 [aI.av b0] [] [] fun r5 =>
  cond (iB x7 (lM aD.enc r5.Items : Int)) (
  γ112 [.d (.int .i64 b1.ID)] [] [] fun r6 =>
  (some (.ret [.agg [.d (.int .i64 r5.Limit), .row 0, .row 1, .d (.int .i64 r5.Pool.Last)], .row 2, .d (.int .i64 0)] [] [⟨aD.ks, 122, 128, (mY (List.map aD.enc r5.Items) (Int.toNat x7) 1 [D.int .i64 2])⟩, ⟨[.int .i64], 3, 8, (List.map eI r5.Pool.Used)⟩, ⟨aC.ks, 49, 416, (List.map aC.enc [r6])⟩]))) none) (
 (some (.ret [.agg [.d (.int .i64 0), .row 0, .row 1, .d (.int .i64 0)], .row 2, .d (.int .i64 23)] [] [⟨aD.ks, 122, 128, (List.map aD.enc [])⟩, ⟨[.int .i64], 3, 8, (List.map eI [])⟩, ⟨aC.ks, 49, 416, []⟩]))))) (
 cond (b1.Kind == 7) (
 cond (decide (x7 < 0)) (
  γ110 [aI.av b0] [] [] fun r7 =>
  (some (.ret [.agg [.d (.int .i64 r7.Limit), .row 0, .row 1, .d (.int .i64 r7.Pool.Last)], .row 2, .d (.int .i64 0)] [] [⟨aD.ks, 122, 128, (List.map aD.enc r7.Items)⟩, ⟨[.int .i64], 3, 8, (List.map eI r7.Pool.Used)⟩, ⟨aC.ks, 49, 416, []⟩]))) (
 cond (b3.State == 2) (
  γ111 [aI.av b0, .d (.int .i64 x7)] [] [] fun r8 =>
  (some (.ret [.agg [.d (.int .i64 r8.Limit), .row 0, .row 1, .d (.int .i64 r8.Pool.Last)], .row 2, .d (.int .i64 0)] [] [⟨aD.ks, 122, 128, (List.map aD.enc r8.Items)⟩, ⟨[.int .i64], 3, 8, (List.map eI r8.Pool.Used)⟩, ⟨aC.ks, 49, 416, []⟩]))) (
 (some (.ret [.agg [.d (.int .i64 0), .row 0, .row 1, .d (.int .i64 0)], .row 2, .d (.int .i64 23)] [] [⟨aD.ks, 122, 128, (List.map aD.enc [])⟩, ⟨[.int .i64], 3, 8, (List.map eI [])⟩, ⟨aC.ks, 49, 416, []⟩]))))) (
 (some (.ret [.agg [.d (.int .i64 0), .row 0, .row 1, .d (.int .i64 0)], .row 2, .d (.int .i64 10)] [] [⟨aD.ks, 122, 128, (List.map aD.enc [])⟩, ⟨[.int .i64], 3, 8, (List.map eI [])⟩, ⟨aC.ks, 49, 416, []⟩]))))) := by kernel_rfl
end
abbrev X60 : aP := C60 gG (cT 109 stringslite_IndexByte_out) (cT 110 bX) (cT 111 bX) (cT 112 bU)
theorem azJ : X60 = aQ gG := by unfold X60 C60; repeat rw [bB fun _ h => h]
abbrev aBJ := arF X60 (bP SE gG (SE.hl 60) (SE.hr 60)) (J0 SE X60)
theorem zD (x7 : Int) (b0 : aI) (b1 : aC) (b2 : aI) (b3 : aD) : Le (Option.map gK (eS x7 b0 b1 b2 b3)) (aBJ x7 (aI.enc b0) (aC.enc b1) (aI.enc b2) (aD.enc b3)) := by
 refine Le.trans ?_ (le_of_eq ((aZ azJ).trans (aBF ..)).symm)
 unfold eS
 refine lC ?_ ?_
 ·refine lC ?_ ?_
  ·refine lQ eX fE (mQ _) fun r1 _ => ?_
   exact aJ rfl
  ·refine lC ?_ ?_
   ·refine lQ eX fE (abl _ _) fun r2 _ => ?_
    exact aJ rfl
   ·exact aJ rfl
 ·refine lC ?_ ?_
  ·refine lC ?_ ?_
   ·refine lQ eX fE (mQ _) fun r3 _ => ?_
    refine lQ eX eO (wF _) fun r4 _ => ?_
    exact aJ rfl
   ·refine lC ?_ ?_
    ·refine lQ eX fE (mQ _) fun r5 _ => ?_
     refine lG (by simp only [EN]) ?_
     refine lQ eX eO (wF _) fun r6 _ => ?_
     exact aJ (by first | rfl | simp only [EN, gK] <;> rfl)
    ·exact aJ rfl
  ·refine lC ?_ ?_
   ·refine lC ?_ ?_
    ·refine lQ eX fE (mQ _) fun r7 _ => ?_
     exact aJ rfl
    ·refine lC ?_ ?_
     ·refine lQ eX fE (abl _ _) fun r8 _ => ?_
      exact aJ rfl
     ·exact aJ rfl
   ·exact aJ rfl
theorem ahL (p0 : aI) (p1 : aC) : Le (Option.map gK (j2 p0 p1)) (bA SE 60 [aI.av p0, aC.av p1] [] []) := by
 refine aV azJ rfl ?_
 refine Le.trans ?_ (le_of_eq (T60 ..).symm)
 unfold j2
 refine lQ eX stringslite_IndexByte_inj (ac6 _ _) fun r0 _ => ?_
 refine lC ?_ ?_
 ·refine lG (by simp only [EN]) ?_
  (try simp only [EN]); exact zD r0 p0 p1 ((aI.mk 0 [] (aN.mk [] 0))) (List.getD p0.Items (Int.toNat r0) default)
 ·(try simp only [EN]); exact zD r0 p0 p1 ((aI.mk 0 [] (aN.mk [] 0))) ((aD.mk 0 0 (aA.mk [] [] 0 false 0 0 [] 0 [])))
section
variable (Γ : Fun) (γ60 : Gm (aI × (List aC) × Int)) (γ50 : Gm (aB)) (γ61 : Gm (aB × (List aC))) (Λ2 J : Lam)
def C19 : aP := aY (aY (aY (aQ Γ) 60 gK γ60) 50 cB γ50) 61 bK γ61
theorem T19 (p0 : aB) (p1 : aC) (p2 : Int) : bF SE (C19 Γ γ60 γ50 γ61) Λ2 J 19 [aB.av p0, aC.av p1, .d (.int .i64 p2)] [] [] =
 γ60 [aI.av p0.Out, aC.av p1] [] [] fun r0 =>
 cond (r0.2.2 != 0) (
 (some (.ret [.agg [.d (.str []), .d (.str []), .d (.bool false), .d (.int .i64 0), .d (.int .i64 0), .d (.int .i64 0), .d (.int .i64 0), .d (.sl aF.ks (List.map aF.enc [])), .d (.sl aA.ks (List.map aA.enc [])), .d (.int .i64 0), .d (.sl aD.ks (List.map aD.enc [])), .d (.sl [.int .i64] (List.map eI [])), .d (.int .i64 0), .d (.sl [.int .i64] (List.map eI [])), .d (.bool false), .d (.int .i64 0), .d (.str []), .d (.str []), .d (.int .i64 0), .d (.bool false), .d (.int .i64 0), .d (.int .i64 0), .d (.str []), .d (.int .i64 0), .d (.sl aG.ks (List.map aG.enc []))], .row 0, .d (.int .i64 r0.2.2)] [] [⟨aC.ks, 49, 416, []⟩]))) (
 γ50 [aB.av p0] [] [] fun r1 =>
 cond (!p0.Online) (
 (some (.ret [aB.av (aB.mk r1.Client r1.User r1.Online r1.Conn r1.Expiry r1.Until r1.Dropped r1.Subs r1.Queue r0.1 r1.In r1.Will), .row 0, .d (.int .i64 0)] [] [⟨aC.ks, 49, 416, (List.map aC.enc r0.2.1)⟩]))) (
 γ61 [aB.av (aB.mk r1.Client r1.User r1.Online r1.Conn r1.Expiry r1.Until r1.Dropped r1.Subs r1.Queue r0.1 r1.In r1.Will), .d (.int .i64 p2), .row 2000000000] [] [⟨aC.ks, 49, 416, (List.map aC.enc r0.2.1)⟩] fun r2 =>
 (some (.ret [aB.av r2.1, .row 0, .d (.int .i64 0)] [] [⟨aC.ks, 49, 416, (List.map aC.enc r2.2)⟩])))) := by kernel_rfl
end
abbrev X19 : aP := C19 gG (cT 60 gK) (cT 50 cB) (cT 61 bK)
theorem aGx : X19 = aQ gG := by unfold X19 C19; repeat rw [bB fun _ h => h]
theorem xQ (p0 : aB) (p1 : aC) (p2 : Int) : Le (Option.map cZ (jS p0 p1 p2)) (bA SE 19 [aB.av p0, aC.av p1, .d (.int .i64 p2)] [] []) := by
 refine aV aGx rfl ?_
 refine Le.trans ?_ (le_of_eq (T19 ..).symm)
 unfold jS
 refine lQ eX ag1 (ahL _ _) fun r0 _ => ?_
 refine lC ?_ ?_
 ·exact aJ rfl
 ·refine lQ eX gB (jI _) fun r1 _ => ?_
  refine lC ?_ ?_
  ·exact aJ rfl
  ·refine lQ eX dX (aad _ _ _) fun r2 _ => ?_
   exact aJ rfl
section
variable (Γ : Fun)  (Λ2 J : Lam)
def C65 : aP := aQ Γ
theorem T65 (p0 : aA) : bF SE (C65 Γ) Λ2 J 65 [aA.av p0] [] [] =
 (rB (p0.Level == 0)) := by kernel_rfl
end
abbrev X65 : aP := C65 gG
theorem aEw : X65 = aQ gG := rfl
theorem aao (p0 : aA) : Le (Option.map stringslite_HasPrefix_out (mJ p0)) (bA SE 65 [aA.av p0] [] []) := by
 refine aV aEw rfl ?_
 refine Le.trans ?_ (le_of_eq (T65 ..).symm)
 unfold mJ
 exact aJ rfl
def anB (C : aP) (Λ2 J : Lam) (a0 : List (List D)) (a1 a2 : Int) : Res := lab SE C Λ2 J 123 0 [1, 0, 1, 0] (aW [(0, .d (.sl aA.ks a0)), (1, .fn 65 [] []), (7, .d (.int .i64 a1)), (8, .d (.int .i64 a2))] [] [] [] [])
section
variable (Γ : Fun) (γ65 : Gm (Bool)) (Λ2 J : Lam)
def alp : aP := aY (aQ Γ) 65 stringslite_HasPrefix_out γ65
theorem aF4 (p0 : List aA) : bF SE (alp Γ γ65) Λ2 J 123 [.d (.sl aA.ks (List.map aA.enc p0)), .fn 65 [] []] [] [] =
 anB (alp Γ γ65) Λ2 J (List.map aA.enc p0) (lM aA.enc p0 : Int) 0 := by kernel_rfl
theorem aAg (x0 : List aA) (x7 x8 : Int) : bT SE (alp Γ γ65) Λ2 J 123 0 [1, 0, 1, 0] (aW [(0, .d (.sl aA.ks (List.map aA.enc x0))), (1, .fn 65 [] []), (7, .d (.int .i64 x7)), (8, .d (.int .i64 x8))] [] [] [] []) =
 cond (decide (x8 < x7)) (
 cond (iB x8 (lM aA.enc x0 : Int)) (
  γ65 [.agg [.d (.str (bC (cE aA.enc x0 x8 0))), .d (.str (bC (cE aA.enc x0 x8 1))), .d (.int .i64 (aR (cE aA.enc x0 x8 2))), .d (.bool (bM (cE aA.enc x0 x8 3))), .d (.int .i64 (aR (cE aA.enc x0 x8 4))), .d (.int .i64 (aR (cE aA.enc x0 x8 5))), .d (.str (bC (cE aA.enc x0 x8 6))), .d (.int .i64 (aR (cE aA.enc x0 x8 7))), .d (.sl aG.ks (dSl (cE aA.enc x0 x8 8)))]] [] [] fun r0 =>
  cond r0 (
  (rI x8)) (
  anB (alp Γ γ65) Λ2 J (List.map aA.enc x0) x7 (w6 (x8 + 1)))) none) (
 (rI (-1))) := by kernel_rfl
end
abbrev arj : aP := alp gG (cT 65 stringslite_HasPrefix_out)
theorem avG : arj = aQ gG := by unfold arj alp; rw [bB fun _ h => h]
abbrev ayj := anB arj (bP SE gG (SE.hl 123) (SE.hr 123)) (J0 SE arj)
theorem qC : ∀ (fu : Nat) (x0 : List aA) (x7 x8 : Int), Le (Option.map stringslite_IndexByte_out (cH fu x0 x7 x8)) (ayj (List.map aA.enc x0) x7 x8) := by
 intro fu
 induction fu with
 | zero => intros; exact le_none
 | succ fu ih =>
  intro x0 x7 x8
  refine Le.trans ?_ (le_of_eq ((aZ avG).trans (aAg ..)).symm)
  unfold cH
  refine lC ?_ ?_
  ·refine lG (by simp only [EN]) ?_
   refine lQ eX stringslite_HasPrefix_inj (by (try simp only [EN]); exact aao (List.getD x0 (Int.toNat x8) default)) fun r0 _ => ?_
   refine lC ?_ ?_
   ·exact aJ rfl
   ·exact ih x0 x7 (w6 (x8 + 1))
  ·exact aJ rfl
theorem rR (p0 : List aA) : Le (Option.map stringslite_IndexByte_out (dE p0)) (bA SE 123 [.d (.sl aA.ks (List.map aA.enc p0)), .fn 65 [] []] [] []) := by
 refine aV avG rfl ?_
 refine Le.trans ?_ (le_of_eq (aF4 ..).symm)
 unfold dE
 (try simp only [EN]); exact qC fuel p0 (List.length p0 : Int) 0
def am8 (C : aP) (Λ2 J : Lam) (a0 a1 : Int) (a2 : List (List D)) : Res := lab SE C Λ2 J 64 0 [1, 1, 1, 0, 1, 0] (aW [(0, .row 3000), (1, .fn 65 [] []), (5, .d (.int .i64 a0)), (6, .d (.int .i64 a1))] [] [] [] [(3000, ⟨aA.ks, 34, 112, a2⟩)])
section
variable (Γ : Fun) (γ123 : Gm (Int)) (γ65 : Gm (Bool)) (Λ2 J : Lam)
def C64 : aP := aY (aY (aQ Γ) 123 stringslite_IndexByte_out γ123) 65 stringslite_HasPrefix_out γ65
theorem T64 (p0 : List aA) : bF SE (C64 Γ γ123 γ65) Λ2 J 64 [.row 2000000000, .fn 65 [] []] [] [⟨aA.ks, 34, 112, (List.map aA.enc p0)⟩] =
 γ123 [.d (.sl aA.ks (List.map aA.enc p0)), .fn 65 [] []] [] [] fun r0 =>
 cond (r0 == (-1)) (
 (some (.ret [.row 0] [] [⟨aA.ks, 34, 112, (List.map aA.enc p0)⟩]))) (
 am8 (C64 Γ γ123 γ65) Λ2 J r0 (w6 (r0 + 1)) (List.map aA.enc p0)) := by kernel_rfl
theorem aDn (x5 x6 : Int) (w3000 : List aA) : bT SE (C64 Γ γ123 γ65) Λ2 J 64 0 [1, 1, 1, 0, 1, 0] (aW [(0, .row 3000), (1, .fn 65 [] []), (5, .d (.int .i64 x5)), (6, .d (.int .i64 x6))] [] [] [] [(3000, ⟨aA.ks, 34, 112, (List.map aA.enc w3000)⟩)]) =
 cond (decide (x6 < (lM aA.enc w3000 : Int))) (
 cond (iB x6 (lM aA.enc w3000 : Int)) (
  γ65 [.agg [.d (.str (bC (cE aA.enc w3000 x6 0))), .d (.str (bC (cE aA.enc w3000 x6 1))), .d (.int .i64 (aR (cE aA.enc w3000 x6 2))), .d (.bool (bM (cE aA.enc w3000 x6 3))), .d (.int .i64 (aR (cE aA.enc w3000 x6 4))), .d (.int .i64 (aR (cE aA.enc w3000 x6 5))), .d (.str (bC (cE aA.enc w3000 x6 6))), .d (.int .i64 (aR (cE aA.enc w3000 x6 7))), .d (.sl aG.ks (dSl (cE aA.enc w3000 x6 8)))]] [] [] fun r1 =>
  cond (!r1) (
  cond (iB x5 (lM aA.enc w3000 : Int)) (
   am8 (C64 Γ γ123 γ65) Λ2 J (w6 (x5 + 1)) (w6 (x6 + 1)) ((mY (List.map aA.enc w3000) (Int.toNat x5) 0 [D.str (bC (cE aA.enc w3000 x6 0)), D.str (bC (cE aA.enc w3000 x6 1)), D.int .i64 (aR (cE aA.enc w3000 x6 2)), D.bool (bM (cE aA.enc w3000 x6 3)), D.int .i64 (aR (cE aA.enc w3000 x6 4)), D.int .i64 (aR (cE aA.enc w3000 x6 5)), D.str (bC (cE aA.enc w3000 x6 6)), D.int .i64 (aR (cE aA.enc w3000 x6 7)), D.sl aG.ks (dSl (cE aA.enc w3000 x6 8))]))) none) (
  am8 (C64 Γ γ123 γ65) Λ2 J x5 (w6 (x6 + 1)) (List.map aA.enc w3000))) none) (
 cond (decide (0 ≤ x5) && decide (x5 ≤ ((lM aA.enc w3000) : Int))) (
 cond (decide (0 ≤ x5) && decide (x5 ≤ (List.length (List.take (Int.toNat x5) (List.map aA.enc w3000) ++ List.replicate ((lM aA.enc w3000) - (Int.toNat x5)) [D.str [], D.str [], D.int .i64 0, D.bool false, D.int .i64 0, D.int .i64 0, D.str [], D.int .i64 0, D.sl aG.ks (List.map aG.enc [])] ++ List.drop ((Int.toNat x5) + ((lM aA.enc w3000) - (Int.toNat x5))) (List.map aA.enc w3000)) : Int))) (
  (some (.ret [.row 0] [] [⟨aA.ks, 34, 112, (List.take (Int.toNat x5) (List.take (Int.toNat x5) (List.map aA.enc w3000) ++ List.replicate ((lM aA.enc w3000) - (Int.toNat x5)) [D.str [], D.str [], D.int .i64 0, D.bool false, D.int .i64 0, D.int .i64 0, D.str [], D.int .i64 0, D.sl aG.ks (List.map aG.enc [])] ++ List.drop ((Int.toNat x5) + ((lM aA.enc w3000) - (Int.toNat x5))) (List.map aA.enc w3000)))⟩]))) none) none) := by kernel_rfl
end
abbrev X64 : aP := C64 gG (cT 123 stringslite_IndexByte_out) (cT 65 stringslite_HasPrefix_out)
theorem axv : X64 = aQ gG := by unfold X64 C64; repeat rw [bB fun _ h => h]
abbrev aCv := am8 X64 (bP SE gG (SE.hl 64) (SE.hr 64)) (J0 SE X64)
theorem pS : ∀ (fu : Nat) (x5 x6 : Int) (w3000 : List aA), Le (Option.map eY (cC fu x5 x6 w3000)) (aCv x5 x6 (List.map aA.enc w3000)) := by
 intro fu
 induction fu with
 | zero => intros; exact le_none
 | succ fu ih =>
  intro x5 x6 w3000
  refine Le.trans ?_ (le_of_eq ((aZ axv).trans (aDn ..)).symm)
  unfold cC
  refine lD (by simp only [EN]) ?_ ?_
  ·refine lG (by simp only [EN]) ?_
   refine lQ eX stringslite_HasPrefix_inj (by (try simp only [EN]); exact aao (List.getD w3000 (Int.toNat x6) default)) fun r1 _ => ?_
   refine lC ?_ ?_
   ·refine lG (by simp only [EN]) ?_
    (try simp only [EN]); exact ih (w6 (x5 + 1)) (w6 (x6 + 1)) ((List.set w3000 (Int.toNat x5) (List.getD w3000 (Int.toNat x6) default)))
   ·exact ih x5 (w6 (x6 + 1)) w3000
  ·refine lG (by simp only [EN]) ?_
   refine lG (by simp only [EN]) ?_
   exact aJ (by first | rfl | simp only [EN, eY] <;> rfl)
theorem rN (p0 : List aA) : Le (Option.map eY (dC p0)) (bA SE 64 [.row 2000000000, .fn 65 [] []] [] [⟨aA.ks, 34, 112, (List.map aA.enc p0)⟩]) := by
 refine aV axv rfl ?_
 refine Le.trans ?_ (le_of_eq (T64 ..).symm)
 unfold dC
 refine lQ eX stringslite_IndexByte_inj (rR _) fun r0 _ => ?_
 refine lC ?_ ?_
 ·exact aJ rfl
 ·exact pS fuel r0 (w6 (r0 + 1)) p0
section
variable (Γ : Fun) (γ50 : Gm (aB)) (γ64 : Gm ((List aA))) (γ51 : Gm (aB)) (Λ2 J : Lam)
def C23 : aP := aY (aY (aY (aQ Γ) 50 cB γ50) 64 eY γ64) 51 bR γ51
theorem T23 (p0 : aB) (p1 : Int) : bF SE (C23 Γ γ50 γ64 γ51) Λ2 J 23 [aB.av p0, .d (.int .i64 p1)] [] [] =
 γ50 [aB.av p0] [] [] fun r0 =>
 γ64 [.row 2000000000, .fn 65 [] []] [] [⟨aA.ks, 34, 112, (List.map aA.enc r0.Queue)⟩] fun r1 =>
 γ51 [aB.av (aB.mk r0.Client r0.User false 0 r0.Expiry (if 1099511627776 < (w6 (p1 + p0.Expiry)) then 1099511627776 else (w6 (p1 + p0.Expiry))) r0.Dropped r0.Subs r1 r0.Out r0.In r0.Will), .d (.int .i64 (w6 ((lM aA.enc r0.Queue : Int) - (lM aA.enc r1 : Int))))] [] [] fun r2 =>
 (some (.ret [aB.av r2] [] [])) := by kernel_rfl
end
abbrev X23 : aP := C23 gG (cT 50 cB) (cT 64 eY) (cT 51 bR)
theorem aFC : X23 = aQ gG := by unfold X23 C23; repeat rw [bB fun _ h => h]
theorem sR (p0 : aB) (p1 : Int) : Le (Option.map bR (j5 p0 p1)) (bA SE 23 [aB.av p0, .d (.int .i64 p1)] [] []) := by
 refine aV aFC rfl ?_
 refine Le.trans ?_ (le_of_eq (T23 ..).symm)
 unfold j5
 refine lQ eX gB (jI _) fun r0 _ => ?_
 refine lQ eX afp (rN _) fun r1 _ => ?_
 refine lQ eX dK (by (try simp only [EN]); exact sI ((aB.mk r0.Client r0.User false 0 r0.Expiry (if 1099511627776 < (w6 (p1 + p0.Expiry)) then 1099511627776 else (w6 (p1 + p0.Expiry))) r0.Dropped r0.Subs r1 r0.Out r0.In r0.Will)) ((w6 ((List.length r0.Queue : Int) - (List.length r1 : Int))))) fun r2 _ => ?_
 exact aJ rfl
def amX (C : aP) (Λ2 J : Lam) (a0 a1 : Int) (a2 : List D) (a3 : List (List D)) : Res := lab SE C Λ2 J 91 0 [1, 1, 0, 1, 0] (aW [(1, .ptr 1000000000 0), (3, .row 3003), (9, .d (.int .i64 a0)), (10, .d (.int .i64 a1))] [⟨29, (List.map AV.d a2)⟩] [] [] [(3003, ⟨aC.ks, 49, 416, a3⟩)])
section
variable (Γ : Fun) (γ112 γ147 : Gm (aC)) (Λ2 J : Lam)
def C91 : aP := aY (aY (aQ Γ) 112 bU γ112) 147 bU γ147
theorem T91 (p0 : aI) : bF SE (C91 Γ γ112 γ147) Λ2 J 91 [aI.av p0] [] [] =
 amX (C91 Γ γ112 γ147) Λ2 J (lM aD.enc p0.Items : Int) 0 (aI.enc p0) (List.map aC.enc []) := by kernel_rfl
theorem aA5 (x9 x10 : Int) (b0 : aI) (w3003 : List aC) : bT SE (C91 Γ γ112 γ147) Λ2 J 91 0 [1, 1, 0, 1, 0] (aW [(1, .ptr 1000000000 0), (3, .row 3003), (9, .d (.int .i64 x9)), (10, .d (.int .i64 x10))] [⟨29, (List.map AV.d (aI.enc b0))⟩] [] [] [(3003, ⟨aC.ks, 49, 416, (List.map aC.enc w3003)⟩)]) =
 cond (decide (x10 < x9)) (
 cond (iB x10 (lM aD.enc b0.Items : Int)) (
  cond ((aR (cE aD.enc b0.Items x10 1)) == 2) (
  γ112 [.d (.int .i64 (aR (cE aD.enc b0.Items x10 0)))] [] [] fun r0 =>
  cond (decide ((lM aC.enc w3003 + lM aC.enc [r0]) * 416 ≤ 140737488355328)) (
   amX (C91 Γ γ112 γ147) Λ2 J x9 (w6 (x10 + 1)) (aI.enc b0) (((List.map aC.enc w3003) ++ (List.map aC.enc [r0])))) none) (
  γ147 [.agg [.d (.int .i64 (aR (cE aD.enc b0.Items x10 0))), .d (.int .i64 (aR (cE aD.enc b0.Items x10 1))), .d (.str (bC (cE aD.enc b0.Items x10 2))), .d (.str (bC (cE aD.enc b0.Items x10 3))), .d (.int .i64 (aR (cE aD.enc b0.Items x10 4))), .d (.bool (bM (cE aD.enc b0.Items x10 5))), .d (.int .i64 (aR (cE aD.enc b0.Items x10 6))), .d (.int .i64 (aR (cE aD.enc b0.Items x10 7))), .d (.str (bC (cE aD.enc b0.Items x10 8))), .d (.int .i64 (aR (cE aD.enc b0.Items x10 9))), .d (.sl aG.ks (dSl (cE aD.enc b0.Items x10 10)))]] [] [] fun r1 =>
  cond (decide ((lM aC.enc w3003 + lM aC.enc [(aC.mk r1.Kind r1.ID true r1.Message r1.Client r1.User r1.Clean r1.Keep r1.Expiry r1.Window r1.Will r1.Present r1.Code r1.Subs r1.Filters r1.Codes)]) * 416 ≤ 140737488355328)) (
  amX (C91 Γ γ112 γ147) Λ2 J x9 (w6 (x10 + 1)) (aI.enc b0) (((List.map aC.enc w3003) ++ (List.map aC.enc [(aC.mk r1.Kind r1.ID true r1.Message r1.Client r1.User r1.Clean r1.Keep r1.Expiry r1.Window r1.Will r1.Present r1.Code r1.Subs r1.Filters r1.Codes)])))) none)) none) (
 (some (.ret [.row 0] [] [⟨aC.ks, 49, 416, (List.map aC.enc w3003)⟩]))) := by kernel_rfl
end
abbrev X91 : aP := C91 gG (cT 112 bU) (cT 147 bU)
theorem ayw : X91 = aQ gG := by unfold X91 C91; repeat rw [bB fun _ h => h]
abbrev aCw := amX X91 (bP SE gG (SE.hl 91) (SE.hr 91)) (J0 SE X91)
theorem afk : ∀ (fu : Nat) (x9 x10 : Int) (b0 : aI) (w3003 : List aC), Le (Option.map dL (gU fu x9 x10 b0 w3003)) (aCw x9 x10 (aI.enc b0) (List.map aC.enc w3003)) := by
 intro fu
 induction fu with
 | zero => intros; exact le_none
 | succ fu ih =>
  intro x9 x10 b0 w3003
  refine Le.trans ?_ (le_of_eq ((aZ ayw).trans (aA5 ..)).symm)
  unfold gU
  refine lC ?_ ?_
  ·refine lG (by simp only [EN]) ?_
   refine lD (by simp only [EN]) ?_ ?_
   ·refine lQ eX eO (by (try simp only [EN]); exact wF ((List.getD b0.Items (Int.toNat x10) default).ID)) fun r0 _ => ?_
    refine lG (by simp only [EN]) ?_
    (try simp only [EN]); exact ih x9 (w6 (x10 + 1)) b0 (w3003 ++ [r0])
   ·refine lQ eX eO (by (try simp only [EN]); exact aaI (List.getD b0.Items (Int.toNat x10) default)) fun r1 _ => ?_
    refine lG (by simp only [EN]) ?_
    (try simp only [EN]); exact ih x9 (w6 (x10 + 1)) b0 (w3003 ++ [(aC.mk r1.Kind r1.ID true r1.Message r1.Client r1.User r1.Clean r1.Keep r1.Expiry r1.Window r1.Will r1.Present r1.Code r1.Subs r1.Filters r1.Codes)])
  ·exact aJ rfl
theorem ahm (p0 : aI) : Le (Option.map dL (lP p0)) (bA SE 91 [aI.av p0] [] []) := by
 refine aV ayw rfl ?_
 refine Le.trans ?_ (le_of_eq (T91 ..).symm)
 unfold lP
 (try simp only [EN]); exact afk fuel (List.length p0.Items : Int) 0 p0 []
section
variable (Γ : Fun) (γ50 : Gm (aB)) (γ80 : Gm (aA)) (γ91 : Gm ((List aC))) (γ61 : Gm (aB × (List aC))) (Λ2 J : Lam)
def C36 : aP := aY (aY (aY (aY (aQ Γ) 50 cB γ50) 80 bW γ80) 91 dL γ91) 61 bK γ61
theorem T36 (p0 : aB) (p1 : aC) (p2 p3 : Int) : bF SE (C36 Γ γ50 γ80 γ91 γ61) Λ2 J 36 [aB.av p0, aC.av p1, .d (.int .i64 p2), .d (.int .i64 p3)] [] [] =
 γ50 [aB.av p0] [] [] fun r0 =>
 γ80 [aA.av p1.Will.Message] [] [] fun r1 =>
 γ91 [aI.av (aI.mk p1.Window r0.Out.Items r0.Out.Pool)] [] [] fun r2 =>
 γ61 [aB.av (aB.mk r0.Client p1.User true p2 p1.Expiry 0 r0.Dropped r0.Subs r0.Queue (aI.mk p1.Window r0.Out.Items r0.Out.Pool) r0.In (aT.mk p1.Will.Set p1.Will.Delay r1)), .d (.int .i64 p3), .row 2000000000] [] [⟨aC.ks, 49, 416, (List.map aC.enc r2)⟩] fun r3 =>
 (some (.ret [aB.av r3.1, .row 0] [] [⟨aC.ks, 49, 416, (List.map aC.enc r3.2)⟩])) := by kernel_rfl
end
abbrev X36 : aP := C36 gG (cT 50 cB) (cT 80 bW) (cT 91 dL) (cT 61 bK)
theorem aFx : X36 = aQ gG := by unfold X36 C36; repeat rw [bB fun _ h => h]
theorem xP (p0 : aB) (p1 : aC) (p2 p3 : Int) : Le (Option.map bK (iC p0 p1 p2 p3)) (bA SE 36 [aB.av p0, aC.av p1, .d (.int .i64 p2), .d (.int .i64 p3)] [] []) := by
 refine aV aFx rfl ?_
 refine Le.trans ?_ (le_of_eq (T36 ..).symm)
 unfold iC
 refine lQ eX gB (jI _) fun r0 _ => ?_
 refine lQ eX dB (mP _) fun r1 _ => ?_
 refine lQ eX aaG (ahm _) fun r2 _ => ?_
 refine lQ eX dX (aad _ _ _) fun r3 _ => ?_
 exact aJ rfl
section
variable (Γ : Fun)  (Λ2 J : Lam)
def C24 : aP := aQ Γ
theorem T24 (p0 : aB) (p1 : Int) : bF SE (C24 Γ) Λ2 J 24 [aB.av p0, .d (.int .i64 p1)] [] [] =
 cond (!p0.Online) (
 (rB (decide (p1 ≥ p0.Until)))) (
 (rB false)) := by kernel_rfl
end
abbrev X24 : aP := C24 gG
theorem aE8 : X24 = aQ gG := rfl
theorem sO (p0 : aB) (p1 : Int) : Le (Option.map stringslite_HasPrefix_out (oJ p0 p1)) (bA SE 24 [aB.av p0, .d (.int .i64 p1)] [] []) := by
 refine aV aE8 rfl ?_
 refine Le.trans ?_ (le_of_eq (T24 ..).symm)
 unfold oJ
 refine lC ?_ ?_
 ·exact aJ rfl
 ·exact aJ rfl
section
variable (Γ : Fun) (γ31 : Gm (aB)) (γ26 : Gm (aB × Bool × Int)) (γ15 : Gm (aB × Bool)) (γ34 : Gm (aB × (List aC))) (γ19 : Gm (aB × (List aC) × Int)) (γ23 : Gm (aB)) (γ36 : Gm (aB × (List aC))) (γ24 : Gm (Bool)) (Λ2 J : Lam)
def C14 : aP := aY (aY (aY (aY (aY (aY (aY (aY (aQ Γ) 31 cB γ31) 26 dS γ26) 15 cW γ15) 34 bK γ34) 19 cZ γ19) 23 bR γ23) 36 bK γ36) 24 stringslite_HasPrefix_out γ24
theorem T14 : bF SE (C14 Γ γ31 γ26 γ15 γ34 γ19 γ23 γ36 γ24) Λ2 J 14 [] [] [] =
 γ31 [.agg [.d (.int .i64 1), .d (.int .i64 0), .d (.bool false), .d (.str []), .d (.str []), .d (.int .i64 0), .d (.bool false), .d (.int .i64 0), .d (.int .i64 0), .d (.str []), .d (.int .i64 0), .d (.sl aG.ks (List.map aG.enc [])), .d (.str ([99] : Str)), .d (.str []), .d (.bool false), .d (.int .i64 0), .d (.int .i64 5), .d (.int .i64 1), .d (.bool false), .d (.int .i64 0), .d (.str []), .d (.str []), .d (.int .i64 0), .d (.bool false), .d (.int .i64 0), .d (.int .i64 0), .d (.str []), .d (.int .i64 0), .d (.sl aG.ks (List.map aG.enc [])), .d (.bool false), .d (.int .i64 0), .d (.sl aF.ks (List.map aF.enc [])), .d (.sl [.str] (List.map bL [])), .d (.sl [.int .i64] (List.map eI []))], .d (.int .i64 3)] [] [] fun r0 =>
 γ26 [aB.av r0, aF.av (aF.mk ([116] : Str) 0 false)] [] [] fun r1 =>
 γ15 [aB.av r1.1, .agg [.d (.str ([116] : Str)), .d (.str []), .d (.int .i64 1), .d (.bool false), .d (.int .i64 0), .d (.int .i64 0), .d (.str []), .d (.int .i64 1), .d (.sl aG.ks (List.map aG.enc []))], .d (.int .i64 9), .d (.int .i64 2)] [] [] fun r2 =>
 γ15 [aB.av r2.1, .agg [.d (.str ([116] : Str)), .d (.str []), .d (.int .i64 1), .d (.bool false), .d (.int .i64 0), .d (.int .i64 0), .d (.str []), .d (.int .i64 2), .d (.sl aG.ks (List.map aG.enc []))], .d (.int .i64 9), .d (.int .i64 2)] [] [] fun r3 =>
 γ34 [aB.av r3.1, .d (.int .i64 0)] [] [] fun r4 =>
 γ19 [aB.av r4.1, .agg [.d (.int .i64 4), .d (.int .i64 1), .d (.bool false), .d (.str []), .d (.str []), .d (.int .i64 0), .d (.bool false), .d (.int .i64 0), .d (.int .i64 0), .d (.str []), .d (.int .i64 0), .d (.sl aG.ks (List.map aG.enc [])), .d (.str []), .d (.str []), .d (.bool false), .d (.int .i64 0), .d (.int .i64 0), .d (.int .i64 0), .d (.bool false), .d (.int .i64 0), .d (.str []), .d (.str []), .d (.int .i64 0), .d (.bool false), .d (.int .i64 0), .d (.int .i64 0), .d (.str []), .d (.int .i64 0), .d (.sl aG.ks (List.map aG.enc [])), .d (.bool false), .d (.int .i64 0), .d (.sl aF.ks (List.map aF.enc [])), .d (.sl [.str] (List.map bL [])), .d (.sl [.int .i64] (List.map eI []))], .d (.int .i64 0)] [] [] fun r5 =>
 γ23 [aB.av r5.1, .d (.int .i64 10)] [] [] fun r6 =>
 γ36 [aB.av r6, .agg [.d (.int .i64 1), .d (.int .i64 0), .d (.bool false), .d (.str []), .d (.str []), .d (.int .i64 0), .d (.bool false), .d (.int .i64 0), .d (.int .i64 0), .d (.str []), .d (.int .i64 0), .d (.sl aG.ks (List.map aG.enc [])), .d (.str ([99] : Str)), .d (.str []), .d (.bool false), .d (.int .i64 0), .d (.int .i64 0), .d (.int .i64 1), .d (.bool false), .d (.int .i64 0), .d (.str []), .d (.str []), .d (.int .i64 0), .d (.bool false), .d (.int .i64 0), .d (.int .i64 0), .d (.str []), .d (.int .i64 0), .d (.sl aG.ks (List.map aG.enc [])), .d (.bool false), .d (.int .i64 0), .d (.sl aF.ks (List.map aF.enc [])), .d (.sl [.str] (List.map bL [])), .d (.sl [.int .i64] (List.map eI []))], .d (.int .i64 4), .d (.int .i64 12)] [] [] fun r7 =>
 cond (!r1.2.1) (
 cond (r1.2.2 == 0) (
  cond (!r2.2) (
  cond ((lM aC.enc r4.2 : Int) == 1) (
   cond (decide (0 ≤ 0) && decide (0 < (lM aC.enc r4.2 : Int))) (
   cond ((aR (cE aC.enc r4.2 0 1)) == 1) (
    cond (decide (0 ≤ 0) && decide (0 < (lM aC.enc r4.2 : Int))) (
    cond ((aR (cE aC.enc r4.2 0 10)) == 1) (
     cond ((lM aC.enc r5.2.1 : Int) == 1) (
     cond (decide (0 ≤ 0) && decide (0 < (lM aC.enc r5.2.1 : Int))) (
      cond ((aR (cE aC.enc r5.2.1 0 1)) == 2) (
      cond (r5.2.2 == 0) (
       cond (r6.Until == 15) (
       γ24 [aB.av r6, .d (.int .i64 14)] [] [] fun r8 =>
       cond (!r8) (
        γ24 [aB.av r6, .d (.int .i64 15)] [] [] fun r9 =>
        cond r9 (
        cond r7.1.Online (
         cond (r7.1.Conn == 4) (
         cond ((lM aC.enc r7.2 : Int) == 1) (
          cond (decide (0 ≤ 0) && decide (0 < (lM aC.enc r7.2 : Int))) (
          cond (bM (cE aC.enc r7.2 0 2)) (
           cond (decide (0 ≤ 0) && decide (0 < (lM aC.enc r7.2 : Int))) (
           (rB ((aR (cE aC.enc r7.2 0 1)) == 2))) none) (
          (rB false))) none) (
         (rB false))) (
         (rB false))) (
        (rB false))) (
        (rB false))) (
       (rB false))) (
       (rB false))) (
      (rB false))) (
      (rB false))) none) (
     (rB false))) (
    (rB false))) none) (
   (rB false))) none) (
  (rB false))) (
  (rB false))) (
 (rB false))) (
 (rB false)) := by kernel_rfl
end
abbrev X14 : aP := C14 gG (cT 31 cB) (cT 26 dS) (cT 15 cW) (cT 34 bK) (cT 19 cZ) (cT 23 bR) (cT 36 bK) (cT 24 stringslite_HasPrefix_out)
theorem aGt : X14 = aQ gG := by unfold X14 C14; repeat rw [bB fun _ h => h]
theorem bY : Le (Option.map stringslite_HasPrefix_out (bZ)) (bA SE 14 [] [] []) := by
 refine aV aGt rfl ?_
 refine Le.trans ?_ (le_of_eq (T14 _ _ _ _ _ _ _ _ _ _ _ ).symm)
 unfold bZ
 refine lQ eX gB (by (try simp only [EN]); exact aaT ((aC.mk 1 0 false (aA.mk [] [] 0 false 0 0 [] 0 []) ([99] : Str) [] false 0 5 1 (aT.mk false 0 (aA.mk [] [] 0 false 0 0 [] 0 [])) false 0 [] [] [])) 3) fun r0 _ => ?_
 refine lQ eX yZ (aak _ _) fun r1 _ => ?_
 refine lQ eX pF (by (try simp only [EN]); exact uK r1.1 ((aA.mk ([116] : Str) [] 1 false 0 0 [] 1 [])) 9 2) fun r2 _ => ?_
 refine lQ eX pF (by (try simp only [EN]); exact uK r2.1 ((aA.mk ([116] : Str) [] 1 false 0 0 [] 2 [])) 9 2) fun r3 _ => ?_
 refine lQ eX dX (zM _ _) fun r4 _ => ?_
 refine lQ eX sF (by (try simp only [EN]); exact xQ r4.1 ((aC.mk 4 1 false (aA.mk [] [] 0 false 0 0 [] 0 []) [] [] false 0 0 0 (aT.mk false 0 (aA.mk [] [] 0 false 0 0 [] 0 [])) false 0 [] [] [])) 0) fun r5 _ => ?_
 refine lQ eX dK (sR _ _) fun r6 _ => ?_
 refine lQ eX dX (by (try simp only [EN]); exact xP r6 ((aC.mk 1 0 false (aA.mk [] [] 0 false 0 0 [] 0 []) ([99] : Str) [] false 0 0 1 (aT.mk false 0 (aA.mk [] [] 0 false 0 0 [] 0 [])) false 0 [] [] [])) 4 12) fun r7 _ => ?_
 refine lC ?_ ?_
 ·refine lC ?_ ?_
  ·refine lC ?_ ?_
   ·refine lD (by simp only [EN]) ?_ ?_
    ·refine lG (by simp only [EN]) ?_
     refine lD (by simp only [EN]) ?_ ?_
     ·refine lG (by simp only [EN]) ?_
      refine lD (by simp only [EN]) ?_ ?_
      ·refine lD (by simp only [EN]) ?_ ?_
       ·refine lG (by simp only [EN]) ?_
        refine lD (by simp only [EN]) ?_ ?_
        ·refine lC ?_ ?_
         ·refine lC ?_ ?_
          ·refine lQ eX stringslite_HasPrefix_inj (sO _ _) fun r8 _ => ?_
           refine lC ?_ ?_
           ·refine lQ eX stringslite_HasPrefix_inj (sO _ _) fun r9 _ => ?_
            refine lC ?_ ?_
            ·refine lC ?_ ?_
             ·refine lC ?_ ?_
              ·refine lD (by simp only [EN]) ?_ ?_
               ·refine lG (by simp only [EN]) ?_
                refine lD (by simp only [EN]) ?_ ?_
                ·refine lG (by simp only [EN]) ?_
                 exact aJ (by first | rfl | simp only [EN, stringslite_HasPrefix_out] <;> rfl)
                ·exact aJ rfl
               ·exact aJ rfl
              ·exact aJ rfl
             ·exact aJ rfl
            ·exact aJ rfl
           ·exact aJ rfl
          ·exact aJ rfl
         ·exact aJ rfl
        ·exact aJ rfl
       ·exact aJ rfl
      ·exact aJ rfl
     ·exact aJ rfl
    ·exact aJ rfl
   ·exact aJ rfl
  ·exact aJ rfl
 ·exact aJ rfl
section
variable (Γ : Fun)  (Λ2 J : Lam)
def C93 : aP := aQ Γ
theorem T93 (p0 : aD) : bF SE (C93 Γ) Λ2 J 93 [aD.av p0] [] [] =
 cond (p0.Message.Level == 1) (
 (some (.ret [.agg [.d (.int .i64 4), .d (.int .i64 p0.ID), .d (.bool false), .d (.str []), .d (.str []), .d (.int .i64 0), .d (.bool false), .d (.int .i64 0), .d (.int .i64 0), .d (.str []), .d (.int .i64 0), .row 0, .d (.str []), .d (.str []), .d (.bool false), .d (.int .i64 0), .d (.int .i64 0), .d (.int .i64 0), .d (.bool false), .d (.int .i64 0), .d (.str []), .d (.str []), .d (.int .i64 0), .d (.bool false), .d (.int .i64 0), .d (.int .i64 0), .d (.str []), .d (.int .i64 0), .row 1, .d (.bool false), .d (.int .i64 0), .row 2, .row 3, .row 4]] [] [⟨aG.ks, 130, 32, (List.map aG.enc [])⟩, ⟨aG.ks, 130, 32, (List.map aG.enc [])⟩, ⟨aF.ks, 60, 32, (List.map aF.enc [])⟩, ⟨[.str], 9, 16, (List.map bL [])⟩, ⟨[.int .i64], 3, 8, (List.map eI [])⟩]))) (
 cond (p0.State == 1) (
 (some (.ret [.agg [.d (.int .i64 5), .d (.int .i64 p0.ID), .d (.bool false), .d (.str []), .d (.str []), .d (.int .i64 0), .d (.bool false), .d (.int .i64 0), .d (.int .i64 0), .d (.str []), .d (.int .i64 0), .row 0, .d (.str []), .d (.str []), .d (.bool false), .d (.int .i64 0), .d (.int .i64 0), .d (.int .i64 0), .d (.bool false), .d (.int .i64 0), .d (.str []), .d (.str []), .d (.int .i64 0), .d (.bool false), .d (.int .i64 0), .d (.int .i64 0), .d (.str []), .d (.int .i64 0), .row 1, .d (.bool false), .d (.int .i64 0), .row 2, .row 3, .row 4]] [] [⟨aG.ks, 130, 32, (List.map aG.enc [])⟩, ⟨aG.ks, 130, 32, (List.map aG.enc [])⟩, ⟨aF.ks, 60, 32, (List.map aF.enc [])⟩, ⟨[.str], 9, 16, (List.map bL [])⟩, ⟨[.int .i64], 3, 8, (List.map eI [])⟩]))) (
 (some (.ret [.agg [.d (.int .i64 7), .d (.int .i64 p0.ID), .d (.bool false), .d (.str []), .d (.str []), .d (.int .i64 0), .d (.bool false), .d (.int .i64 0), .d (.int .i64 0), .d (.str []), .d (.int .i64 0), .row 0, .d (.str []), .d (.str []), .d (.bool false), .d (.int .i64 0), .d (.int .i64 0), .d (.int .i64 0), .d (.bool false), .d (.int .i64 0), .d (.str []), .d (.str []), .d (.int .i64 0), .d (.bool false), .d (.int .i64 0), .d (.int .i64 0), .d (.str []), .d (.int .i64 0), .row 1, .d (.bool false), .d (.int .i64 0), .row 2, .row 3, .row 4]] [] [⟨aG.ks, 130, 32, (List.map aG.enc [])⟩, ⟨aG.ks, 130, 32, (List.map aG.enc [])⟩, ⟨aF.ks, 60, 32, (List.map aF.enc [])⟩, ⟨[.str], 9, 16, (List.map bL [])⟩, ⟨[.int .i64], 3, 8, (List.map eI [])⟩])))) := by kernel_rfl
end
abbrev X93 : aP := C93 gG
theorem aGw : X93 = aQ gG := rfl
theorem ah9 (p0 : aD) : Le (Option.map bU (rX p0)) (bA SE 93 [aD.av p0] [] []) := by
 refine aV aGw rfl ?_
 refine Le.trans ?_ (le_of_eq (T93 ..).symm)
 unfold rX
 refine lC ?_ ?_
 ·exact aJ rfl
 ·refine lC ?_ ?_
  ·exact aJ rfl
  ·exact aJ rfl
def aom (C : aP) (Λ2 J : Lam) (a0 a1 : Int) (a2 a3 : List D) : Res := lab SE C Λ2 J 39 0 [1, 1, 1, 1, 1, 0] (aW [(2, .d (.int .i64 a0)), (3, .ptr 1000000000 0), (6, .ptr 1000000001 0), (14, .d (.int .i64 a1))] [⟨38, (List.map AV.d a2)⟩, ⟨38, (List.map AV.d a3)⟩] [] [] [])
def aol (C : aP) (Λ2 J : Lam) (a0 a1 : Int) (a2 a3 : List D) : Res := lab SE C Λ2 J 39 0 [1, 1, 1, 1, 0, 0] (aW [(2, .d (.int .i64 a0)), (3, .ptr 1000000000 0), (6, .ptr 1000000001 0), (14, .d (.int .i64 a1))] [⟨38, (List.map AV.d a2)⟩, ⟨38, (List.map AV.d a3)⟩] [] [] [])
section
variable (Γ : Fun) (γ34 : Gm (aB × (List aC))) (γ93 : Gm (aC)) (γ19 : Gm (aB × (List aC) × Int)) (γ23 : Gm (aB)) (γ36 : Gm (aB × (List aC))) (Λ2 J : Lam)
def C39 : aP := aY (aY (aY (aY (aY (aQ Γ) 34 bK γ34) 93 bU γ93) 19 cZ γ19) 23 bR γ23) 36 bK γ36
theorem T39 (p0 : aB) (p1 : aK) (p2 : Int) : bF SE (C39 Γ γ34 γ93 γ19 γ23 γ36) Λ2 J 39 [aB.av p0, aK.av p1, .d (.int .i64 p2)] [] [] =
 cond (p1.Kind == 1) (
 γ34 [aB.av p0, .d (.int .i64 p2)] [] [] fun r0 =>
 (some (.ret [aB.av r0.1, .row 0, .d (.bool true)] [] [⟨aC.ks, 49, 416, (List.map aC.enc r0.2)⟩]))) (
 cond (p1.Kind == 2) (
 cond ((lM aD.enc p0.Out.Items : Int) == 0) (
  (some (.ret [aB.av p0, .row 0, .d (.bool true)] [] [⟨aC.ks, 49, 416, []⟩]))) (
 cond ((IntKind.wrap .u64 (lM aD.enc p0.Out.Items : Int)) != 0) (
  cond (iB (w6 (Int.tmod (IntKind.wrap .u64 p1.N) (IntKind.wrap .u64 (lM aD.enc p0.Out.Items : Int)))) (lM aD.enc p0.Out.Items : Int)) (
  γ93 [.agg [.d (.int .i64 (aR (cE aD.enc p0.Out.Items (w6 (Int.tmod (IntKind.wrap .u64 p1.N) (IntKind.wrap .u64 (lM aD.enc p0.Out.Items : Int)))) 0))), .d (.int .i64 (aR (cE aD.enc p0.Out.Items (w6 (Int.tmod (IntKind.wrap .u64 p1.N) (IntKind.wrap .u64 (lM aD.enc p0.Out.Items : Int)))) 1))), .d (.str (bC (cE aD.enc p0.Out.Items (w6 (Int.tmod (IntKind.wrap .u64 p1.N) (IntKind.wrap .u64 (lM aD.enc p0.Out.Items : Int)))) 2))), .d (.str (bC (cE aD.enc p0.Out.Items (w6 (Int.tmod (IntKind.wrap .u64 p1.N) (IntKind.wrap .u64 (lM aD.enc p0.Out.Items : Int)))) 3))), .d (.int .i64 (aR (cE aD.enc p0.Out.Items (w6 (Int.tmod (IntKind.wrap .u64 p1.N) (IntKind.wrap .u64 (lM aD.enc p0.Out.Items : Int)))) 4))), .d (.bool (bM (cE aD.enc p0.Out.Items (w6 (Int.tmod (IntKind.wrap .u64 p1.N) (IntKind.wrap .u64 (lM aD.enc p0.Out.Items : Int)))) 5))), .d (.int .i64 (aR (cE aD.enc p0.Out.Items (w6 (Int.tmod (IntKind.wrap .u64 p1.N) (IntKind.wrap .u64 (lM aD.enc p0.Out.Items : Int)))) 6))), .d (.int .i64 (aR (cE aD.enc p0.Out.Items (w6 (Int.tmod (IntKind.wrap .u64 p1.N) (IntKind.wrap .u64 (lM aD.enc p0.Out.Items : Int)))) 7))), .d (.str (bC (cE aD.enc p0.Out.Items (w6 (Int.tmod (IntKind.wrap .u64 p1.N) (IntKind.wrap .u64 (lM aD.enc p0.Out.Items : Int)))) 8))), .d (.int .i64 (aR (cE aD.enc p0.Out.Items (w6 (Int.tmod (IntKind.wrap .u64 p1.N) (IntKind.wrap .u64 (lM aD.enc p0.Out.Items : Int)))) 9))), .d (.sl aG.ks (dSl (cE aD.enc p0.Out.Items (w6 (Int.tmod (IntKind.wrap .u64 p1.N) (IntKind.wrap .u64 (lM aD.enc p0.Out.Items : Int)))) 10)))]] [] [] fun r1 =>
  γ19 [aB.av p0, aC.av r1, .d (.int .i64 p2)] [] [] fun r2 =>
  (some (.ret [aB.av r2.1, .row 0, .d (.bool (r2.2.2 == 0))] [] [⟨aC.ks, 49, 416, (List.map aC.enc r2.2.1)⟩]))) none) none)) (
 cond (p1.Kind == 3) (
 γ23 [aB.av p0, .d (.int .i64 p2)] [] [] fun r3 =>
 (some (.ret [aB.av r3, .row 0, .d (.bool true)] [] [⟨aC.ks, 49, 416, []⟩]))) (
 cond (decide (p1.N < 1)) (
 aol (C39 Γ γ34 γ93 γ19 γ23 γ36) Λ2 J p2 1 (aB.enc p0) [D.str [], D.str [], D.bool false, D.int .i64 0, D.int .i64 0, D.int .i64 0, D.int .i64 0, D.sl aF.ks (List.map aF.enc []), D.sl aA.ks (List.map aA.enc []), D.int .i64 0, D.sl aD.ks (List.map aD.enc []), D.sl [.int .i64] (List.map eI []), D.int .i64 0, D.sl [.int .i64] (List.map eI []), D.bool false, D.int .i64 0, D.str [], D.str [], D.int .i64 0, D.bool false, D.int .i64 0, D.int .i64 0, D.str [], D.int .i64 0, D.sl aG.ks (List.map aG.enc [])]) (
 aol (C39 Γ γ34 γ93 γ19 γ23 γ36) Λ2 J p2 p1.N (aB.enc p0) [D.str [], D.str [], D.bool false, D.int .i64 0, D.int .i64 0, D.int .i64 0, D.int .i64 0, D.sl aF.ks (List.map aF.enc []), D.sl aA.ks (List.map aA.enc []), D.int .i64 0, D.sl aD.ks (List.map aD.enc []), D.sl [.int .i64] (List.map eI []), D.int .i64 0, D.sl [.int .i64] (List.map eI []), D.bool false, D.int .i64 0, D.str [], D.str [], D.int .i64 0, D.bool false, D.int .i64 0, D.int .i64 0, D.str [], D.int .i64 0, D.sl aG.ks (List.map aG.enc [])])))) := by kernel_rfl
theorem ayH (x2 x14 : Int) (b0 b1 : aB) : bT SE (C39 Γ γ34 γ93 γ19 γ23 γ36) Λ2 J 39 0 [1, 1, 1, 1, 1, 0] (aW [(2, .d (.int .i64 x2)), (3, .ptr 1000000000 0), (6, .ptr 1000000001 0), (14, .d (.int .i64 x14))] [⟨38, (List.map AV.d (aB.enc b0))⟩, ⟨38, (List.map AV.d (aB.enc b1))⟩] [] [] []) =
 γ36 [aB.av b0, .agg [.d (.int .i64 1), .d (.int .i64 0), .d (.bool false), .d (.str []), .d (.str []), .d (.int .i64 0), .d (.bool false), .d (.int .i64 0), .d (.int .i64 0), .d (.str []), .d (.int .i64 0), .d (.sl aG.ks (List.map aG.enc [])), .d (.str ([99] : Str)), .d (.str []), .d (.bool false), .d (.int .i64 0), .d (.int .i64 9), .d (.int .i64 x14), .d (.bool false), .d (.int .i64 0), .d (.str []), .d (.str []), .d (.int .i64 0), .d (.bool false), .d (.int .i64 0), .d (.int .i64 0), .d (.str []), .d (.int .i64 0), .d (.sl aG.ks (List.map aG.enc [])), .d (.bool false), .d (.int .i64 0), .d (.sl aF.ks (List.map aF.enc [])), .d (.sl [.str] (List.map bL [])), .d (.sl [.int .i64] (List.map eI []))], .d (.int .i64 1), .d (.int .i64 x2)] [] [] fun r4 =>
 (some (.ret [aB.av r4.1, .row 0, .d (.bool true)] [] [⟨aC.ks, 49, 416, (List.map aC.enc r4.2)⟩])) := by kernel_rfl
theorem ayl (x2 x14 : Int) (b0 b1 : aB) : bT SE (C39 Γ γ34 γ93 γ19 γ23 γ36) Λ2 J 39 0 [1, 1, 1, 1, 0, 0] (aW [(2, .d (.int .i64 x2)), (3, .ptr 1000000000 0), (6, .ptr 1000000001 0), (14, .d (.int .i64 x14))] [⟨38, (List.map AV.d (aB.enc b0))⟩, ⟨38, (List.map AV.d (aB.enc b1))⟩] [] [] []) =
 cond (decide (x14 > 32)) (
 aom (C39 Γ γ34 γ93 γ19 γ23 γ36) Λ2 J x2 32 (aB.enc b0) (aB.enc b1)) (
 aom (C39 Γ γ34 γ93 γ19 γ23 γ36) Λ2 J x2 x14 (aB.enc b0) (aB.enc b1)) := by kernel_rfl
end
abbrev X39 : aP := C39 gG (cT 34 bK) (cT 93 bU) (cT 19 cZ) (cT 23 bR) (cT 36 bK)
theorem aup : X39 = aQ gG := by unfold X39 C39; repeat rw [bB fun _ h => h]
abbrev aze := aom X39 (bP SE gG (SE.hl 39) (SE.hr 39)) (J0 SE X39)
abbrev azD := aol X39 (bP SE gG (SE.hl 39) (SE.hr 39)) (J0 SE X39)
theorem xV (x2 x14 : Int) (b0 b1 : aB) : Le (Option.map gN (kD x2 x14 b0 b1)) (aze x2 x14 (aB.enc b0) (aB.enc b1)) := by
 refine Le.trans ?_ (le_of_eq ((aZ aup).trans (ayH ..)).symm)
 unfold kD
 refine lQ eX dX (by (try simp only [EN]); exact xP b0 ((aC.mk 1 0 false (aA.mk [] [] 0 false 0 0 [] 0 []) ([99] : Str) [] false 0 9 x14 (aT.mk false 0 (aA.mk [] [] 0 false 0 0 [] 0 [])) false 0 [] [] [])) 1 x2) fun r4 _ => ?_
 exact aJ rfl
theorem yE (x2 x14 : Int) (b0 b1 : aB) : Le (Option.map gN (kF x2 x14 b0 b1)) (azD x2 x14 (aB.enc b0) (aB.enc b1)) := by
 refine Le.trans ?_ (le_of_eq ((aZ aup).trans (ayl ..)).symm)
 unfold kF
 refine lC ?_ ?_
 ·exact xV x2 32 b0 b1
 ·exact xV x2 x14 b0 b1
theorem ah4 (p0 : aB) (p1 : aK) (p2 : Int) : Le (Option.map gN (sG p0 p1 p2)) (bA SE 39 [aB.av p0, aK.av p1, .d (.int .i64 p2)] [] []) := by
 refine aV aup rfl ?_
 refine Le.trans ?_ (le_of_eq (T39 ..).symm)
 unfold sG
 refine lC ?_ ?_
 ·refine lQ eX dX (zM _ _) fun r0 _ => ?_
  exact aJ rfl
 ·refine lC ?_ ?_
  ·refine lD (by simp only [EN]) ?_ ?_
   ·exact aJ rfl
   ·refine lG (by simp only [EN]) ?_
    refine lG (by simp only [EN]) ?_
    refine lQ eX eO (by (try simp only [EN]); exact ah9 ((List.getD p0.Out.Items (Int.toNat (w6 (Int.tmod (IntKind.wrap .u64 p1.N) (IntKind.wrap .u64 (List.length p0.Out.Items : Int))))) default))) fun r1 _ => ?_
    refine lQ eX sF (xQ _ _ _) fun r2 _ => ?_
    exact aJ rfl
  ·refine lC ?_ ?_
   ·refine lQ eX dK (sR _ _) fun r3 _ => ?_
    exact aJ rfl
   ·refine lC ?_ ?_
    ·(try simp only [EN]); exact yE p2 1 p0 ((aB.mk [] [] false 0 0 0 0 [] [] (aI.mk 0 [] (aN.mk [] 0)) (bE.mk []) (aT.mk false 0 (aA.mk [] [] 0 false 0 0 [] 0 []))))
    ·(try simp only [EN]); exact yE p2 p1.N p0 ((aB.mk [] [] false 0 0 0 0 [] [] (aI.mk 0 [] (aN.mk [] 0)) (bE.mk []) (aT.mk false 0 (aA.mk [] [] 0 false 0 0 [] 0 []))))
section
variable (Γ : Fun)  (Λ2 J : Lam)
def azv : aP := aQ Γ
theorem aFP (p0 : Int) : bF SE (azv Γ) Λ2 J 140 [.d (.int .i64 p0)] [] [] =
 cond (decide (p0 ≥ 0)) (
 (rB (decide (p0 ≤ 1099511627776)))) (
 (rB false)) := by kernel_rfl
end
abbrev aFD : aP := azv gG
theorem aCA : aFD = aQ gG := rfl
theorem adU (p0 : Int) : Le (Option.map stringslite_HasPrefix_out (tS p0)) (bA SE 140 [.d (.int .i64 p0)] [] []) := by
 refine aV aCA rfl ?_
 refine Le.trans ?_ (le_of_eq (aFP ..).symm)
 unfold tS
 refine lC ?_ ?_
 ·exact aJ rfl
 ·exact aJ rfl
def aj4 (C : aP) (Λ2 J : Lam) (a0 : List D) : Res := lab SE C Λ2 J 83 0 [1, 1, 1, 0, 0] (aW [(1, .ptr 1000000000 0)] [⟨38, (List.map AV.d a0)⟩] [] [] [])
def arG (C : aP) (Λ2 J : Lam) (a0 : List D) : Res := lab SE C Λ2 J 83 0 [1, 1, 0, 0] (aW [(1, .ptr 1000000000 0)] [⟨38, (List.map AV.d a0)⟩] [] [] [])
section
variable (Γ : Fun) (γ139 γ140 : Gm (Bool)) (Λ2 J : Lam)
def C83 : aP := aY (aY (aQ Γ) 139 stringslite_HasPrefix_out γ139) 140 stringslite_HasPrefix_out γ140
theorem T83 (p0 : aB) : bF SE (C83 Γ γ139 γ140) Λ2 J 83 [aB.av p0] [] [] =
 γ139 [.d (.str p0.Client)] [] [] fun r0 =>
 cond (!r0) (
 (rI 11)) (
 cond (!(p0.User == ([] : Str))) (
 γ139 [.d (.str p0.User)] [] [] fun r1 =>
 cond (!r1) (
  (rI 11)) (
 arG (C83 Γ γ139 γ140) Λ2 J (aB.enc p0))) (
 arG (C83 Γ γ139 γ140) Λ2 J (aB.enc p0))) := by kernel_rfl
theorem aDa (b0 : aB) : bT SE (C83 Γ γ139 γ140) Λ2 J 83 0 [1, 1, 1, 0, 0] (aW [(1, .ptr 1000000000 0)] [⟨38, (List.map AV.d (aB.enc b0))⟩] [] [] []) =
 γ140 [.d (.int .i64 b0.Expiry)] [] [] fun r2 =>
 cond (!r2) (
 (rI 1)) (
 γ140 [.d (.int .i64 b0.Until)] [] [] fun r3 =>
 cond (!r3) (
 (rI 1)) (
 cond (decide (b0.Dropped < 0)) (
 (rI 1)) (
 cond (decide (b0.Dropped > 1099511627776)) (
 (rI 1)) (
 (rI 0))))) := by kernel_rfl
theorem aAV (b0 : aB) : bT SE (C83 Γ γ139 γ140) Λ2 J 83 0 [1, 1, 0, 0] (aW [(1, .ptr 1000000000 0)] [⟨38, (List.map AV.d (aB.enc b0))⟩] [] [] []) =
 cond (!b0.Online) (
 cond (b0.Conn != 0) (
  (rI 9)) (
 cond b0.Online (
  cond (b0.Until != 0) (
  (rI 9)) (
  aj4 (C83 Γ γ139 γ140) Λ2 J (aB.enc b0))) (
 aj4 (C83 Γ γ139 γ140) Λ2 J (aB.enc b0)))) (
 cond b0.Online (
 cond (b0.Until != 0) (
  (rI 9)) (
 aj4 (C83 Γ γ139 γ140) Λ2 J (aB.enc b0))) (
 aj4 (C83 Γ γ139 γ140) Λ2 J (aB.enc b0))) := by kernel_rfl
end
abbrev X83 : aP := C83 gG (cT 139 stringslite_HasPrefix_out) (cT 140 stringslite_HasPrefix_out)
theorem atz : X83 = aQ gG := by unfold X83 C83; repeat rw [bB fun _ h => h]
abbrev aBG := aj4 X83 (bP SE gG (SE.hl 83) (SE.hr 83)) (J0 SE X83)
abbrev aCg := arG X83 (bP SE gG (SE.hl 83) (SE.hr 83)) (J0 SE X83)
theorem mZ (b0 : aB) : Le (Option.map stringslite_IndexByte_out (hI b0)) (aBG (aB.enc b0)) := by
 refine Le.trans ?_ (le_of_eq ((aZ atz).trans (aDa ..)).symm)
 unfold hI
 refine lQ eX stringslite_HasPrefix_inj (adU _) fun r2 _ => ?_
 refine lC ?_ ?_
 ·exact aJ rfl
 ·refine lQ eX stringslite_HasPrefix_inj (adU _) fun r3 _ => ?_
  refine lC ?_ ?_
  ·exact aJ rfl
  ·refine lC ?_ ?_
   ·exact aJ rfl
   ·refine lC ?_ ?_
    ·exact aJ rfl
    ·exact aJ rfl
theorem xD (b0 : aB) : Le (Option.map stringslite_IndexByte_out (l3 b0)) (aCg (aB.enc b0)) := by
 refine Le.trans ?_ (le_of_eq ((aZ atz).trans (aAV ..)).symm)
 unfold l3
 refine lC ?_ ?_
 ·refine lC ?_ ?_
  ·exact aJ rfl
  ·refine lC ?_ ?_
   ·refine lC ?_ ?_
    ·exact aJ rfl
    ·exact mZ b0
   ·exact mZ b0
 ·refine lC ?_ ?_
  ·refine lC ?_ ?_
   ·exact aJ rfl
   ·exact mZ b0
  ·exact mZ b0
theorem af5 (p0 : aB) : Le (Option.map stringslite_IndexByte_out (o5 p0)) (bA SE 83 [aB.av p0] [] []) := by
 refine aV atz rfl ?_
 refine Le.trans ?_ (le_of_eq (T83 ..).symm)
 unfold o5
 refine lQ eX stringslite_HasPrefix_inj (yN _) fun r0 _ => ?_
 refine lC ?_ ?_
 ·exact aJ rfl
 ·refine lC ?_ ?_
  ·refine lQ eX stringslite_HasPrefix_inj (yN _) fun r1 _ => ?_
   refine lC ?_ ?_
   ·exact aJ rfl
   ·exact xD p0
  ·exact xD p0
def an6 (C : aP) (Λ2 J : Lam) (a0 : List (List D)) (a1 a2 : Int) : Res := lab SE C Λ2 J 84 0 [1, 1, 1, 1, 0, 1, 0] (aW [(46, .d (.sl aA.ks a0)), (47, .d (.int .i64 a1)), (48, .d (.int .i64 a2))] [] [] [] [])
def am9 (C : aP) (Λ2 J : Lam) (a0 : List (List D)) (a1 a2 : Int) (a3 : List D) : Res := lab SE C Λ2 J 84 0 [1, 1, 0, 1, 0] (aW [(1, .ptr 1000000000 0), (14, .d (.sl aF.ks a0)), (15, .d (.int .i64 a1)), (16, .d (.int .i64 a2))] [⟨38, (List.map AV.d a3)⟩] [] [] [])
section
variable (Γ : Fun) (γ66 γ141 : Gm (Int)) (Λ2 J : Lam)
def C84 : aP := aY (aY (aQ Γ) 66 stringslite_IndexByte_out γ66) 141 stringslite_IndexByte_out γ141
theorem T84 (p0 : aB) : bF SE (C84 Γ γ66 γ141) Λ2 J 84 [aB.av p0] [] [] =
 cond (decide ((lM aF.enc p0.Subs : Int) > 32)) (
 (rI 5)) (
 am9 (C84 Γ γ66 γ141) Λ2 J (List.map aF.enc p0.Subs) (lM aF.enc p0.Subs : Int) 0 (aB.enc p0)) := by kernel_rfl
theorem axL (x46 : List aA) (x47 x48 : Int) : bT SE (C84 Γ γ66 γ141) Λ2 J 84 0 [1, 1, 1, 1, 0, 1, 0] (aW [(46, .d (.sl aA.ks (List.map aA.enc x46))), (47, .d (.int .i64 x47)), (48, .d (.int .i64 x48))] [] [] [] []) =
 cond (decide (x48 < x47)) (
 cond (iB x48 (lM aA.enc x46 : Int)) (
  γ141 [.agg [.d (.str (bC (cE aA.enc x46 x48 0))), .d (.str (bC (cE aA.enc x46 x48 1))), .d (.int .i64 (aR (cE aA.enc x46 x48 2))), .d (.bool (bM (cE aA.enc x46 x48 3))), .d (.int .i64 (aR (cE aA.enc x46 x48 4))), .d (.int .i64 (aR (cE aA.enc x46 x48 5))), .d (.str (bC (cE aA.enc x46 x48 6))), .d (.int .i64 (aR (cE aA.enc x46 x48 7))), .d (.sl aG.ks (dSl (cE aA.enc x46 x48 8)))]] [] [] fun r1 =>
  cond (r1 != 0) (
  (rI r1)) (
  an6 (C84 Γ γ66 γ141) Λ2 J (List.map aA.enc x46) x47 (w6 (x48 + 1)))) none) (
 (rI 0)) := by kernel_rfl
theorem aDe (x14 : List aF) (x15 x16 : Int) (b0 : aB) : bT SE (C84 Γ γ66 γ141) Λ2 J 84 0 [1, 1, 0, 1, 0] (aW [(1, .ptr 1000000000 0), (14, .d (.sl aF.ks (List.map aF.enc x14))), (15, .d (.int .i64 x15)), (16, .d (.int .i64 x16))] [⟨38, (List.map AV.d (aB.enc b0))⟩] [] [] []) =
 cond (decide (x16 < x15)) (
 cond (iB x16 (lM aF.enc x14 : Int)) (
  γ66 [.agg [.d (.str (bC (cE aF.enc x14 x16 0))), .d (.int .i64 (aR (cE aF.enc x14 x16 1))), .d (.bool (bM (cE aF.enc x14 x16 2)))]] [] [] fun r0 =>
  cond (r0 != 0) (
  (rI r0)) (
  cond (decide (x16 > 0)) (
  cond (iB (w6 (x16 - 1)) (lM aF.enc b0.Subs : Int)) (
   cond (Op.bytesLess (bC (cE aF.enc x14 x16 0)) (bC (cE aF.enc b0.Subs (w6 (x16 - 1)) 0)) || (bC (cE aF.enc x14 x16 0)) == (bC (cE aF.enc b0.Subs (w6 (x16 - 1)) 0))) (
   (rI 22)) (
   am9 (C84 Γ γ66 γ141) Λ2 J (List.map aF.enc x14) x15 (w6 (x16 + 1)) (aB.enc b0))) none) (
  am9 (C84 Γ γ66 γ141) Λ2 J (List.map aF.enc x14) x15 (w6 (x16 + 1)) (aB.enc b0)))) none) (
 cond (decide ((lM aA.enc b0.Queue : Int) > 256)) (
 (rI 5)) (
 an6 (C84 Γ γ66 γ141) Λ2 J (List.map aA.enc b0.Queue) (lM aA.enc b0.Queue : Int) 0)) := by kernel_rfl
end
abbrev X84 : aP := C84 gG (cT 66 stringslite_IndexByte_out) (cT 141 stringslite_IndexByte_out)
theorem au0 : X84 = aQ gG := by unfold X84 C84; repeat rw [bB fun _ h => h]
abbrev azf := an6 X84 (bP SE gG (SE.hl 84) (SE.hr 84)) (J0 SE X84)
abbrev aA4 := am9 X84 (bP SE gG (SE.hl 84) (SE.hr 84)) (J0 SE X84)
theorem ab7 : ∀ (fu : Nat) (x46 : List aA) (x47 x48 : Int), Le (Option.map stringslite_IndexByte_out (eT fu x46 x47 x48)) (azf (List.map aA.enc x46) x47 x48) := by
 intro fu
 induction fu with
 | zero => intros; exact le_none
 | succ fu ih =>
  intro x46 x47 x48
  refine Le.trans ?_ (le_of_eq ((aZ au0).trans (axL ..)).symm)
  unfold eT
  refine lC ?_ ?_
  ·refine lG (by simp only [EN]) ?_
   refine lQ eX stringslite_IndexByte_inj (by (try simp only [EN]); exact uJ (List.getD x46 (Int.toNat x48) default)) fun r1 _ => ?_
   refine lC ?_ ?_
   ·exact aJ rfl
   ·exact ih x46 x47 (w6 (x48 + 1))
  ·exact aJ rfl
theorem acy : ∀ (fu : Nat) (x14 : List aF) (x15 x16 : Int) (b0 : aB), Le (Option.map stringslite_IndexByte_out (fP fu x14 x15 x16 b0)) (aA4 (List.map aF.enc x14) x15 x16 (aB.enc b0)) := by
 intro fu
 induction fu with
 | zero => intros; exact le_none
 | succ fu ih =>
  intro x14 x15 x16 b0
  refine Le.trans ?_ (le_of_eq ((aZ au0).trans (aDe ..)).symm)
  unfold fP
  refine lC ?_ ?_
  ·refine lG (by simp only [EN]) ?_
   refine lQ eX stringslite_IndexByte_inj (by (try simp only [EN]); exact aaH (List.getD x14 (Int.toNat x16) default)) fun r0 _ => ?_
   refine lC ?_ ?_
   ·exact aJ rfl
   ·refine lC ?_ ?_
    ·refine lG (by simp only [EN]) ?_
     refine lD (by simp only [EN]) ?_ ?_
     ·exact aJ rfl
     ·exact ih x14 x15 (w6 (x16 + 1)) b0
    ·exact ih x14 x15 (w6 (x16 + 1)) b0
  ·refine lD (by simp only [EN]) ?_ ?_
   ·exact aJ rfl
   ·(try simp only [EN]); exact ab7 fuel b0.Queue (List.length b0.Queue : Int) 0
theorem ae4 (p0 : aB) : Le (Option.map stringslite_IndexByte_out (n9 p0)) (bA SE 84 [aB.av p0] [] []) := by
 refine aV au0 rfl ?_
 refine Le.trans ?_ (le_of_eq (T84 ..).symm)
 unfold n9
 refine lD (by simp only [EN]) ?_ ?_
 ·exact aJ rfl
 ·(try simp only [EN]); exact acy fuel p0.Subs (List.length p0.Subs : Int) 0 p0
def anH (C : aP) (Λ2 J : Lam) (a0 : Int) (a1 : List (List D)) (a2 a3 : Int) (a4 : List D) : Res := lab SE C Λ2 J 142 0 [1, 1, 1, 0, 1, 0] (aW [(1, .ptr 1000000000 0), (3, .d (.int .i64 a0)), (11, .d (.sl [.int .i64] a1)), (12, .d (.int .i64 a2)), (13, .d (.int .i64 a3))] [⟨27, (List.map AV.d a4)⟩] [] [] [])
section
variable (Γ : Fun)  (Λ2 J : Lam)
def aow : aP := aQ Γ
theorem aFc (p0 : aN) : bF SE (aow Γ) Λ2 J 142 [aN.av p0] [] [] =
 cond (decide ((lM eI p0.Used : Int) > 32)) (
 (rI 5)) (
 anH (aow Γ) Λ2 J 0 (List.map eI p0.Used) (lM eI p0.Used : Int) 0 (aN.enc p0)) := by kernel_rfl
theorem aAd (x3 : Int) (x11 : List Int) (x12 x13 : Int) (b0 : aN) : bT SE (aow Γ) Λ2 J 142 0 [1, 1, 1, 0, 1, 0] (aW [(1, .ptr 1000000000 0), (3, .d (.int .i64 x3)), (11, .d (.sl [.int .i64] (List.map eI x11))), (12, .d (.int .i64 x12)), (13, .d (.int .i64 x13))] [⟨27, (List.map AV.d (aN.enc b0))⟩] [] [] []) =
 cond (decide (x13 < x12)) (
 cond (iB x13 (lM eI x11 : Int)) (
  cond (decide ((aR (cE eI x11 x13 0)) ≤ x3)) (
  (rI 15)) (
  cond (decide ((aR (cE eI x11 x13 0)) > 65535)) (
  (rI 15)) (
  anH (aow Γ) Λ2 J ((aR (cE eI x11 x13 0))) (List.map eI x11) x12 (w6 (x13 + 1)) (aN.enc b0)))) none) (
 cond (decide (b0.Last < 0)) (
 (rI 1)) (
 cond (decide (b0.Last > 65535)) (
 (rI 1)) (
 (rI 0)))) := by kernel_rfl
end
abbrev aun : aP := aow gG
theorem avE : aun = aQ gG := rfl
abbrev azq := anH aun (bP SE gG (SE.hl 142) (SE.hr 142)) (J0 SE aun)
theorem aiL : ∀ (fu : Nat) (x3 : Int) (x11 : List Int) (x12 x13 : Int) (b0 : aN), Le (Option.map stringslite_IndexByte_out (nN fu x3 x11 x12 x13 b0)) (azq x3 (List.map eI x11) x12 x13 (aN.enc b0)) := by
 intro fu
 induction fu with
 | zero => intros; exact le_none
 | succ fu ih =>
  intro x3 x11 x12 x13 b0
  refine Le.trans ?_ (le_of_eq ((aZ avE).trans (aAd ..)).symm)
  unfold nN
  refine lC ?_ ?_
  ·refine lG (by simp only [EN]) ?_
   refine lD (by simp only [EN]) ?_ ?_
   ·exact aJ rfl
   ·refine lD (by simp only [EN]) ?_ ?_
    ·exact aJ rfl
    ·(try simp only [EN]); exact ih (List.getD x11 (Int.toNat x13) default) x11 x12 (w6 (x13 + 1)) b0
  ·refine lC ?_ ?_
   ·exact aJ rfl
   ·refine lC ?_ ?_
    ·exact aJ rfl
    ·exact aJ rfl
theorem ald (p0 : aN) : Le (Option.map stringslite_IndexByte_out (yL p0)) (bA SE 142 [aN.av p0] [] []) := by
 refine aV avE rfl ?_
 refine Le.trans ?_ (le_of_eq (aFc ..).symm)
 unfold yL
 refine lD (by simp only [EN]) ?_ ?_
 ·exact aJ rfl
 ·(try simp only [EN]); exact aiL fuel 0 p0.Used (List.length p0.Used : Int) 0 p0
section
variable (Γ : Fun) (γ175 : Gm (Int × Bool)) (Λ2 J : Lam)
def auD : aP := aY (aQ Γ) 175 aX γ175
theorem aD6 (p0 : aN) (p1 : Int) : bF SE (auD Γ γ175) Λ2 J 172 [aN.av p0, .d (.int .i64 p1)] [] [] =
 γ175 [.d (.sl [.int .i64] (List.map eI p0.Used)), .d (.int .i64 p1)] [] [] fun r0 =>
 (rB r0.2) := by kernel_rfl
end
abbrev aw1 : aP := auD gG (cT 175 aX)
theorem aC0 : aw1 = aQ gG := by unfold aw1 auD; rw [bB fun _ h => h]
theorem anM (p0 : aN) (p1 : Int) : Le (Option.map stringslite_HasPrefix_out (abx p0 p1)) (bA SE 172 [aN.av p0, .d (.int .i64 p1)] [] []) := by
 refine aV aC0 rfl ?_
 refine Le.trans ?_ (le_of_eq (aD6 ..).symm)
 unfold abx
 refine lQ eX cG (kK _ _) fun r0 _ => ?_
 exact aJ rfl
def asD (C : aP) (Λ2 J : Lam) (a0 : List D) : Res := lab SE C Λ2 J 143 0 [1, 1, 1, 0, 0] (aW [(5, .ptr 1000000000 0)] [⟨122, (List.map AV.d a0)⟩] [] [] [])
section
variable (Γ : Fun) (γ172 : Gm (Bool)) (γ109 γ141 : Gm (Int)) (Λ2 J : Lam)
def ao4 : aP := aY (aY (aY (aQ Γ) 172 stringslite_HasPrefix_out γ172) 109 stringslite_IndexByte_out γ109) 141 stringslite_IndexByte_out γ141
theorem aFr (p0 : aI) (p1 : Int) : bF SE (ao4 Γ γ172 γ109 γ141) Λ2 J 143 [aI.av p0, .d (.int .i64 p1)] [] [] =
 cond (iB p1 (lM aD.enc p0.Items : Int)) (
 γ172 [aN.av p0.Pool, .d (.int .i64 (aR (cE aD.enc p0.Items p1 0)))] [] [] fun r0 =>
 cond (!r0) (
  (rI 15)) (
 cond (decide (0 ≤ p1) && decide (p1 ≤ ((lM aD.enc p0.Items) : Int))) (
  γ109 [.d (.sl aD.ks (bQ (List.map aD.enc p0.Items) none (some p1))), .d (.int .i64 (aR (cE aD.enc p0.Items p1 0)))] [] [] fun r1 =>
  cond (decide (r1 ≥ 0)) (
  (rI 15)) (
  asD (ao4 Γ γ172 γ109 γ141) Λ2 J [D.int .i64 (aR (cE aD.enc p0.Items p1 0)), D.int .i64 (aR (cE aD.enc p0.Items p1 1)), D.str (bC (cE aD.enc p0.Items p1 2)), D.str (bC (cE aD.enc p0.Items p1 3)), D.int .i64 (aR (cE aD.enc p0.Items p1 4)), D.bool (bM (cE aD.enc p0.Items p1 5)), D.int .i64 (aR (cE aD.enc p0.Items p1 6)), D.int .i64 (aR (cE aD.enc p0.Items p1 7)), D.str (bC (cE aD.enc p0.Items p1 8)), D.int .i64 (aR (cE aD.enc p0.Items p1 9)), D.sl aG.ks (dSl (cE aD.enc p0.Items p1 10))])) none)) none := by kernel_rfl
theorem azP (b0 : aD) : bT SE (ao4 Γ γ172 γ109 γ141) Λ2 J 143 0 [1, 1, 1, 0, 0] (aW [(5, .ptr 1000000000 0)] [⟨122, (List.map AV.d (aD.enc b0))⟩] [] [] []) =
 γ141 [aA.av b0.Message] [] [] fun r2 =>
 cond (r2 != 0) (
 (rI r2)) (
 cond (b0.Message.Level == 0) (
 (rI 14)) (
 cond (b0.State != 1) (
 cond (b0.State != 2) (
  (rI 9)) (
 cond (b0.Message.Level == 1) (
  (rI 9)) (
 (rI 0)))) (
 (rI 0)))) := by kernel_rfl
end
abbrev aqv : aP := ao4 gG (cT 172 stringslite_HasPrefix_out) (cT 109 stringslite_IndexByte_out) (cT 141 stringslite_IndexByte_out)
theorem avg : aqv = aQ gG := by unfold aqv ao4; repeat rw [bB fun _ h => h]
abbrev az9 := asD aqv (bP SE gG (SE.hl 143) (SE.hr 143)) (J0 SE aqv)
theorem acJ (b0 : aD) : Le (Option.map stringslite_IndexByte_out (oP b0)) (az9 (aD.enc b0)) := by
 refine Le.trans ?_ (le_of_eq ((aZ avg).trans (azP ..)).symm)
 unfold oP
 refine lQ eX stringslite_IndexByte_inj (uJ _) fun r2 _ => ?_
 refine lC ?_ ?_
 ·exact aJ rfl
 ·refine lC ?_ ?_
  ·exact aJ rfl
  ·refine lC ?_ ?_
   ·refine lC ?_ ?_
    ·exact aJ rfl
    ·refine lC ?_ ?_
     ·exact aJ rfl
     ·exact aJ rfl
   ·exact aJ rfl
theorem ae0 (p0 : aI) (p1 : Int) : Le (Option.map stringslite_IndexByte_out (oC p0 p1)) (bA SE 143 [aI.av p0, .d (.int .i64 p1)] [] []) := by
 refine aV avg rfl ?_
 refine Le.trans ?_ (le_of_eq (aFr ..).symm)
 unfold oC
 refine lG (by simp only [EN]) ?_
 refine lQ eX stringslite_HasPrefix_inj (by (try simp only [EN]); exact anM p0.Pool ((List.getD p0.Items (Int.toNat p1) default).ID)) fun r0 _ => ?_
 refine lC ?_ ?_
 ·exact aJ rfl
 ·refine lG (by simp only [EN]) ?_
  refine lQ eX stringslite_IndexByte_inj (by (try simp only [EN]); exact ac6 (bQ p0.Items none (some p1)) ((List.getD p0.Items (Int.toNat p1) default).ID)) fun r1 _ => ?_
  refine lC ?_ ?_
  ·exact aJ rfl
  ·(try simp only [EN]); exact acJ (List.getD p0.Items (Int.toNat p1) default)
def aq3 (C : aP) (Λ2 J : Lam) (a0 a1 : Int) (a2 : List D) : Res := lab SE C Λ2 J 85 0 [1, 1, 1, 1, 0, 1, 0] (aW [(1, .ptr 1000000000 0), (26, .d (.int .i64 a0)), (27, .d (.int .i64 a1))] [⟨29, (List.map AV.d a2)⟩] [] [] [])
def avm (C : aP) (Λ2 J : Lam) (a0 : List D) : Res := lab SE C Λ2 J 85 0 [1, 1, 0, 0] (aW [(1, .ptr 1000000000 0)] [⟨29, (List.map AV.d a0)⟩] [] [] [])
section
variable (Γ : Fun) (γ142 γ143 : Gm (Int)) (Λ2 J : Lam)
def C85 : aP := aY (aY (aQ Γ) 142 stringslite_IndexByte_out γ142) 143 stringslite_IndexByte_out γ143
theorem T85 (p0 : aI) : bF SE (C85 Γ γ142 γ143) Λ2 J 85 [aI.av p0] [] [] =
 cond (decide (p0.Limit < 0)) (
 (rI 1)) (
 cond (decide (p0.Limit > 32)) (
 (rI 1)) (
 avm (C85 Γ γ142 γ143) Λ2 J (aI.enc p0))) := by kernel_rfl
theorem aA2 (x26 x27 : Int) (b0 : aI) : bT SE (C85 Γ γ142 γ143) Λ2 J 85 0 [1, 1, 1, 1, 0, 1, 0] (aW [(1, .ptr 1000000000 0), (26, .d (.int .i64 x26)), (27, .d (.int .i64 x27))] [⟨29, (List.map AV.d (aI.enc b0))⟩] [] [] []) =
 cond (decide (x27 < x26)) (
 γ143 [aI.av b0, .d (.int .i64 x27)] [] [] fun r1 =>
 cond (r1 != 0) (
  (rI r1)) (
 aq3 (C85 Γ γ142 γ143) Λ2 J x26 (w6 (x27 + 1)) (aI.enc b0))) (
 cond (decide ((lM aD.enc b0.Items : Int) < (lM eI b0.Pool.Used : Int))) (
 (rI 15)) (
 (rI 0))) := by kernel_rfl
theorem aDy (b0 : aI) : bT SE (C85 Γ γ142 γ143) Λ2 J 85 0 [1, 1, 0, 0] (aW [(1, .ptr 1000000000 0)] [⟨29, (List.map AV.d (aI.enc b0))⟩] [] [] []) =
 γ142 [aN.av b0.Pool] [] [] fun r0 =>
 cond (r0 != 0) (
 (rI r0)) (
 cond (decide ((lM aD.enc b0.Items : Int) > 32)) (
 (rI 5)) (
 aq3 (C85 Γ γ142 γ143) Λ2 J (lM aD.enc b0.Items : Int) 0 (aI.enc b0))) := by kernel_rfl
end
abbrev X85 : aP := C85 gG (cT 142 stringslite_IndexByte_out) (cT 143 stringslite_IndexByte_out)
theorem aug : X85 = aQ gG := by unfold X85 C85; repeat rw [bB fun _ h => h]
abbrev aCz := aq3 X85 (bP SE gG (SE.hl 85) (SE.hr 85)) (J0 SE X85)
abbrev aCn := avm X85 (bP SE gG (SE.hl 85) (SE.hr 85)) (J0 SE X85)
theorem afV : ∀ (fu : Nat) (x26 x27 : Int) (b0 : aI), Le (Option.map stringslite_IndexByte_out (jX fu x26 x27 b0)) (aCz x26 x27 (aI.enc b0)) := by
 intro fu
 induction fu with
 | zero => intros; exact le_none
 | succ fu ih =>
  intro x26 x27 b0
  refine Le.trans ?_ (le_of_eq ((aZ aug).trans (aA2 ..)).symm)
  unfold jX
  refine lC ?_ ?_
  ·refine lQ eX stringslite_IndexByte_inj (ae0 _ _) fun r1 _ => ?_
   refine lC ?_ ?_
   ·exact aJ rfl
   ·exact ih x26 (w6 (x27 + 1)) b0
  ·refine lD (by simp only [EN]) ?_ ?_
   ·exact aJ rfl
   ·exact aJ rfl
theorem af9 (b0 : aI) : Le (Option.map stringslite_IndexByte_out (sX b0)) (aCn (aI.enc b0)) := by
 refine Le.trans ?_ (le_of_eq ((aZ aug).trans (aDy ..)).symm)
 unfold sX
 refine lQ eX stringslite_IndexByte_inj (ald _) fun r0 _ => ?_
 refine lC ?_ ?_
 ·exact aJ rfl
 ·refine lD (by simp only [EN]) ?_ ?_
  ·exact aJ rfl
  ·(try simp only [EN]); exact afV fuel (List.length b0.Items : Int) 0 b0
theorem aiP (p0 : aI) : Le (Option.map stringslite_IndexByte_out (tL p0)) (bA SE 85 [aI.av p0] [] []) := by
 refine aV aug rfl ?_
 refine Le.trans ?_ (le_of_eq (T85 ..).symm)
 unfold tL
 refine lC ?_ ?_
 ·exact aJ rfl
 ·refine lC ?_ ?_
  ·exact aJ rfl
  ·exact af9 p0
def arE (C : aP) (Λ2 J : Lam) (a0 : Int) (a1 : List (List D)) (a2 a3 : Int) : Res := lab SE C Λ2 J 86 0 [1, 1, 1, 0, 1, 0] (aW [(3, .d (.int .i64 a0)), (11, .d (.sl [.int .i64] a1)), (12, .d (.int .i64 a2)), (13, .d (.int .i64 a3))] [] [] [] [])
section
variable (Γ : Fun)  (Λ2 J : Lam)
def C86 : aP := aQ Γ
theorem T86 (p0 : bE) : bF SE (C86 Γ) Λ2 J 86 [bE.av p0] [] [] =
 cond (decide ((lM eI p0.IDs : Int) > 32)) (
 (rI 5)) (
 arE (C86 Γ) Λ2 J 0 (List.map eI p0.IDs) (lM eI p0.IDs : Int) 0) := by kernel_rfl
theorem aBa (x3 : Int) (x11 : List Int) (x12 x13 : Int) : bT SE (C86 Γ) Λ2 J 86 0 [1, 1, 1, 0, 1, 0] (aW [(3, .d (.int .i64 x3)), (11, .d (.sl [.int .i64] (List.map eI x11))), (12, .d (.int .i64 x12)), (13, .d (.int .i64 x13))] [] [] [] []) =
 cond (decide (x13 < x12)) (
 cond (iB x13 (lM eI x11 : Int)) (
  cond (decide ((aR (cE eI x11 x13 0)) ≤ x3)) (
  (rI 15)) (
  cond (decide ((aR (cE eI x11 x13 0)) > 65535)) (
  (rI 15)) (
  arE (C86 Γ) Λ2 J ((aR (cE eI x11 x13 0))) (List.map eI x11) x12 (w6 (x13 + 1))))) none) (
 (rI 0)) := by kernel_rfl
end
abbrev X86 : aP := C86 gG
theorem ay2 : X86 = aQ gG := rfl
abbrev aDD := arE X86 (bP SE gG (SE.hl 86) (SE.hr 86)) (J0 SE X86)
theorem ag3 : ∀ (fu : Nat) (x3 : Int) (x11 : List Int) (x12 x13 : Int), Le (Option.map stringslite_IndexByte_out (kP fu x3 x11 x12 x13)) (aDD x3 (List.map eI x11) x12 x13) := by
 intro fu
 induction fu with
 | zero => intros; exact le_none
 | succ fu ih =>
  intro x3 x11 x12 x13
  refine Le.trans ?_ (le_of_eq ((aZ ay2).trans (aBa ..)).symm)
  unfold kP
  refine lC ?_ ?_
  ·refine lG (by simp only [EN]) ?_
   refine lD (by simp only [EN]) ?_ ?_
   ·exact aJ rfl
   ·refine lD (by simp only [EN]) ?_ ?_
    ·exact aJ rfl
    ·(try simp only [EN]); exact ih (List.getD x11 (Int.toNat x13) default) x11 x12 (w6 (x13 + 1))
  ·exact aJ rfl
theorem ajB (p0 : bE) : Le (Option.map stringslite_IndexByte_out (rU p0)) (bA SE 86 [bE.av p0] [] []) := by
 refine aV ay2 rfl ?_
 refine Le.trans ?_ (le_of_eq (T86 ..).symm)
 unfold rU
 refine lD (by simp only [EN]) ?_ ?_
 ·exact aJ rfl
 ·(try simp only [EN]); exact ag3 fuel 0 p0.IDs (List.length p0.IDs : Int) 0
end Te
end PX
