import Derived.Test.YtojlmojebnlmdaaGreatDoorTre0
set_option linter.unusedVariables false
set_option linter.unusedSimpArgs false
set_option maxRecDepth 100000
noncomputable section
namespace PX
open Go
open Md
namespace Te
theorem xK (p0 : (List Int)) (p1 : Int) (p2 : (List Int)) : Le (Option.map dP (rJ p0 p1 p2)) (aY SE 178 [.row 2000000000, .d (.int .i64 p1), .row 2000000001] [] [⟨[.int .i64], 3, 8, (List.map (encI .i64) p0)⟩, ⟨[.int .i64], 3, 8, (List.map (encI .i64) p2)⟩]) := ah4 (f := 178) (enc := (encI .i64)) rfl rfl p0 p1 p2
def ajP (C : aO) (Λ2 J : Lam) (a0 : Int) (a1 : Int) (a2 : Int) (a3 : (List D)) (a4 : (List D)) : Res := lab SE C Λ2 J 157 0 [1, 1, 1, 0, 1, 0] (aZ [(1, .ptr 1000000000 0), (3, .ptr 1000000001 0), (5, .d (.int .i64 a0)), (18, .d (.int .i64 a1)), (19, .d (.int .i64 a2))] [⟨27, (List.map AV.d a3)⟩, ⟨27, (List.map AV.d a4)⟩] [] [] [])
section
variable (Γ : Fun) (γ177 : Gm (Int)) (γ175 : Gm (Int × Bool)) (γ104 : Gm ((List Int))) (γ178 : Gm ((List Int))) (Λ2 J : Lam)
def ahC : aO := bA (bA (bA (bA (aP Γ) 177 nI γ177) 175 bI γ175) 104 bO γ104) 178 dP γ178
theorem au2 (p0 : aJ) : bD SE (ahC Γ γ177 γ175 γ104 γ178) Λ2 J 157 [aJ.av p0] [] [] =
 cond (decide ((List.length (List.map (encI .i64) p0.Used) : Int) ≥ 32)) (
 (some (.ret [.d (.int .i64 0), .agg [.row 0, .d (.int .i64 0)], .d (.int .i64 6)] [] [⟨[.int .i64], 3, 8, (List.map (encI .i64) [])⟩]))) (
 ajP (ahC Γ γ177 γ175 γ104 γ178) Λ2 J p0.Last (IntKind.wrap .i64 ((List.length (List.map (encI .i64) p0.Used) : Int) + 1)) 0 (aJ.enc p0) [D.sl [.int .i64] (List.map (encI .i64) []), D.int .i64 0]) := by kernel_rfl
theorem ap6 (x5 : Int) (x18 : Int) (x19 : Int) (b0 : aJ) (b1 : aJ) : cB SE (ahC Γ γ177 γ175 γ104 γ178) Λ2 J 157 0 [1, 1, 1, 0, 1, 0] (aZ [(1, .ptr 1000000000 0), (3, .ptr 1000000001 0), (5, .d (.int .i64 x5)), (18, .d (.int .i64 x18)), (19, .d (.int .i64 x19))] [⟨27, (List.map AV.d (aJ.enc b0))⟩, ⟨27, (List.map AV.d (aJ.enc b1))⟩] [] [] []) =
 cond (decide (x19 < x18)) (
 γ177 [.d (.int .i64 x5)] [] [] fun r0 =>
 γ175 [.d (.sl [.int .i64] (List.map (encI .i64) b0.Used)), .d (.int .i64 r0)] [] [] fun r1 =>
 cond (!r1.2) (
  γ104 [.d (.sl [.int .i64] (List.map (encI .i64) b0.Used))] [] [] fun r2 =>
  γ178 [.row 2000000000, .d (.int .i64 r1.1), .row 2000000001] [] [⟨[.int .i64], 3, 8, (List.map (encI .i64) r2)⟩, ⟨[.int .i64], 3, 8, (List.map (encI .i64) [r0])⟩] fun r3 =>
  (some (.ret [.d (.int .i64 r0), .agg [.row 0, .d (.int .i64 r0)], .d (.int .i64 0)] [] [⟨[.int .i64], 3, 8, (List.map (encI .i64) r3)⟩]))) (
 ajP (ahC Γ γ177 γ175 γ104 γ178) Λ2 J r0 x18 (IntKind.wrap .i64 (x19 + 1)) (aJ.enc b0) (aJ.enc b1))) (
 (some (.ret [.d (.int .i64 0), .agg [.row 0, .d (.int .i64 0)], .d (.int .i64 6)] [] [⟨[.int .i64], 3, 8, (List.map (encI .i64) [])⟩]))) := by kernel_rfl
end
abbrev aly : aO := ahC gG (cT 177 nI) (cT 175 bI) (cT 104 bO) (cT 178 dP)
theorem aoR : aly = aP gG := by unfold aly ahC; rw [aK fun _ h => h, aK fun _ h => h, aK fun _ h => h, aK fun _ h => h]
noncomputable abbrev aqk (a0 : Int) (a1 : Int) (a2 : Int) (a3 : (List D)) (a4 : (List D)) : Res := ajP aly (bV SE gG (SE.hl 157) (SE.hr 157)) (J0 SE aly) a0 a1 a2 a3 a4
theorem aar : ∀ (fu : Nat) (x5 : Int) (x18 : Int) (x19 : Int) (b0 : aJ) (b1 : aJ), Le (Option.map lB (tR fu x5 x18 x19 b0 b1)) (aqk x5 x18 x19 (aJ.enc b0) (aJ.enc b1)) := by
 intro fu
 induction fu with
 | zero => intros; exact le_none
 | succ fu ih =>
  intro x5 x18 x19 b0 b1
  refine Le.trans ?_ (le_of_eq ((bC aoR).trans (ap6 _ _ _ _ _ _ _  x5 x18 x19 b0 b1)).symm)
  unfold tR
  refine lC ?_ ?_
  ·refine aM (good := good) eX ahu (aiB _) fun r0 _ => ?_
   refine aM (good := good) eX iK (jD _ _) fun r1 _ => ?_
   refine lC ?_ ?_
   ·refine aM (good := good) eX fQ (fY _) fun r2 _ => ?_
    refine aM (good := good) eX wP (xK _ _ _) fun r3 _ => ?_
    exact aH rfl
   ·exact ih r0 x18 (IntKind.wrap .i64 (x19 + 1)) b0 b1
  ·exact aH rfl
theorem aiG (p0 : aJ) : Le (Option.map lB (adb p0)) (aY SE 157 [aJ.av p0] [] []) := by
 refine aR aoR rfl ?_
 refine Le.trans ?_ (le_of_eq (au2 _ _ _ _ _ _ _  p0).symm)
 unfold adb
 refine lD (by simp only [EN]) ?_ ?_
 ·exact aH rfl
 ·first | (simp only [EN]; exact aar fuel p0.Last (IntKind.wrap .i64 ((List.length p0.Used : Int) + 1)) 0 p0 (aJ.mk ([] : List Int) 0)) | exact aar fuel p0.Last (IntKind.wrap .i64 ((List.length p0.Used : Int) + 1)) 0 p0 (aJ.mk ([] : List Int) 0)
section
variable (Γ : Fun) (γ138 : Gm ((List aC))) (Λ2 J : Lam)
def an1 : aO := bA (aP Γ) 138 bP γ138
theorem awm (p0 : aA) : bD SE (an1 Γ γ138) Λ2 J 153 [aA.av p0] [] [] =
 γ138 [.d (.sl aC.ks (List.map aC.enc p0.Props))] [] [] fun r0 =>
 (some (.ret [.agg [.d (.str p0.Topic), .d (.str p0.Payload), .d (.int .i64 p0.Level), .d (.bool p0.Retain), .d (.int .i64 p0.Priority), .d (.int .i64 p0.Expires), .d (.str p0.From), .d (.int .i64 p0.Seq), .row 0]] [] [⟨aC.ks, 130, 32, (List.map aC.enc r0)⟩])) := by kernel_rfl
end
abbrev aqq : aO := an1 gG (cT 138 bP)
theorem asG : aqq = aP gG := by unfold aqq an1; rw [aK fun _ h => h]
theorem oO (p0 : aA) : Le (Option.map dE (oK p0)) (aY SE 153 [aA.av p0] [] []) := by
 refine aR asG rfl ?_
 refine Le.trans ?_ (le_of_eq (awm _ _ _ _  p0).symm)
 unfold oK
 refine aM (good := good) eX lM (lU _) fun r0 _ => ?_
 exact aH rfl
def ajt (C : aO) (Λ2 J : Lam) (a0 : (List (List D))) (a1 : Int) (a2 : Int) (a3 : (List D)) (a4 : (List D)) (a5 : (List (List D))) : Res := lab SE C Λ2 J 110 0 [1, 1, 0, 1, 0] (aZ [(1, .ptr 1000000000 0), (2, .ptr 1000000001 0), (3, .row 3003), (12, .d (.sl aB.ks a0)), (13, .d (.int .i64 a1)), (14, .d (.int .i64 a2))] [⟨29, (List.map AV.d a3)⟩, ⟨29, (List.map AV.d a4)⟩] [] [] [(3003, ⟨aB.ks, 122, 128, a5⟩)])
section
variable (Γ : Fun) (γ153 : Gm (aA)) (γ104 : Gm ((List Int))) (Λ2 J : Lam)
def ahB : aO := bA (bA (aP Γ) 153 dE γ153) 104 bO γ104
theorem avt (p0 : aG) : bD SE (ahB Γ γ153 γ104) Λ2 J 110 [aG.av p0] [] [] =
 cond (decide (0 ≤ 0) && decide (0 ≤ (IntKind.wrap .i64 ((List.length (List.map aB.enc p0.Items) : Int) + 1))) && decide ((IntKind.wrap .i64 ((List.length (List.map aB.enc p0.Items) : Int) + 1)) * 128 ≤ 281474976710656)) (
 ajt (ahB Γ γ153 γ104) Λ2 J (List.map aB.enc p0.Items) (List.length (List.map aB.enc p0.Items) : Int) 0 (aG.enc p0) [D.int .i64 0, D.sl aB.ks (List.map aB.enc []), D.sl [.int .i64] (List.map (encI .i64) []), D.int .i64 0] (List.map aB.enc [])) none := by kernel_rfl
theorem asg (x12 : (List aB)) (x13 : Int) (x14 : Int) (b0 : aG) (b1 : aG) (w3003 : (List aB)) : cB SE (ahB Γ γ153 γ104) Λ2 J 110 0 [1, 1, 0, 1, 0] (aZ [(1, .ptr 1000000000 0), (2, .ptr 1000000001 0), (3, .row 3003), (12, .d (.sl aB.ks (List.map aB.enc x12))), (13, .d (.int .i64 x13)), (14, .d (.int .i64 x14))] [⟨29, (List.map AV.d (aG.enc b0))⟩, ⟨29, (List.map AV.d (aG.enc b1))⟩] [] [] [(3003, ⟨aB.ks, 122, 128, (List.map aB.enc w3003)⟩)]) =
 cond (decide (x14 < x13)) (
 cond (decide (0 ≤ x14) && decide (x14 < (List.length (List.map aB.enc x12) : Int))) (
  γ153 [.agg [.d (.str (aV (cellAt (elemAt (List.map aB.enc x12) (Int.toNat x14)) 2))), .d (.str (aV (cellAt (elemAt (List.map aB.enc x12) (Int.toNat x14)) 3))), .d (.int .i64 (aL (cellAt (elemAt (List.map aB.enc x12) (Int.toNat x14)) 4))), .d (.bool (bB (cellAt (elemAt (List.map aB.enc x12) (Int.toNat x14)) 5))), .d (.int .i64 (aL (cellAt (elemAt (List.map aB.enc x12) (Int.toNat x14)) 6))), .d (.int .i64 (aL (cellAt (elemAt (List.map aB.enc x12) (Int.toNat x14)) 7))), .d (.str (aV (cellAt (elemAt (List.map aB.enc x12) (Int.toNat x14)) 8))), .d (.int .i64 (aL (cellAt (elemAt (List.map aB.enc x12) (Int.toNat x14)) 9))), .d (.sl aC.ks (dSl (cellAt (elemAt (List.map aB.enc x12) (Int.toNat x14)) 10)))]] [] [] fun r0 =>
  cond (decide ((List.length (List.map aB.enc w3003) + List.length [[D.int .i64 (aL (cellAt (elemAt (List.map aB.enc x12) (Int.toNat x14)) 0)), D.int .i64 (aL (cellAt (elemAt (List.map aB.enc x12) (Int.toNat x14)) 1)), D.str r0.Topic, D.str r0.Payload, D.int .i64 r0.Level, D.bool r0.Retain, D.int .i64 r0.Priority, D.int .i64 r0.Expires, D.str r0.From, D.int .i64 r0.Seq, D.sl aC.ks (List.map aC.enc r0.Props)]]) * 128 ≤ 140737488355328)) (
  ajt (ahB Γ γ153 γ104) Λ2 J (List.map aB.enc x12) x13 (IntKind.wrap .i64 (x14 + 1)) (aG.enc b0) (aG.enc b1) (((List.map aB.enc w3003) ++ [[D.int .i64 (aL (cellAt (elemAt (List.map aB.enc x12) (Int.toNat x14)) 0)), D.int .i64 (aL (cellAt (elemAt (List.map aB.enc x12) (Int.toNat x14)) 1)), D.str r0.Topic, D.str r0.Payload, D.int .i64 r0.Level, D.bool r0.Retain, D.int .i64 r0.Priority, D.int .i64 r0.Expires, D.str r0.From, D.int .i64 r0.Seq, D.sl aC.ks (List.map aC.enc r0.Props)]]))) none) none) (
 γ104 [.d (.sl [.int .i64] (List.map (encI .i64) b0.Pool.Used))] [] [] fun r1 =>
 (some (.ret [.agg [.d (.int .i64 b0.Limit), .row 0, .row 1, .d (.int .i64 b0.Pool.Last)]] [] [⟨aB.ks, 122, 128, (List.map aB.enc w3003)⟩, ⟨[.int .i64], 3, 8, (List.map (encI .i64) r1)⟩]))) := by kernel_rfl
end
abbrev alX : aO := ahB gG (cT 153 dE) (cT 104 bO)
theorem aoX : alX = aP gG := by unfold alX ahB; rw [aK fun _ h => h, aK fun _ h => h]
noncomputable abbrev arb (a0 : (List (List D))) (a1 : Int) (a2 : Int) (a3 : (List D)) (a4 : (List D)) (a5 : (List (List D))) : Res := ajt alX (bV SE gG (SE.hl 110) (SE.hr 110)) (J0 SE alX) a0 a1 a2 a3 a4 a5
theorem vO : ∀ (fu : Nat) (x12 : (List aB)) (x13 : Int) (x14 : Int) (b0 : aG) (b1 : aG) (w3003 : (List aB)), Le (Option.map dA (o9 fu x12 x13 x14 b0 b1 w3003)) (arb (List.map aB.enc x12) x13 x14 (aG.enc b0) (aG.enc b1) (List.map aB.enc w3003)) := by
 intro fu
 induction fu with
 | zero => intros; exact le_none
 | succ fu ih =>
  intro x12 x13 x14 b0 b1 w3003
  refine Le.trans ?_ (le_of_eq ((bC aoX).trans (asg _ _ _ _ _  x12 x13 x14 b0 b1 w3003)).symm)
  unfold o9
  refine lC ?_ ?_
  ·refine lG (by simp only [EN]) ?_
   refine aM (good := good) eX qR (by first | (simp only [EN]; exact oO ((List.getD x12 (Int.toNat x14) default).Message)) | exact oO ((List.getD x12 (Int.toNat x14) default).Message)) fun r0 _ => ?_
   refine lG (by simp only [EN]) ?_
   first | (simp only [EN]; exact ih x12 x13 (IntKind.wrap .i64 (x14 + 1)) b0 b1 ((w3003 ++ [(aB.mk (List.getD x12 (Int.toNat x14) default).ID (List.getD x12 (Int.toNat x14) default).State r0)]))) | exact ih x12 x13 (IntKind.wrap .i64 (x14 + 1)) b0 b1 ((w3003 ++ [(aB.mk (List.getD x12 (Int.toNat x14) default).ID (List.getD x12 (Int.toNat x14) default).State r0)]))
  ·refine aM (good := good) eX fQ (fY _) fun r1 _ => ?_
   exact aH rfl
theorem kG (p0 : aG) : Le (Option.map dA (jV p0)) (aY SE 110 [aG.av p0] [] []) := by
 refine aR aoX rfl ?_
 refine Le.trans ?_ (le_of_eq (avt _ _ _ _ _  p0).symm)
 unfold jV
 refine lG (by simp only [EN]) ?_
 first | (simp only [EN]; exact vO fuel p0.Items (List.length p0.Items : Int) 0 p0 ((aG.mk 0 ([] : List aB) (aJ.mk ([] : List Int) 0))) ([] : List aB)) | exact vO fuel p0.Items (List.length p0.Items : Int) 0 p0 ((aG.mk 0 ([] : List aB) (aJ.mk ([] : List Int) 0))) ([] : List aB)
section
variable (Γ : Fun) (γ153 : Gm (aA)) (Λ2 J : Lam)
def anG : aO := bA (aP Γ) 153 dE γ153
theorem awj (p0 : aB) : bD SE (anG Γ γ153) Λ2 J 147 [aB.av p0] [] [] =
 γ153 [aA.av p0.Message] [] [] fun r0 =>
 (some (.ret [.agg [.d (.int .i64 3), .d (.int .i64 p0.ID), .d (.bool false), .d (.str r0.Topic), .d (.str r0.Payload), .d (.int .i64 r0.Level), .d (.bool r0.Retain), .d (.int .i64 r0.Priority), .d (.int .i64 r0.Expires), .d (.str r0.From), .d (.int .i64 r0.Seq), .row 0, .d (.str ([] : Str)), .d (.str ([] : Str)), .d (.bool false), .d (.int .i64 0), .d (.int .i64 0), .d (.int .i64 0), .d (.bool false), .d (.int .i64 0), .d (.str ([] : Str)), .d (.str ([] : Str)), .d (.int .i64 0), .d (.bool false), .d (.int .i64 0), .d (.int .i64 0), .d (.str ([] : Str)), .d (.int .i64 0), .row 1, .d (.bool false), .d (.int .i64 0), .row 2, .row 3, .row 4]] [] [⟨aC.ks, 130, 32, (List.map aC.enc r0.Props)⟩, ⟨aC.ks, 130, 32, (List.map aC.enc [])⟩, ⟨aF.ks, 60, 32, (List.map aF.enc [])⟩, ⟨[.str], 9, 16, (List.map bF [])⟩, ⟨[.int .i64], 3, 8, (List.map (encI .i64) [])⟩])) := by kernel_rfl
end
abbrev arh : aO := anG gG (cT 153 dE)
theorem asM : arh = aP gG := by unfold arh anG; rw [aK fun _ h => h]
theorem qU (p0 : aB) : Le (Option.map eO (qC p0)) (aY SE 147 [aB.av p0] [] []) := by
 refine aR asM rfl ?_
 refine Le.trans ?_ (le_of_eq (awj _ _ _ _  p0).symm)
 unfold qC
 refine aM (good := good) eX qR (oO _) fun r0 _ => ?_
 exact aH rfl
section
variable (Γ : Fun) (γ156 : Gm (Int)) (γ141 : Gm (Int)) (γ157 : Gm (Int × aJ × Int)) (γ110 : Gm (aG)) (γ153 : Gm (aA)) (γ147 : Gm (aE)) (Λ2 J : Lam)
def anW : aO := bA (bA (bA (bA (bA (bA (aP Γ) 156 iO γ156) 141 c8 γ141) 157 lB γ157) 110 dA γ110) 153 dE γ153) 147 eO γ147
theorem avy (p0 : aG) (p1 : aA) : bD SE (anW Γ γ156 γ141 γ157 γ110 γ153 γ147) Λ2 J 114 [aG.av p0, aA.av p1] [] [] =
 cond (p1.Level == 0) (
 (some (.ret [.agg [.d (.int .i64 0), .row 0, .row 1, .d (.int .i64 0)], .agg [.d (.int .i64 0), .d (.int .i64 0), .d (.bool false), .d (.str ([] : Str)), .d (.str ([] : Str)), .d (.int .i64 0), .d (.bool false), .d (.int .i64 0), .d (.int .i64 0), .d (.str ([] : Str)), .d (.int .i64 0), .row 2, .d (.str ([] : Str)), .d (.str ([] : Str)), .d (.bool false), .d (.int .i64 0), .d (.int .i64 0), .d (.int .i64 0), .d (.bool false), .d (.int .i64 0), .d (.str ([] : Str)), .d (.str ([] : Str)), .d (.int .i64 0), .d (.bool false), .d (.int .i64 0), .d (.int .i64 0), .d (.str ([] : Str)), .d (.int .i64 0), .row 3, .d (.bool false), .d (.int .i64 0), .row 4, .row 5, .row 6], .d (.int .i64 14)] [] [⟨aB.ks, 122, 128, (List.map aB.enc [])⟩, ⟨[.int .i64], 3, 8, (List.map (encI .i64) [])⟩, ⟨aC.ks, 130, 32, (List.map aC.enc [])⟩, ⟨aC.ks, 130, 32, (List.map aC.enc [])⟩, ⟨aF.ks, 60, 32, (List.map aF.enc [])⟩, ⟨[.str], 9, 16, (List.map bF [])⟩, ⟨[.int .i64], 3, 8, (List.map (encI .i64) [])⟩]))) (
 γ156 [aG.av p0] [] [] fun r0 =>
 cond (r0 == 0) (
 (some (.ret [.agg [.d (.int .i64 0), .row 0, .row 1, .d (.int .i64 0)], .agg [.d (.int .i64 0), .d (.int .i64 0), .d (.bool false), .d (.str ([] : Str)), .d (.str ([] : Str)), .d (.int .i64 0), .d (.bool false), .d (.int .i64 0), .d (.int .i64 0), .d (.str ([] : Str)), .d (.int .i64 0), .row 2, .d (.str ([] : Str)), .d (.str ([] : Str)), .d (.bool false), .d (.int .i64 0), .d (.int .i64 0), .d (.int .i64 0), .d (.bool false), .d (.int .i64 0), .d (.str ([] : Str)), .d (.str ([] : Str)), .d (.int .i64 0), .d (.bool false), .d (.int .i64 0), .d (.int .i64 0), .d (.str ([] : Str)), .d (.int .i64 0), .row 3, .d (.bool false), .d (.int .i64 0), .row 4, .row 5, .row 6], .d (.int .i64 6)] [] [⟨aB.ks, 122, 128, (List.map aB.enc [])⟩, ⟨[.int .i64], 3, 8, (List.map (encI .i64) [])⟩, ⟨aC.ks, 130, 32, (List.map aC.enc [])⟩, ⟨aC.ks, 130, 32, (List.map aC.enc [])⟩, ⟨aF.ks, 60, 32, (List.map aF.enc [])⟩, ⟨[.str], 9, 16, (List.map bF [])⟩, ⟨[.int .i64], 3, 8, (List.map (encI .i64) [])⟩]))) (
 γ141 [aA.av p1] [] [] fun r1 =>
 cond (r1 != 0) (
 (some (.ret [.agg [.d (.int .i64 0), .row 0, .row 1, .d (.int .i64 0)], .agg [.d (.int .i64 0), .d (.int .i64 0), .d (.bool false), .d (.str ([] : Str)), .d (.str ([] : Str)), .d (.int .i64 0), .d (.bool false), .d (.int .i64 0), .d (.int .i64 0), .d (.str ([] : Str)), .d (.int .i64 0), .row 2, .d (.str ([] : Str)), .d (.str ([] : Str)), .d (.bool false), .d (.int .i64 0), .d (.int .i64 0), .d (.int .i64 0), .d (.bool false), .d (.int .i64 0), .d (.str ([] : Str)), .d (.str ([] : Str)), .d (.int .i64 0), .d (.bool false), .d (.int .i64 0), .d (.int .i64 0), .d (.str ([] : Str)), .d (.int .i64 0), .row 3, .d (.bool false), .d (.int .i64 0), .row 4, .row 5, .row 6], .d (.int .i64 r1)] [] [⟨aB.ks, 122, 128, (List.map aB.enc [])⟩, ⟨[.int .i64], 3, 8, (List.map (encI .i64) [])⟩, ⟨aC.ks, 130, 32, (List.map aC.enc [])⟩, ⟨aC.ks, 130, 32, (List.map aC.enc [])⟩, ⟨aF.ks, 60, 32, (List.map aF.enc [])⟩, ⟨[.str], 9, 16, (List.map bF [])⟩, ⟨[.int .i64], 3, 8, (List.map (encI .i64) [])⟩]))) (
 γ157 [aJ.av p0.Pool] [] [] fun r2 =>
 cond (r2.2.2 != 0) (
 (some (.ret [.agg [.d (.int .i64 0), .row 0, .row 1, .d (.int .i64 0)], .agg [.d (.int .i64 0), .d (.int .i64 0), .d (.bool false), .d (.str ([] : Str)), .d (.str ([] : Str)), .d (.int .i64 0), .d (.bool false), .d (.int .i64 0), .d (.int .i64 0), .d (.str ([] : Str)), .d (.int .i64 0), .row 2, .d (.str ([] : Str)), .d (.str ([] : Str)), .d (.bool false), .d (.int .i64 0), .d (.int .i64 0), .d (.int .i64 0), .d (.bool false), .d (.int .i64 0), .d (.str ([] : Str)), .d (.str ([] : Str)), .d (.int .i64 0), .d (.bool false), .d (.int .i64 0), .d (.int .i64 0), .d (.str ([] : Str)), .d (.int .i64 0), .row 3, .d (.bool false), .d (.int .i64 0), .row 4, .row 5, .row 6], .d (.int .i64 r2.2.2)] [] [⟨aB.ks, 122, 128, (List.map aB.enc [])⟩, ⟨[.int .i64], 3, 8, (List.map (encI .i64) [])⟩, ⟨aC.ks, 130, 32, (List.map aC.enc [])⟩, ⟨aC.ks, 130, 32, (List.map aC.enc [])⟩, ⟨aF.ks, 60, 32, (List.map aF.enc [])⟩, ⟨[.str], 9, 16, (List.map bF [])⟩, ⟨[.int .i64], 3, 8, (List.map (encI .i64) [])⟩]))) (
 γ110 [aG.av p0] [] [] fun r3 =>
 γ153 [aA.av p1] [] [] fun r4 =>
 cond (decide ((List.length (List.map aB.enc r3.Items) + List.length (List.map aB.enc [(aB.mk r2.1 1 r4)])) * 128 ≤ 140737488355328)) (
 γ147 [aB.av (aB.mk r2.1 1 r4)] [] [] fun r5 =>
 (some (.ret [.agg [.d (.int .i64 r3.Limit), .row 0, .row 1, .d (.int .i64 r2.2.1.Last)], .agg [.d (.int .i64 r5.Kind), .d (.int .i64 r5.ID), .d (.bool r5.Dup), .d (.str r5.Message.Topic), .d (.str r5.Message.Payload), .d (.int .i64 r5.Message.Level), .d (.bool r5.Message.Retain), .d (.int .i64 r5.Message.Priority), .d (.int .i64 r5.Message.Expires), .d (.str r5.Message.From), .d (.int .i64 r5.Message.Seq), .row 2, .d (.str r5.Client), .d (.str r5.User), .d (.bool r5.Clean), .d (.int .i64 r5.Keep), .d (.int .i64 r5.Expiry), .d (.int .i64 r5.Window), .d (.bool r5.Will.Set), .d (.int .i64 r5.Will.Delay), .d (.str r5.Will.Message.Topic), .d (.str r5.Will.Message.Payload), .d (.int .i64 r5.Will.Message.Level), .d (.bool r5.Will.Message.Retain), .d (.int .i64 r5.Will.Message.Priority), .d (.int .i64 r5.Will.Message.Expires), .d (.str r5.Will.Message.From), .d (.int .i64 r5.Will.Message.Seq), .row 3, .d (.bool r5.Present), .d (.int .i64 r5.Code), .row 4, .row 5, .row 6], .d (.int .i64 0)] [] [⟨aB.ks, 122, 128, ((List.map aB.enc r3.Items) ++ (List.map aB.enc [(aB.mk r2.1 1 r4)]))⟩, ⟨[.int .i64], 3, 8, (List.map (encI .i64) r2.2.1.Used)⟩, ⟨aC.ks, 130, 32, (List.map aC.enc r5.Message.Props)⟩, ⟨aC.ks, 130, 32, (List.map aC.enc r5.Will.Message.Props)⟩, ⟨aF.ks, 60, 32, (List.map aF.enc r5.Subs)⟩, ⟨[.str], 9, 16, (List.map bF r5.Filters)⟩, ⟨[.int .i64], 3, 8, (List.map (encI .i64) r5.Codes)⟩]))) none)))) := by kernel_rfl
end
abbrev aqr : aO := anW gG (cT 156 iO) (cT 141 c8) (cT 157 lB) (cT 110 dA) (cT 153 dE) (cT 147 eO)
theorem atZ : aqr = aP gG := by unfold aqr anW; rw [aK fun _ h => h, aK fun _ h => h, aK fun _ h => h, aK fun _ h => h, aK fun _ h => h, aK fun _ h => h]
theorem yK (p0 : aG) (p1 : aA) : Le (Option.map hZ (wV p0 p1)) (aY SE 114 [aG.av p0, aA.av p1] [] []) := by
 refine aR atZ rfl ?_
 refine Le.trans ?_ (le_of_eq (avy _ _ _ _ _ _ _ _ _  p0 p1).symm)
 unfold wV
 refine lC ?_ ?_
 ·exact aH rfl
 ·refine aM (good := good) eX ae0 (afU _) fun r0 _ => ?_
  refine lC ?_ ?_
  ·exact aH rfl
  ·refine aM (good := good) eX o6 (nS _) fun r1 _ => ?_
   refine lC ?_ ?_
   ·exact aH rfl
   ·refine aM (good := good) eX ahA (aiG _) fun r2 _ => ?_
    refine lC ?_ ?_
    ·exact aH rfl
    ·refine aM (good := good) eX j0 (kG _) fun r3 _ => ?_
     refine aM (good := good) eX qR (oO _) fun r4 _ => ?_
     refine lG (by simp only [EN]) ?_
     refine aM (good := good) eX vB (qU _) fun r5 _ => ?_
     exact aH (by first | rfl | simp only [EN, hZ] <;> rfl)
def af8 (C : aO) (Λ2 J : Lam) (a0 : Int) (a1 : (List D)) (a2 : (List D)) (a3 : (List (List D))) : Res := lab SE C Λ2 J 61 0 [1, 0, 0] (aZ [(1, .d (.int .i64 a0)), (2, .row 3002), (3, .ptr 1000000000 0), (6, .ptr 1000000001 0)] [⟨38, (List.map AV.d a1)⟩, ⟨38, (List.map AV.d a2)⟩] [] [] [(3002, ⟨aE.ks, 49, 416, a3⟩)])
section
variable (Γ : Fun) (γ113 : Gm (Bool)) (γ51 : Gm (aD)) (γ80 : Gm (aA)) (γ114 : Gm (aG × aE × Int)) (Λ2 J : Lam)
def C61 : aO := bA (bA (bA (bA (aP Γ) 113 jC γ113) 51 dF γ51) 80 cV γ80) 114 hZ γ114
theorem T61 (p0 : aD) (p1 : Int) (p2 : (List aE)) : bD SE (C61 Γ γ113 γ51 γ80 γ114) Λ2 J 61 [aD.av p0, .d (.int .i64 p1), .row 2000000000] [] [⟨aE.ks, 49, 416, (List.map aE.enc p2)⟩] =
 af8 (C61 Γ γ113 γ51 γ80 γ114) Λ2 J p1 (aD.enc p0) [D.str ([] : Str), D.str ([] : Str), D.bool false, D.int .i64 0, D.int .i64 0, D.int .i64 0, D.int .i64 0, D.sl aF.ks (List.map aF.enc []), D.sl aA.ks (List.map aA.enc []), D.int .i64 0, D.sl aB.ks (List.map aB.enc []), D.sl [.int .i64] (List.map (encI .i64) []), D.int .i64 0, D.sl [.int .i64] (List.map (encI .i64) []), D.bool false, D.int .i64 0, D.str ([] : Str), D.str ([] : Str), D.int .i64 0, D.bool false, D.int .i64 0, D.int .i64 0, D.str ([] : Str), D.int .i64 0, D.sl aC.ks (List.map aC.enc [])] (List.map aE.enc p2) := by kernel_rfl
theorem asZ (x1 : Int) (b0 : aD) (b1 : aD) (w3002 : (List aE)) : cB SE (C61 Γ γ113 γ51 γ80 γ114) Λ2 J 61 0 [1, 0, 0] (aZ [(1, .d (.int .i64 x1)), (2, .row 3002), (3, .ptr 1000000000 0), (6, .ptr 1000000001 0)] [⟨38, (List.map AV.d (aD.enc b0))⟩, ⟨38, (List.map AV.d (aD.enc b1))⟩] [] [] [(3002, ⟨aE.ks, 49, 416, (List.map aE.enc w3002)⟩)]) =
 cond (decide ((List.length (List.map aA.enc b0.Queue) : Int) > 0)) (
 cond (decide (0 ≤ 0) && decide (0 < (List.length (List.map aA.enc b0.Queue) : Int))) (
  γ113 [.agg [.d (.str (aV (cellAt (elemAt (List.map aA.enc b0.Queue) (Int.toNat 0)) 0))), .d (.str (aV (cellAt (elemAt (List.map aA.enc b0.Queue) (Int.toNat 0)) 1))), .d (.int .i64 (aL (cellAt (elemAt (List.map aA.enc b0.Queue) (Int.toNat 0)) 2))), .d (.bool (bB (cellAt (elemAt (List.map aA.enc b0.Queue) (Int.toNat 0)) 3))), .d (.int .i64 (aL (cellAt (elemAt (List.map aA.enc b0.Queue) (Int.toNat 0)) 4))), .d (.int .i64 (aL (cellAt (elemAt (List.map aA.enc b0.Queue) (Int.toNat 0)) 5))), .d (.str (aV (cellAt (elemAt (List.map aA.enc b0.Queue) (Int.toNat 0)) 6))), .d (.int .i64 (aL (cellAt (elemAt (List.map aA.enc b0.Queue) (Int.toNat 0)) 7))), .d (.sl aC.ks (dSl (cellAt (elemAt (List.map aA.enc b0.Queue) (Int.toNat 0)) 8)))], .d (.int .i64 x1)] [] [] fun r0 =>
  cond r0 (
  γ51 [aD.av b0, .d (.int .i64 1)] [] [] fun r1 =>
  cond (decide (0 ≤ 1) && decide (1 ≤ ((List.length (List.map aA.enc r1.Queue)) : Int))) (
   af8 (C61 Γ γ113 γ51 γ80 γ114) Λ2 J x1 [D.str r1.Client, D.str r1.User, D.bool r1.Online, D.int .i64 r1.Conn, D.int .i64 r1.Expiry, D.int .i64 r1.Until, D.int .i64 r1.Dropped, D.sl aF.ks (List.map aF.enc r1.Subs), D.sl aA.ks (bN (List.map aA.enc r1.Queue) (some 1) none), D.int .i64 r1.Out.Limit, D.sl aB.ks (List.map aB.enc r1.Out.Items), D.sl [.int .i64] (List.map (encI .i64) r1.Out.Pool.Used), D.int .i64 r1.Out.Pool.Last, D.sl [.int .i64] (List.map (encI .i64) r1.In.IDs), D.bool r1.Will.Set, D.int .i64 r1.Will.Delay, D.str r1.Will.Message.Topic, D.str r1.Will.Message.Payload, D.int .i64 r1.Will.Message.Level, D.bool r1.Will.Message.Retain, D.int .i64 r1.Will.Message.Priority, D.int .i64 r1.Will.Message.Expires, D.str r1.Will.Message.From, D.int .i64 r1.Will.Message.Seq, D.sl aC.ks (List.map aC.enc r1.Will.Message.Props)] (aD.enc b1) (List.map aE.enc w3002)) none) (
  cond ((aL (cellAt (elemAt (List.map aA.enc b0.Queue) (Int.toNat 0)) 2)) == 0) (
  γ80 [.agg [.d (.str (aV (cellAt (elemAt (List.map aA.enc b0.Queue) (Int.toNat 0)) 0))), .d (.str (aV (cellAt (elemAt (List.map aA.enc b0.Queue) (Int.toNat 0)) 1))), .d (.int .i64 (aL (cellAt (elemAt (List.map aA.enc b0.Queue) (Int.toNat 0)) 2))), .d (.bool (bB (cellAt (elemAt (List.map aA.enc b0.Queue) (Int.toNat 0)) 3))), .d (.int .i64 (aL (cellAt (elemAt (List.map aA.enc b0.Queue) (Int.toNat 0)) 4))), .d (.int .i64 (aL (cellAt (elemAt (List.map aA.enc b0.Queue) (Int.toNat 0)) 5))), .d (.str (aV (cellAt (elemAt (List.map aA.enc b0.Queue) (Int.toNat 0)) 6))), .d (.int .i64 (aL (cellAt (elemAt (List.map aA.enc b0.Queue) (Int.toNat 0)) 7))), .d (.sl aC.ks (dSl (cellAt (elemAt (List.map aA.enc b0.Queue) (Int.toNat 0)) 8)))]] [] [] fun r2 =>
  cond (decide ((List.length (List.map aE.enc w3002) + List.length [[D.int .i64 3, D.int .i64 0, D.bool false, D.str r2.Topic, D.str r2.Payload, D.int .i64 r2.Level, D.bool r2.Retain, D.int .i64 r2.Priority, D.int .i64 r2.Expires, D.str r2.From, D.int .i64 r2.Seq, D.sl aC.ks (List.map aC.enc r2.Props), D.str ([] : Str), D.str ([] : Str), D.bool false, D.int .i64 0, D.int .i64 0, D.int .i64 0, D.bool false, D.int .i64 0, D.str ([] : Str), D.str ([] : Str), D.int .i64 0, D.bool false, D.int .i64 0, D.int .i64 0, D.str ([] : Str), D.int .i64 0, D.sl aC.ks (List.map aC.enc []), D.bool false, D.int .i64 0, D.sl aF.ks (List.map aF.enc []), D.sl [.str] (List.map bF []), D.sl [.int .i64] (List.map (encI .i64) [])]]) * 416 ≤ 140737488355328)) (
   cond (decide (0 ≤ 1) && decide (1 ≤ ((List.length (List.map aA.enc b0.Queue)) : Int))) (
   af8 (C61 Γ γ113 γ51 γ80 γ114) Λ2 J x1 [D.str b0.Client, D.str b0.User, D.bool b0.Online, D.int .i64 b0.Conn, D.int .i64 b0.Expiry, D.int .i64 b0.Until, D.int .i64 b0.Dropped, D.sl aF.ks (List.map aF.enc b0.Subs), D.sl aA.ks (bN (List.map aA.enc b0.Queue) (some 1) none), D.int .i64 b0.Out.Limit, D.sl aB.ks (List.map aB.enc b0.Out.Items), D.sl [.int .i64] (List.map (encI .i64) b0.Out.Pool.Used), D.int .i64 b0.Out.Pool.Last, D.sl [.int .i64] (List.map (encI .i64) b0.In.IDs), D.bool b0.Will.Set, D.int .i64 b0.Will.Delay, D.str b0.Will.Message.Topic, D.str b0.Will.Message.Payload, D.int .i64 b0.Will.Message.Level, D.bool b0.Will.Message.Retain, D.int .i64 b0.Will.Message.Priority, D.int .i64 b0.Will.Message.Expires, D.str b0.Will.Message.From, D.int .i64 b0.Will.Message.Seq, D.sl aC.ks (List.map aC.enc b0.Will.Message.Props)] (aD.enc b1) (((List.map aE.enc w3002) ++ [[D.int .i64 3, D.int .i64 0, D.bool false, D.str r2.Topic, D.str r2.Payload, D.int .i64 r2.Level, D.bool r2.Retain, D.int .i64 r2.Priority, D.int .i64 r2.Expires, D.str r2.From, D.int .i64 r2.Seq, D.sl aC.ks (List.map aC.enc r2.Props), D.str ([] : Str), D.str ([] : Str), D.bool false, D.int .i64 0, D.int .i64 0, D.int .i64 0, D.bool false, D.int .i64 0, D.str ([] : Str), D.str ([] : Str), D.int .i64 0, D.bool false, D.int .i64 0, D.int .i64 0, D.str ([] : Str), D.int .i64 0, D.sl aC.ks (List.map aC.enc []), D.bool false, D.int .i64 0, D.sl aF.ks (List.map aF.enc []), D.sl [.str] (List.map bF []), D.sl [.int .i64] (List.map (encI .i64) [])]]))) none) none) (
  γ114 [aG.av b0.Out, .agg [.d (.str (aV (cellAt (elemAt (List.map aA.enc b0.Queue) (Int.toNat 0)) 0))), .d (.str (aV (cellAt (elemAt (List.map aA.enc b0.Queue) (Int.toNat 0)) 1))), .d (.int .i64 (aL (cellAt (elemAt (List.map aA.enc b0.Queue) (Int.toNat 0)) 2))), .d (.bool (bB (cellAt (elemAt (List.map aA.enc b0.Queue) (Int.toNat 0)) 3))), .d (.int .i64 (aL (cellAt (elemAt (List.map aA.enc b0.Queue) (Int.toNat 0)) 4))), .d (.int .i64 (aL (cellAt (elemAt (List.map aA.enc b0.Queue) (Int.toNat 0)) 5))), .d (.str (aV (cellAt (elemAt (List.map aA.enc b0.Queue) (Int.toNat 0)) 6))), .d (.int .i64 (aL (cellAt (elemAt (List.map aA.enc b0.Queue) (Int.toNat 0)) 7))), .d (.sl aC.ks (dSl (cellAt (elemAt (List.map aA.enc b0.Queue) (Int.toNat 0)) 8)))]] [] [] fun r3 =>
  cond (r3.2.2 != 0) (
  (some (.ret [aD.av b0, .row 0] [] [⟨aE.ks, 49, 416, (List.map aE.enc w3002)⟩]))) (
  cond (decide ((List.length (List.map aE.enc w3002) + List.length (List.map aE.enc [r3.2.1])) * 416 ≤ 140737488355328)) (
  cond (decide (0 ≤ 1) && decide (1 ≤ ((List.length (List.map aA.enc b0.Queue)) : Int))) (
   af8 (C61 Γ γ113 γ51 γ80 γ114) Λ2 J x1 [D.str b0.Client, D.str b0.User, D.bool b0.Online, D.int .i64 b0.Conn, D.int .i64 b0.Expiry, D.int .i64 b0.Until, D.int .i64 b0.Dropped, D.sl aF.ks (List.map aF.enc b0.Subs), D.sl aA.ks (bN (List.map aA.enc b0.Queue) (some 1) none), D.int .i64 r3.1.Limit, D.sl aB.ks (List.map aB.enc r3.1.Items), D.sl [.int .i64] (List.map (encI .i64) r3.1.Pool.Used), D.int .i64 r3.1.Pool.Last, D.sl [.int .i64] (List.map (encI .i64) b0.In.IDs), D.bool b0.Will.Set, D.int .i64 b0.Will.Delay, D.str b0.Will.Message.Topic, D.str b0.Will.Message.Payload, D.int .i64 b0.Will.Message.Level, D.bool b0.Will.Message.Retain, D.int .i64 b0.Will.Message.Priority, D.int .i64 b0.Will.Message.Expires, D.str b0.Will.Message.From, D.int .i64 b0.Will.Message.Seq, D.sl aC.ks (List.map aC.enc b0.Will.Message.Props)] (aD.enc b1) (((List.map aE.enc w3002) ++ (List.map aE.enc [r3.2.1])))) none) none)))) none) (
 (some (.ret [aD.av b0, .row 0] [] [⟨aE.ks, 49, 416, (List.map aE.enc w3002)⟩]))) := by kernel_rfl
end
abbrev X61 : aO := C61 gG (cT 113 jC) (cT 51 dF) (cT 80 cV) (cT 114 hZ)
theorem aqB : X61 = aP gG := by unfold X61 C61; rw [aK fun _ h => h, aK fun _ h => h, aK fun _ h => h, aK fun _ h => h]
noncomputable abbrev ats (a0 : Int) (a1 : (List D)) (a2 : (List D)) (a3 : (List (List D))) : Res := af8 X61 (bV SE gG (SE.hl 61) (SE.hr 61)) (J0 SE X61) a0 a1 a2 a3
theorem xF : ∀ (fu : Nat) (x1 : Int) (b0 : aD) (b1 : aD) (w3002 : (List aE)), Le (Option.map dS (l6 fu x1 b0 b1 w3002)) (ats x1 (aD.enc b0) (aD.enc b1) (List.map aE.enc w3002)) := by
 intro fu
 induction fu with
 | zero => intros; exact le_none
 | succ fu ih =>
  intro x1 b0 b1 w3002
  refine Le.trans ?_ (le_of_eq ((bC aqB).trans (asZ _ _ _ _ _ _ _  x1 b0 b1 w3002)).symm)
  unfold l6
  refine lD (by simp only [EN]) ?_ ?_
  ·refine lG (by simp only [EN]) ?_
   refine aM (good := good) eX adG (by first | (simp only [EN]; exact xZ (List.getD b0.Queue (Int.toNat 0) default) x1) | exact xZ (List.getD b0.Queue (Int.toNat 0) default) x1) fun r0 _ => ?_
   refine lC ?_ ?_
   ·refine aM (good := good) eX nX (j1 _ _) fun r1 _ => ?_
    refine lG (by simp only [EN]) ?_
    first | (simp only [EN]; exact ih x1 (aD.mk r1.Client r1.User r1.Online r1.Conn r1.Expiry r1.Until r1.Dropped r1.Subs (bN r1.Queue (some 1) none) r1.Out r1.In r1.Will) b1 w3002) | exact ih x1 (aD.mk r1.Client r1.User r1.Online r1.Conn r1.Expiry r1.Until r1.Dropped r1.Subs (bN r1.Queue (some 1) none) r1.Out r1.In r1.Will) b1 w3002
   ·refine lD (by simp only [EN]) ?_ ?_
    ·refine aM (good := good) eX jT (by first | (simp only [EN]; exact fE (List.getD b0.Queue (Int.toNat 0) default)) | exact fE (List.getD b0.Queue (Int.toNat 0) default)) fun r2 _ => ?_
     refine lG (by simp only [EN]) ?_
     refine lG (by simp only [EN]) ?_
     first | (simp only [EN]; exact ih x1 (aD.mk b0.Client b0.User b0.Online b0.Conn b0.Expiry b0.Until b0.Dropped b0.Subs (bN b0.Queue (some 1) none) b0.Out b0.In b0.Will) b1 ((w3002 ++ [(aE.mk 3 0 false r2 ([] : Str) ([] : Str) false 0 0 0 (aN.mk false 0 (aA.mk ([] : Str) ([] : Str) 0 false 0 0 ([] : Str) 0 ([] : List aC))) false 0 ([] : List aF) ([] : List Str) ([] : List Int))]))) | exact ih x1 (aD.mk b0.Client b0.User b0.Online b0.Conn b0.Expiry b0.Until b0.Dropped b0.Subs (bN b0.Queue (some 1) none) b0.Out b0.In b0.Will) b1 ((w3002 ++ [(aE.mk 3 0 false r2 ([] : Str) ([] : Str) false 0 0 0 (aN.mk false 0 (aA.mk ([] : Str) ([] : Str) 0 false 0 0 ([] : Str) 0 ([] : List aC))) false 0 ([] : List aF) ([] : List Str) ([] : List Int))]))
    ·refine aM (good := good) eX adL (by first | (simp only [EN]; exact yK b0.Out (List.getD b0.Queue (Int.toNat 0) default)) | exact yK b0.Out (List.getD b0.Queue (Int.toNat 0) default)) fun r3 _ => ?_
     refine lC ?_ ?_
     ·exact aH rfl
     ·refine lG (by simp only [EN]) ?_
      refine lG (by simp only [EN]) ?_
      first | (simp only [EN]; exact ih x1 (aD.mk b0.Client b0.User b0.Online b0.Conn b0.Expiry b0.Until b0.Dropped b0.Subs (bN b0.Queue (some 1) none) r3.1 b0.In b0.Will) b1 (w3002 ++ [r3.2.1])) | exact ih x1 (aD.mk b0.Client b0.User b0.Online b0.Conn b0.Expiry b0.Until b0.Dropped b0.Subs (bN b0.Queue (some 1) none) r3.1 b0.In b0.Will) b1 (w3002 ++ [r3.2.1])
  ·exact aH rfl
theorem qX (p0 : aD) (p1 : Int) (p2 : (List aE)) : Le (Option.map dS (rH p0 p1 p2)) (aY SE 61 [aD.av p0, .d (.int .i64 p1), .row 2000000000] [] [⟨aE.ks, 49, 416, (List.map aE.enc p2)⟩]) := by
 refine aR aqB rfl ?_
 refine Le.trans ?_ (le_of_eq (T61 _ _ _ _ _ _ _  p0 p1 p2).symm)
 unfold rH
 first | (simp only [EN]; exact xF fuel p1 p0 ((aD.mk ([] : Str) ([] : Str) false 0 0 0 0 ([] : List aF) ([] : List aA) (aG.mk 0 ([] : List aB) (aJ.mk ([] : List Int) 0)) (aS.mk ([] : List Int)) (aN.mk false 0 (aA.mk ([] : Str) ([] : Str) 0 false 0 0 ([] : Str) 0 ([] : List aC))))) p2) | exact xF fuel p1 p0 ((aD.mk ([] : Str) ([] : Str) false 0 0 0 0 ([] : List aF) ([] : List aA) (aG.mk 0 ([] : List aB) (aJ.mk ([] : List Int) 0)) (aS.mk ([] : List Int)) (aN.mk false 0 (aA.mk ([] : Str) ([] : Str) 0 false 0 0 ([] : Str) 0 ([] : List aC))))) p2
section
variable (Γ : Fun) (γ50 : Gm (aD)) (γ61 : Gm (aD × (List aE))) (Λ2 J : Lam)
def C34 : aO := bA (bA (aP Γ) 50 bU γ50) 61 dS γ61
theorem T34 (p0 : aD) (p1 : Int) : bD SE (C34 Γ γ50 γ61) Λ2 J 34 [aD.av p0, .d (.int .i64 p1)] [] [] =
 cond (!p0.Online) (
 γ50 [aD.av p0] [] [] fun r0 =>
 (some (.ret [aD.av r0, .row 0] [] [⟨aE.ks, 49, 416, []⟩]))) (
 γ50 [aD.av p0] [] [] fun r1 =>
 γ61 [aD.av r1, .d (.int .i64 p1), .row 2000000000] [] [⟨aE.ks, 49, 416, (List.map aE.enc [])⟩] fun r2 =>
 (some (.ret [aD.av r2.1, .row 0] [] [⟨aE.ks, 49, 416, (List.map aE.enc r2.2)⟩]))) := by kernel_rfl
end
abbrev X34 : aO := C34 gG (cT 50 bU) (cT 61 dS)
theorem auY : X34 = aP gG := by unfold X34 C34; rw [aK fun _ h => h, aK fun _ h => h]
theorem ag9 (p0 : aD) (p1 : Int) : Le (Option.map lI (aaB p0 p1)) (aY SE 34 [aD.av p0, .d (.int .i64 p1)] [] []) := by
 refine aR auY rfl ?_
 refine Le.trans ?_ (le_of_eq (T34 _ _ _ _ _  p0 p1).symm)
 unfold aaB
 refine lC ?_ ?_
 ·refine aM (good := good) eX iH (jJ _) fun r0 _ => ?_
  exact aH rfl
 ·refine aM (good := good) eX iH (jJ _) fun r1 _ => ?_
  refine aM (good := good) eX tY (by first | (simp only [EN]; exact qX r1 p1 ([] : List aE)) | exact qX r1 p1 ([] : List aE)) fun r2 _ => ?_
  exact aH rfl
section
variable (Γ : Fun)  (Λ2 J : Lam)
def aq2 : aO := aP Γ
theorem avA (p0 : aB) (p1 : Int) : bD SE (aq2 Γ) Λ2 J 152 [aB.av p0, .ptr 2000000000 0] [⟨3, [.d (.int .i64 p1)]⟩] [] =
 (some (.ret [.d (.bool (p0.ID == p1))] [⟨3, [.d (.int .i64 p1)]⟩] [])) := by kernel_rfl
end
abbrev auN : aO := aq2 gG
theorem auo : auN = aP gG := rfl
theorem xQ (p0 : aB) (p1 : Int) : Le (Option.map iZ (qY p0 p1)) (aY SE 152 [aB.av p0, .ptr 2000000000 0] [⟨3, [.d (.int .i64 p1)]⟩] []) := by
 refine aR auo rfl ?_
 refine Le.trans ?_ (le_of_eq (avA _ _ _  p0 p1).symm)
 unfold qY
 exact aH rfl
def akj (C : aO) (Λ2 J : Lam) (a0 : (List (List D))) (a1 : Int) (a2 : Int) (a3 : Int) : Res := lab SE C Λ2 J 151 1 [1, 0, 1, 0] (aZ [(0, .d (.sl aB.ks a0)), (1, .fn 152 [] [.ptr 2000000000 0]), (7, .d (.int .i64 a1)), (8, .d (.int .i64 a2))] [] [⟨3, [.d (.int .i64 a3)]⟩] [] [])
section
variable (Γ : Fun) (γ152 : Gm (Bool × Int)) (Λ2 J : Lam)
def ahp : aO := bA (aP Γ) 152 iZ γ152
theorem auz (p0 : (List aB)) (p1_0 : Int) : bD SE (ahp Γ γ152) Λ2 J 151 [.d (.sl aB.ks (List.map aB.enc p0)), .fn 152 [] [.ptr 2000000000 0]] [⟨3, [.d (.int .i64 p1_0)]⟩] [] =
 akj (ahp Γ γ152) Λ2 J (List.map aB.enc p0) (List.length (List.map aB.enc p0) : Int) 0 p1_0 := by kernel_rfl
theorem aqc (x0 : (List aB)) (x7 : Int) (x8 : Int) (q0_0 : Int) : cB SE (ahp Γ γ152) Λ2 J 151 1 [1, 0, 1, 0] (aZ [(0, .d (.sl aB.ks (List.map aB.enc x0))), (1, .fn 152 [] [.ptr 2000000000 0]), (7, .d (.int .i64 x7)), (8, .d (.int .i64 x8))] [] [⟨3, [.d (.int .i64 q0_0)]⟩] [] []) =
 cond (decide (x8 < x7)) (
 cond (decide (0 ≤ x8) && decide (x8 < (List.length (List.map aB.enc x0) : Int))) (
  γ152 [.agg [.d (.int .i64 (aL (cellAt (elemAt (List.map aB.enc x0) (Int.toNat x8)) 0))), .d (.int .i64 (aL (cellAt (elemAt (List.map aB.enc x0) (Int.toNat x8)) 1))), .d (.str (aV (cellAt (elemAt (List.map aB.enc x0) (Int.toNat x8)) 2))), .d (.str (aV (cellAt (elemAt (List.map aB.enc x0) (Int.toNat x8)) 3))), .d (.int .i64 (aL (cellAt (elemAt (List.map aB.enc x0) (Int.toNat x8)) 4))), .d (.bool (bB (cellAt (elemAt (List.map aB.enc x0) (Int.toNat x8)) 5))), .d (.int .i64 (aL (cellAt (elemAt (List.map aB.enc x0) (Int.toNat x8)) 6))), .d (.int .i64 (aL (cellAt (elemAt (List.map aB.enc x0) (Int.toNat x8)) 7))), .d (.str (aV (cellAt (elemAt (List.map aB.enc x0) (Int.toNat x8)) 8))), .d (.int .i64 (aL (cellAt (elemAt (List.map aB.enc x0) (Int.toNat x8)) 9))), .d (.sl aC.ks (dSl (cellAt (elemAt (List.map aB.enc x0) (Int.toNat x8)) 10)))], .ptr 2000000000 0] [⟨3, [.d (.int .i64 q0_0)]⟩] [] fun r0 =>
  cond r0.1 (
  (some (.ret [.d (.int .i64 x8)] [⟨3, [.d (.int .i64 r0.2)]⟩] []))) (
  akj (ahp Γ γ152) Λ2 J (List.map aB.enc x0) x7 (IntKind.wrap .i64 (x8 + 1)) r0.2)) none) (
 (some (.ret [.d (.int .i64 (-1))] [⟨3, [.d (.int .i64 q0_0)]⟩] []))) := by kernel_rfl
end
abbrev alB : aO := ahp gG (cT 152 iZ)
theorem aoJ : alB = aP gG := by unfold alB ahp; rw [aK fun _ h => h]
noncomputable abbrev aqC (a0 : (List (List D))) (a1 : Int) (a2 : Int) (a3 : Int) : Res := akj alB (bV SE gG (SE.hl 151) (SE.hr 151)) (J0 SE alB) a0 a1 a2 a3
theorem iD : ∀ (fu : Nat) (x0 : (List aB)) (x7 : Int) (x8 : Int) (q0_0 : Int), Le (Option.map bL (bM fu x0 x7 x8 q0_0)) (aqC (List.map aB.enc x0) x7 x8 q0_0) := by
 intro fu
 induction fu with
 | zero => intros; exact le_none
 | succ fu ih =>
  intro x0 x7 x8 q0_0
  refine Le.trans ?_ (le_of_eq ((bC aoJ).trans (aqc _ _ _ _  x0 x7 x8 q0_0)).symm)
  unfold bM
  refine lC ?_ ?_
  ·refine lG (by simp only [EN]) ?_
   refine aM (good := good) eX adD (by first | (simp only [EN]; exact xQ (List.getD x0 (Int.toNat x8) default) q0_0) | exact xQ (List.getD x0 (Int.toNat x8) default) q0_0) fun r0 _ => ?_
   refine lC ?_ ?_
   ·exact aH rfl
   ·exact ih x0 x7 (IntKind.wrap .i64 (x8 + 1)) r0.2
  ·exact aH rfl
theorem oX (p0 : (List aB)) (p1_0 : Int) : Le (Option.map bL (dH p0 p1_0)) (aY SE 151 [.d (.sl aB.ks (List.map aB.enc p0)), .fn 152 [] [.ptr 2000000000 0]] [⟨3, [.d (.int .i64 p1_0)]⟩] []) := by
 refine aR aoJ rfl ?_
 refine Le.trans ?_ (le_of_eq (auz _ _ _ _  p0 p1_0).symm)
 unfold dH
 first | (simp only [EN]; exact iD fuel p0 (List.length p0 : Int) 0 p1_0) | exact iD fuel p0 (List.length p0 : Int) 0 p1_0
section
variable (Γ : Fun) (γ151 : Gm (Int × Int)) (Λ2 J : Lam)
def anZ : aO := bA (aP Γ) 151 bL γ151
theorem avU (p0 : (List aB)) (p1 : Int) : bD SE (anZ Γ γ151) Λ2 J 109 [.d (.sl aB.ks (List.map aB.enc p0)), .d (.int .i64 p1)] [] [] =
 γ151 [.d (.sl aB.ks (List.map aB.enc p0)), .fn 152 [] [.ptr 2000000000 0]] [⟨3, [.d (.int .i64 p1)]⟩] [] fun r0 =>
 (some (.ret [.d (.int .i64 r0.1)] [] [])) := by kernel_rfl
end
abbrev ar9 : aO := anZ gG (cT 151 bL)
theorem asD : ar9 = aP gG := by unfold ar9 anZ; rw [aK fun _ h => h]
theorem tV (p0 : (List aB)) (p1 : Int) : Le (Option.map gJ (n9 p0 p1)) (aY SE 109 [.d (.sl aB.ks (List.map aB.enc p0)), .d (.int .i64 p1)] [] []) := by
 refine aR asD rfl ?_
 refine Le.trans ?_ (le_of_eq (avU _ _ _ _  p0 p1).symm)
 unfold n9
 refine aM (good := good) eX oE (oX _ _) fun r0 _ => ?_
 exact aH rfl
theorem xE (p0 : (List Int)) (p1 : Int) (p2 : Int) : Le (Option.map dQ (rZ p0 p1 p2)) (aY SE 176 [.row 2000000000, .d (.int .i64 p1), .d (.int .i64 p2)] [] [⟨[.int .i64], 3, 8, (List.map (encI .i64) p0)⟩]) := ain (f := 176) (enc := (encI .i64)) rfl rfl p0 p1 p2
section
variable (Γ : Fun) (γ104 : Gm ((List Int))) (γ175 : Gm (Int × Bool)) (γ176 : Gm ((List Int))) (Λ2 J : Lam)
def ano : aO := bA (bA (bA (aP Γ) 104 bO γ104) 175 bI γ175) 176 dQ γ176
theorem avd (p0 : aJ) (p1 : Int) : bD SE (ano Γ γ104 γ175 γ176) Λ2 J 154 [aJ.av p0, .d (.int .i64 p1)] [] [] =
 γ104 [.d (.sl [.int .i64] (List.map (encI .i64) p0.Used))] [] [] fun r0 =>
 γ175 [.d (.sl [.int .i64] (List.map (encI .i64) r0)), .d (.int .i64 p1)] [] [] fun r1 =>
 cond r1.2 (
 γ176 [.row 2000000000, .d (.int .i64 r1.1), .d (.int .i64 (IntKind.wrap .i64 (r1.1 + 1)))] [] [⟨[.int .i64], 3, 8, (List.map (encI .i64) r0)⟩] fun r2 =>
 (some (.ret [.agg [.row 0, .d (.int .i64 p0.Last)], .d (.bool r1.2)] [] [⟨[.int .i64], 3, 8, (List.map (encI .i64) r2)⟩]))) (
 (some (.ret [.agg [.row 0, .d (.int .i64 p0.Last)], .d (.bool r1.2)] [] [⟨[.int .i64], 3, 8, (List.map (encI .i64) r0)⟩]))) := by kernel_rfl
end
abbrev arZ : aO := ano gG (cT 104 bO) (cT 175 bI) (cT 176 dQ)
theorem atm : arZ = aP gG := by unfold arZ ano; rw [aK fun _ h => h, aK fun _ h => h, aK fun _ h => h]
theorem adr (p0 : aJ) (p1 : Int) : Le (Option.map nG (acP p0 p1)) (aY SE 154 [aJ.av p0, .d (.int .i64 p1)] [] []) := by
 refine aR atm rfl ?_
 refine Le.trans ?_ (le_of_eq (avd _ _ _ _ _ _  p0 p1).symm)
 unfold acP
 refine aM (good := good) eX fQ (fY _) fun r0 _ => ?_
 refine aM (good := good) eX iK (jD _ _) fun r1 _ => ?_
 refine lC ?_ ?_
 ·refine aM (good := good) eX wE (xE _ _ _) fun r2 _ => ?_
  exact aH rfl
 ·exact aH rfl
theorem pT (p0 : (List aB)) (p1 : Int) (p2 : Int) : Le (Option.map cA (kT p0 p1 p2)) (aY SE 155 [.row 2000000000, .d (.int .i64 p1), .d (.int .i64 p2)] [] [⟨aB.ks, 122, 128, (List.map aB.enc p0)⟩]) := ain (f := 155) (enc := aB.enc) rfl rfl p0 p1 p2
section
variable (Γ : Fun) (γ154 : Gm (aJ × Bool)) (γ110 : Gm (aG)) (γ155 : Gm ((List aB))) (Λ2 J : Lam)
def anK : aO := bA (bA (bA (aP Γ) 154 nG γ154) 110 dA γ110) 155 cA γ155
theorem avl (p0 : aG) (p1 : Int) : bD SE (anK Γ γ154 γ110 γ155) Λ2 J 111 [aG.av p0, .d (.int .i64 p1)] [] [] =
 cond (decide (0 ≤ p1) && decide (p1 < (List.length (List.map aB.enc p0.Items) : Int))) (
 γ154 [aJ.av p0.Pool, .d (.int .i64 (aL (cellAt (elemAt (List.map aB.enc p0.Items) (Int.toNat p1)) 0)))] [] [] fun r0 =>
 γ110 [aG.av p0] [] [] fun r1 =>
 γ155 [.row 2000000000, .d (.int .i64 p1), .d (.int .i64 (IntKind.wrap .i64 (p1 + 1)))] [] [⟨aB.ks, 122, 128, (List.map aB.enc r1.Items)⟩] fun r2 =>
 (some (.ret [.agg [.d (.int .i64 r1.Limit), .row 0, .row 1, .d (.int .i64 r0.1.Last)]] [] [⟨aB.ks, 122, 128, (List.map aB.enc r2)⟩, ⟨[.int .i64], 3, 8, (List.map (encI .i64) r0.1.Used)⟩]))) none := by kernel_rfl
end
abbrev apQ : aO := anK gG (cT 154 nG) (cT 110 dA) (cT 155 cA)
theorem asU : apQ = aP gG := by unfold apQ anK; rw [aK fun _ h => h, aK fun _ h => h, aK fun _ h => h]
theorem xP (p0 : aG) (p1 : Int) : Le (Option.map iX (rB p0 p1)) (aY SE 111 [aG.av p0, .d (.int .i64 p1)] [] []) := by
 refine aR asU rfl ?_
 refine Le.trans ?_ (le_of_eq (avl _ _ _ _ _ _  p0 p1).symm)
 unfold rB
 refine lG (by simp only [EN]) ?_
 refine aM (good := good) eX ahL (by first | (simp only [EN]; exact adr p0.Pool ((List.getD p0.Items (Int.toNat p1) default).ID)) | exact adr p0.Pool ((List.getD p0.Items (Int.toNat p1) default).ID)) fun r0 _ => ?_
 refine aM (good := good) eX j0 (kG _) fun r1 _ => ?_
 refine aM (good := good) eX pN (pT _ _ _) fun r2 _ => ?_
 exact aH rfl
section
variable (Γ : Fun)  (Λ2 J : Lam)
def are : aO := aP Γ
theorem avb (p0 : Int) : bD SE (are Γ) Λ2 J 112 [.d (.int .i64 p0)] [] [] =
 (some (.ret [.agg [.d (.int .i64 6), .d (.int .i64 p0), .d (.bool false), .d (.str ([] : Str)), .d (.str ([] : Str)), .d (.int .i64 0), .d (.bool false), .d (.int .i64 0), .d (.int .i64 0), .d (.str ([] : Str)), .d (.int .i64 0), .row 0, .d (.str ([] : Str)), .d (.str ([] : Str)), .d (.bool false), .d (.int .i64 0), .d (.int .i64 0), .d (.int .i64 0), .d (.bool false), .d (.int .i64 0), .d (.str ([] : Str)), .d (.str ([] : Str)), .d (.int .i64 0), .d (.bool false), .d (.int .i64 0), .d (.int .i64 0), .d (.str ([] : Str)), .d (.int .i64 0), .row 1, .d (.bool false), .d (.int .i64 0), .row 2, .row 3, .row 4]] [] [⟨aC.ks, 130, 32, (List.map aC.enc [])⟩, ⟨aC.ks, 130, 32, (List.map aC.enc [])⟩, ⟨aF.ks, 60, 32, (List.map aF.enc [])⟩, ⟨[.str], 9, 16, (List.map bF [])⟩, ⟨[.int .i64], 3, 8, (List.map (encI .i64) [])⟩])) := by kernel_rfl
end
abbrev av7 : aO := are gG
theorem atz : av7 = aP gG := rfl
theorem oG (p0 : Int) : Le (Option.map fB (oM p0)) (aY SE 112 [.d (.int .i64 p0)] [] []) := by
 refine aR atz rfl ?_
 refine Le.trans ?_ (le_of_eq (avb _ _ _  p0).symm)
 unfold oM
 exact aH rfl
def alq (C : aO) (Λ2 J : Lam) (a0 : Int) (a1 : (List D)) (a2 : (List D)) (a3 : (List D)) (a4 : (List D)) : Res := lab SE C Λ2 J 60 0 [1, 1, 1, 1, 0, 0] (aZ [(2, .ptr 1000000000 0), (3, .ptr 1000000001 0), (4, .ptr 1000000002 0), (7, .d (.int .i64 a0)), (8, .ptr 1000000003 0)] [⟨29, (List.map AV.d a1)⟩, ⟨49, (List.map AV.d a2)⟩, ⟨29, (List.map AV.d a3)⟩, ⟨122, (List.map AV.d a4)⟩] [] [] [])
section
variable (Γ : Fun) (γ109 : Gm (Int)) (γ110 : Gm (aG)) (γ111 : Gm (aG)) (γ112 : Gm (aE)) (Λ2 J : Lam)
def C60 : aO := bA (bA (bA (bA (aP Γ) 109 gJ γ109) 110 dA γ110) 111 iX γ111) 112 fB γ112
theorem T60 (p0 : aG) (p1 : aE) : bD SE (C60 Γ γ109 γ110 γ111 γ112) Λ2 J 60 [aG.av p0, aE.av p1] [] [] =
 γ109 [.d (.sl aB.ks (List.map aB.enc p0.Items)), .d (.int .i64 p1.ID)] [] [] fun r0 =>
 cond (decide (r0 ≥ 0)) (
 cond (decide (0 ≤ r0) && decide (r0 < (List.length (List.map aB.enc p0.Items) : Int))) (
  alq (C60 Γ γ109 γ110 γ111 γ112) Λ2 J r0 (aG.enc p0) (aE.enc p1) [D.int .i64 0, D.sl aB.ks (List.map aB.enc []), D.sl [.int .i64] (List.map (encI .i64) []), D.int .i64 0] [D.int .i64 (aL (cellAt (elemAt (List.map aB.enc p0.Items) (Int.toNat r0)) 0)), D.int .i64 (aL (cellAt (elemAt (List.map aB.enc p0.Items) (Int.toNat r0)) 1)), D.str (aV (cellAt (elemAt (List.map aB.enc p0.Items) (Int.toNat r0)) 2)), D.str (aV (cellAt (elemAt (List.map aB.enc p0.Items) (Int.toNat r0)) 3)), D.int .i64 (aL (cellAt (elemAt (List.map aB.enc p0.Items) (Int.toNat r0)) 4)), D.bool (bB (cellAt (elemAt (List.map aB.enc p0.Items) (Int.toNat r0)) 5)), D.int .i64 (aL (cellAt (elemAt (List.map aB.enc p0.Items) (Int.toNat r0)) 6)), D.int .i64 (aL (cellAt (elemAt (List.map aB.enc p0.Items) (Int.toNat r0)) 7)), D.str (aV (cellAt (elemAt (List.map aB.enc p0.Items) (Int.toNat r0)) 8)), D.int .i64 (aL (cellAt (elemAt (List.map aB.enc p0.Items) (Int.toNat r0)) 9)), D.sl aC.ks (dSl (cellAt (elemAt (List.map aB.enc p0.Items) (Int.toNat r0)) 10))]) none) (
 alq (C60 Γ γ109 γ110 γ111 γ112) Λ2 J r0 (aG.enc p0) (aE.enc p1) [D.int .i64 0, D.sl aB.ks (List.map aB.enc []), D.sl [.int .i64] (List.map (encI .i64) []), D.int .i64 0] [D.int .i64 0, D.int .i64 0, D.str ([] : Str), D.str ([] : Str), D.int .i64 0, D.bool false, D.int .i64 0, D.int .i64 0, D.str ([] : Str), D.int .i64 0, D.sl aC.ks (List.map aC.enc [])]) := by kernel_rfl
theorem atj (x7 : Int) (b0 : aG) (b1 : aE) (b2 : aG) (b3 : aB) : cB SE (C60 Γ γ109 γ110 γ111 γ112) Λ2 J 60 0 [1, 1, 1, 1, 0, 0] (aZ [(2, .ptr 1000000000 0), (3, .ptr 1000000001 0), (4, .ptr 1000000002 0), (7, .d (.int .i64 x7)), (8, .ptr 1000000003 0)] [⟨29, (List.map AV.d (aG.enc b0))⟩, ⟨49, (List.map AV.d (aE.enc b1))⟩, ⟨29, (List.map AV.d (aG.enc b2))⟩, ⟨122, (List.map AV.d (aB.enc b3))⟩] [] [] []) =
 cond (b1.Kind == 4) (
 cond (decide (x7 < 0)) (
  γ110 [aG.av b0] [] [] fun r1 =>
  (some (.ret [.agg [.d (.int .i64 r1.Limit), .row 0, .row 1, .d (.int .i64 r1.Pool.Last)], .row 2, .d (.int .i64 0)] [] [⟨aB.ks, 122, 128, (List.map aB.enc r1.Items)⟩, ⟨[.int .i64], 3, 8, (List.map (encI .i64) r1.Pool.Used)⟩, ⟨aE.ks, 49, 416, []⟩]))) (
 cond (b3.Message.Level == 1) (
  γ111 [aG.av b0, .d (.int .i64 x7)] [] [] fun r2 =>
  (some (.ret [.agg [.d (.int .i64 r2.Limit), .row 0, .row 1, .d (.int .i64 r2.Pool.Last)], .row 2, .d (.int .i64 0)] [] [⟨aB.ks, 122, 128, (List.map aB.enc r2.Items)⟩, ⟨[.int .i64], 3, 8, (List.map (encI .i64) r2.Pool.Used)⟩, ⟨aE.ks, 49, 416, []⟩]))) (
 (some (.ret [.agg [.d (.int .i64 0), .row 0, .row 1, .d (.int .i64 0)], .row 2, .d (.int .i64 23)] [] [⟨aB.ks, 122, 128, (List.map aB.enc [])⟩, ⟨[.int .i64], 3, 8, (List.map (encI .i64) [])⟩, ⟨aE.ks, 49, 416, []⟩]))))) (
 cond (b1.Kind == 5) (
 cond (decide (x7 < 0)) (
  γ110 [aG.av b0] [] [] fun r3 =>
  γ112 [.d (.int .i64 b1.ID)] [] [] fun r4 =>
  (some (.ret [.agg [.d (.int .i64 r3.Limit), .row 0, .row 1, .d (.int .i64 r3.Pool.Last)], .row 2, .d (.int .i64 0)] [] [⟨aB.ks, 122, 128, (List.map aB.enc r3.Items)⟩, ⟨[.int .i64], 3, 8, (List.map (encI .i64) r3.Pool.Used)⟩, ⟨aE.ks, 49, 416, (List.map aE.enc [r4])⟩]))) (
 cond (b3.Message.Level == 2) (
  γ110 [aG.av b0] [] [] fun r5 =>
  cond (decide (0 ≤ x7) && decide (x7 < (List.length (List.map aB.enc r5.Items) : Int))) (
  γ112 [.d (.int .i64 b1.ID)] [] [] fun r6 =>
  (some (.ret [.agg [.d (.int .i64 r5.Limit), .row 0, .row 1, .d (.int .i64 r5.Pool.Last)], .row 2, .d (.int .i64 0)] [] [⟨aB.ks, 122, 128, (gT (List.map aB.enc r5.Items) (Int.toNat x7) 1 [D.int .i64 2])⟩, ⟨[.int .i64], 3, 8, (List.map (encI .i64) r5.Pool.Used)⟩, ⟨aE.ks, 49, 416, (List.map aE.enc [r6])⟩]))) none) (
 (some (.ret [.agg [.d (.int .i64 0), .row 0, .row 1, .d (.int .i64 0)], .row 2, .d (.int .i64 23)] [] [⟨aB.ks, 122, 128, (List.map aB.enc [])⟩, ⟨[.int .i64], 3, 8, (List.map (encI .i64) [])⟩, ⟨aE.ks, 49, 416, []⟩]))))) (
 cond (b1.Kind == 7) (
 cond (decide (x7 < 0)) (
  γ110 [aG.av b0] [] [] fun r7 =>
  (some (.ret [.agg [.d (.int .i64 r7.Limit), .row 0, .row 1, .d (.int .i64 r7.Pool.Last)], .row 2, .d (.int .i64 0)] [] [⟨aB.ks, 122, 128, (List.map aB.enc r7.Items)⟩, ⟨[.int .i64], 3, 8, (List.map (encI .i64) r7.Pool.Used)⟩, ⟨aE.ks, 49, 416, []⟩]))) (
 cond (b3.State == 2) (
  γ111 [aG.av b0, .d (.int .i64 x7)] [] [] fun r8 =>
  (some (.ret [.agg [.d (.int .i64 r8.Limit), .row 0, .row 1, .d (.int .i64 r8.Pool.Last)], .row 2, .d (.int .i64 0)] [] [⟨aB.ks, 122, 128, (List.map aB.enc r8.Items)⟩, ⟨[.int .i64], 3, 8, (List.map (encI .i64) r8.Pool.Used)⟩, ⟨aE.ks, 49, 416, []⟩]))) (
 (some (.ret [.agg [.d (.int .i64 0), .row 0, .row 1, .d (.int .i64 0)], .row 2, .d (.int .i64 23)] [] [⟨aB.ks, 122, 128, (List.map aB.enc [])⟩, ⟨[.int .i64], 3, 8, (List.map (encI .i64) [])⟩, ⟨aE.ks, 49, 416, []⟩]))))) (
 (some (.ret [.agg [.d (.int .i64 0), .row 0, .row 1, .d (.int .i64 0)], .row 2, .d (.int .i64 10)] [] [⟨aB.ks, 122, 128, (List.map aB.enc [])⟩, ⟨[.int .i64], 3, 8, (List.map (encI .i64) [])⟩, ⟨aE.ks, 49, 416, []⟩]))))) := by kernel_rfl
end
abbrev X60 : aO := C60 gG (cT 109 gJ) (cT 110 dA) (cT 111 iX) (cT 112 fB)
theorem aru : X60 = aP gG := by unfold X60 C60; rw [aK fun _ h => h, aK fun _ h => h, aK fun _ h => h, aK fun _ h => h]
noncomputable abbrev as3 (a0 : Int) (a1 : (List D)) (a2 : (List D)) (a3 : (List D)) (a4 : (List D)) : Res := alq X60 (bV SE gG (SE.hl 60) (SE.hr 60)) (J0 SE X60) a0 a1 a2 a3 a4
theorem l3 (x7 : Int) (b0 : aG) (b1 : aE) (b2 : aG) (b3 : aB) : Le (Option.map e9 (oP x7 b0 b1 b2 b3)) (as3 x7 (aG.enc b0) (aE.enc b1) (aG.enc b2) (aB.enc b3)) := by
 refine Le.trans ?_ (le_of_eq ((bC aru).trans (atj _ _ _ _ _ _ _  x7 b0 b1 b2 b3)).symm)
 unfold oP
 refine lC ?_ ?_
 ·refine lC ?_ ?_
  ·refine aM (good := good) eX j0 (kG _) fun r1 _ => ?_
   exact aH rfl
  ·refine lC ?_ ?_
   ·refine aM (good := good) eX v7 (xP _ _) fun r2 _ => ?_
    exact aH rfl
   ·exact aH rfl
 ·refine lC ?_ ?_
  ·refine lC ?_ ?_
   ·refine aM (good := good) eX j0 (kG _) fun r3 _ => ?_
    refine aM (good := good) eX qS (oG _) fun r4 _ => ?_
    exact aH rfl
   ·refine lC ?_ ?_
    ·refine aM (good := good) eX j0 (kG _) fun r5 _ => ?_
     refine lG (by simp only [EN]) ?_
     refine aM (good := good) eX qS (oG _) fun r6 _ => ?_
     exact aH (by first | rfl | simp only [EN, e9] <;> rfl)
    ·exact aH rfl
  ·refine lC ?_ ?_
   ·refine lC ?_ ?_
    ·refine aM (good := good) eX j0 (kG _) fun r7 _ => ?_
     exact aH rfl
    ·refine lC ?_ ?_
     ·refine aM (good := good) eX v7 (xP _ _) fun r8 _ => ?_
      exact aH rfl
     ·exact aH rfl
   ·exact aH rfl
theorem aeF (p0 : aG) (p1 : aE) : Le (Option.map e9 (vS p0 p1)) (aY SE 60 [aG.av p0, aE.av p1] [] []) := by
 refine aR aru rfl ?_
 refine Le.trans ?_ (le_of_eq (T60 _ _ _ _ _ _ _  p0 p1).symm)
 unfold vS
 refine aM (good := good) eX yQ (tV _ _) fun r0 _ => ?_
 refine lC ?_ ?_
 ·refine lG (by simp only [EN]) ?_
  first | (simp only [EN]; exact l3 r0 p0 p1 ((aG.mk 0 ([] : List aB) (aJ.mk ([] : List Int) 0))) (List.getD p0.Items (Int.toNat r0) default)) | exact l3 r0 p0 p1 ((aG.mk 0 ([] : List aB) (aJ.mk ([] : List Int) 0))) (List.getD p0.Items (Int.toNat r0) default)
 ·first | (simp only [EN]; exact l3 r0 p0 p1 ((aG.mk 0 ([] : List aB) (aJ.mk ([] : List Int) 0))) ((aB.mk 0 0 (aA.mk ([] : Str) ([] : Str) 0 false 0 0 ([] : Str) 0 ([] : List aC))))) | exact l3 r0 p0 p1 ((aG.mk 0 ([] : List aB) (aJ.mk ([] : List Int) 0))) ((aB.mk 0 0 (aA.mk ([] : Str) ([] : Str) 0 false 0 0 ([] : Str) 0 ([] : List aC))))
section
variable (Γ : Fun) (γ60 : Gm (aG × (List aE) × Int)) (γ50 : Gm (aD)) (γ61 : Gm (aD × (List aE))) (Λ2 J : Lam)
def C19 : aO := bA (bA (bA (aP Γ) 60 e9 γ60) 50 bU γ50) 61 dS γ61
theorem T19 (p0 : aD) (p1 : aE) (p2 : Int) : bD SE (C19 Γ γ60 γ50 γ61) Λ2 J 19 [aD.av p0, aE.av p1, .d (.int .i64 p2)] [] [] =
 γ60 [aG.av p0.Out, aE.av p1] [] [] fun r0 =>
 cond (r0.2.2 != 0) (
 (some (.ret [.agg [.d (.str ([] : Str)), .d (.str ([] : Str)), .d (.bool false), .d (.int .i64 0), .d (.int .i64 0), .d (.int .i64 0), .d (.int .i64 0), .d (.sl aF.ks (List.map aF.enc [])), .d (.sl aA.ks (List.map aA.enc [])), .d (.int .i64 0), .d (.sl aB.ks (List.map aB.enc [])), .d (.sl [.int .i64] (List.map (encI .i64) [])), .d (.int .i64 0), .d (.sl [.int .i64] (List.map (encI .i64) [])), .d (.bool false), .d (.int .i64 0), .d (.str ([] : Str)), .d (.str ([] : Str)), .d (.int .i64 0), .d (.bool false), .d (.int .i64 0), .d (.int .i64 0), .d (.str ([] : Str)), .d (.int .i64 0), .d (.sl aC.ks (List.map aC.enc []))], .row 0, .d (.int .i64 r0.2.2)] [] [⟨aE.ks, 49, 416, []⟩]))) (
 γ50 [aD.av p0] [] [] fun r1 =>
 cond (!p0.Online) (
 (some (.ret [aD.av (aD.mk r1.Client r1.User r1.Online r1.Conn r1.Expiry r1.Until r1.Dropped r1.Subs r1.Queue r0.1 r1.In r1.Will), .row 0, .d (.int .i64 0)] [] [⟨aE.ks, 49, 416, (List.map aE.enc r0.2.1)⟩]))) (
 γ61 [aD.av (aD.mk r1.Client r1.User r1.Online r1.Conn r1.Expiry r1.Until r1.Dropped r1.Subs r1.Queue r0.1 r1.In r1.Will), .d (.int .i64 p2), .row 2000000000] [] [⟨aE.ks, 49, 416, (List.map aE.enc r0.2.1)⟩] fun r2 =>
 (some (.ret [aD.av r2.1, .row 0, .d (.int .i64 0)] [] [⟨aE.ks, 49, 416, (List.map aE.enc r2.2)⟩])))) := by kernel_rfl
end
abbrev X19 : aO := C19 gG (cT 60 e9) (cT 50 bU) (cT 61 dS)
theorem au7 : X19 = aP gG := by unfold X19 C19; rw [aK fun _ h => h, aK fun _ h => h, aK fun _ h => h]
theorem yP (p0 : aD) (p1 : aE) (p2 : Int) : Le (Option.map jX (wH p0 p1 p2)) (aY SE 19 [aD.av p0, aE.av p1, .d (.int .i64 p2)] [] []) := by
 refine aR au7 rfl ?_
 refine Le.trans ?_ (le_of_eq (T19 _ _ _ _ _ _  p0 p1 p2).symm)
 unfold wH
 refine aM (good := good) eX ady (aeF _ _) fun r0 _ => ?_
 refine lC ?_ ?_
 ·exact aH rfl
 ·refine aM (good := good) eX iH (jJ _) fun r1 _ => ?_
  refine lC ?_ ?_
  ·exact aH rfl
  ·refine aM (good := good) eX tY (qX _ _ _) fun r2 _ => ?_
   exact aH rfl
section
variable (Γ : Fun)  (Λ2 J : Lam)
def C65 : aO := aP Γ
theorem T65 (p0 : aA) : bD SE (C65 Γ) Λ2 J 65 [aA.av p0] [] [] =
 (some (.ret [.d (.bool (p0.Level == 0))] [] [])) := by kernel_rfl
end
abbrev X65 : aO := C65 gG
theorem awa : X65 = aP gG := rfl
theorem mU (p0 : aA) : Le (Option.map eF (pB p0)) (aY SE 65 [aA.av p0] [] []) := by
 refine aR awa rfl ?_
 refine Le.trans ?_ (le_of_eq (T65 _ _ _  p0).symm)
 unfold pB
 exact aH rfl
def aj0 (C : aO) (Λ2 J : Lam) (a0 : (List (List D))) (a1 : Int) (a2 : Int) : Res := lab SE C Λ2 J 123 0 [1, 0, 1, 0] (aZ [(0, .d (.sl aA.ks a0)), (1, .fn 65 [] []), (7, .d (.int .i64 a1)), (8, .d (.int .i64 a2))] [] [] [] [])
section
variable (Γ : Fun) (γ65 : Gm (Bool)) (Λ2 J : Lam)
def aho : aO := bA (aP Γ) 65 eF γ65
theorem awo (p0 : (List aA)) : bD SE (aho Γ γ65) Λ2 J 123 [.d (.sl aA.ks (List.map aA.enc p0)), .fn 65 [] []] [] [] =
 aj0 (aho Γ γ65) Λ2 J (List.map aA.enc p0) (List.length (List.map aA.enc p0) : Int) 0 := by kernel_rfl
theorem ap9 (x0 : (List aA)) (x7 : Int) (x8 : Int) : cB SE (aho Γ γ65) Λ2 J 123 0 [1, 0, 1, 0] (aZ [(0, .d (.sl aA.ks (List.map aA.enc x0))), (1, .fn 65 [] []), (7, .d (.int .i64 x7)), (8, .d (.int .i64 x8))] [] [] [] []) =
 cond (decide (x8 < x7)) (
 cond (decide (0 ≤ x8) && decide (x8 < (List.length (List.map aA.enc x0) : Int))) (
  γ65 [.agg [.d (.str (aV (cellAt (elemAt (List.map aA.enc x0) (Int.toNat x8)) 0))), .d (.str (aV (cellAt (elemAt (List.map aA.enc x0) (Int.toNat x8)) 1))), .d (.int .i64 (aL (cellAt (elemAt (List.map aA.enc x0) (Int.toNat x8)) 2))), .d (.bool (bB (cellAt (elemAt (List.map aA.enc x0) (Int.toNat x8)) 3))), .d (.int .i64 (aL (cellAt (elemAt (List.map aA.enc x0) (Int.toNat x8)) 4))), .d (.int .i64 (aL (cellAt (elemAt (List.map aA.enc x0) (Int.toNat x8)) 5))), .d (.str (aV (cellAt (elemAt (List.map aA.enc x0) (Int.toNat x8)) 6))), .d (.int .i64 (aL (cellAt (elemAt (List.map aA.enc x0) (Int.toNat x8)) 7))), .d (.sl aC.ks (dSl (cellAt (elemAt (List.map aA.enc x0) (Int.toNat x8)) 8)))]] [] [] fun r0 =>
  cond r0 (
  (some (.ret [.d (.int .i64 x8)] [] []))) (
  aj0 (aho Γ γ65) Λ2 J (List.map aA.enc x0) x7 (IntKind.wrap .i64 (x8 + 1)))) none) (
 (some (.ret [.d (.int .i64 (-1))] [] []))) := by kernel_rfl
end
abbrev ak7 : aO := aho gG (cT 65 eF)
theorem aoW : ak7 = aP gG := by unfold ak7 aho; rw [aK fun _ h => h]
noncomputable abbrev aqW (a0 : (List (List D))) (a1 : Int) (a2 : Int) : Res := aj0 ak7 (bV SE gG (SE.hl 123) (SE.hr 123)) (J0 SE ak7) a0 a1 a2
theorem g9 : ∀ (fu : Nat) (x0 : (List aA)) (x7 : Int) (x8 : Int), Le (Option.map bJ (cX fu x0 x7 x8)) (aqW (List.map aA.enc x0) x7 x8) := by
 intro fu
 induction fu with
 | zero => intros; exact le_none
 | succ fu ih =>
  intro x0 x7 x8
  refine Le.trans ?_ (le_of_eq ((bC aoW).trans (ap9 _ _ _ _  x0 x7 x8)).symm)
  unfold cX
  refine lC ?_ ?_
  ·refine lG (by simp only [EN]) ?_
   refine aM (good := good) eX uO (by first | (simp only [EN]; exact mU (List.getD x0 (Int.toNat x8) default)) | exact mU (List.getD x0 (Int.toNat x8) default)) fun r0 _ => ?_
   refine lC ?_ ?_
   ·exact aH rfl
   ·exact ih x0 x7 (IntKind.wrap .i64 (x8 + 1))
  ·exact aH rfl
theorem n4 (p0 : (List aA)) : Le (Option.map bJ (eZ p0)) (aY SE 123 [.d (.sl aA.ks (List.map aA.enc p0)), .fn 65 [] []] [] []) := by
 refine aR aoW rfl ?_
 refine Le.trans ?_ (le_of_eq (awo _ _ _ _  p0).symm)
 unfold eZ
 first | (simp only [EN]; exact g9 fuel p0 (List.length p0 : Int) 0) | exact g9 fuel p0 (List.length p0 : Int) 0
def ai4 (C : aO) (Λ2 J : Lam) (a0 : Int) (a1 : Int) (a2 : (List (List D))) : Res := lab SE C Λ2 J 64 0 [1, 1, 1, 0, 1, 0] (aZ [(0, .row 3000), (1, .fn 65 [] []), (5, .d (.int .i64 a0)), (6, .d (.int .i64 a1))] [] [] [] [(3000, ⟨aA.ks, 34, 112, a2⟩)])
section
variable (Γ : Fun) (γ123 : Gm (Int)) (γ65 : Gm (Bool)) (Λ2 J : Lam)
def C64 : aO := bA (bA (aP Γ) 123 bJ γ123) 65 eF γ65
theorem T64 (p0 : (List aA)) : bD SE (C64 Γ γ123 γ65) Λ2 J 64 [.row 2000000000, .fn 65 [] []] [] [⟨aA.ks, 34, 112, (List.map aA.enc p0)⟩] =
 γ123 [.d (.sl aA.ks (List.map aA.enc p0)), .fn 65 [] []] [] [] fun r0 =>
 cond (r0 == (-1)) (
 (some (.ret [.row 0] [] [⟨aA.ks, 34, 112, (List.map aA.enc p0)⟩]))) (
 ai4 (C64 Γ γ123 γ65) Λ2 J r0 (IntKind.wrap .i64 (r0 + 1)) (List.map aA.enc p0)) := by kernel_rfl
theorem at5 (x5 : Int) (x6 : Int) (w3000 : (List aA)) : cB SE (C64 Γ γ123 γ65) Λ2 J 64 0 [1, 1, 1, 0, 1, 0] (aZ [(0, .row 3000), (1, .fn 65 [] []), (5, .d (.int .i64 x5)), (6, .d (.int .i64 x6))] [] [] [] [(3000, ⟨aA.ks, 34, 112, (List.map aA.enc w3000)⟩)]) =
 cond (decide (x6 < (List.length (List.map aA.enc w3000) : Int))) (
 cond (decide (0 ≤ x6) && decide (x6 < (List.length (List.map aA.enc w3000) : Int))) (
  γ65 [.agg [.d (.str (aV (cellAt (elemAt (List.map aA.enc w3000) (Int.toNat x6)) 0))), .d (.str (aV (cellAt (elemAt (List.map aA.enc w3000) (Int.toNat x6)) 1))), .d (.int .i64 (aL (cellAt (elemAt (List.map aA.enc w3000) (Int.toNat x6)) 2))), .d (.bool (bB (cellAt (elemAt (List.map aA.enc w3000) (Int.toNat x6)) 3))), .d (.int .i64 (aL (cellAt (elemAt (List.map aA.enc w3000) (Int.toNat x6)) 4))), .d (.int .i64 (aL (cellAt (elemAt (List.map aA.enc w3000) (Int.toNat x6)) 5))), .d (.str (aV (cellAt (elemAt (List.map aA.enc w3000) (Int.toNat x6)) 6))), .d (.int .i64 (aL (cellAt (elemAt (List.map aA.enc w3000) (Int.toNat x6)) 7))), .d (.sl aC.ks (dSl (cellAt (elemAt (List.map aA.enc w3000) (Int.toNat x6)) 8)))]] [] [] fun r1 =>
  cond (!r1) (
  cond (decide (0 ≤ x5) && decide (x5 < (List.length (List.map aA.enc w3000) : Int))) (
   ai4 (C64 Γ γ123 γ65) Λ2 J (IntKind.wrap .i64 (x5 + 1)) (IntKind.wrap .i64 (x6 + 1)) ((gT (List.map aA.enc w3000) (Int.toNat x5) 0 [D.str (aV (cellAt (elemAt (List.map aA.enc w3000) (Int.toNat x6)) 0)), D.str (aV (cellAt (elemAt (List.map aA.enc w3000) (Int.toNat x6)) 1)), D.int .i64 (aL (cellAt (elemAt (List.map aA.enc w3000) (Int.toNat x6)) 2)), D.bool (bB (cellAt (elemAt (List.map aA.enc w3000) (Int.toNat x6)) 3)), D.int .i64 (aL (cellAt (elemAt (List.map aA.enc w3000) (Int.toNat x6)) 4)), D.int .i64 (aL (cellAt (elemAt (List.map aA.enc w3000) (Int.toNat x6)) 5)), D.str (aV (cellAt (elemAt (List.map aA.enc w3000) (Int.toNat x6)) 6)), D.int .i64 (aL (cellAt (elemAt (List.map aA.enc w3000) (Int.toNat x6)) 7)), D.sl aC.ks (dSl (cellAt (elemAt (List.map aA.enc w3000) (Int.toNat x6)) 8))]))) none) (
  ai4 (C64 Γ γ123 γ65) Λ2 J x5 (IntKind.wrap .i64 (x6 + 1)) (List.map aA.enc w3000))) none) (
 cond (decide (0 ≤ x5) && decide (x5 ≤ ((List.length (List.map aA.enc w3000)) : Int))) (
 cond (decide (0 ≤ x5) && decide (x5 ≤ (List.length (List.take (Int.toNat x5) (List.map aA.enc w3000) ++ List.replicate ((List.length (List.map aA.enc w3000)) - (Int.toNat x5)) [D.str ([] : Str), D.str ([] : Str), D.int .i64 0, D.bool false, D.int .i64 0, D.int .i64 0, D.str ([] : Str), D.int .i64 0, D.sl aC.ks (List.map aC.enc [])] ++ List.drop ((Int.toNat x5) + ((List.length (List.map aA.enc w3000)) - (Int.toNat x5))) (List.map aA.enc w3000)) : Int))) (
  (some (.ret [.row 0] [] [⟨aA.ks, 34, 112, (List.take (Int.toNat x5) (List.take (Int.toNat x5) (List.map aA.enc w3000) ++ List.replicate ((List.length (List.map aA.enc w3000)) - (Int.toNat x5)) [D.str ([] : Str), D.str ([] : Str), D.int .i64 0, D.bool false, D.int .i64 0, D.int .i64 0, D.str ([] : Str), D.int .i64 0, D.sl aC.ks (List.map aC.enc [])] ++ List.drop ((Int.toNat x5) + ((List.length (List.map aA.enc w3000)) - (Int.toNat x5))) (List.map aA.enc w3000)))⟩]))) none) none) := by kernel_rfl
end
abbrev X64 : aO := C64 gG (cT 123 bJ) (cT 65 eF)
theorem ary : X64 = aP gG := by unfold X64 C64; rw [aK fun _ h => h, aK fun _ h => h]
noncomputable abbrev asx (a0 : Int) (a1 : Int) (a2 : (List (List D))) : Res := ai4 X64 (bV SE gG (SE.hl 64) (SE.hr 64)) (J0 SE X64) a0 a1 a2
theorem mZ : ∀ (fu : Nat) (x5 : Int) (x6 : Int) (w3000 : (List aA)), Le (Option.map bG (cC fu x5 x6 w3000)) (asx x5 x6 (List.map aA.enc w3000)) := by
 intro fu
 induction fu with
 | zero => intros; exact le_none
 | succ fu ih =>
  intro x5 x6 w3000
  refine Le.trans ?_ (le_of_eq ((bC ary).trans (at5 _ _ _ _ _  x5 x6 w3000)).symm)
  unfold cC
  refine lD (by simp only [EN]) ?_ ?_
  ·refine lG (by simp only [EN]) ?_
   refine aM (good := good) eX uO (by first | (simp only [EN]; exact mU (List.getD w3000 (Int.toNat x6) default)) | exact mU (List.getD w3000 (Int.toNat x6) default)) fun r1 _ => ?_
   refine lC ?_ ?_
   ·refine lG (by simp only [EN]) ?_
    first | (simp only [EN]; exact ih (IntKind.wrap .i64 (x5 + 1)) (IntKind.wrap .i64 (x6 + 1)) ((List.set w3000 (Int.toNat x5) (List.getD w3000 (Int.toNat x6) default)))) | exact ih (IntKind.wrap .i64 (x5 + 1)) (IntKind.wrap .i64 (x6 + 1)) ((List.set w3000 (Int.toNat x5) (List.getD w3000 (Int.toNat x6) default)))
   ·exact ih x5 (IntKind.wrap .i64 (x6 + 1)) w3000
  ·refine lG (by simp only [EN]) ?_
   refine lG (by simp only [EN]) ?_
   exact aH (by first | rfl | simp only [EN, bG] <;> rfl)
theorem n3 (p0 : (List aA)) : Le (Option.map bG (eS p0)) (aY SE 64 [.row 2000000000, .fn 65 [] []] [] [⟨aA.ks, 34, 112, (List.map aA.enc p0)⟩]) := by
 refine aR ary rfl ?_
 refine Le.trans ?_ (le_of_eq (T64 _ _ _ _ _  p0).symm)
 unfold eS
 refine aM (good := good) eX nZ (n4 _) fun r0 _ => ?_
 refine lC ?_ ?_
 ·exact aH rfl
 ·exact mZ fuel r0 (IntKind.wrap .i64 (r0 + 1)) p0
section
variable (Γ : Fun) (γ50 : Gm (aD)) (γ64 : Gm ((List aA))) (γ51 : Gm (aD)) (Λ2 J : Lam)
def C23 : aO := bA (bA (bA (aP Γ) 50 bU γ50) 64 bG γ64) 51 dF γ51
theorem T23 (p0 : aD) (p1 : Int) : bD SE (C23 Γ γ50 γ64 γ51) Λ2 J 23 [aD.av p0, .d (.int .i64 p1)] [] [] =
 γ50 [aD.av p0] [] [] fun r0 =>
 γ64 [.row 2000000000, .fn 65 [] []] [] [⟨aA.ks, 34, 112, (List.map aA.enc r0.Queue)⟩] fun r1 =>
 γ51 [aD.av (aD.mk r0.Client r0.User false 0 r0.Expiry (if 1099511627776 < (IntKind.wrap .i64 (p1 + p0.Expiry)) then 1099511627776 else (IntKind.wrap .i64 (p1 + p0.Expiry))) r0.Dropped r0.Subs r1 r0.Out r0.In r0.Will), .d (.int .i64 (IntKind.wrap .i64 ((List.length (List.map aA.enc r0.Queue) : Int) - (List.length (List.map aA.enc r1) : Int))))] [] [] fun r2 =>
 (some (.ret [aD.av r2] [] [])) := by kernel_rfl
end
abbrev X23 : aO := C23 gG (cT 50 bU) (cT 64 bG) (cT 51 dF)
theorem ave : X23 = aP gG := by unfold X23 C23; rw [aK fun _ h => h, aK fun _ h => h, aK fun _ h => h]
theorem aeB (p0 : aD) (p1 : Int) : Le (Option.map iV (vT p0 p1)) (aY SE 23 [aD.av p0, .d (.int .i64 p1)] [] []) := by
 refine aR ave rfl ?_
 refine Le.trans ?_ (le_of_eq (T23 _ _ _ _ _ _  p0 p1).symm)
 unfold vT
 refine aM (good := good) eX iH (jJ _) fun r0 _ => ?_
 refine aM (good := good) eX nT (n3 _) fun r1 _ => ?_
 refine aM (good := good) eX nX (by first | (simp only [EN]; exact j1 ((aD.mk r0.Client r0.User false 0 r0.Expiry (if 1099511627776 < (IntKind.wrap .i64 (p1 + p0.Expiry)) then 1099511627776 else (IntKind.wrap .i64 (p1 + p0.Expiry))) r0.Dropped r0.Subs r1 r0.Out r0.In r0.Will)) ((IntKind.wrap .i64 ((List.length r0.Queue : Int) - (List.length r1 : Int))))) | exact j1 ((aD.mk r0.Client r0.User false 0 r0.Expiry (if 1099511627776 < (IntKind.wrap .i64 (p1 + p0.Expiry)) then 1099511627776 else (IntKind.wrap .i64 (p1 + p0.Expiry))) r0.Dropped r0.Subs r1 r0.Out r0.In r0.Will)) ((IntKind.wrap .i64 ((List.length r0.Queue : Int) - (List.length r1 : Int))))) fun r2 _ => ?_
 exact aH rfl
def ai3 (C : aO) (Λ2 J : Lam) (a0 : Int) (a1 : Int) (a2 : (List D)) (a3 : (List (List D))) : Res := lab SE C Λ2 J 91 0 [1, 1, 0, 1, 0] (aZ [(1, .ptr 1000000000 0), (3, .row 3003), (9, .d (.int .i64 a0)), (10, .d (.int .i64 a1))] [⟨29, (List.map AV.d a2)⟩] [] [] [(3003, ⟨aE.ks, 49, 416, a3⟩)])
section
variable (Γ : Fun) (γ112 : Gm (aE)) (γ147 : Gm (aE)) (Λ2 J : Lam)
def C91 : aO := bA (bA (aP Γ) 112 fB γ112) 147 eO γ147
theorem T91 (p0 : aG) : bD SE (C91 Γ γ112 γ147) Λ2 J 91 [aG.av p0] [] [] =
 ai3 (C91 Γ γ112 γ147) Λ2 J (List.length (List.map aB.enc p0.Items) : Int) 0 (aG.enc p0) (List.map aE.enc []) := by kernel_rfl
theorem aur (x9 : Int) (x10 : Int) (b0 : aG) (w3003 : (List aE)) : cB SE (C91 Γ γ112 γ147) Λ2 J 91 0 [1, 1, 0, 1, 0] (aZ [(1, .ptr 1000000000 0), (3, .row 3003), (9, .d (.int .i64 x9)), (10, .d (.int .i64 x10))] [⟨29, (List.map AV.d (aG.enc b0))⟩] [] [] [(3003, ⟨aE.ks, 49, 416, (List.map aE.enc w3003)⟩)]) =
 cond (decide (x10 < x9)) (
 cond (decide (0 ≤ x10) && decide (x10 < (List.length (List.map aB.enc b0.Items) : Int))) (
  cond ((aL (cellAt (elemAt (List.map aB.enc b0.Items) (Int.toNat x10)) 1)) == 2) (
  γ112 [.d (.int .i64 (aL (cellAt (elemAt (List.map aB.enc b0.Items) (Int.toNat x10)) 0)))] [] [] fun r0 =>
  cond (decide ((List.length (List.map aE.enc w3003) + List.length (List.map aE.enc [r0])) * 416 ≤ 140737488355328)) (
   ai3 (C91 Γ γ112 γ147) Λ2 J x9 (IntKind.wrap .i64 (x10 + 1)) (aG.enc b0) (((List.map aE.enc w3003) ++ (List.map aE.enc [r0])))) none) (
  γ147 [.agg [.d (.int .i64 (aL (cellAt (elemAt (List.map aB.enc b0.Items) (Int.toNat x10)) 0))), .d (.int .i64 (aL (cellAt (elemAt (List.map aB.enc b0.Items) (Int.toNat x10)) 1))), .d (.str (aV (cellAt (elemAt (List.map aB.enc b0.Items) (Int.toNat x10)) 2))), .d (.str (aV (cellAt (elemAt (List.map aB.enc b0.Items) (Int.toNat x10)) 3))), .d (.int .i64 (aL (cellAt (elemAt (List.map aB.enc b0.Items) (Int.toNat x10)) 4))), .d (.bool (bB (cellAt (elemAt (List.map aB.enc b0.Items) (Int.toNat x10)) 5))), .d (.int .i64 (aL (cellAt (elemAt (List.map aB.enc b0.Items) (Int.toNat x10)) 6))), .d (.int .i64 (aL (cellAt (elemAt (List.map aB.enc b0.Items) (Int.toNat x10)) 7))), .d (.str (aV (cellAt (elemAt (List.map aB.enc b0.Items) (Int.toNat x10)) 8))), .d (.int .i64 (aL (cellAt (elemAt (List.map aB.enc b0.Items) (Int.toNat x10)) 9))), .d (.sl aC.ks (dSl (cellAt (elemAt (List.map aB.enc b0.Items) (Int.toNat x10)) 10)))]] [] [] fun r1 =>
  cond (decide ((List.length (List.map aE.enc w3003) + List.length (List.map aE.enc [(aE.mk r1.Kind r1.ID true r1.Message r1.Client r1.User r1.Clean r1.Keep r1.Expiry r1.Window r1.Will r1.Present r1.Code r1.Subs r1.Filters r1.Codes)])) * 416 ≤ 140737488355328)) (
  ai3 (C91 Γ γ112 γ147) Λ2 J x9 (IntKind.wrap .i64 (x10 + 1)) (aG.enc b0) (((List.map aE.enc w3003) ++ (List.map aE.enc [(aE.mk r1.Kind r1.ID true r1.Message r1.Client r1.User r1.Clean r1.Keep r1.Expiry r1.Window r1.Will r1.Present r1.Code r1.Subs r1.Filters r1.Codes)])))) none)) none) (
 (some (.ret [.row 0] [] [⟨aE.ks, 49, 416, (List.map aE.enc w3003)⟩]))) := by kernel_rfl
end
abbrev X91 : aO := C91 gG (cT 112 fB) (cT 147 eO)
theorem apN : X91 = aP gG := by unfold X91 C91; rw [aK fun _ h => h, aK fun _ h => h]
noncomputable abbrev asA (a0 : Int) (a1 : Int) (a2 : (List D)) (a3 : (List (List D))) : Res := ai3 X91 (bV SE gG (SE.hl 91) (SE.hr 91)) (J0 SE X91) a0 a1 a2 a3
theorem uB : ∀ (fu : Nat) (x9 : Int) (x10 : Int) (b0 : aG) (w3003 : (List aE)), Le (Option.map gP (lR fu x9 x10 b0 w3003)) (asA x9 x10 (aG.enc b0) (List.map aE.enc w3003)) := by
 intro fu
 induction fu with
 | zero => intros; exact le_none
 | succ fu ih =>
  intro x9 x10 b0 w3003
  refine Le.trans ?_ (le_of_eq ((bC apN).trans (aur _ _ _ _ _  x9 x10 b0 w3003)).symm)
  unfold lR
  refine lC ?_ ?_
  ·refine lG (by simp only [EN]) ?_
   refine lD (by simp only [EN]) ?_ ?_
   ·refine aM (good := good) eX qS (by first | (simp only [EN]; exact oG ((List.getD b0.Items (Int.toNat x10) default).ID)) | exact oG ((List.getD b0.Items (Int.toNat x10) default).ID)) fun r0 _ => ?_
    refine lG (by simp only [EN]) ?_
    first | (simp only [EN]; exact ih x9 (IntKind.wrap .i64 (x10 + 1)) b0 (w3003 ++ [r0])) | exact ih x9 (IntKind.wrap .i64 (x10 + 1)) b0 (w3003 ++ [r0])
   ·refine aM (good := good) eX vB (by first | (simp only [EN]; exact qU (List.getD b0.Items (Int.toNat x10) default)) | exact qU (List.getD b0.Items (Int.toNat x10) default)) fun r1 _ => ?_
    refine lG (by simp only [EN]) ?_
    first | (simp only [EN]; exact ih x9 (IntKind.wrap .i64 (x10 + 1)) b0 (w3003 ++ [(aE.mk r1.Kind r1.ID true r1.Message r1.Client r1.User r1.Clean r1.Keep r1.Expiry r1.Window r1.Will r1.Present r1.Code r1.Subs r1.Filters r1.Codes)])) | exact ih x9 (IntKind.wrap .i64 (x10 + 1)) b0 (w3003 ++ [(aE.mk r1.Kind r1.ID true r1.Message r1.Client r1.User r1.Clean r1.Keep r1.Expiry r1.Window r1.Will r1.Present r1.Code r1.Subs r1.Filters r1.Codes)])
  ·exact aH rfl
theorem aem (p0 : aG) : Le (Option.map gP (vU p0)) (aY SE 91 [aG.av p0] [] []) := by
 refine aR apN rfl ?_
 refine Le.trans ?_ (le_of_eq (T91 _ _ _ _ _  p0).symm)
 unfold vU
 first | (simp only [EN]; exact uB fuel (List.length p0.Items : Int) 0 p0 ([] : List aE)) | exact uB fuel (List.length p0.Items : Int) 0 p0 ([] : List aE)
section
variable (Γ : Fun) (γ50 : Gm (aD)) (γ80 : Gm (aA)) (γ91 : Gm ((List aE))) (γ61 : Gm (aD × (List aE))) (Λ2 J : Lam)
def C36 : aO := bA (bA (bA (bA (aP Γ) 50 bU γ50) 80 cV γ80) 91 gP γ91) 61 dS γ61
theorem T36 (p0 : aD) (p1 : aE) (p2 : Int) (p3 : Int) : bD SE (C36 Γ γ50 γ80 γ91 γ61) Λ2 J 36 [aD.av p0, aE.av p1, .d (.int .i64 p2), .d (.int .i64 p3)] [] [] =
 γ50 [aD.av p0] [] [] fun r0 =>
 γ80 [aA.av p1.Will.Message] [] [] fun r1 =>
 γ91 [aG.av (aG.mk p1.Window r0.Out.Items r0.Out.Pool)] [] [] fun r2 =>
 γ61 [aD.av (aD.mk r0.Client p1.User true p2 p1.Expiry 0 r0.Dropped r0.Subs r0.Queue (aG.mk p1.Window r0.Out.Items r0.Out.Pool) r0.In (aN.mk p1.Will.Set p1.Will.Delay r1)), .d (.int .i64 p3), .row 2000000000] [] [⟨aE.ks, 49, 416, (List.map aE.enc r2)⟩] fun r3 =>
 (some (.ret [aD.av r3.1, .row 0] [] [⟨aE.ks, 49, 416, (List.map aE.enc r3.2)⟩])) := by kernel_rfl
end
abbrev X36 : aO := C36 gG (cT 50 bU) (cT 80 cV) (cT 91 gP) (cT 61 dS)
theorem av1 : X36 = aP gG := by unfold X36 C36; rw [aK fun _ h => h, aK fun _ h => h, aK fun _ h => h, aK fun _ h => h]
theorem yH (p0 : aD) (p1 : aE) (p2 : Int) (p3 : Int) : Le (Option.map jM (wS p0 p1 p2 p3)) (aY SE 36 [aD.av p0, aE.av p1, .d (.int .i64 p2), .d (.int .i64 p3)] [] []) := by
 refine aR av1 rfl ?_
 refine Le.trans ?_ (le_of_eq (T36 _ _ _ _ _ _ _  p0 p1 p2 p3).symm)
 unfold wS
 refine aM (good := good) eX iH (jJ _) fun r0 _ => ?_
 refine aM (good := good) eX jT (fE _) fun r1 _ => ?_
 refine aM (good := good) eX adC (aem _) fun r2 _ => ?_
 refine aM (good := good) eX tY (qX _ _ _) fun r3 _ => ?_
 exact aH rfl
section
variable (Γ : Fun)  (Λ2 J : Lam)
def C24 : aO := aP Γ
theorem T24 (p0 : aD) (p1 : Int) : bD SE (C24 Γ) Λ2 J 24 [aD.av p0, .d (.int .i64 p1)] [] [] =
 cond (!p0.Online) (
 (some (.ret [.d (.bool (decide (p1 ≥ p0.Until)))] [] []))) (
 (some (.ret [.d (.bool false)] [] []))) := by kernel_rfl
end
abbrev X24 : aO := C24 gG
theorem auv : X24 = aP gG := rfl
theorem xU (p0 : aD) (p1 : Int) : Le (Option.map jA (q0 p0 p1)) (aY SE 24 [aD.av p0, .d (.int .i64 p1)] [] []) := by
 refine aR auv rfl ?_
 refine Le.trans ?_ (le_of_eq (T24 _ _ _  p0 p1).symm)
 unfold q0
 refine lC ?_ ?_
 ·exact aH rfl
 ·exact aH rfl
section
variable (Γ : Fun) (γ31 : Gm (aD)) (γ26 : Gm (aD × Bool × Int)) (γ15 : Gm (aD × Bool)) (γ34 : Gm (aD × (List aE))) (γ19 : Gm (aD × (List aE) × Int)) (γ23 : Gm (aD)) (γ36 : Gm (aD × (List aE))) (γ24 : Gm (Bool)) (Λ2 J : Lam)
def C14 : aO := bA (bA (bA (bA (bA (bA (bA (bA (aP Γ) 31 lZ γ31) 26 eE γ26) 15 iQ γ15) 34 lI γ34) 19 jX γ19) 23 iV γ23) 36 jM γ36) 24 jA γ24
theorem T14 : bD SE (C14 Γ γ31 γ26 γ15 γ34 γ19 γ23 γ36 γ24) Λ2 J 14 [] [] [] =
 γ31 [.agg [.d (.int .i64 1), .d (.int .i64 0), .d (.bool false), .d (.str ([] : Str)), .d (.str ([] : Str)), .d (.int .i64 0), .d (.bool false), .d (.int .i64 0), .d (.int .i64 0), .d (.str ([] : Str)), .d (.int .i64 0), .d (.sl aC.ks (List.map aC.enc [])), .d (.str ([99] : Str)), .d (.str ([] : Str)), .d (.bool false), .d (.int .i64 0), .d (.int .i64 5), .d (.int .i64 1), .d (.bool false), .d (.int .i64 0), .d (.str ([] : Str)), .d (.str ([] : Str)), .d (.int .i64 0), .d (.bool false), .d (.int .i64 0), .d (.int .i64 0), .d (.str ([] : Str)), .d (.int .i64 0), .d (.sl aC.ks (List.map aC.enc [])), .d (.bool false), .d (.int .i64 0), .d (.sl aF.ks (List.map aF.enc [])), .d (.sl [.str] (List.map bF [])), .d (.sl [.int .i64] (List.map (encI .i64) []))], .d (.int .i64 3)] [] [] fun r0 =>
 γ26 [aD.av r0, aF.av (aF.mk ([116] : Str) 0 false)] [] [] fun r1 =>
 γ15 [aD.av r1.1, .agg [.d (.str ([116] : Str)), .d (.str ([] : Str)), .d (.int .i64 1), .d (.bool false), .d (.int .i64 0), .d (.int .i64 0), .d (.str ([] : Str)), .d (.int .i64 1), .d (.sl aC.ks (List.map aC.enc []))], .d (.int .i64 9), .d (.int .i64 2)] [] [] fun r2 =>
 γ15 [aD.av r2.1, .agg [.d (.str ([116] : Str)), .d (.str ([] : Str)), .d (.int .i64 1), .d (.bool false), .d (.int .i64 0), .d (.int .i64 0), .d (.str ([] : Str)), .d (.int .i64 2), .d (.sl aC.ks (List.map aC.enc []))], .d (.int .i64 9), .d (.int .i64 2)] [] [] fun r3 =>
 γ34 [aD.av r3.1, .d (.int .i64 0)] [] [] fun r4 =>
 γ19 [aD.av r4.1, .agg [.d (.int .i64 4), .d (.int .i64 1), .d (.bool false), .d (.str ([] : Str)), .d (.str ([] : Str)), .d (.int .i64 0), .d (.bool false), .d (.int .i64 0), .d (.int .i64 0), .d (.str ([] : Str)), .d (.int .i64 0), .d (.sl aC.ks (List.map aC.enc [])), .d (.str ([] : Str)), .d (.str ([] : Str)), .d (.bool false), .d (.int .i64 0), .d (.int .i64 0), .d (.int .i64 0), .d (.bool false), .d (.int .i64 0), .d (.str ([] : Str)), .d (.str ([] : Str)), .d (.int .i64 0), .d (.bool false), .d (.int .i64 0), .d (.int .i64 0), .d (.str ([] : Str)), .d (.int .i64 0), .d (.sl aC.ks (List.map aC.enc [])), .d (.bool false), .d (.int .i64 0), .d (.sl aF.ks (List.map aF.enc [])), .d (.sl [.str] (List.map bF [])), .d (.sl [.int .i64] (List.map (encI .i64) []))], .d (.int .i64 0)] [] [] fun r5 =>
 γ23 [aD.av r5.1, .d (.int .i64 10)] [] [] fun r6 =>
 γ36 [aD.av r6, .agg [.d (.int .i64 1), .d (.int .i64 0), .d (.bool false), .d (.str ([] : Str)), .d (.str ([] : Str)), .d (.int .i64 0), .d (.bool false), .d (.int .i64 0), .d (.int .i64 0), .d (.str ([] : Str)), .d (.int .i64 0), .d (.sl aC.ks (List.map aC.enc [])), .d (.str ([99] : Str)), .d (.str ([] : Str)), .d (.bool false), .d (.int .i64 0), .d (.int .i64 0), .d (.int .i64 1), .d (.bool false), .d (.int .i64 0), .d (.str ([] : Str)), .d (.str ([] : Str)), .d (.int .i64 0), .d (.bool false), .d (.int .i64 0), .d (.int .i64 0), .d (.str ([] : Str)), .d (.int .i64 0), .d (.sl aC.ks (List.map aC.enc [])), .d (.bool false), .d (.int .i64 0), .d (.sl aF.ks (List.map aF.enc [])), .d (.sl [.str] (List.map bF [])), .d (.sl [.int .i64] (List.map (encI .i64) []))], .d (.int .i64 4), .d (.int .i64 12)] [] [] fun r7 =>
 cond (!r1.2.1) (
 cond (r1.2.2 == 0) (
  cond (!r2.2) (
  cond ((List.length (List.map aE.enc r4.2) : Int) == 1) (
   cond (decide (0 ≤ 0) && decide (0 < (List.length (List.map aE.enc r4.2) : Int))) (
   cond ((aL (cellAt (elemAt (List.map aE.enc r4.2) (Int.toNat 0)) 1)) == 1) (
    cond (decide (0 ≤ 0) && decide (0 < (List.length (List.map aE.enc r4.2) : Int))) (
    cond ((aL (cellAt (elemAt (List.map aE.enc r4.2) (Int.toNat 0)) 10)) == 1) (
     cond ((List.length (List.map aE.enc r5.2.1) : Int) == 1) (
     cond (decide (0 ≤ 0) && decide (0 < (List.length (List.map aE.enc r5.2.1) : Int))) (
      cond ((aL (cellAt (elemAt (List.map aE.enc r5.2.1) (Int.toNat 0)) 1)) == 2) (
      cond (r5.2.2 == 0) (
       cond (r6.Until == 15) (
       γ24 [aD.av r6, .d (.int .i64 14)] [] [] fun r8 =>
       cond (!r8) (
        γ24 [aD.av r6, .d (.int .i64 15)] [] [] fun r9 =>
        cond r9 (
        cond r7.1.Online (
         cond (r7.1.Conn == 4) (
         cond ((List.length (List.map aE.enc r7.2) : Int) == 1) (
          cond (decide (0 ≤ 0) && decide (0 < (List.length (List.map aE.enc r7.2) : Int))) (
          cond (bB (cellAt (elemAt (List.map aE.enc r7.2) (Int.toNat 0)) 2)) (
           cond (decide (0 ≤ 0) && decide (0 < (List.length (List.map aE.enc r7.2) : Int))) (
           (some (.ret [.d (.bool ((aL (cellAt (elemAt (List.map aE.enc r7.2) (Int.toNat 0)) 1)) == 2))] [] []))) none) (
          (some (.ret [.d (.bool false)] [] [])))) none) (
         (some (.ret [.d (.bool false)] [] [])))) (
         (some (.ret [.d (.bool false)] [] [])))) (
        (some (.ret [.d (.bool false)] [] [])))) (
        (some (.ret [.d (.bool false)] [] [])))) (
       (some (.ret [.d (.bool false)] [] [])))) (
       (some (.ret [.d (.bool false)] [] [])))) (
      (some (.ret [.d (.bool false)] [] [])))) (
      (some (.ret [.d (.bool false)] [] [])))) none) (
     (some (.ret [.d (.bool false)] [] [])))) (
    (some (.ret [.d (.bool false)] [] [])))) none) (
   (some (.ret [.d (.bool false)] [] [])))) none) (
  (some (.ret [.d (.bool false)] [] [])))) (
  (some (.ret [.d (.bool false)] [] [])))) (
 (some (.ret [.d (.bool false)] [] [])))) (
 (some (.ret [.d (.bool false)] [] []))) := by kernel_rfl
end
abbrev X14 : aO := C14 gG (cT 31 lZ) (cT 26 eE) (cT 15 iQ) (cT 34 lI) (cT 19 jX) (cT 23 iV) (cT 36 jM) (cT 24 jA)
theorem avH : X14 = aP gG := by unfold X14 C14; rw [aK fun _ h => h, aK fun _ h => h, aK fun _ h => h, aK fun _ h => h, aK fun _ h => h, aK fun _ h => h, aK fun _ h => h, aK fun _ h => h]
theorem acW : Le (Option.map fH (pA)) (aY SE 14 [] [] []) := by
 refine aR avH rfl ?_
 refine Le.trans ?_ (le_of_eq (T14 _ _ _ _ _ _ _ _ _ _ _ ).symm)
 unfold pA
 refine aM (good := good) eX ahh (by first | (simp only [EN]; exact abz ((aE.mk 1 0 false (aA.mk ([] : Str) ([] : Str) 0 false 0 0 ([] : Str) 0 ([] : List aC)) ([99] : Str) ([] : Str) false 0 5 1 (aN.mk false 0 (aA.mk ([] : Str) ([] : Str) 0 false 0 0 ([] : Str) 0 ([] : List aC))) false 0 ([] : List aF) ([] : List Str) ([] : List Int))) 3) | exact abz ((aE.mk 1 0 false (aA.mk ([] : Str) ([] : Str) 0 false 0 0 ([] : Str) 0 ([] : List aC)) ([99] : Str) ([] : Str) false 0 5 1 (aN.mk false 0 (aA.mk ([] : Str) ([] : Str) 0 false 0 0 ([] : Str) 0 ([] : List aC))) false 0 ([] : List aF) ([] : List Str) ([] : List Int))) 3) fun r0 _ => ?_
 refine aM (good := good) eX ab0 (ac4 _ _) fun r1 _ => ?_
 refine aM (good := good) eX yL (by first | (simp only [EN]; exact p9 r1.1 ((aA.mk ([116] : Str) ([] : Str) 1 false 0 0 ([] : Str) 1 ([] : List aC))) 9 2) | exact p9 r1.1 ((aA.mk ([116] : Str) ([] : Str) 1 false 0 0 ([] : Str) 1 ([] : List aC))) 9 2) fun r2 _ => ?_
 refine aM (good := good) eX yL (by first | (simp only [EN]; exact p9 r2.1 ((aA.mk ([116] : Str) ([] : Str) 1 false 0 0 ([] : Str) 2 ([] : List aC))) 9 2) | exact p9 r2.1 ((aA.mk ([116] : Str) ([] : Str) 1 false 0 0 ([] : Str) 2 ([] : List aC))) 9 2) fun r3 _ => ?_
 refine aM (good := good) eX afX (ag9 _ _) fun r4 _ => ?_
 refine aM (good := good) eX adT (by first | (simp only [EN]; exact yP r4.1 ((aE.mk 4 1 false (aA.mk ([] : Str) ([] : Str) 0 false 0 0 ([] : Str) 0 ([] : List aC)) ([] : Str) ([] : Str) false 0 0 0 (aN.mk false 0 (aA.mk ([] : Str) ([] : Str) 0 false 0 0 ([] : Str) 0 ([] : List aC))) false 0 ([] : List aF) ([] : List Str) ([] : List Int))) 0) | exact yP r4.1 ((aE.mk 4 1 false (aA.mk ([] : Str) ([] : Str) 0 false 0 0 ([] : Str) 0 ([] : List aC)) ([] : Str) ([] : Str) false 0 0 0 (aN.mk false 0 (aA.mk ([] : Str) ([] : Str) 0 false 0 0 ([] : Str) 0 ([] : List aC))) false 0 ([] : List aF) ([] : List Str) ([] : List Int))) 0) fun r5 _ => ?_
 refine aM (good := good) eX ads (aeB _ _) fun r6 _ => ?_
 refine aM (good := good) eX aer (by first | (simp only [EN]; exact yH r6 ((aE.mk 1 0 false (aA.mk ([] : Str) ([] : Str) 0 false 0 0 ([] : Str) 0 ([] : List aC)) ([99] : Str) ([] : Str) false 0 0 1 (aN.mk false 0 (aA.mk ([] : Str) ([] : Str) 0 false 0 0 ([] : Str) 0 ([] : List aC))) false 0 ([] : List aF) ([] : List Str) ([] : List Int))) 4 12) | exact yH r6 ((aE.mk 1 0 false (aA.mk ([] : Str) ([] : Str) 0 false 0 0 ([] : Str) 0 ([] : List aC)) ([99] : Str) ([] : Str) false 0 0 1 (aN.mk false 0 (aA.mk ([] : Str) ([] : Str) 0 false 0 0 ([] : Str) 0 ([] : List aC))) false 0 ([] : List aF) ([] : List Str) ([] : List Int))) 4 12) fun r7 _ => ?_
 refine lC ?_ ?_
 ·refine lC ?_ ?_
  ·refine lC ?_ ?_
   ·refine lD (by simp only [EN]) ?_ ?_
    ·refine lG (by simp only [EN]) ?_
     refine lD (by simp only [EN]) ?_ ?_
     ·refine lG (by simp only [EN]) ?_
      refine lD (by simp only [EN]) ?_ ?_
      ·refine lD (by simp only [EN]) ?_ ?_
       ·refine lG (by simp only [EN]) ?_
        refine lD (by simp only [EN]) ?_ ?_
        ·refine lC ?_ ?_
         ·refine lC ?_ ?_
          ·refine aM (good := good) eX vY (xU _ _) fun r8 _ => ?_
           refine lC ?_ ?_
           ·refine aM (good := good) eX vY (xU _ _) fun r9 _ => ?_
            refine lC ?_ ?_
            ·refine lC ?_ ?_
             ·refine lC ?_ ?_
              ·refine lD (by simp only [EN]) ?_ ?_
               ·refine lG (by simp only [EN]) ?_
                refine lD (by simp only [EN]) ?_ ?_
                ·refine lG (by simp only [EN]) ?_
                 exact aH (by first | rfl | simp only [EN, fH] <;> rfl)
                ·exact aH rfl
               ·exact aH rfl
              ·exact aH rfl
             ·exact aH rfl
            ·exact aH rfl
           ·exact aH rfl
          ·exact aH rfl
         ·exact aH rfl
        ·exact aH rfl
       ·exact aH rfl
      ·exact aH rfl
     ·exact aH rfl
    ·exact aH rfl
   ·exact aH rfl
  ·exact aH rfl
 ·exact aH rfl
section
variable (Γ : Fun)  (Λ2 J : Lam)
def arR : aO := aP Γ
theorem au6 (p0 : Int) : bD SE (arR Γ) Λ2 J 140 [.d (.int .i64 p0)] [] [] =
 cond (decide (p0 ≥ 0)) (
 (some (.ret [.d (.bool (decide (p0 ≤ 1099511627776)))] [] []))) (
 (some (.ret [.d (.bool false)] [] []))) := by kernel_rfl
end
abbrev av4 : aO := arR gG
theorem auf : av4 = aP gG := rfl
theorem aaS (p0 : Int) : Le (Option.map kZ (pK p0)) (aY SE 140 [.d (.int .i64 p0)] [] []) := by
 refine aR auf rfl ?_
 refine Le.trans ?_ (le_of_eq (au6 _ _ _  p0).symm)
 unfold pK
 refine lC ?_ ?_
 ·exact aH rfl
 ·exact aH rfl
def agD (C : aO) (Λ2 J : Lam) (a0 : (List D)) : Res := lab SE C Λ2 J 83 0 [1, 1, 1, 0, 0] (aZ [(1, .ptr 1000000000 0)] [⟨38, (List.map AV.d a0)⟩] [] [] [])
def alA (C : aO) (Λ2 J : Lam) (a0 : (List D)) : Res := lab SE C Λ2 J 83 0 [1, 1, 0, 0] (aZ [(1, .ptr 1000000000 0)] [⟨38, (List.map AV.d a0)⟩] [] [] [])
section
variable (Γ : Fun) (γ139 : Gm (Bool)) (γ140 : Gm (Bool)) (Λ2 J : Lam)
def C83 : aO := bA (bA (aP Γ) 139 dD γ139) 140 kZ γ140
theorem T83 (p0 : aD) : bD SE (C83 Γ γ139 γ140) Λ2 J 83 [aD.av p0] [] [] =
 γ139 [.d (.str p0.Client)] [] [] fun r0 =>
 cond (!r0) (
 (some (.ret [.d (.int .i64 11)] [] []))) (
 cond (!(p0.User == ([] : Str))) (
 γ139 [.d (.str p0.User)] [] [] fun r1 =>
 cond (!r1) (
  (some (.ret [.d (.int .i64 11)] [] []))) (
 alA (C83 Γ γ139 γ140) Λ2 J (aD.enc p0))) (
 alA (C83 Γ γ139 γ140) Λ2 J (aD.enc p0))) := by kernel_rfl
theorem as7 (b0 : aD) : cB SE (C83 Γ γ139 γ140) Λ2 J 83 0 [1, 1, 1, 0, 0] (aZ [(1, .ptr 1000000000 0)] [⟨38, (List.map AV.d (aD.enc b0))⟩] [] [] []) =
 γ140 [.d (.int .i64 b0.Expiry)] [] [] fun r2 =>
 cond (!r2) (
 (some (.ret [.d (.int .i64 1)] [] []))) (
 γ140 [.d (.int .i64 b0.Until)] [] [] fun r3 =>
 cond (!r3) (
 (some (.ret [.d (.int .i64 1)] [] []))) (
 cond (decide (b0.Dropped < 0)) (
 (some (.ret [.d (.int .i64 1)] [] []))) (
 cond (decide (b0.Dropped > 1099511627776)) (
 (some (.ret [.d (.int .i64 1)] [] []))) (
 (some (.ret [.d (.int .i64 0)] [] [])))))) := by kernel_rfl
theorem asE (b0 : aD) : cB SE (C83 Γ γ139 γ140) Λ2 J 83 0 [1, 1, 0, 0] (aZ [(1, .ptr 1000000000 0)] [⟨38, (List.map AV.d (aD.enc b0))⟩] [] [] []) =
 cond (!b0.Online) (
 cond (b0.Conn != 0) (
  (some (.ret [.d (.int .i64 9)] [] []))) (
 cond b0.Online (
  cond (b0.Until != 0) (
  (some (.ret [.d (.int .i64 9)] [] []))) (
  agD (C83 Γ γ139 γ140) Λ2 J (aD.enc b0))) (
 agD (C83 Γ γ139 γ140) Λ2 J (aD.enc b0)))) (
 cond b0.Online (
 cond (b0.Until != 0) (
  (some (.ret [.d (.int .i64 9)] [] []))) (
 agD (C83 Γ γ139 γ140) Λ2 J (aD.enc b0))) (
 agD (C83 Γ γ139 γ140) Λ2 J (aD.enc b0))) := by kernel_rfl
end
abbrev X83 : aO := C83 gG (cT 139 dD) (cT 140 kZ)
theorem anx : X83 = aP gG := by unfold X83 C83; rw [aK fun _ h => h, aK fun _ h => h]
noncomputable abbrev atx (a0 : (List D)) : Res := agD X83 (bV SE gG (SE.hl 83) (SE.hr 83)) (J0 SE X83) a0
noncomputable abbrev atM (a0 : (List D)) : Res := alA X83 (bV SE gG (SE.hl 83) (SE.hr 83)) (J0 SE X83) a0
theorem kQ (b0 : aD) : Le (Option.map eG (fU b0)) (atx (aD.enc b0)) := by
 refine Le.trans ?_ (le_of_eq ((bC anx).trans (as7 _ _ _ _ _  b0)).symm)
 unfold fU
 refine aM (good := good) eX zY (aaS _) fun r2 _ => ?_
 refine lC ?_ ?_
 ·exact aH rfl
 ·refine aM (good := good) eX zY (aaS _) fun r3 _ => ?_
  refine lC ?_ ?_
  ·exact aH rfl
  ·refine lC ?_ ?_
   ·exact aH rfl
   ·refine lC ?_ ?_
    ·exact aH rfl
    ·exact aH rfl
theorem sU (b0 : aD) : Le (Option.map eG (j7 b0)) (atM (aD.enc b0)) := by
 refine Le.trans ?_ (le_of_eq ((bC anx).trans (asE _ _ _ _ _  b0)).symm)
 unfold j7
 refine lC ?_ ?_
 ·refine lC ?_ ?_
  ·exact aH rfl
  ·refine lC ?_ ?_
   ·refine lC ?_ ?_
    ·exact aH rfl
    ·exact kQ b0
   ·exact kQ b0
 ·refine lC ?_ ?_
  ·refine lC ?_ ?_
   ·exact aH rfl
   ·exact kQ b0
  ·exact kQ b0
theorem acU (p0 : aD) : Le (Option.map eG (mK p0)) (aY SE 83 [aD.av p0] [] []) := by
 refine aR anx rfl ?_
 refine Le.trans ?_ (le_of_eq (T83 _ _ _ _ _  p0).symm)
 unfold mK
 refine aM (good := good) eX sL (tO _) fun r0 _ => ?_
 refine lC ?_ ?_
 ·exact aH rfl
 ·refine lC ?_ ?_
  ·refine aM (good := good) eX sL (tO _) fun r1 _ => ?_
   refine lC ?_ ?_
   ·exact aH rfl
   ·exact sU p0
  ·exact sU p0
def ajp (C : aO) (Λ2 J : Lam) (a0 : (List (List D))) (a1 : Int) (a2 : Int) : Res := lab SE C Λ2 J 84 0 [1, 1, 1, 1, 0, 1, 0] (aZ [(46, .d (.sl aA.ks a0)), (47, .d (.int .i64 a1)), (48, .d (.int .i64 a2))] [] [] [] [])
def aiY (C : aO) (Λ2 J : Lam) (a0 : (List (List D))) (a1 : Int) (a2 : Int) (a3 : (List D)) : Res := lab SE C Λ2 J 84 0 [1, 1, 0, 1, 0] (aZ [(1, .ptr 1000000000 0), (14, .d (.sl aF.ks a0)), (15, .d (.int .i64 a1)), (16, .d (.int .i64 a2))] [⟨38, (List.map AV.d a3)⟩] [] [] [])
section
variable (Γ : Fun) (γ66 : Gm (Int)) (γ141 : Gm (Int)) (Λ2 J : Lam)
def C84 : aO := bA (bA (aP Γ) 66 eP γ66) 141 c8 γ141
theorem T84 (p0 : aD) : bD SE (C84 Γ γ66 γ141) Λ2 J 84 [aD.av p0] [] [] =
 cond (decide ((List.length (List.map aF.enc p0.Subs) : Int) > 32)) (
 (some (.ret [.d (.int .i64 5)] [] []))) (
 aiY (C84 Γ γ66 γ141) Λ2 J (List.map aF.enc p0.Subs) (List.length (List.map aF.enc p0.Subs) : Int) 0 (aD.enc p0)) := by kernel_rfl
theorem arE (x46 : (List aA)) (x47 : Int) (x48 : Int) : cB SE (C84 Γ γ66 γ141) Λ2 J 84 0 [1, 1, 1, 1, 0, 1, 0] (aZ [(46, .d (.sl aA.ks (List.map aA.enc x46))), (47, .d (.int .i64 x47)), (48, .d (.int .i64 x48))] [] [] [] []) =
 cond (decide (x48 < x47)) (
 cond (decide (0 ≤ x48) && decide (x48 < (List.length (List.map aA.enc x46) : Int))) (
  γ141 [.agg [.d (.str (aV (cellAt (elemAt (List.map aA.enc x46) (Int.toNat x48)) 0))), .d (.str (aV (cellAt (elemAt (List.map aA.enc x46) (Int.toNat x48)) 1))), .d (.int .i64 (aL (cellAt (elemAt (List.map aA.enc x46) (Int.toNat x48)) 2))), .d (.bool (bB (cellAt (elemAt (List.map aA.enc x46) (Int.toNat x48)) 3))), .d (.int .i64 (aL (cellAt (elemAt (List.map aA.enc x46) (Int.toNat x48)) 4))), .d (.int .i64 (aL (cellAt (elemAt (List.map aA.enc x46) (Int.toNat x48)) 5))), .d (.str (aV (cellAt (elemAt (List.map aA.enc x46) (Int.toNat x48)) 6))), .d (.int .i64 (aL (cellAt (elemAt (List.map aA.enc x46) (Int.toNat x48)) 7))), .d (.sl aC.ks (dSl (cellAt (elemAt (List.map aA.enc x46) (Int.toNat x48)) 8)))]] [] [] fun r1 =>
  cond (r1 != 0) (
  (some (.ret [.d (.int .i64 r1)] [] []))) (
  ajp (C84 Γ γ66 γ141) Λ2 J (List.map aA.enc x46) x47 (IntKind.wrap .i64 (x48 + 1)))) none) (
 (some (.ret [.d (.int .i64 0)] [] []))) := by kernel_rfl
theorem atr (x14 : (List aF)) (x15 : Int) (x16 : Int) (b0 : aD) : cB SE (C84 Γ γ66 γ141) Λ2 J 84 0 [1, 1, 0, 1, 0] (aZ [(1, .ptr 1000000000 0), (14, .d (.sl aF.ks (List.map aF.enc x14))), (15, .d (.int .i64 x15)), (16, .d (.int .i64 x16))] [⟨38, (List.map AV.d (aD.enc b0))⟩] [] [] []) =
 cond (decide (x16 < x15)) (
 cond (decide (0 ≤ x16) && decide (x16 < (List.length (List.map aF.enc x14) : Int))) (
  γ66 [.agg [.d (.str (aV (cellAt (elemAt (List.map aF.enc x14) (Int.toNat x16)) 0))), .d (.int .i64 (aL (cellAt (elemAt (List.map aF.enc x14) (Int.toNat x16)) 1))), .d (.bool (bB (cellAt (elemAt (List.map aF.enc x14) (Int.toNat x16)) 2)))]] [] [] fun r0 =>
  cond (r0 != 0) (
  (some (.ret [.d (.int .i64 r0)] [] []))) (
  cond (decide (x16 > 0)) (
  cond (decide (0 ≤ (IntKind.wrap .i64 (x16 - 1))) && decide ((IntKind.wrap .i64 (x16 - 1)) < (List.length (List.map aF.enc b0.Subs) : Int))) (
   cond (Op.bytesLess (aV (cellAt (elemAt (List.map aF.enc x14) (Int.toNat x16)) 0)) (aV (cellAt (elemAt (List.map aF.enc b0.Subs) (Int.toNat (IntKind.wrap .i64 (x16 - 1)))) 0)) || (aV (cellAt (elemAt (List.map aF.enc x14) (Int.toNat x16)) 0)) == (aV (cellAt (elemAt (List.map aF.enc b0.Subs) (Int.toNat (IntKind.wrap .i64 (x16 - 1)))) 0))) (
   (some (.ret [.d (.int .i64 22)] [] []))) (
   aiY (C84 Γ γ66 γ141) Λ2 J (List.map aF.enc x14) x15 (IntKind.wrap .i64 (x16 + 1)) (aD.enc b0))) none) (
  aiY (C84 Γ γ66 γ141) Λ2 J (List.map aF.enc x14) x15 (IntKind.wrap .i64 (x16 + 1)) (aD.enc b0)))) none) (
 cond (decide ((List.length (List.map aA.enc b0.Queue) : Int) > 256)) (
 (some (.ret [.d (.int .i64 5)] [] []))) (
 ajp (C84 Γ γ66 γ141) Λ2 J (List.map aA.enc b0.Queue) (List.length (List.map aA.enc b0.Queue) : Int) 0)) := by kernel_rfl
end
abbrev X84 : aO := C84 gG (cT 66 eP) (cT 141 c8)
theorem aoc : X84 = aP gG := by unfold X84 C84; rw [aK fun _ h => h, aK fun _ h => h]
noncomputable abbrev ar2 (a0 : (List (List D))) (a1 : Int) (a2 : Int) : Res := ajp X84 (bV SE gG (SE.hl 84) (SE.hr 84)) (J0 SE X84) a0 a1 a2
noncomputable abbrev asw (a0 : (List (List D))) (a1 : Int) (a2 : Int) (a3 : (List D)) : Res := aiY X84 (bV SE gG (SE.hl 84) (SE.hr 84)) (J0 SE X84) a0 a1 a2 a3
theorem rA : ∀ (fu : Nat) (x46 : (List aA)) (x47 : Int) (x48 : Int), Le (Option.map dN (dM fu x46 x47 x48)) (ar2 (List.map aA.enc x46) x47 x48) := by
 intro fu
 induction fu with
 | zero => intros; exact le_none
 | succ fu ih =>
  intro x46 x47 x48
  refine Le.trans ?_ (le_of_eq ((bC aoc).trans (arE _ _ _ _ _  x46 x47 x48)).symm)
  unfold dM
  refine lC ?_ ?_
  ·refine lG (by simp only [EN]) ?_
   refine aM (good := good) eX o6 (by first | (simp only [EN]; exact nS (List.getD x46 (Int.toNat x48) default)) | exact nS (List.getD x46 (Int.toNat x48) default)) fun r1 _ => ?_
   refine lC ?_ ?_
   ·exact aH rfl
   ·exact ih x46 x47 (IntKind.wrap .i64 (x48 + 1))
  ·exact aH rfl
theorem rV : ∀ (fu : Nat) (x14 : (List aF)) (x15 : Int) (x16 : Int) (b0 : aD), Le (Option.map dN (eH fu x14 x15 x16 b0)) (asw (List.map aF.enc x14) x15 x16 (aD.enc b0)) := by
 intro fu
 induction fu with
 | zero => intros; exact le_none
 | succ fu ih =>
  intro x14 x15 x16 b0
  refine Le.trans ?_ (le_of_eq ((bC aoc).trans (atr _ _ _ _ _  x14 x15 x16 b0)).symm)
  unfold eH
  refine lC ?_ ?_
  ·refine lG (by simp only [EN]) ?_
   refine aM (good := good) eX vD (by first | (simp only [EN]; exact qT (List.getD x14 (Int.toNat x16) default)) | exact qT (List.getD x14 (Int.toNat x16) default)) fun r0 _ => ?_
   refine lC ?_ ?_
   ·exact aH rfl
   ·refine lC ?_ ?_
    ·refine lG (by simp only [EN]) ?_
     refine lD (by simp only [EN]) ?_ ?_
     ·exact aH rfl
     ·exact ih x14 x15 (IntKind.wrap .i64 (x16 + 1)) b0
    ·exact ih x14 x15 (IntKind.wrap .i64 (x16 + 1)) b0
  ·refine lD (by simp only [EN]) ?_ ?_
   ·exact aH rfl
   ·first | (simp only [EN]; exact rA fuel b0.Queue (List.length b0.Queue : Int) 0) | exact rA fuel b0.Queue (List.length b0.Queue : Int) 0
theorem acd (p0 : aD) : Le (Option.map dN (lQ p0)) (aY SE 84 [aD.av p0] [] []) := by
 refine aR aoc rfl ?_
 refine Le.trans ?_ (le_of_eq (T84 _ _ _ _ _  p0).symm)
 unfold lQ
 refine lD (by simp only [EN]) ?_ ?_
 ·exact aH rfl
 ·first | (simp only [EN]; exact rV fuel p0.Subs (List.length p0.Subs : Int) 0 p0) | exact rV fuel p0.Subs (List.length p0.Subs : Int) 0 p0
def ajc (C : aO) (Λ2 J : Lam) (a0 : Int) (a1 : (List (List D))) (a2 : Int) (a3 : Int) (a4 : (List D)) : Res := lab SE C Λ2 J 142 0 [1, 1, 1, 0, 1, 0] (aZ [(1, .ptr 1000000000 0), (3, .d (.int .i64 a0)), (11, .d (.sl [.int .i64] a1)), (12, .d (.int .i64 a2)), (13, .d (.int .i64 a3))] [⟨27, (List.map AV.d a4)⟩] [] [] [])
section
variable (Γ : Fun)  (Λ2 J : Lam)
def ajb : aO := aP Γ
theorem avq (p0 : aJ) : bD SE (ajb Γ) Λ2 J 142 [aJ.av p0] [] [] =
 cond (decide ((List.length (List.map (encI .i64) p0.Used) : Int) > 32)) (
 (some (.ret [.d (.int .i64 5)] [] []))) (
 ajc (ajb Γ) Λ2 J 0 (List.map (encI .i64) p0.Used) (List.length (List.map (encI .i64) p0.Used) : Int) 0 (aJ.enc p0)) := by kernel_rfl
theorem aq6 (x3 : Int) (x11 : (List Int)) (x12 : Int) (x13 : Int) (b0 : aJ) : cB SE (ajb Γ) Λ2 J 142 0 [1, 1, 1, 0, 1, 0] (aZ [(1, .ptr 1000000000 0), (3, .d (.int .i64 x3)), (11, .d (.sl [.int .i64] (List.map (encI .i64) x11))), (12, .d (.int .i64 x12)), (13, .d (.int .i64 x13))] [⟨27, (List.map AV.d (aJ.enc b0))⟩] [] [] []) =
 cond (decide (x13 < x12)) (
 cond (decide (0 ≤ x13) && decide (x13 < (List.length (List.map (encI .i64) x11) : Int))) (
  cond (decide ((aL (cellAt (elemAt (List.map (encI .i64) x11) (Int.toNat x13)) 0)) ≤ x3)) (
  (some (.ret [.d (.int .i64 15)] [] []))) (
  cond (decide ((aL (cellAt (elemAt (List.map (encI .i64) x11) (Int.toNat x13)) 0)) > 65535)) (
  (some (.ret [.d (.int .i64 15)] [] []))) (
  ajc (ajb Γ) Λ2 J ((aL (cellAt (elemAt (List.map (encI .i64) x11) (Int.toNat x13)) 0))) (List.map (encI .i64) x11) x12 (IntKind.wrap .i64 (x13 + 1)) (aJ.enc b0)))) none) (
 cond (decide (b0.Last < 0)) (
 (some (.ret [.d (.int .i64 1)] [] []))) (
 cond (decide (b0.Last > 65535)) (
 (some (.ret [.d (.int .i64 1)] [] []))) (
 (some (.ret [.d (.int .i64 0)] [] []))))) := by kernel_rfl
end
abbrev an9 : aO := ajb gG
theorem ao3 : an9 = aP gG := rfl
noncomputable abbrev arN (a0 : Int) (a1 : (List (List D))) (a2 : Int) (a3 : Int) (a4 : (List D)) : Res := ajc an9 (bV SE gG (SE.hl 142) (SE.hr 142)) (J0 SE an9) a0 a1 a2 a3 a4
theorem yM : ∀ (fu : Nat) (x3 : Int) (x11 : (List Int)) (x12 : Int) (x13 : Int) (b0 : aJ), Le (Option.map kB (k7 fu x3 x11 x12 x13 b0)) (arN x3 (List.map (encI .i64) x11) x12 x13 (aJ.enc b0)) := by
 intro fu
 induction fu with
 | zero => intros; exact le_none
 | succ fu ih =>
  intro x3 x11 x12 x13 b0
  refine Le.trans ?_ (le_of_eq ((bC ao3).trans (aq6 _ _ _  x3 x11 x12 x13 b0)).symm)
  unfold k7
  refine lC ?_ ?_
  ·refine lG (by simp only [EN]) ?_
   refine lD (by simp only [EN]) ?_ ?_
   ·exact aH rfl
   ·refine lD (by simp only [EN]) ?_ ?_
    ·exact aH rfl
    ·first | (simp only [EN]; exact ih (List.getD x11 (Int.toNat x13) default) x11 x12 (IntKind.wrap .i64 (x13 + 1)) b0) | exact ih (List.getD x11 (Int.toNat x13) default) x11 x12 (IntKind.wrap .i64 (x13 + 1)) b0
  ·refine lC ?_ ?_
   ·exact aH rfl
   ·refine lC ?_ ?_
    ·exact aH rfl
    ·exact aH rfl
theorem ahO (p0 : aJ) : Le (Option.map kB (tF p0)) (aY SE 142 [aJ.av p0] [] []) := by
 refine aR ao3 rfl ?_
 refine Le.trans ?_ (le_of_eq (avq _ _ _  p0).symm)
 unfold tF
 refine lD (by simp only [EN]) ?_ ?_
 ·exact aH rfl
 ·first | (simp only [EN]; exact yM fuel 0 p0.Used (List.length p0.Used : Int) 0 p0) | exact yM fuel 0 p0.Used (List.length p0.Used : Int) 0 p0
section
variable (Γ : Fun) (γ175 : Gm (Int × Bool)) (Λ2 J : Lam)
def anE : aO := bA (aP Γ) 175 bI γ175
theorem avN (p0 : aJ) (p1 : Int) : bD SE (anE Γ γ175) Λ2 J 172 [aJ.av p0, .d (.int .i64 p1)] [] [] =
 γ175 [.d (.sl [.int .i64] (List.map (encI .i64) p0.Used)), .d (.int .i64 p1)] [] [] fun r0 =>
 (some (.ret [.d (.bool r0.2)] [] [])) := by kernel_rfl
end
abbrev aqg : aO := anE gG (cT 175 bI)
theorem atg : aqg = aP gG := by unfold aqg anE; rw [aK fun _ h => h]
theorem aeo (p0 : aJ) (p1 : Int) : Le (Option.map n6 (xH p0 p1)) (aY SE 172 [aJ.av p0, .d (.int .i64 p1)] [] []) := by
 refine aR atg rfl ?_
 refine Le.trans ?_ (le_of_eq (avN _ _ _ _  p0 p1).symm)
 unfold xH
 refine aM (good := good) eX iK (jD _ _) fun r0 _ => ?_
 exact aH rfl
def amC (C : aO) (Λ2 J : Lam) (a0 : (List D)) : Res := lab SE C Λ2 J 143 0 [1, 1, 1, 0, 0] (aZ [(5, .ptr 1000000000 0)] [⟨122, (List.map AV.d a0)⟩] [] [] [])
section
variable (Γ : Fun) (γ172 : Gm (Bool)) (γ109 : Gm (Int)) (γ141 : Gm (Int)) (Λ2 J : Lam)
def akk : aO := bA (bA (bA (aP Γ) 172 n6 γ172) 109 gJ γ109) 141 c8 γ141
theorem avg (p0 : aG) (p1 : Int) : bD SE (akk Γ γ172 γ109 γ141) Λ2 J 143 [aG.av p0, .d (.int .i64 p1)] [] [] =
 cond (decide (0 ≤ p1) && decide (p1 < (List.length (List.map aB.enc p0.Items) : Int))) (
 γ172 [aJ.av p0.Pool, .d (.int .i64 (aL (cellAt (elemAt (List.map aB.enc p0.Items) (Int.toNat p1)) 0)))] [] [] fun r0 =>
 cond (!r0) (
  (some (.ret [.d (.int .i64 15)] [] []))) (
 cond (decide (0 ≤ p1) && decide (p1 ≤ ((List.length (List.map aB.enc p0.Items)) : Int))) (
  γ109 [.d (.sl aB.ks (bN (List.map aB.enc p0.Items) none (some p1))), .d (.int .i64 (aL (cellAt (elemAt (List.map aB.enc p0.Items) (Int.toNat p1)) 0)))] [] [] fun r1 =>
  cond (decide (r1 ≥ 0)) (
  (some (.ret [.d (.int .i64 15)] [] []))) (
  amC (akk Γ γ172 γ109 γ141) Λ2 J [D.int .i64 (aL (cellAt (elemAt (List.map aB.enc p0.Items) (Int.toNat p1)) 0)), D.int .i64 (aL (cellAt (elemAt (List.map aB.enc p0.Items) (Int.toNat p1)) 1)), D.str (aV (cellAt (elemAt (List.map aB.enc p0.Items) (Int.toNat p1)) 2)), D.str (aV (cellAt (elemAt (List.map aB.enc p0.Items) (Int.toNat p1)) 3)), D.int .i64 (aL (cellAt (elemAt (List.map aB.enc p0.Items) (Int.toNat p1)) 4)), D.bool (bB (cellAt (elemAt (List.map aB.enc p0.Items) (Int.toNat p1)) 5)), D.int .i64 (aL (cellAt (elemAt (List.map aB.enc p0.Items) (Int.toNat p1)) 6)), D.int .i64 (aL (cellAt (elemAt (List.map aB.enc p0.Items) (Int.toNat p1)) 7)), D.str (aV (cellAt (elemAt (List.map aB.enc p0.Items) (Int.toNat p1)) 8)), D.int .i64 (aL (cellAt (elemAt (List.map aB.enc p0.Items) (Int.toNat p1)) 9)), D.sl aC.ks (dSl (cellAt (elemAt (List.map aB.enc p0.Items) (Int.toNat p1)) 10))])) none)) none := by kernel_rfl
theorem aqw (b0 : aB) : cB SE (akk Γ γ172 γ109 γ141) Λ2 J 143 0 [1, 1, 1, 0, 0] (aZ [(5, .ptr 1000000000 0)] [⟨122, (List.map AV.d (aB.enc b0))⟩] [] [] []) =
 γ141 [aA.av b0.Message] [] [] fun r2 =>
 cond (r2 != 0) (
 (some (.ret [.d (.int .i64 r2)] [] []))) (
 cond (b0.Message.Level == 0) (
 (some (.ret [.d (.int .i64 14)] [] []))) (
 cond (b0.State != 1) (
 cond (b0.State != 2) (
  (some (.ret [.d (.int .i64 9)] [] []))) (
 cond (b0.Message.Level == 1) (
  (some (.ret [.d (.int .i64 9)] [] []))) (
 (some (.ret [.d (.int .i64 0)] [] []))))) (
 (some (.ret [.d (.int .i64 0)] [] []))))) := by kernel_rfl
end
abbrev al6 : aO := akk gG (cT 172 n6) (cT 109 gJ) (cT 141 c8)
theorem aoD : al6 = aP gG := by unfold al6 akk; rw [aK fun _ h => h, aK fun _ h => h, aK fun _ h => h]
noncomputable abbrev arl (a0 : (List D)) : Res := amC al6 (bV SE gG (SE.hl 143) (SE.hr 143)) (J0 SE al6) a0
theorem rK (b0 : aB) : Le (Option.map eR (l9 b0)) (arl (aB.enc b0)) := by
 refine Le.trans ?_ (le_of_eq ((bC aoD).trans (aqw _ _ _ _ _ _  b0)).symm)
 unfold l9
 refine aM (good := good) eX o6 (nS _) fun r2 _ => ?_
 refine lC ?_ ?_
 ·exact aH rfl
 ·refine lC ?_ ?_
  ·exact aH rfl
  ·refine lC ?_ ?_
   ·refine lC ?_ ?_
    ·exact aH rfl
    ·refine lC ?_ ?_
     ·exact aH rfl
     ·exact aH rfl
   ·exact aH rfl
theorem abH (p0 : aG) (p1 : Int) : Le (Option.map eR (lO p0 p1)) (aY SE 143 [aG.av p0, .d (.int .i64 p1)] [] []) := by
 refine aR aoD rfl ?_
 refine Le.trans ?_ (le_of_eq (avg _ _ _ _ _ _  p0 p1).symm)
 unfold lO
 refine lG (by simp only [EN]) ?_
 refine aM (good := good) eX aiM (by first | (simp only [EN]; exact aeo p0.Pool ((List.getD p0.Items (Int.toNat p1) default).ID)) | exact aeo p0.Pool ((List.getD p0.Items (Int.toNat p1) default).ID)) fun r0 _ => ?_
 refine lC ?_ ?_
 ·exact aH rfl
 ·refine lG (by simp only [EN]) ?_
  refine aM (good := good) eX yQ (by first | (simp only [EN]; exact tV (bN p0.Items none (some p1)) ((List.getD p0.Items (Int.toNat p1) default).ID)) | exact tV (bN p0.Items none (some p1)) ((List.getD p0.Items (Int.toNat p1) default).ID)) fun r1 _ => ?_
  refine lC ?_ ?_
  ·exact aH rfl
  ·first | (simp only [EN]; exact rK (List.getD p0.Items (Int.toNat p1) default)) | exact rK (List.getD p0.Items (Int.toNat p1) default)
def alo (C : aO) (Λ2 J : Lam) (a0 : Int) (a1 : Int) (a2 : (List D)) : Res := lab SE C Λ2 J 85 0 [1, 1, 1, 1, 0, 1, 0] (aZ [(1, .ptr 1000000000 0), (26, .d (.int .i64 a0)), (27, .d (.int .i64 a1))] [⟨29, (List.map AV.d a2)⟩] [] [] [])
def aoU (C : aO) (Λ2 J : Lam) (a0 : (List D)) : Res := lab SE C Λ2 J 85 0 [1, 1, 0, 0] (aZ [(1, .ptr 1000000000 0)] [⟨29, (List.map AV.d a0)⟩] [] [] [])
section
variable (Γ : Fun) (γ142 : Gm (Int)) (γ143 : Gm (Int)) (Λ2 J : Lam)
def C85 : aO := bA (bA (aP Γ) 142 kB γ142) 143 eR γ143
theorem T85 (p0 : aG) : bD SE (C85 Γ γ142 γ143) Λ2 J 85 [aG.av p0] [] [] =
 cond (decide (p0.Limit < 0)) (
 (some (.ret [.d (.int .i64 1)] [] []))) (
 cond (decide (p0.Limit > 32)) (
 (some (.ret [.d (.int .i64 1)] [] []))) (
 aoU (C85 Γ γ142 γ143) Λ2 J (aG.enc p0))) := by kernel_rfl
theorem ata (x26 : Int) (x27 : Int) (b0 : aG) : cB SE (C85 Γ γ142 γ143) Λ2 J 85 0 [1, 1, 1, 1, 0, 1, 0] (aZ [(1, .ptr 1000000000 0), (26, .d (.int .i64 x26)), (27, .d (.int .i64 x27))] [⟨29, (List.map AV.d (aG.enc b0))⟩] [] [] []) =
 cond (decide (x27 < x26)) (
 γ143 [aG.av b0, .d (.int .i64 x27)] [] [] fun r1 =>
 cond (r1 != 0) (
  (some (.ret [.d (.int .i64 r1)] [] []))) (
 alo (C85 Γ γ142 γ143) Λ2 J x26 (IntKind.wrap .i64 (x27 + 1)) (aG.enc b0))) (
 cond (decide ((List.length (List.map aB.enc b0.Items) : Int) < (List.length (List.map (encI .i64) b0.Pool.Used) : Int))) (
 (some (.ret [.d (.int .i64 15)] [] []))) (
 (some (.ret [.d (.int .i64 0)] [] [])))) := by kernel_rfl
theorem asq (b0 : aG) : cB SE (C85 Γ γ142 γ143) Λ2 J 85 0 [1, 1, 0, 0] (aZ [(1, .ptr 1000000000 0)] [⟨29, (List.map AV.d (aG.enc b0))⟩] [] [] []) =
 γ142 [aJ.av b0.Pool] [] [] fun r0 =>
 cond (r0 != 0) (
 (some (.ret [.d (.int .i64 r0)] [] []))) (
 cond (decide ((List.length (List.map aB.enc b0.Items) : Int) > 32)) (
 (some (.ret [.d (.int .i64 5)] [] []))) (
 alo (C85 Γ γ142 γ143) Λ2 J (List.length (List.map aB.enc b0.Items) : Int) 0 (aG.enc b0))) := by kernel_rfl
end
abbrev X85 : aO := C85 gG (cT 142 kB) (cT 143 eR)
theorem an4 : X85 = aP gG := by unfold X85 C85; rw [aK fun _ h => h, aK fun _ h => h]
noncomputable abbrev asO (a0 : Int) (a1 : Int) (a2 : (List D)) : Res := alo X85 (bV SE gG (SE.hl 85) (SE.hr 85)) (J0 SE X85) a0 a1 a2
noncomputable abbrev asI (a0 : (List D)) : Res := aoU X85 (bV SE gG (SE.hl 85) (SE.hr 85)) (J0 SE X85) a0
theorem vH : ∀ (fu : Nat) (x26 : Int) (x27 : Int) (b0 : aG), Le (Option.map fP (iR fu x26 x27 b0)) (asO x26 x27 (aG.enc b0)) := by
 intro fu
 induction fu with
 | zero => intros; exact le_none
 | succ fu ih =>
  intro x26 x27 b0
  refine Le.trans ?_ (le_of_eq ((bC an4).trans (ata _ _ _ _ _  x26 x27 b0)).symm)
  unfold iR
  refine lC ?_ ?_
  ·refine aM (good := good) eX abg (abH _ _) fun r1 _ => ?_
   refine lC ?_ ?_
   ·exact aH rfl
   ·exact ih x26 (IntKind.wrap .i64 (x27 + 1)) b0
  ·refine lD (by simp only [EN]) ?_ ?_
   ·exact aH rfl
   ·exact aH rfl
theorem acO (b0 : aG) : Le (Option.map fP (o8 b0)) (asI (aG.enc b0)) := by
 refine Le.trans ?_ (le_of_eq ((bC an4).trans (asq _ _ _ _ _  b0)).symm)
 unfold o8
 refine aM (good := good) eX aga (ahO _) fun r0 _ => ?_
 refine lC ?_ ?_
 ·exact aH rfl
 ·refine lD (by simp only [EN]) ?_ ?_
  ·exact aH rfl
  ·first | (simp only [EN]; exact vH fuel (List.length b0.Items : Int) 0 b0) | exact vH fuel (List.length b0.Items : Int) 0 b0
theorem ae4 (p0 : aG) : Le (Option.map fP (pM p0)) (aY SE 85 [aG.av p0] [] []) := by
 refine aR an4 rfl ?_
 refine Le.trans ?_ (le_of_eq (T85 _ _ _ _ _  p0).symm)
 unfold pM
 refine lC ?_ ?_
 ·exact aH rfl
 ·refine lC ?_ ?_
  ·exact aH rfl
  ·exact acO p0
def alx (C : aO) (Λ2 J : Lam) (a0 : Int) (a1 : (List (List D))) (a2 : Int) (a3 : Int) : Res := lab SE C Λ2 J 86 0 [1, 1, 1, 0, 1, 0] (aZ [(3, .d (.int .i64 a0)), (11, .d (.sl [.int .i64] a1)), (12, .d (.int .i64 a2)), (13, .d (.int .i64 a3))] [] [] [] [])
section
variable (Γ : Fun)  (Λ2 J : Lam)
def C86 : aO := aP Γ
theorem T86 (p0 : aS) : bD SE (C86 Γ) Λ2 J 86 [aS.av p0] [] [] =
 cond (decide ((List.length (List.map (encI .i64) p0.IDs) : Int) > 32)) (
 (some (.ret [.d (.int .i64 5)] [] []))) (
 alx (C86 Γ) Λ2 J 0 (List.map (encI .i64) p0.IDs) (List.length (List.map (encI .i64) p0.IDs) : Int) 0) := by kernel_rfl
theorem atc (x3 : Int) (x11 : (List Int)) (x12 : Int) (x13 : Int) : cB SE (C86 Γ) Λ2 J 86 0 [1, 1, 1, 0, 1, 0] (aZ [(3, .d (.int .i64 x3)), (11, .d (.sl [.int .i64] (List.map (encI .i64) x11))), (12, .d (.int .i64 x12)), (13, .d (.int .i64 x13))] [] [] [] []) =
 cond (decide (x13 < x12)) (
 cond (decide (0 ≤ x13) && decide (x13 < (List.length (List.map (encI .i64) x11) : Int))) (
  cond (decide ((aL (cellAt (elemAt (List.map (encI .i64) x11) (Int.toNat x13)) 0)) ≤ x3)) (
  (some (.ret [.d (.int .i64 15)] [] []))) (
  cond (decide ((aL (cellAt (elemAt (List.map (encI .i64) x11) (Int.toNat x13)) 0)) > 65535)) (
  (some (.ret [.d (.int .i64 15)] [] []))) (
  alx (C86 Γ) Λ2 J ((aL (cellAt (elemAt (List.map (encI .i64) x11) (Int.toNat x13)) 0))) (List.map (encI .i64) x11) x12 (IntKind.wrap .i64 (x13 + 1))))) none) (
 (some (.ret [.d (.int .i64 0)] [] []))) := by kernel_rfl
end
abbrev X86 : aO := C86 gG
theorem aqb : X86 = aP gG := rfl
noncomputable abbrev asV (a0 : Int) (a1 : (List (List D))) (a2 : Int) (a3 : Int) : Res := alx X86 (bV SE gG (SE.hl 86) (SE.hr 86)) (J0 SE X86) a0 a1 a2 a3
theorem vX : ∀ (fu : Nat) (x3 : Int) (x11 : (List Int)) (x12 : Int) (x13 : Int), Le (Option.map iI (jI fu x3 x11 x12 x13)) (asV x3 (List.map (encI .i64) x11) x12 x13) := by
 intro fu
 induction fu with
 | zero => intros; exact le_none
 | succ fu ih =>
  intro x3 x11 x12 x13
  refine Le.trans ?_ (le_of_eq ((bC aqb).trans (atc _ _ _  x3 x11 x12 x13)).symm)
  unfold jI
  refine lC ?_ ?_
  ·refine lG (by simp only [EN]) ?_
   refine lD (by simp only [EN]) ?_ ?_
   ·exact aH rfl
   ·refine lD (by simp only [EN]) ?_ ?_
    ·exact aH rfl
    ·first | (simp only [EN]; exact ih (List.getD x11 (Int.toNat x13) default) x11 x12 (IntKind.wrap .i64 (x13 + 1))) | exact ih (List.getD x11 (Int.toNat x13) default) x11 x12 (IntKind.wrap .i64 (x13 + 1))
  ·exact aH rfl
theorem afQ (p0 : aS) : Le (Option.map iI (n8 p0)) (aY SE 86 [aS.av p0] [] []) := by
 refine aR aqb rfl ?_
 refine Le.trans ?_ (le_of_eq (T86 _ _ _  p0).symm)
 unfold n8
 refine lD (by simp only [EN]) ?_ ?_
 ·exact aH rfl
 ·first | (simp only [EN]; exact vX fuel 0 p0.IDs (List.length p0.IDs : Int) 0) | exact vX fuel 0 p0.IDs (List.length p0.IDs : Int) 0
def ajy (C : aO) (Λ2 J : Lam) (a0 : (List (List D))) (a1 : Int) (a2 : Int) (a3 : (List D)) : Res := lab SE C Λ2 J 144 0 [1, 1, 0, 1, 0] (aZ [(3, .ptr 1000000000 0), (71, .d (.sl aC.ks a0)), (72, .d (.int .i64 a1)), (73, .d (.int .i64 a2))] [⟨34, (List.map AV.d a3)⟩] [] [] [])
def ama (C : aO) (Λ2 J : Lam) (a0 : (List D)) (a1 : (List D)) : Res := lab SE C Λ2 J 144 0 [1, 1, 0, 0] (aZ [(2, .ptr 1000000000 0), (3, .ptr 1000000001 0)] [⟨34, (List.map AV.d a0)⟩, ⟨34, (List.map AV.d a1)⟩] [] [] [])
section
variable (Γ : Fun)  (Λ2 J : Lam)
def afT : aO := aP Γ
theorem avW (p0 : aA) (p1 : aA) : bD SE (afT Γ) Λ2 J 144 [aA.av p0, aA.av p1] [] [] =
 cond (!(p0.Topic == p1.Topic)) (
 (some (.ret [.d (.bool false)] [] []))) (
 cond (!(p0.Payload == p1.Payload)) (
 (some (.ret [.d (.bool false)] [] []))) (
 cond (p0.Level != p1.Level) (
 (some (.ret [.d (.bool false)] [] []))) (
 cond (p0.Retain != p1.Retain) (
 (some (.ret [.d (.bool false)] [] []))) (
 cond (p0.Priority != p1.Priority) (
 (some (.ret [.d (.bool false)] [] []))) (
 cond (p0.Expires != p1.Expires) (
 (some (.ret [.d (.bool false)] [] []))) (
 cond (!(p0.From == p1.From)) (
 (some (.ret [.d (.bool false)] [] []))) (
 cond (p0.Seq != p1.Seq) (
 (some (.ret [.d (.bool false)] [] []))) (
 cond ((List.length (List.map aC.enc p0.Props) : Int) != (List.length (List.map aC.enc p1.Props) : Int)) (
 (some (.ret [.d (.bool false)] [] []))) (
 ama (afT Γ) Λ2 J (aA.enc p0) (aA.enc p1)))))))))) := by kernel_rfl
theorem arW (x71 : (List aC)) (x72 : Int) (x73 : Int) (b0 : aA) : cB SE (afT Γ) Λ2 J 144 0 [1, 1, 0, 1, 0] (aZ [(3, .ptr 1000000000 0), (71, .d (.sl aC.ks (List.map aC.enc x71))), (72, .d (.int .i64 x72)), (73, .d (.int .i64 x73))] [⟨34, (List.map AV.d (aA.enc b0))⟩] [] [] []) =
 cond (decide (x73 < x72)) (
 cond (decide (0 ≤ x73) && decide (x73 < (List.length (List.map aC.enc x71) : Int))) (
  cond (decide (0 ≤ x73) && decide (x73 < (List.length (List.map aC.enc b0.Props) : Int))) (
  cond (!(((aV (cellAt (elemAt (List.map aC.enc x71) (Int.toNat x73)) 0)) == (aV (cellAt (elemAt (List.map aC.enc b0.Props) (Int.toNat x73)) 0))) && (((aV (cellAt (elemAt (List.map aC.enc x71) (Int.toNat x73)) 1)) == (aV (cellAt (elemAt (List.map aC.enc b0.Props) (Int.toNat x73)) 1))) && true))) (
   (some (.ret [.d (.bool false)] [] []))) (
  ajy (afT Γ) Λ2 J (List.map aC.enc x71) x72 (IntKind.wrap .i64 (x73 + 1)) (aA.enc b0))) none) none) (
 (some (.ret [.d (.bool true)] [] []))) := by kernel_rfl
theorem asm (b0 : aA) (b1 : aA) : cB SE (afT Γ) Λ2 J 144 0 [1, 1, 0, 0] (aZ [(2, .ptr 1000000000 0), (3, .ptr 1000000001 0)] [⟨34, (List.map AV.d (aA.enc b0))⟩, ⟨34, (List.map AV.d (aA.enc b1))⟩] [] [] []) =
 ajy (afT Γ) Λ2 J (List.map aC.enc b0.Props) (List.length (List.map aC.enc b0.Props) : Int) 0 (aA.enc b1) := by kernel_rfl
end
abbrev ajf : aO := afT gG
theorem alh : ajf = aP gG := rfl
noncomputable abbrev apR (a0 : (List (List D))) (a1 : Int) (a2 : Int) (a3 : (List D)) : Res := ajy ajf (bV SE gG (SE.hl 144) (SE.hr 144)) (J0 SE ajf) a0 a1 a2 a3
noncomputable abbrev aqT (a0 : (List D)) (a1 : (List D)) : Res := ama ajf (bV SE gG (SE.hl 144) (SE.hr 144)) (J0 SE ajf) a0 a1
theorem xG : ∀ (fu : Nat) (x71 : (List aC)) (x72 : Int) (x73 : Int) (b0 : aA), Le (Option.map iC (j6 fu x71 x72 x73 b0)) (apR (List.map aC.enc x71) x72 x73 (aA.enc b0)) := by
 intro fu
 induction fu with
 | zero => intros; exact le_none
 | succ fu ih =>
  intro x71 x72 x73 b0
  refine Le.trans ?_ (le_of_eq ((bC alh).trans (arW _ _ _  x71 x72 x73 b0)).symm)
  unfold j6
  refine lC ?_ ?_
  ·refine lG (by simp only [EN]) ?_
   refine lG (by simp only [EN]) ?_
   refine lD (by simp only [EN]) ?_ ?_
   ·exact aH rfl
   ·exact ih x71 x72 (IntKind.wrap .i64 (x73 + 1)) b0
  ·exact aH rfl
theorem adH (b0 : aA) (b1 : aA) : Le (Option.map iC (qZ b0 b1)) (aqT (aA.enc b0) (aA.enc b1)) := by
 refine Le.trans ?_ (le_of_eq ((bC alh).trans (asm _ _ _  b0 b1)).symm)
 unfold qZ
 first | (simp only [EN]; exact xG fuel b0.Props (List.length b0.Props : Int) 0 b1) | exact xG fuel b0.Props (List.length b0.Props : Int) 0 b1
theorem aa9 (p0 : aA) (p1 : aA) : Le (Option.map iC (rF p0 p1)) (aY SE 144 [aA.av p0, aA.av p1] [] []) := by
 refine aR alh rfl ?_
 refine Le.trans ?_ (le_of_eq (avW _ _ _  p0 p1).symm)
 unfold rF
 refine lC ?_ ?_
 ·exact aH rfl
 ·refine lC ?_ ?_
  ·exact aH rfl
  ·refine lC ?_ ?_
   ·exact aH rfl
   ·refine lC ?_ ?_
    ·exact aH rfl
    ·refine lC ?_ ?_
     ·exact aH rfl
     ·refine lC ?_ ?_
      ·exact aH rfl
      ·refine lC ?_ ?_
       ·exact aH rfl
       ·refine lC ?_ ?_
        ·exact aH rfl
        ·refine lD (by simp only [EN]) ?_ ?_
         ·exact aH rfl
         ·exact adH p0 p1
section
variable (Γ : Fun) (γ144 : Gm (Bool)) (γ141 : Gm (Int)) (Λ2 J : Lam)
def C87 : aO := bA (bA (aP Γ) 144 iC γ144) 141 c8 γ141
theorem T87 (p0 : aN) : bD SE (C87 Γ γ144 γ141) Λ2 J 87 [aN.av p0] [] [] =
 cond (!p0.Set) (
 cond (p0.Delay != 0) (
  (some (.ret [.d (.int .i64 28)] [] []))) (
 γ144 [aA.av p0.Message, .agg [.d (.str ([] : Str)), .d (.str ([] : Str)), .d (.int .i64 0), .d (.bool false), .d (.int .i64 0), .d (.int .i64 0), .d (.str ([] : Str)), .d (.int .i64 0), .d (.sl aC.ks (List.map aC.enc []))]] [] [] fun r0 =>
 cond (!r0) (
  (some (.ret [.d (.int .i64 28)] [] []))) (
 (some (.ret [.d (.int .i64 0)] [] []))))) (
 cond (decide (p0.Delay < 0)) (
 (some (.ret [.d (.int .i64 1)] [] []))) (
 cond (decide (p0.Delay > 1099511627776)) (
 (some (.ret [.d (.int .i64 1)] [] []))) (
 γ141 [aA.av p0.Message] [] [] fun r1 =>
 (some (.ret [.d (.int .i64 r1)] [] []))))) := by kernel_rfl
end
abbrev X87 : aO := C87 gG (cT 144 iC) (cT 141 c8)
theorem avp : X87 = aP gG := by unfold X87 C87; rw [aK fun _ h => h, aK fun _ h => h]
theorem aiE (p0 : aN) : Le (Option.map nH (vP p0)) (aY SE 87 [aN.av p0] [] []) := by
 refine aR avp rfl ?_
 refine Le.trans ?_ (le_of_eq (T87 _ _ _ _ _  p0).symm)
 unfold vP
 refine lC ?_ ?_
 ·refine lC ?_ ?_
  ·exact aH rfl
  ·refine aM (good := good) eX afH (by first | (simp only [EN]; exact aa9 p0.Message ((aA.mk ([] : Str) ([] : Str) 0 false 0 0 ([] : Str) 0 ([] : List aC)))) | exact aa9 p0.Message ((aA.mk ([] : Str) ([] : Str) 0 false 0 0 ([] : Str) 0 ([] : List aC)))) fun r0 _ => ?_
   refine lC ?_ ?_
   ·exact aH rfl
   ·exact aH rfl
 ·refine lC ?_ ?_
  ·exact aH rfl
  ·refine lC ?_ ?_
   ·exact aH rfl
   ·refine aM (good := good) eX o6 (nS _) fun r1 _ => ?_
    exact aH rfl
section
variable (Γ : Fun) (γ83 : Gm (Int)) (γ84 : Gm (Int)) (γ85 : Gm (Int)) (γ86 : Gm (Int)) (γ87 : Gm (Int)) (Λ2 J : Lam)
def C33 : aO := bA (bA (bA (bA (bA (aP Γ) 83 eG γ83) 84 dN γ84) 85 fP γ85) 86 iI γ86) 87 nH γ87
theorem T33 (p0 : aD) : bD SE (C33 Γ γ83 γ84 γ85 γ86 γ87) Λ2 J 33 [aD.av p0] [] [] =
 γ83 [aD.av p0] [] [] fun r0 =>
 cond (r0 != 0) (
 (some (.ret [.d (.int .i64 r0)] [] []))) (
 γ84 [aD.av p0] [] [] fun r1 =>
 cond (r1 != 0) (
 (some (.ret [.d (.int .i64 r1)] [] []))) (
 γ85 [aG.av p0.Out] [] [] fun r2 =>
 cond (r2 != 0) (
 (some (.ret [.d (.int .i64 r2)] [] []))) (
 γ86 [aS.av p0.In] [] [] fun r3 =>
 cond (r3 != 0) (
 (some (.ret [.d (.int .i64 r3)] [] []))) (
 γ87 [aN.av p0.Will] [] [] fun r4 =>
 (some (.ret [.d (.int .i64 r4)] [] [])))))) := by kernel_rfl
end
abbrev X33 : aO := C33 gG (cT 83 eG) (cT 84 dN) (cT 85 fP) (cT 86 iI) (cT 87 nH)
theorem avO : X33 = aP gG := by unfold X33 C33; rw [aK fun _ h => h, aK fun _ h => h, aK fun _ h => h, aK fun _ h => h, aK fun _ h => h]
theorem afz (p0 : aD) : Le (Option.map kK (qE p0)) (aY SE 33 [aD.av p0] [] []) := by
 refine aR avO rfl ?_
 refine Le.trans ?_ (le_of_eq (T33 _ _ _ _ _ _ _ _  p0).symm)
 unfold qE
 refine aM (good := good) eX abL (acU _) fun r0 _ => ?_
 refine lC ?_ ?_
 ·exact aH rfl
 ·refine aM (good := good) eX abr (acd _) fun r1 _ => ?_
  refine lC ?_ ?_
  ·exact aH rfl
  ·refine aM (good := good) eX aei (ae4 _) fun r2 _ => ?_
   refine lC ?_ ?_
   ·exact aH rfl
   ·refine aM (good := good) eX ae9 (afQ _) fun r3 _ => ?_
    refine lC ?_ ?_
    ·exact aH rfl
    ·refine aM (good := good) eX ahi (aiE _) fun r4 _ => ?_
     exact aH rfl
section
variable (Γ : Fun)  (Λ2 J : Lam)
def ar3 : aO := aP Γ
theorem avF (p0 : Int) : bD SE (ar3 Γ) Λ2 J 100 [.d (.int .u8 p0)] [] [] =
 cond (decide (p0 ≥ 97)) (
 (some (.ret [.d (.bool (decide (p0 ≤ 122)))] [] []))) (
 (some (.ret [.d (.bool false)] [] []))) := by kernel_rfl
end
abbrev auK : aO := ar3 gG
theorem asy : auK = aP gG := rfl
theorem vF (p0 : Int) : Le (Option.map gY (kC p0)) (aY SE 100 [.d (.int .u8 p0)] [] []) := by
 refine aR asy rfl ?_
 refine Le.trans ?_ (le_of_eq (avF _ _ _  p0).symm)
 unfold kC
 refine lC ?_ ?_
 ·exact aH rfl
 ·exact aH rfl
section
variable (Γ : Fun)  (Λ2 J : Lam)
def ap7 : aO := aP Γ
theorem auR (p0 : Int) : bD SE (ap7 Γ) Λ2 J 101 [.d (.int .u8 p0)] [] [] =
 cond (decide (p0 ≥ 48)) (
 (some (.ret [.d (.bool (decide (p0 ≤ 57)))] [] []))) (
 (some (.ret [.d (.bool false)] [] []))) := by kernel_rfl
end
abbrev auV : aO := ap7 gG
theorem aus : auV = aP gG := rfl
theorem acK (p0 : Int) : Le (Option.map g5 (mP p0)) (aY SE 101 [.d (.int .u8 p0)] [] []) := by
 refine aR aus rfl ?_
 refine Le.trans ?_ (le_of_eq (auR _ _ _  p0).symm)
 unfold mP
 refine lC ?_ ?_
 ·exact aH rfl
 ·exact aH rfl
def agZ (C : aO) (Λ2 J : Lam) (a0 : Str) (a1 : Int) : Res := lab SE C Λ2 J 48 0 [1, 1, 0, 1, 0] (aZ [(0, .d (.str a0)), (3, .d (.int .i64 a1))] [] [] [] [])
def aoI (C : aO) (Λ2 J : Lam) (a0 : Str) : Res := lab SE C Λ2 J 48 0 [1, 1, 0, 0] (aZ [(0, .d (.str a0))] [] [] [] [])
section
variable (Γ : Fun) (γ100 : Gm (Bool)) (γ101 : Gm (Bool)) (Λ2 J : Lam)
def C48 : aO := bA (bA (aP Γ) 100 gY γ100) 101 g5 γ101
theorem T48 (p0 : Str) : bD SE (C48 Γ γ100 γ101) Λ2 J 48 [.d (.str p0)] [] [] =
 cond (decide ((List.length p0 : Int) < 1)) (
 (some (.ret [.d (.bool false)] [] []))) (
 cond (decide ((List.length p0 : Int) > 16)) (
 (some (.ret [.d (.bool false)] [] []))) (
 cond (decide (0 ≤ 0) && decide (0 < (List.length p0 : Int))) (
 γ100 [.d (.int .u8 (UInt8.toNat (List.getD p0 (Int.toNat 0) 0) : Int))] [] [] fun r0 =>
 cond (!r0) (
  (some (.ret [.d (.bool false)] [] []))) (
 aoI (C48 Γ γ100 γ101) Λ2 J p0)) none)) := by kernel_rfl
theorem atS (x0 : Str) (x3 : Int) : cB SE (C48 Γ γ100 γ101) Λ2 J 48 0 [1, 1, 0, 1, 0] (aZ [(0, .d (.str x0)), (3, .d (.int .i64 x3))] [] [] [] []) =
 cond (decide (x3 < (List.length x0 : Int))) (
 cond (decide (0 ≤ x3) && decide (x3 < (List.length x0 : Int))) (
  γ100 [.d (.int .u8 (UInt8.toNat (List.getD x0 (Int.toNat x3) 0) : Int))] [] [] fun r1 =>
  cond (!r1) (
  cond (decide (0 ≤ x3) && decide (x3 < (List.length x0 : Int))) (
   γ101 [.d (.int .u8 (UInt8.toNat (List.getD x0 (Int.toNat x3) 0) : Int))] [] [] fun r2 =>
   cond (!r2) (
   cond (decide (0 ≤ x3) && decide (x3 < (List.length x0 : Int))) (
    cond ((UInt8.toNat (List.getD x0 (Int.toNat x3) 0) : Int) != 45) (
    (some (.ret [.d (.bool false)] [] []))) (
    agZ (C48 Γ γ100 γ101) Λ2 J x0 (IntKind.wrap .i64 (x3 + 1)))) none) (
   agZ (C48 Γ γ100 γ101) Λ2 J x0 (IntKind.wrap .i64 (x3 + 1)))) none) (
  agZ (C48 Γ γ100 γ101) Λ2 J x0 (IntKind.wrap .i64 (x3 + 1)))) none) (
 (some (.ret [.d (.bool true)] [] []))) := by kernel_rfl
theorem atI (x0 : Str) : cB SE (C48 Γ γ100 γ101) Λ2 J 48 0 [1, 1, 0, 0] (aZ [(0, .d (.str x0))] [] [] [] []) =
 agZ (C48 Γ γ100 γ101) Λ2 J x0 0 := by kernel_rfl
end
abbrev X48 : aO := C48 gG (cT 100 gY) (cT 101 g5)
theorem aom : X48 = aP gG := by unfold X48 C48; rw [aK fun _ h => h, aK fun _ h => h]
noncomputable abbrev atD (a0 : Str) (a1 : Int) : Res := agZ X48 (bV SE gG (SE.hl 48) (SE.hr 48)) (J0 SE X48) a0 a1
noncomputable abbrev aug (a0 : Str) : Res := aoI X48 (bV SE gG (SE.hl 48) (SE.hr 48)) (J0 SE X48) a0
theorem abu : ∀ (fu : Nat) (x0 : Str) (x3 : Int), Le (Option.map cI (dY fu x0 x3)) (atD x0 x3) := by
 intro fu
 induction fu with
 | zero => intros; exact le_none
 | succ fu ih =>
  intro x0 x3
  refine Le.trans ?_ (le_of_eq ((bC aom).trans (atS _ _ _ _ _  x0 x3)).symm)
  unfold dY
  refine lC ?_ ?_
  ·refine lF ?_
   refine aM (good := good) eX uK (vF _) fun r1 _ => ?_
   refine lC ?_ ?_
   ·refine lF ?_
    refine aM (good := good) eX ab5 (acK _) fun r2 _ => ?_
    refine lC ?_ ?_
    ·refine lF ?_
     refine lC ?_ ?_
     ·exact aH rfl
     ·exact ih x0 (IntKind.wrap .i64 (x3 + 1))
    ·exact ih x0 (IntKind.wrap .i64 (x3 + 1))
   ·exact ih x0 (IntKind.wrap .i64 (x3 + 1))
  ·exact aH rfl
theorem abw (x0 : Str) : Le (Option.map cI (nV x0)) (aug x0) := by
 refine Le.trans ?_ (le_of_eq ((bC aom).trans (atI _ _ _ _ _  x0)).symm)
 unfold nV
 exact abu fuel x0 0
theorem nY (p0 : Str) : Le (Option.map cI (iB p0)) (aY SE 48 [.d (.str p0)] [] []) := by
 refine aR aom rfl ?_
 refine Le.trans ?_ (le_of_eq (T48 _ _ _ _ _  p0).symm)
 unfold iB
 refine lC ?_ ?_
 ·exact aH rfl
 ·refine lC ?_ ?_
  ·exact aH rfl
  ·refine lF ?_
   refine aM (good := good) eX uK (vF _) fun r0 _ => ?_
   refine lC ?_ ?_
   ·exact aH rfl
   ·exact abw p0
section
variable (Γ : Fun)  (Λ2 J : Lam)
def C94 : aO := aP Γ
theorem T94 (p0 : Int) (p1 : Int) : bD SE (C94 Γ) Λ2 J 94 [.d (.int .i64 p0), .d (.int .i64 p1)] [] [] =
 cond (decide (p0 ≥ 0)) (
 (some (.ret [.d (.bool (decide (p0 ≤ p1)))] [] []))) (
 (some (.ret [.d (.bool false)] [] []))) := by kernel_rfl
end
abbrev X94 : aO := C94 gG
theorem av0 : X94 = aP gG := rfl
theorem sX (p0 : Int) (p1 : Int) : Le (Option.map jP (k8 p0 p1)) (aY SE 94 [.d (.int .i64 p0), .d (.int .i64 p1)] [] []) := by
 refine aR av0 rfl ?_
 refine Le.trans ?_ (le_of_eq (T94 _ _ _  p0 p1).symm)
 unfold k8
 refine lC ?_ ?_
 ·exact aH rfl
 ·exact aH rfl
end Te
end PX
