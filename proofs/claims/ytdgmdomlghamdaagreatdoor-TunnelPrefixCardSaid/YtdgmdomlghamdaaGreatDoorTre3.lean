import Derived.Test.YtdgmdomlghamdaaGreatDoorTre2
set_option linter.unusedVariables false
set_option linter.unusedSimpArgs false
set_option maxRecDepth 100000
noncomputable section
namespace PX
open Go
open Md
namespace Te
def axW (C : aS) (Λ2 J : Lam) (a0 a1 : List (List D)) (a2 : Int) (a3 : Bool) (a4 a5 a6 a7 : Int) (a8 : Bool) (a9 : List D) (a10 : List (List D)) : Res := lab SE C Λ2 J 5 0 [1, 1, 1, 1, 1, 1, 1, 1, 0, 1, 0, 0, 1, 0, 0, 1, 1, 0] (bA [(1, .d (.sl [.sl aA.ks] a0)), (2, .d (.sl [.int .i64] a1)), (7, .row 3007), (13, .ptr 1000000000 0), (14, dIq a2), (15, dBq a3), (16, dIq a4), (17, dIq a5), (92, dIq a6), (93, .row 3007), (94, dIq a7), (95, dBq a8)] [⟨23, (List.map AV.d a9)⟩] [] [] [(3007, ⟨[.sl [.int .u8]], 27, 24, a10⟩), (3007, ⟨[.sl [.int .u8]], 27, 24, a10⟩)])
def afF (C : aS) (Λ2 J : Lam) (a0 a1 : List (List D)) (a2 : Int) (a3 : Bool) (a4 : Int) (a5 : List D) (a6 : List (List D)) : Res := lab SE C Λ2 J 5 0 [1, 1, 1, 1, 1, 1, 1, 1, 0, 1, 0] (bA [(1, .d (.sl [.sl aA.ks] a0)), (2, .d (.sl [.int .i64] a1)), (7, .row 3007), (13, .ptr 1000000000 0), (14, dIq a2), (15, dBq a3), (16, dIq a4)] [⟨23, (List.map AV.d a5)⟩] [] [] [(3007, ⟨[.sl [.int .u8]], 27, 24, a6⟩)])
def axp (C : aS) (Λ2 J : Lam) (a0 : Int) (a1 a2 : List (List D)) (a3 : Int) (a4 : List D) (a5 : List (List D)) : Res := lab SE C Λ2 J 5 0 [1, 1, 1, 1, 0, 1, 0] (bA [(0, dIq a0), (1, .d (.sl [.sl aA.ks] a1)), (2, .d (.sl [.int .i64] a2)), (7, .row 3007), (8, .ptr 1000000000 0), (9, dIq a3)] [⟨23, (List.map AV.d a4)⟩] [] [] [(3007, ⟨[.sl [.int .u8]], 27, 24, a5⟩)])
def aCu (C : aS) (Λ2 J : Lam) (a0 : Int) (a1 a2 : List (List D)) : Res := lab SE C Λ2 J 5 0 [1, 1, 0] (bA [(0, dIq a0), (1, .d (.sl [.sl aA.ks] a1)), (2, .d (.sl [.int .i64] a2))] [] [] [] [])
section
variable (Γ : Fun) (γ8 : Gm (Bool)) (γ15 : Gm (aI)) (γ16 : Gm (Bool)) (γ9 : Gm ((List Int) × aI × Int)) (γ12 : Gm ((List aA) × aI × Int)) (γ14 : Gm (Bool)) (Λ2 J : Lam)
def C5 : aS := bG (bG (bG (bG (bG (bG (aT Γ) 8 packet_is_out γ8) 15 eG γ15) 16 packet_is_out γ16) 9 dY γ9) 12 dQ γ12) 14 packet_is_out γ14
theorem T5 (p0 : Int) (p1 : List (List aA)) (p2 : List Int) : bL SE (C5 Γ γ8 γ15 γ16 γ9 γ12 γ14) Λ2 J 5 [dIq p0, .d (.sl [.sl aA.ks] (List.map (eL aA.ks aA.enc) p1)), .d (.sl [.int .i64] (List.map eI p2))] [] [] =
 cond (decide (p0 < 0)) (
 γ8 [] [] [] fun r0 =>
 (rB r0)) (
 cond (decide (p0 > 1099511627776)) (
 γ8 [] [] [] fun r1 =>
 (rB r1)) (
 cond (decide ((lM (eL aA.ks aA.enc) p1 : Int) > 8)) (
 γ8 [] [] [] fun r2 =>
 (rB r2)) (
 cond (decide ((lM eI p2 : Int) > 24)) (
 γ8 [] [] [] fun r3 =>
 (rB r3)) (
 aCu (C5 Γ γ8 γ15 γ16 γ9 γ12 γ14) Λ2 J p0 (List.map (eL aA.ks aA.enc) p1) (List.map eI p2))))) := by kernel_rfl
theorem aCX (x1 : List (List aA)) (x2 : List Int) (x14 : Int) (x15 : Bool) (x16 x17 x92 x94 : Int) (x95 : Bool) (b0 : aI) (w3007 : List (List Int)) : cJ SE (C5 Γ γ8 γ15 γ16 γ9 γ12 γ14) Λ2 J 5 0 [1, 1, 1, 1, 1, 1, 1, 1, 0, 1, 0, 0, 1, 0, 0, 1, 1, 0] (bA [(1, .d (.sl [.sl aA.ks] (List.map (eL aA.ks aA.enc) x1))), (2, .d (.sl [.int .i64] (List.map eI x2))), (7, .row 3007), (13, .ptr 1000000000 0), (14, dIq x14), (15, dBq x15), (16, dIq x16), (17, dIq x17), (92, dIq x92), (93, .row 3007), (94, dIq x94), (95, dBq x95)] [⟨23, (List.map AV.d (aI.enc b0))⟩] [] [] [(3007, ⟨[.sl [.int .u8]], 27, 24, (List.map (eL [.int .u8] (aN .u8)) w3007)⟩), (3007, ⟨[.sl [.int .u8]], 27, 24, (List.map (eL [.int .u8] (aN .u8)) w3007)⟩)]) =
 cond (iB x17 (lM (eL [.int .u8] (aN .u8)) w3007 : Int)) (
 γ12 [aI.av b0, .d (.sl [.int .u8] (dSl (cE (eL [.int .u8] (aN .u8)) w3007 x17 0)))] [] [] fun r10 =>
 cond x15 (
  cond (r10.2.2 != 21) (
  (rB false)) (
  cond ((lM aA.enc r10.1 : Int) != 0) (
  (rB false)) (
  cond (!r10.2.1.Broken) (
  (rB false)) (
  afF (C5 Γ γ8 γ15 γ16 γ9 γ12 γ14) Λ2 J (List.map (eL aA.ks aA.enc) x1) (List.map eI x2) x14 x15 (w6 (x16 + 1)) (aI.enc r10.2.1) (List.map (eL [.int .u8] (aN .u8)) w3007))))) (
 cond (decide (x17 < x14)) (
  cond (r10.2.2 != 26) (
  (rB false)) (
  cond ((lM aA.enc r10.1 : Int) != 0) (
  (rB false)) (
  cond (!((r10.2.1.Conn == b0.Conn) && ((r10.2.1.Sent == b0.Sent) && ((r10.2.1.Got == b0.Got) && ((r10.2.1.Broken == b0.Broken) && true))))) (
  (rB false)) (
  afF (C5 Γ γ8 γ15 γ16 γ9 γ12 γ14) Λ2 J (List.map (eL aA.ks aA.enc) x1) (List.map eI x2) x14 x15 (w6 (x16 + 1)) (aI.enc r10.2.1) (List.map (eL [.int .u8] (aN .u8)) w3007))))) (
 cond (decide (x17 > x14)) (
  cond (r10.2.2 != 22) (
  (rB false)) (
  cond ((lM aA.enc r10.1 : Int) != 0) (
  (rB false)) (
  cond (!r10.2.1.Broken) (
  (rB false)) (
  afF (C5 Γ γ8 γ15 γ16 γ9 γ12 γ14) Λ2 J (List.map (eL aA.ks aA.enc) x1) (List.map eI x2) x14 true (w6 (x16 + 1)) (aI.enc r10.2.1) (List.map (eL [.int .u8] (aN .u8)) w3007))))) (
 cond (r10.2.2 != 0) (
  (rB false)) (
 cond (iB x17 (lM (eL aA.ks aA.enc) x1 : Int)) (
  γ14 [.d (.sl aA.ks (List.map aA.enc r10.1)), .d (.sl aA.ks (dSl (cE (eL aA.ks aA.enc) x1 x17 0)))] [] [] fun r11 =>
  cond (!r11) (
  (rB false)) (
  cond (r10.2.1.Got != (w6 (x14 + 1))) (
  (rB false)) (
  cond r10.2.1.Broken (
  (rB false)) (
  afF (C5 Γ γ8 γ15 γ16 γ9 γ12 γ14) Λ2 J (List.map (eL aA.ks aA.enc) x1) (List.map eI x2) (w6 (x14 + 1)) x15 (w6 (x16 + 1)) (aI.enc r10.2.1) (List.map (eL [.int .u8] (aN .u8)) w3007))))) none))))) none := by kernel_rfl
theorem aEc (x1 : List (List aA)) (x2 : List Int) (x14 : Int) (x15 : Bool) (x16 : Int) (b0 : aI) (w3007 : List (List Int)) : cJ SE (C5 Γ γ8 γ15 γ16 γ9 γ12 γ14) Λ2 J 5 0 [1, 1, 1, 1, 1, 1, 1, 1, 0, 1, 0] (bA [(1, .d (.sl [.sl aA.ks] (List.map (eL aA.ks aA.enc) x1))), (2, .d (.sl [.int .i64] (List.map eI x2))), (7, .row 3007), (13, .ptr 1000000000 0), (14, dIq x14), (15, dBq x15), (16, dIq x16)] [⟨23, (List.map AV.d (aI.enc b0))⟩] [] [] [(3007, ⟨[.sl [.int .u8]], 27, 24, (List.map (eL [.int .u8] (aN .u8)) w3007)⟩)]) =
 cond (decide (x16 < (lM eI x2 : Int))) (
 cond (iB x16 (lM eI x2 : Int)) (
  cond (decide ((bC (cE eI x2 x16 0)) < 0)) (
  afF (C5 Γ γ8 γ15 γ16 γ9 γ12 γ14) Λ2 J (List.map (eL aA.ks aA.enc) x1) (List.map eI x2) x14 x15 (w6 (x16 + 1)) (aI.enc b0) (List.map (eL [.int .u8] (aN .u8)) w3007)) (
  cond (decide ((bC (cE eI x2 x16 0)) ≥ (lM (eL [.int .u8] (aN .u8)) w3007 : Int))) (
  afF (C5 Γ γ8 γ15 γ16 γ9 γ12 γ14) Λ2 J (List.map (eL aA.ks aA.enc) x1) (List.map eI x2) x14 x15 (w6 (x16 + 1)) (aI.enc b0) (List.map (eL [.int .u8] (aN .u8)) w3007)) (
  axW (C5 Γ γ8 γ15 γ16 γ9 γ12 γ14) Λ2 J (List.map (eL aA.ks aA.enc) x1) (List.map eI x2) x14 x15 x16 ((bC (cE eI x2 x16 0))) ((bC (cE eI x2 x16 0))) (lM (eL [.int .u8] (aN .u8)) w3007 : Int) ((decide ((bC (cE eI x2 x16 0)) ≥ (lM (eL [.int .u8] (aN .u8)) w3007 : Int)))) (aI.enc b0) (List.map (eL [.int .u8] (aN .u8)) w3007)))) none) (
 γ8 [] [] [] fun r9 =>
 (rB r9)) := by kernel_rfl
theorem aGy (x0 : Int) (x1 : List (List aA)) (x2 : List Int) (x9 : Int) (b0 : aI) (w3007 : List (List Int)) : cJ SE (C5 Γ γ8 γ15 γ16 γ9 γ12 γ14) Λ2 J 5 0 [1, 1, 1, 1, 0, 1, 0] (bA [(0, dIq x0), (1, .d (.sl [.sl aA.ks] (List.map (eL aA.ks aA.enc) x1))), (2, .d (.sl [.int .i64] (List.map eI x2))), (7, .row 3007), (8, .ptr 1000000000 0), (9, dIq x9)] [⟨23, (List.map AV.d (aI.enc b0))⟩] [] [] [(3007, ⟨[.sl [.int .u8]], 27, 24, (List.map (eL [.int .u8] (aN .u8)) w3007)⟩)]) =
 cond (decide (x9 < (lM (eL aA.ks aA.enc) x1 : Int))) (
 cond (iB x9 (lM (eL aA.ks aA.enc) x1 : Int)) (
  γ16 [.d (.sl aA.ks (dSl (cE (eL aA.ks aA.enc) x1 x9 0)))] [] [] fun r5 =>
  cond (!r5) (
  γ8 [] [] [] fun r6 =>
  (rB r6)) (
  cond (iB x9 (lM (eL aA.ks aA.enc) x1 : Int)) (
  γ9 [aI.av b0, .d (.sl aA.ks (dSl (cE (eL aA.ks aA.enc) x1 x9 0)))] [] [] fun r7 =>
  cond (r7.2.2 != 0) (
   (rB false)) (
  cond (r7.2.1.Sent != (w6 (x9 + 1))) (
   (rB false)) (
  cond (decide ((lM (eL [.int .u8] (aN .u8)) w3007 + lM (eL [.int .u8] (aN .u8)) [r7.1]) * 24 ≤ 140737488355328)) (
   axp (C5 Γ γ8 γ15 γ16 γ9 γ12 γ14) Λ2 J x0 (List.map (eL aA.ks aA.enc) x1) (List.map eI x2) (w6 (x9 + 1)) (aI.enc r7.2.1) (((List.map (eL [.int .u8] (aN .u8)) w3007) ++ (List.map (eL [.int .u8] (aN .u8)) [r7.1])))) none))) none)) none) (
 γ15 [dIq x0] [] [] fun r8 =>
 afF (C5 Γ γ8 γ15 γ16 γ9 γ12 γ14) Λ2 J (List.map (eL aA.ks aA.enc) x1) (List.map eI x2) 0 false 0 (aI.enc r8) (List.map (eL [.int .u8] (aN .u8)) w3007)) := by kernel_rfl
theorem aF1 (x0 : Int) (x1 : List (List aA)) (x2 : List Int) : cJ SE (C5 Γ γ8 γ15 γ16 γ9 γ12 γ14) Λ2 J 5 0 [1, 1, 0] (bA [(0, dIq x0), (1, .d (.sl [.sl aA.ks] (List.map (eL aA.ks aA.enc) x1))), (2, .d (.sl [.int .i64] (List.map eI x2)))] [] [] [] []) =
 γ15 [dIq x0] [] [] fun r4 =>
 axp (C5 Γ γ8 γ15 γ16 γ9 γ12 γ14) Λ2 J x0 (List.map (eL aA.ks aA.enc) x1) (List.map eI x2) 0 (aI.enc r4) (List.map (eL [.int .u8] (aN .u8)) []) := by kernel_rfl
end
abbrev X5 : aS := C5 gG (cT 8 packet_is_out) (cT 15 eG) (cT 16 packet_is_out) (cT 9 dY) (cT 12 dQ) (cT 14 packet_is_out)
theorem Cr5 : X5 = aT gG := by unfold X5 C5; repeat rw [bJ fun _ h => h]
abbrev aEN := axW X5 (cC SE gG (SE.hl 5) (SE.hr 5)) (J0 SE X5)
abbrev ayp := afF X5 (cC SE gG (SE.hl 5) (SE.hr 5)) (J0 SE X5)
abbrev aHs := axp X5 (cC SE gG (SE.hl 5) (SE.hr 5)) (J0 SE X5)
abbrev aHG := aCu X5 (cC SE gG (SE.hl 5) (SE.hr 5)) (J0 SE X5)
theorem abj (k19 : (List (List aA)) → (List Int) → Int → Bool → Int → aI → (List (List Int)) → Option (Bool)) (hk19 : ∀ (x1 : List (List aA)) (x2 : List Int) (x14 : Int) (x15 : Bool) (x16 : Int) (b0 : aI) (w3007 : List (List Int)), Le (Option.map packet_is_out (k19 x1 x2 x14 x15 x16 b0 w3007)) (ayp (List.map (eL aA.ks aA.enc) x1) (List.map eI x2) x14 x15 x16 (aI.enc b0) (List.map (eL [.int .u8] (aN .u8)) w3007))) (x1 : List (List aA)) (x2 : List Int) (x14 : Int) (x15 : Bool) (x16 x17 x92 x94 : Int) (x95 : Bool) (b0 : aI) (w3007 : List (List Int)) : Le (Option.map packet_is_out (lO k19 x1 x2 x14 x15 x16 x17 x92 x94 x95 b0 w3007)) (aEN (List.map (eL aA.ks aA.enc) x1) (List.map eI x2) x14 x15 x16 x17 x92 x94 x95 (aI.enc b0) (List.map (eL [.int .u8] (aN .u8)) w3007)) := by
 refine Le.trans ?_ (le_of_eq ((bD Cr5).trans (aCX ..)).symm)
 unfold lO
 refine lGe ?_
 refine lQ eX m7 (by (try simp only [EN]); exact qZ b0 (List.getD w3007 (Int.toNat x17) default)) fun r10 _ => ?_
 refine lC ?_ ?_
 ·refine lC ?_ ?_
  ·exact aG rfl
  ·refine lDe ?_ ?_
   ·exact aG rfl
   ·refine lC ?_ ?_
    ·exact aG rfl
    ·exact hk19 x1 x2 x14 x15 (w6 (x16 + 1)) r10.2.1 w3007
 ·refine lC ?_ ?_
  ·refine lC ?_ ?_
   ·exact aG rfl
   ·refine lDe ?_ ?_
    ·exact aG rfl
    ·refine lC ?_ ?_
     ·exact aG rfl
     ·exact hk19 x1 x2 x14 x15 (w6 (x16 + 1)) r10.2.1 w3007
  ·refine lC ?_ ?_
   ·refine lC ?_ ?_
    ·exact aG rfl
    ·refine lDe ?_ ?_
     ·exact aG rfl
     ·refine lC ?_ ?_
      ·exact aG rfl
      ·exact hk19 x1 x2 x14 true (w6 (x16 + 1)) r10.2.1 w3007
   ·refine lC ?_ ?_
    ·exact aG rfl
    ·refine lGe ?_
     refine lQ eX packet_is_inj (by (try simp only [EN]); exact aam r10.1 (List.getD x1 (Int.toNat x17) default)) fun r11 _ => ?_
     refine lC ?_ ?_
     ·exact aG rfl
     ·refine lC ?_ ?_
      ·exact aG rfl
      ·refine lC ?_ ?_
       ·exact aG rfl
       ·exact hk19 x1 x2 (w6 (x14 + 1)) x15 (w6 (x16 + 1)) r10.2.1 w3007
theorem abf : ∀ (fu : Nat) (x1 : List (List aA)) (x2 : List Int) (x14 : Int) (x15 : Bool) (x16 : Int) (b0 : aI) (w3007 : List (List Int)), Le (Option.map packet_is_out (eA fu x1 x2 x14 x15 x16 b0 w3007)) (ayp (List.map (eL aA.ks aA.enc) x1) (List.map eI x2) x14 x15 x16 (aI.enc b0) (List.map (eL [.int .u8] (aN .u8)) w3007)) := by
 intro fu
 induction fu with
 | zero => intros; exact le_none
 | succ fu ih =>
  intro x1 x2 x14 x15 x16 b0 w3007
  refine Le.trans ?_ (le_of_eq ((bD Cr5).trans (aEc ..)).symm)
  unfold eA
  refine lDe ?_ ?_
  ·refine lGe ?_
   refine lDe ?_ ?_
   ·exact ih x1 x2 x14 x15 (w6 (x16 + 1)) b0 w3007
   ·refine lDe ?_ ?_
    ·exact ih x1 x2 x14 x15 (w6 (x16 + 1)) b0 w3007
    ·(try simp only [EN]); exact abj _ (ih) x1 x2 x14 x15 x16 (List.getD x2 (Int.toNat x16) default) (List.getD x2 (Int.toNat x16) default) (List.length w3007 : Int) ((decide ((List.getD x2 (Int.toNat x16) default) ≥ (List.length w3007 : Int)))) b0 w3007
  ·refine lQ eX packet_is_inj (cS) fun r9 _ => ?_
   exact aG rfl
theorem abM : ∀ (fu : Nat) (x0 : Int) (x1 : List (List aA)) (x2 : List Int) (x9 : Int) (b0 : aI) (w3007 : List (List Int)), Le (Option.map packet_is_out (fS fu x0 x1 x2 x9 b0 w3007)) (aHs x0 (List.map (eL aA.ks aA.enc) x1) (List.map eI x2) x9 (aI.enc b0) (List.map (eL [.int .u8] (aN .u8)) w3007)) := by
 intro fu
 induction fu with
 | zero => intros; exact le_none
 | succ fu ih =>
  intro x0 x1 x2 x9 b0 w3007
  refine Le.trans ?_ (le_of_eq ((bD Cr5).trans (aGy ..)).symm)
  unfold fS
  refine lDe ?_ ?_
  ·refine lGe ?_
   refine lQ eX packet_is_inj (by (try simp only [EN]); exact abt (List.getD x1 (Int.toNat x9) default)) fun r5 _ => ?_
   refine lC ?_ ?_
   ·refine lQ eX packet_is_inj (cS) fun r6 _ => ?_
    exact aG rfl
   ·refine lGe ?_
    refine lQ eX tP (by (try simp only [EN]); exact zF b0 (List.getD x1 (Int.toNat x9) default)) fun r7 _ => ?_
    refine lC ?_ ?_
    ·exact aG rfl
    ·refine lC ?_ ?_
     ·exact aG rfl
     ·refine lGe ?_
      (try simp only [EN]); exact ih x0 x1 x2 (w6 (x9 + 1)) r7.2.1 (w3007 ++ [r7.1])
  ·refine lQ eX o8 (aaD _) fun r8 _ => ?_
   exact abf fuel x1 x2 0 false 0 r8 w3007
theorem abK (x0 : Int) (x1 : List (List aA)) (x2 : List Int) : Le (Option.map packet_is_out (lZ x0 x1 x2)) (aHG x0 (List.map (eL aA.ks aA.enc) x1) (List.map eI x2)) := by
 refine Le.trans ?_ (le_of_eq ((bD Cr5).trans (aF1 ..)).symm)
 unfold lZ
 refine lQ eX o8 (aaD _) fun r4 _ => ?_
 (try simp only [EN]); exact abM fuel x0 x1 x2 0 r4 ([] : List (List Int))
theorem acS (p0 : Int) (p1 : List (List aA)) (p2 : List Int) : Le (Option.map packet_is_out (n6 p0 p1 p2)) (bH SE 5 [dIq p0, .d (.sl [.sl aA.ks] (List.map (eL aA.ks aA.enc) p1)), .d (.sl [.int .i64] (List.map eI p2))] [] []) := by
 refine aZ Cr5 rfl ?_
 refine Le.trans ?_ (le_of_eq (T5 ..).symm)
 unfold n6
 refine lC ?_ ?_
 ·refine lQ eX packet_is_inj (cS) fun r0 _ => ?_
  exact aG rfl
 ·refine lC ?_ ?_
  ·refine lQ eX packet_is_inj (cS) fun r1 _ => ?_
   exact aG rfl
  ·refine lDe ?_ ?_
   ·refine lQ eX packet_is_inj (cS) fun r2 _ => ?_
    exact aG rfl
   ·refine lDe ?_ ?_
    ·refine lQ eX packet_is_inj (cS) fun r3 _ => ?_
     exact aG rfl
    ·exact abK p0 p1 p2
end Te
end PX
