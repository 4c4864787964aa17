import Derived.Test.YtmcpanmcgpjfiaaGreatDoorTab
set_option linter.unusedVariables false
set_option linter.unusedSimpArgs false
set_option maxRecDepth 100000
noncomputable section
namespace PX
open Go
open Md
namespace Te
abbrev cE {α : Type} (f : α → List D) (l : List α) (i : Int) (k : Nat) : D := cellAt (elemAt (List.map f l) (Int.toNat i)) k
abbrev lM {α : Type} (f : α → List D) (l : List α) : Nat := List.length (List.map f l)
abbrev iB (i n : Int) : Bool := decide (0 ≤ i) && decide (i < n)
abbrev w6 (x : Int) : Int := IntKind.wrap .i64 x
abbrev eI : Int → List D := encI .i64
abbrev rB (b : Bool) : Res := some (.ret [.d (.bool b)] [] [])
abbrev rI (n : Int) : Res := some (.ret [.d (.int .i64 n)] [] [])
theorem lQ {g : FuncId} {R S : Type} {out : R → Out} {e : S → Out} {x : Option R} {M : R → Option S} {a : List AV} {b : List Bx} {r : List Rw} {κ : R → Res} (hg : ∀ y, good g (out y)) (hi : ∀ y z, out y = out z → y = z) (h : Le (x.map out) (bD SE g a b r)) (hk : ∀ y, x = some y → Le ((M y).map e) (κ y)) : Le ((x.bind M).map e) (agY SE good g out a b r κ) := atE (good := good) hg hi h hk
section
variable (Γ : Fun)  (Λ2 J : Lam)
def C84 : aN := aQ Γ
theorem T84 (p0 : Int) : bF SE (C84 Γ) Λ2 J 84 [.d (.int .u8 p0)] [] [] =
 cond (decide (p0 ≥ 97)) (
 (rB (decide (p0 ≤ 122)))) (
 (rB false)) := by kernel_rfl
end
abbrev X84 : aN := C84 gG
theorem aB8 : X84 = aQ gG := rfl
theorem yU (p0 : Int) : Le (Option.map brokerref01_lower_out (kS p0)) (bD SE 84 [.d (.int .u8 p0)] [] []) := by
 refine aV aB8 rfl ?_
 refine Le.trans ?_ (le_of_eq (T84 ..).symm)
 unfold kS
 refine lC ?_ ?_
 ·exact aI rfl
 ·exact aI rfl
section
variable (Γ : Fun)  (Λ2 J : Lam)
def C85 : aN := aQ Γ
theorem T85 (p0 : Int) : bF SE (C85 Γ) Λ2 J 85 [.d (.int .u8 p0)] [] [] =
 cond (decide (p0 ≥ 48)) (
 (rB (decide (p0 ≤ 57)))) (
 (rB false)) := by kernel_rfl
end
abbrev X85 : aN := C85 gG
theorem aCr : X85 = aQ gG := rfl
theorem aep (p0 : Int) : Le (Option.map brokerref01_lower_out (n5 p0)) (bD SE 85 [.d (.int .u8 p0)] [] []) := by
 refine aV aCr rfl ?_
 refine Le.trans ?_ (le_of_eq (T85 ..).symm)
 unfold n5
 refine lC ?_ ?_
 ·exact aI rfl
 ·exact aI rfl
def ajc (C : aN) (Λ2 J : Lam) (a0 : Str) (a1 : Int) : Res := lab SE C Λ2 J 33 0 [1, 1, 0, 1, 0] (aU [(0, .d (.str a0)), (3, .d (.int .i64 a1))] [] [] [] [])
def asl (C : aN) (Λ2 J : Lam) (a0 : Str) : Res := lab SE C Λ2 J 33 0 [1, 1, 0, 0] (aU [(0, .d (.str a0))] [] [] [] [])
section
variable (Γ : Fun) (γ84 γ85 : Gm (Bool)) (Λ2 J : Lam)
def C33 : aN := aZ (aZ (aQ Γ) 84 brokerref01_lower_out γ84) 85 brokerref01_lower_out γ85
theorem T33 (p0 : Str) : bF SE (C33 Γ γ84 γ85) Λ2 J 33 [.d (.str p0)] [] [] =
 cond (decide ((List.length p0 : Int) < 1)) (
 (rB false)) (
 cond (decide ((List.length p0 : Int) > 16)) (
 (rB false)) (
 cond (decide (0 ≤ 0) && decide (0 < (List.length p0 : Int))) (
 γ84 [.d (.int .u8 (UInt8.toNat (List.getD p0 (Int.toNat 0) 0) : Int))] [] [] fun r0 =>
 cond (!r0) (
  (rB false)) (
 asl (C33 Γ γ84 γ85) Λ2 J p0)) none)) := by kernel_rfl
theorem azw (x0 : Str) (x3 : Int) : bR SE (C33 Γ γ84 γ85) Λ2 J 33 0 [1, 1, 0, 1, 0] (aU [(0, .d (.str x0)), (3, .d (.int .i64 x3))] [] [] [] []) =
 cond (decide (x3 < (List.length x0 : Int))) (
 cond (iB x3 (List.length x0 : Int)) (
  γ84 [.d (.int .u8 (UInt8.toNat (List.getD x0 (Int.toNat x3) 0) : Int))] [] [] fun r1 =>
  cond (!r1) (
  cond (iB x3 (List.length x0 : Int)) (
   γ85 [.d (.int .u8 (UInt8.toNat (List.getD x0 (Int.toNat x3) 0) : Int))] [] [] fun r2 =>
   cond (!r2) (
   cond (iB x3 (List.length x0 : Int)) (
    cond ((UInt8.toNat (List.getD x0 (Int.toNat x3) 0) : Int) != 45) (
    (rB false)) (
    ajc (C33 Γ γ84 γ85) Λ2 J x0 (w6 (x3 + 1)))) none) (
   ajc (C33 Γ γ84 γ85) Λ2 J x0 (w6 (x3 + 1)))) none) (
  ajc (C33 Γ γ84 γ85) Λ2 J x0 (w6 (x3 + 1)))) none) (
 (rB true)) := by kernel_rfl
theorem aAk (x0 : Str) : bR SE (C33 Γ γ84 γ85) Λ2 J 33 0 [1, 1, 0, 0] (aU [(0, .d (.str x0))] [] [] [] []) =
 ajc (C33 Γ γ84 γ85) Λ2 J x0 0 := by kernel_rfl
end
abbrev X33 : aN := C33 gG (cT 84 brokerref01_lower_out) (cT 85 brokerref01_lower_out)
theorem aqX : X33 = aQ gG := by unfold X33 C33; repeat rw [bB fun _ h => h]
abbrev az5 := ajc X33 (bQ SE gG (SE.hl 33) (SE.hr 33)) (J0 SE X33)
abbrev axW := asl X33 (bQ SE gG (SE.hl 33) (SE.hr 33)) (J0 SE X33)
theorem adi : ∀ (fu : Nat) (x0 : Str) (x3 : Int), Le (Option.map brokerref01_lower_out (fA fu x0 x3)) (az5 x0 x3) := by
 intro fu
 induction fu with
 | zero => intros; exact le_none
 | succ fu ih =>
  intro x0 x3
  refine Le.trans ?_ (le_of_eq ((aX aqX).trans (azw ..)).symm)
  unfold fA
  refine lC ?_ ?_
  ·refine lF ?_
   refine lQ eX brokerref01_lower_inj (yU _) fun r1 _ => ?_
   refine lC ?_ ?_
   ·refine lF ?_
    refine lQ eX brokerref01_lower_inj (aep _) fun r2 _ => ?_
    refine lC ?_ ?_
    ·refine lF ?_
     refine lC ?_ ?_
     ·exact aI rfl
     ·exact ih x0 (w6 (x3 + 1))
    ·exact ih x0 (w6 (x3 + 1))
   ·exact ih x0 (w6 (x3 + 1))
  ·exact aI rfl
theorem adg (x0 : Str) : Le (Option.map brokerref01_lower_out (pD x0)) (axW x0) := by
 refine Le.trans ?_ (le_of_eq ((aX aqX).trans (aAk ..)).symm)
 unfold pD
 exact adi fuel x0 0
theorem jO (p0 : Str) : Le (Option.map brokerref01_lower_out (fU p0)) (bD SE 33 [.d (.str p0)] [] []) := by
 refine aV aqX rfl ?_
 refine Le.trans ?_ (le_of_eq (T33 ..).symm)
 unfold fU
 refine lC ?_ ?_
 ·exact aI rfl
 ·refine lC ?_ ?_
  ·exact aI rfl
  ·refine lF ?_
   refine lQ eX brokerref01_lower_inj (yU _) fun r0 _ => ?_
   refine lC ?_ ?_
   ·exact aI rfl
   ·exact adg p0
section
variable (Γ : Fun)  (Λ2 J : Lam)
def C34 : aN := aQ Γ
theorem T34 (p0 p1 p2 : Int) : bF SE (C34 Γ) Λ2 J 34 [.d (.int .i64 p0), .d (.int .i64 p1), .d (.int .i64 p2)] [] [] =
 cond (decide (p1 ≤ p0)) (
 (rB (decide (p0 ≤ p2)))) (
 (rB false)) := by kernel_rfl
end
abbrev X34 : aN := C34 gG
theorem aAO : X34 = aQ gG := rfl
theorem vW (p0 p1 p2 : Int) : Le (Option.map brokerref01_lower_out (l1 p0 p1 p2)) (bD SE 34 [.d (.int .i64 p0), .d (.int .i64 p1), .d (.int .i64 p2)] [] []) := by
 refine aV aAO rfl ?_
 refine Le.trans ?_ (le_of_eq (T34 ..).symm)
 unfold l1
 refine lC ?_ ?_
 ·exact aI rfl
 ·exact aI rfl
def apg (C : aN) (Λ2 J : Lam) (a0 : List (List D)) (a1 : Int) (a2 : List (List D)) (a3 a4 a5 : Int) (a6 a7 : Bool) (a8 : List D) : Res := lab SE C Λ2 J 14 0 [1, 1, 0, 1, 0, 0, 1, 1, 0, 0, 1, 1, 1, 0] (aU [(0, .d (.sl aA.ks a0)), (3, .d (.int .i64 a1)), (4, .ptr 1000000000 0), (8, .d (.sl aA.ks a2)), (9, .d (.int .i64 a3)), (10, .d (.int .i64 a4)), (24, .ptr 1000000000 2), (25, .d (.int .i64 a5)), (26, .d (.bool a6)), (27, .d (.bool a7))] [⟨24, (List.map AV.d a8)⟩] [] [] [])
def ak0 (C : aN) (Λ2 J : Lam) (a0 a1 : List (List D)) (a2 a3 : Int) : Res := lab SE C Λ2 J 14 0 [1, 1, 0, 1, 0] (aU [(0, .d (.sl aA.ks a0)), (8, .d (.sl aA.ks a1)), (9, .d (.int .i64 a2)), (10, .d (.int .i64 a3))] [] [] [] [])
section
variable (Γ : Fun) (γ33 γ34 : Gm (Bool)) (Λ2 J : Lam)
def C14 : aN := aZ (aZ (aQ Γ) 33 brokerref01_lower_out γ33) 34 brokerref01_lower_out γ34
theorem T14 (p0 : List aA) : bF SE (C14 Γ γ33 γ34) Λ2 J 14 [.d (.sl aA.ks (List.map aA.enc p0))] [] [] =
 cond (decide ((lM aA.enc p0 : Int) > 32)) (
 (rI 5)) (
 ak0 (C14 Γ γ33 γ34) Λ2 J (List.map aA.enc p0) (List.map aA.enc p0) (lM aA.enc p0 : Int) 0) := by kernel_rfl
theorem aw1 (x0 : List aA) (x3 : Int) (x8 : List aA) (x9 x10 x25 : Int) (x26 x27 : Bool) (b0 : aA) : bR SE (C14 Γ γ33 γ34) Λ2 J 14 0 [1, 1, 0, 1, 0, 0, 1, 1, 0, 0, 1, 1, 1, 0] (aU [(0, .d (.sl aA.ks (List.map aA.enc x0))), (3, .d (.int .i64 x3)), (4, .ptr 1000000000 0), (8, .d (.sl aA.ks (List.map aA.enc x8))), (9, .d (.int .i64 x9)), (10, .d (.int .i64 x10)), (24, .ptr 1000000000 2), (25, .d (.int .i64 x25)), (26, .d (.bool x26)), (27, .d (.bool x27))] [⟨24, (List.map AV.d (aA.enc b0))⟩] [] [] []) =
 cond (decide (x3 > 0)) (
 cond (iB (w6 (x3 - 1)) (lM aA.enc x0 : Int)) (
  cond (Op.bytesLess b0.Client (bK (cE aA.enc x0 (w6 (x3 - 1)) 0)) || b0.Client == (bK (cE aA.enc x0 (w6 (x3 - 1)) 0))) (
  (rI 22)) (
  ak0 (C14 Γ γ33 γ34) Λ2 J (List.map aA.enc x0) (List.map aA.enc x8) x9 (w6 (x10 + 1)))) none) (
 ak0 (C14 Γ γ33 γ34) Λ2 J (List.map aA.enc x0) (List.map aA.enc x8) x9 (w6 (x10 + 1))) := by kernel_rfl
theorem azA (x0 x8 : List aA) (x9 x10 : Int) : bR SE (C14 Γ γ33 γ34) Λ2 J 14 0 [1, 1, 0, 1, 0] (aU [(0, .d (.sl aA.ks (List.map aA.enc x0))), (8, .d (.sl aA.ks (List.map aA.enc x8))), (9, .d (.int .i64 x9)), (10, .d (.int .i64 x10))] [] [] [] []) =
 cond (decide (x10 < x9)) (
 cond (iB x10 (lM aA.enc x8 : Int)) (
  γ33 [.d (.str (bK (cE aA.enc x8 x10 0)))] [] [] fun r0 =>
  cond (!r0) (
  (rI 11)) (
  γ34 [.d (.int .i64 (aW (cE aA.enc x8 x10 1))), .d (.int .i64 0), .d (.int .i64 6)] [] [] fun r1 =>
  cond (!r1) (
  (rI 1)) (
  γ34 [.d (.int .i64 (aW (cE aA.enc x8 x10 2))), .d (.int .i64 1), .d (.int .i64 1099511627776)] [] [] fun r2 =>
  cond (!r2) (
  (rI 1)) (
  apg (C14 Γ γ33 γ34) Λ2 J (List.map aA.enc x0) x10 (List.map aA.enc x8) x9 x10 ((aW (cE aA.enc x8 x10 2))) r2 (!r2) [D.str (bK (cE aA.enc x8 x10 0)), D.int .i64 (aW (cE aA.enc x8 x10 1)), D.int .i64 (aW (cE aA.enc x8 x10 2))])))) none) (
 (rI 0)) := by kernel_rfl
end
abbrev X14 : aN := C14 gG (cT 33 brokerref01_lower_out) (cT 34 brokerref01_lower_out)
theorem aqK : X14 = aQ gG := by unfold X14 C14; repeat rw [bB fun _ h => h]
abbrev avb := apg X14 (bQ SE gG (SE.hl 14) (SE.hr 14)) (J0 SE X14)
abbrev asd := ak0 X14 (bQ SE gG (SE.hl 14) (SE.hr 14)) (J0 SE X14)
theorem abV (k4 : (List aA) → (List aA) → Int → Int → Option (Int)) (hk4 : ∀ (x0 x8 : List aA) (x9 x10 : Int), Le (Option.map brokerref43_Check_out (k4 x0 x8 x9 x10)) (asd (List.map aA.enc x0) (List.map aA.enc x8) x9 x10)) (x0 : List aA) (x3 : Int) (x8 : List aA) (x9 x10 x25 : Int) (x26 x27 : Bool) (b0 : aA) : Le (Option.map brokerref43_Check_out (m8 k4 x0 x3 x8 x9 x10 x25 x26 x27 b0)) (avb (List.map aA.enc x0) x3 (List.map aA.enc x8) x9 x10 x25 x26 x27 (aA.enc b0)) := by
 refine Le.trans ?_ (le_of_eq ((aX aqK).trans (aw1 ..)).symm)
 unfold m8
 refine lC ?_ ?_
 ·refine lG (by simp only [EN]) ?_
  refine lD (by simp only [EN]) ?_ ?_
  ·exact aI rfl
  ·exact hk4 x0 x8 x9 (w6 (x10 + 1))
 ·exact hk4 x0 x8 x9 (w6 (x10 + 1))
theorem acj : ∀ (fu : Nat) (x0 x8 : List aA) (x9 x10 : Int), Le (Option.map brokerref43_Check_out (gW fu x0 x8 x9 x10)) (asd (List.map aA.enc x0) (List.map aA.enc x8) x9 x10) := by
 intro fu
 induction fu with
 | zero => intros; exact le_none
 | succ fu ih =>
  intro x0 x8 x9 x10
  refine Le.trans ?_ (le_of_eq ((aX aqK).trans (azA ..)).symm)
  unfold gW
  refine lC ?_ ?_
  ·refine lG (by simp only [EN]) ?_
   refine lQ eX brokerref01_lower_inj (by (try simp only [EN]); exact jO ((List.getD x8 (Int.toNat x10) default).Client)) fun r0 _ => ?_
   refine lC ?_ ?_
   ·exact aI rfl
   ·refine lQ eX brokerref01_lower_inj (by (try simp only [EN]); exact vW ((List.getD x8 (Int.toNat x10) default).Node) 0 6) fun r1 _ => ?_
    refine lC ?_ ?_
    ·exact aI rfl
    ·refine lQ eX brokerref01_lower_inj (by (try simp only [EN]); exact vW ((List.getD x8 (Int.toNat x10) default).Epoch) 1 1099511627776) fun r2 _ => ?_
     refine lC ?_ ?_
     ·exact aI rfl
     ·(try simp only [EN]); exact abV _ (ih) x0 x10 x8 x9 x10 ((List.getD x8 (Int.toNat x10) default).Epoch) r2 (!r2) (List.getD x8 (Int.toNat x10) default)
  ·exact aI rfl
theorem eD (p0 : List aA) : Le (Option.map brokerref43_Check_out (dN p0)) (bD SE 14 [.d (.sl aA.ks (List.map aA.enc p0))] [] []) := by
 refine aV aqK rfl ?_
 refine Le.trans ?_ (le_of_eq (T14 ..).symm)
 unfold dN
 refine lD (by simp only [EN]) ?_ ?_
 ·exact aI rfl
 ·(try simp only [EN]); exact acj fuel p0 p0 (List.length p0 : Int) 0
def aoQ (C : aN) (Λ2 J : Lam) (a0 a1 : Int) (a2 : Bool) (a3 : Str) (a4 : Nat) : Res := lab SE C Λ2 J 32 0 [1, 1, 0, 1, 0, 0, 1, 1, 0, 1, 1, 0] (aU [(3, .d (.int .i64 a0)), (4, .d (.int .i32 a1)), (5, .d (.bool a2)), (15, .it 4000)] [] [] [(4000, (a3, a4))] [])
def aiS (C : aN) (Λ2 J : Lam) (a0 : Str) (a1 : Nat) : Res := lab SE C Λ2 J 32 0 [1, 1, 0, 1, 0] (aU [(15, .it 4000)] [] [] [(4000, (a0, a1))] [])
def asQ (C : aN) (Λ2 J : Lam) (a0 : Str) : Res := lab SE C Λ2 J 32 0 [1, 1, 0, 0] (aU [(0, .d (.str a0))] [] [] [] [])
section
variable (Γ : Fun)  (Λ2 J : Lam)
def C32 : aN := aQ Γ
theorem T32 (p0 : Str) : bF SE (C32 Γ) Λ2 J 32 [.d (.str p0)] [] [] =
 cond (decide ((List.length p0 : Int) < 1)) (
 (rB false)) (
 cond (decide ((List.length p0 : Int) > 16)) (
 (rB false)) (
 asQ (C32 Γ) Λ2 J p0)) := by kernel_rfl
theorem aAd (x3 x4 : Int) (x5 : Bool) (s4000 : Str) (i4000 : Nat) : bR SE (C32 Γ) Λ2 J 32 0 [1, 1, 0, 1, 0, 0, 1, 1, 0, 1, 1, 0] (aU [(3, .d (.int .i64 x3)), (4, .d (.int .i32 x4)), (5, .d (.bool x5)), (15, .it 4000)] [] [] [(4000, (s4000, i4000))] []) =
 cond (!x5) (
 cond (x3 == 0) (
  (rB false)) (
 cond (x4 != 45) (
  cond (decide (x4 < 48)) (
  (rB false)) (
  cond (decide (x4 > 57)) (
  (rB false)) (
  aiS (C32 Γ) Λ2 J s4000 i4000))) (
 aiS (C32 Γ) Λ2 J s4000 i4000))) (
 aiS (C32 Γ) Λ2 J s4000 i4000) := by kernel_rfl
theorem azs (s4000 : Str) (i4000 : Nat) : bR SE (C32 Γ) Λ2 J 32 0 [1, 1, 0, 1, 0] (aU [(15, .it 4000)] [] [] [(4000, (s4000, i4000))] []) =
 cond (decide (i4000 < List.length s4000)) (
 cond (decide (((dec s4000 i4000).1 : Int) ≥ 97)) (
  aoQ (C32 Γ) Λ2 J (i4000 : Int) ((dec s4000 i4000).1 : Int) (decide (((dec s4000 i4000).1 : Int) ≤ 122)) s4000 (i4000 + (dec s4000 i4000).2)) (
 aoQ (C32 Γ) Λ2 J (i4000 : Int) ((dec s4000 i4000).1 : Int) false s4000 (i4000 + (dec s4000 i4000).2))) (
 (rB true)) := by kernel_rfl
theorem aAl (x0 : Str) : bR SE (C32 Γ) Λ2 J 32 0 [1, 1, 0, 0] (aU [(0, .d (.str x0))] [] [] [] []) =
 aiS (C32 Γ) Λ2 J x0 0 := by kernel_rfl
end
abbrev X32 : aN := C32 gG
theorem aoH : X32 = aQ gG := rfl
abbrev aya := aoQ X32 (bQ SE gG (SE.hl 32) (SE.hr 32)) (J0 SE X32)
abbrev asz := aiS X32 (bQ SE gG (SE.hl 32) (SE.hr 32)) (J0 SE X32)
abbrev azX := asQ X32 (bQ SE gG (SE.hl 32) (SE.hr 32)) (J0 SE X32)
theorem ab3 (k4 : Str → Nat → Option (Bool)) (hk4 : ∀ (s4000 : Str) (i4000 : Nat), Le (Option.map brokerref01_lower_out (k4 s4000 i4000)) (asz s4000 i4000)) (x3 x4 : Int) (x5 : Bool) (s4000 : Str) (i4000 : Nat) : Le (Option.map brokerref01_lower_out (nP k4 x3 x4 x5 s4000 i4000)) (aya x3 x4 x5 s4000 i4000) := by
 refine Le.trans ?_ (le_of_eq ((aX aoH).trans (aAd ..)).symm)
 unfold nP
 refine lC ?_ ?_
 ·refine lC ?_ ?_
  ·exact aI rfl
  ·refine lC ?_ ?_
   ·refine lC ?_ ?_
    ·exact aI rfl
    ·refine lC ?_ ?_
     ·exact aI rfl
     ·exact hk4 s4000 i4000
   ·exact hk4 s4000 i4000
 ·exact hk4 s4000 i4000
theorem ahM : ∀ (fu : Nat) (s4000 : Str) (i4000 : Nat), Le (Option.map brokerref01_lower_out (jW fu s4000 i4000)) (asz s4000 i4000) := by
 intro fu
 induction fu with
 | zero => intros; exact le_none
 | succ fu ih =>
  intro s4000 i4000
  refine Le.trans ?_ (le_of_eq ((aX aoH).trans (azs ..)).symm)
  unfold jW
  refine lC ?_ ?_
  ·refine lC ?_ ?_
   ·exact ab3 _ (ih) (i4000 : Int) ((dec s4000 i4000).1 : Int) (decide (((dec s4000 i4000).1 : Int) ≤ 122)) s4000 (i4000 + (dec s4000 i4000).2)
   ·exact ab3 _ (ih) (i4000 : Int) ((dec s4000 i4000).1 : Int) false s4000 (i4000 + (dec s4000 i4000).2)
  ·exact aI rfl
theorem ahB (x0 : Str) : Le (Option.map brokerref01_lower_out (wR x0)) (azX x0) := by
 refine Le.trans ?_ (le_of_eq ((aX aoH).trans (aAl ..)).symm)
 unfold wR
 exact ahM fuel x0 0
theorem pS (p0 : Str) : Le (Option.map brokerref01_lower_out (mC p0)) (bD SE 32 [.d (.str p0)] [] []) := by
 refine aV aoH rfl ?_
 refine Le.trans ?_ (le_of_eq (T32 ..).symm)
 unfold mC
 refine lC ?_ ?_
 ·exact aI rfl
 ·refine lC ?_ ?_
  ·exact aI rfl
  ·exact ahB p0
section
variable (Γ : Fun)  (Λ2 J : Lam)
def C78 : aN := aQ Γ
theorem T78 (p0 : aA) : bF SE (C78 Γ) Λ2 J 78 [aA.av p0] [] [] =
 (some (.ret [.d (.str p0.Client)] [] [])) := by kernel_rfl
end
abbrev X78 : aN := C78 gG
theorem aA2 : X78 = aQ gG := rfl
theorem zB (p0 : aA) : Le (Option.map jB (rY p0)) (bD SE 78 [aA.av p0] [] []) := by
 refine aV aA2 rfl ?_
 refine Le.trans ?_ (le_of_eq (T78 ..).symm)
 unfold rY
 exact aI rfl
def anC (C : aN) (Λ2 J : Lam) (a0 : List (List D)) (a1 : Str) (a2 : Int) : Res := lab SE C Λ2 J 77 0 [1, 1, 1, 0] (aU [(0, .d (.sl aA.ks a0)), (1, .d (.str a1)), (2, .fn 78 [] []), (8, .d (.int .i64 a2))] [] [] [] [])
def aop (C : aN) (Λ2 J : Lam) (a0 : List (List D)) (a1 : Str) (a2 : Int) : Res := lab SE C Λ2 J 77 0 [1, 1, 0, 0] (aU [(0, .d (.sl aA.ks a0)), (1, .d (.str a1)), (2, .fn 78 [] []), (8, .d (.int .i64 a2))] [] [] [] [])
section
variable (Γ : Fun) (γ78 : Gm (Str)) (Λ2 J : Lam)
def C77 : aN := aZ (aQ Γ) 78 jB γ78
theorem T77 (p0 : List aA) (p1 : Str) : bF SE (C77 Γ γ78) Λ2 J 77 [.d (.sl aA.ks (List.map aA.enc p0)), .d (.str p1), .fn 78 [] []] [] [] =
 aop (C77 Γ γ78) Λ2 J (List.map aA.enc p0) p1 0 := by kernel_rfl
theorem ayc (x0 : List aA) (x1 : Str) (x8 : Int) : bR SE (C77 Γ γ78) Λ2 J 77 0 [1, 1, 1, 0] (aU [(0, .d (.sl aA.ks (List.map aA.enc x0))), (1, .d (.str x1)), (2, .fn 78 [] []), (8, .d (.int .i64 x8))] [] [] [] []) =
 cond (decide (x8 < (lM aA.enc x0 : Int))) (
 cond (iB x8 (lM aA.enc x0 : Int)) (
  γ78 [.agg [.d (.str (bK (cE aA.enc x0 x8 0))), .d (.int .i64 (aW (cE aA.enc x0 x8 1))), .d (.int .i64 (aW (cE aA.enc x0 x8 2)))]] [] [] fun r1 =>
  (some (.ret [.d (.int .i64 x8), .d (.bool (r1 == x1))] [] []))) none) (
 (some (.ret [.d (.int .i64 x8), .d (.bool false)] [] []))) := by kernel_rfl
theorem ay0 (x0 : List aA) (x1 : Str) (x8 : Int) : bR SE (C77 Γ γ78) Λ2 J 77 0 [1, 1, 0, 0] (aU [(0, .d (.sl aA.ks (List.map aA.enc x0))), (1, .d (.str x1)), (2, .fn 78 [] []), (8, .d (.int .i64 x8))] [] [] [] []) =
 cond (decide (x8 < (lM aA.enc x0 : Int))) (
 cond (iB x8 (lM aA.enc x0 : Int)) (
  γ78 [.agg [.d (.str (bK (cE aA.enc x0 x8 0))), .d (.int .i64 (aW (cE aA.enc x0 x8 1))), .d (.int .i64 (aW (cE aA.enc x0 x8 2)))]] [] [] fun r0 =>
  cond (Op.bytesLess r0 x1) (
  aop (C77 Γ γ78) Λ2 J (List.map aA.enc x0) x1 (w6 (x8 + 1))) (
  anC (C77 Γ γ78) Λ2 J (List.map aA.enc x0) x1 x8)) none) (
 anC (C77 Γ γ78) Λ2 J (List.map aA.enc x0) x1 x8) := by kernel_rfl
end
abbrev X77 : aN := C77 gG (cT 78 jB)
theorem arG : X77 = aQ gG := by unfold X77 C77; rw [bB fun _ h => h]
abbrev aAc := anC X77 (bQ SE gG (SE.hl 77) (SE.hr 77)) (J0 SE X77)
abbrev axM := aop X77 (bQ SE gG (SE.hl 77) (SE.hr 77)) (J0 SE X77)
theorem qX (x0 : List aA) (x1 : Str) (x8 : Int) : Le (Option.map cA (kB x0 x1 x8)) (aAc (List.map aA.enc x0) x1 x8) := by
 refine Le.trans ?_ (le_of_eq ((aX arG).trans (ayc ..)).symm)
 unfold kB
 refine lD (by simp only [EN]) ?_ ?_
 ·refine lG (by simp only [EN]) ?_
  refine lQ eX xZ (by (try simp only [EN]); exact zB (List.getD x0 (Int.toNat x8) default)) fun r1 _ => ?_
  exact aI rfl
 ·exact aI rfl
theorem aah : ∀ (fu : Nat) (x0 : List aA) (x1 : Str) (x8 : Int), Le (Option.map cA (kC fu x0 x1 x8)) (axM (List.map aA.enc x0) x1 x8) := by
 intro fu
 induction fu with
 | zero => intros; exact le_none
 | succ fu ih =>
  intro x0 x1 x8
  refine Le.trans ?_ (le_of_eq ((aX arG).trans (ay0 ..)).symm)
  unfold kC
  refine lD (by simp only [EN]) ?_ ?_
  ·refine lG (by simp only [EN]) ?_
   refine lQ eX xZ (by (try simp only [EN]); exact zB (List.getD x0 (Int.toNat x8) default)) fun r0 _ => ?_
   refine lC ?_ ?_
   ·exact ih x0 x1 (w6 (x8 + 1))
   ·exact qX x0 x1 x8
  ·exact qX x0 x1 x8
theorem tM (p0 : List aA) (p1 : Str) : Le (Option.map cA (mF p0 p1)) (bD SE 77 [.d (.sl aA.ks (List.map aA.enc p0)), .d (.str p1), .fn 78 [] []] [] []) := by
 refine aV arG rfl ?_
 refine Le.trans ?_ (le_of_eq (T77 ..).symm)
 unfold mF
 exact aah fuel p0 p1 0
section
variable (Γ : Fun)  (Λ2 J : Lam)
def C79 : aN := aQ Γ
theorem T79 (p0 : List aA) : bF SE (C79 Γ) Λ2 J 79 [.d (.sl aA.ks (List.map aA.enc p0))] [] [] =
 cond (List.isEmpty (List.map aA.enc p0)) (
 aaX (
  (some (.ret [.row 0] [] [⟨aA.ks, 24, 32, []⟩]))) (
  cond (decide ((lM aA.enc [] + lM aA.enc p0) * 32 ≤ 140737488355328)) (
  (some (.ret [.row 0] [] [⟨aA.ks, 24, 32, ((List.map aA.enc []) ++ (List.map aA.enc p0))⟩]))) none)) (
 cond (decide ((lM aA.enc [] + lM aA.enc p0) * 32 ≤ 140737488355328)) (
 (some (.ret [.row 0] [] [⟨aA.ks, 24, 32, ((List.map aA.enc []) ++ (List.map aA.enc p0))⟩]))) none) := by kernel_rfl
end
abbrev X79 : aN := C79 gG
theorem aBJ : X79 = aQ gG := rfl
theorem mL (p0 : List aA) : Le (Option.map aS (gO p0)) (bD SE 79 [.d (.sl aA.ks (List.map aA.enc p0))] [] []) := by
 refine aV aBJ rfl ?_
 refine Le.trans ?_ (le_of_eq (T79 ..).symm)
 unfold gO
 refine lD (by simp only [EN]) ?_ ?_
 ·refine ang ?_ ?_
  ·exact aI rfl
  ·refine lG (by simp only [EN]) ?_
   exact aI rfl
 ·refine lG (by simp only [EN]) ?_
  exact aI rfl
theorem l3 (p0 : List aA) (p1 : Int) (p2 : List aA) : Le (Option.map aS (jE p0 p1 p2)) (bD SE 80 [.row 2000000000, .d (.int .i64 p1), .row 2000000001] [] [⟨aA.ks, 24, 32, (List.map aA.enc p0)⟩, ⟨aA.ks, 24, 32, (List.map aA.enc p2)⟩]) := apm (f := 80) (enc := aA.enc) rfl rfl p0 p1 p2
def aiG (C : aN) (Λ2 J : Lam) (a0 : List (List D)) (a1 : Str) (a2 a3 : Int) (a4 : Bool) (a5 : List D) : Res := lab SE C Λ2 J 26 0 [1, 1, 1, 1, 1, 0] (aU [(0, .d (.sl aA.ks a0)), (1, .d (.str a1)), (2, .d (.int .i64 a2)), (7, .ptr 1000000000 0), (9, .d (.int .i64 a3)), (10, .d (.bool a4))] [⟨24, (List.map AV.d a5)⟩] [] [] [])
def asu (C : aN) (Λ2 J : Lam) (a0 : List (List D)) (a1 : Str) (a2 : Int) (a3 : List D) : Res := lab SE C Λ2 J 26 0 [1, 1, 1, 0] (aU [(0, .d (.sl aA.ks a0)), (1, .d (.str a1)), (2, .d (.int .i64 a2)), (7, .ptr 1000000000 0)] [⟨24, (List.map AV.d a3)⟩] [] [] [])
section
variable (Γ : Fun) (γ32 : Gm (Bool)) (γ77 : Gm (Int × Bool)) (γ79 γ80 : Gm ((List aA))) (Λ2 J : Lam)
def C26 : aN := aZ (aZ (aZ (aZ (aQ Γ) 32 brokerref01_lower_out γ32) 77 cA γ77) 79 aS γ79) 80 aS γ80
theorem T26 (p0 : List aA) (p1 : Str) (p2 : Int) : bF SE (C26 Γ γ32 γ77 γ79 γ80) Λ2 J 26 [.d (.sl aA.ks (List.map aA.enc p0)), .d (.str p1), .d (.int .i64 p2)] [] [] =
 γ32 [.d (.str p1)] [] [] fun r0 =>
 cond (!r0) (
 (some (.ret [.row 0, aA.av (aA.mk [] 0 0), .d (.int .i64 11)] [] [⟨aA.ks, 24, 32, []⟩]))) (
 cond (decide (p2 < 0)) (
 (some (.ret [.row 0, aA.av (aA.mk [] 0 0), .d (.int .i64 1)] [] [⟨aA.ks, 24, 32, []⟩]))) (
 cond (decide (p2 ≥ 7)) (
 (some (.ret [.row 0, aA.av (aA.mk [] 0 0), .d (.int .i64 1)] [] [⟨aA.ks, 24, 32, []⟩]))) (
 asu (C26 Γ γ32 γ77 γ79 γ80) Λ2 J (List.map aA.enc p0) p1 p2 (aA.enc (aA.mk [] 0 0))))) := by kernel_rfl
theorem ax3 (x0 : List aA) (x1 : Str) (x2 x9 : Int) (x10 : Bool) (b0 : aA) : bR SE (C26 Γ γ32 γ77 γ79 γ80) Λ2 J 26 0 [1, 1, 1, 1, 1, 0] (aU [(0, .d (.sl aA.ks (List.map aA.enc x0))), (1, .d (.str x1)), (2, .d (.int .i64 x2)), (7, .ptr 1000000000 0), (9, .d (.int .i64 x9)), (10, .d (.bool x10))] [⟨24, (List.map AV.d (aA.enc b0))⟩] [] [] []) =
 γ79 [.d (.sl aA.ks (List.map aA.enc x0))] [] [] fun r2 =>
 cond (!x10) (
 γ80 [.row 2000000000, .d (.int .i64 x9), .row 2000000001] [] [⟨aA.ks, 24, 32, (List.map aA.enc r2)⟩, ⟨aA.ks, 24, 32, (List.map aA.enc [(aA.mk x1 x2 1)])⟩] fun r3 =>
 (some (.ret [.row 0, aA.av (aA.mk x1 x2 1), .d (.int .i64 0)] [] [⟨aA.ks, 24, 32, (List.map aA.enc r3)⟩]))) (
 cond (iB x9 (lM aA.enc x0 : Int)) (
 cond (iB x9 (lM aA.enc r2 : Int)) (
  (some (.ret [.row 0, .agg [.d (.str x1), .d (.int .i64 x2), .d (.int .i64 (w6 ((aW (cE aA.enc x0 x9 2)) + 1)))], .d (.int .i64 0)] [] [⟨aA.ks, 24, 32, (n7 (List.map aA.enc r2) (Int.toNat x9) 0 [D.str x1, D.int .i64 x2, D.int .i64 (w6 ((aW (cE aA.enc x0 x9 2)) + 1))])⟩]))) none) none) := by kernel_rfl
theorem ayv (x0 : List aA) (x1 : Str) (x2 : Int) (b0 : aA) : bR SE (C26 Γ γ32 γ77 γ79 γ80) Λ2 J 26 0 [1, 1, 1, 0] (aU [(0, .d (.sl aA.ks (List.map aA.enc x0))), (1, .d (.str x1)), (2, .d (.int .i64 x2)), (7, .ptr 1000000000 0)] [⟨24, (List.map AV.d (aA.enc b0))⟩] [] [] []) =
 γ77 [.d (.sl aA.ks (List.map aA.enc x0)), .d (.str x1), .fn 78 [] []] [] [] fun r1 =>
 cond r1.2 (
 cond (iB r1.1 (lM aA.enc x0 : Int)) (
  cond (decide ((aW (cE aA.enc x0 r1.1 2)) ≥ 1099511627776)) (
  (some (.ret [.row 0, aA.av (aA.mk [] 0 0), .d (.int .i64 6)] [] [⟨aA.ks, 24, 32, []⟩]))) (
  cond (!r1.2) (
  cond (decide ((lM aA.enc x0 : Int) ≥ 32)) (
   (some (.ret [.row 0, aA.av (aA.mk [] 0 0), .d (.int .i64 6)] [] [⟨aA.ks, 24, 32, []⟩]))) (
  aiG (C26 Γ γ32 γ77 γ79 γ80) Λ2 J (List.map aA.enc x0) x1 x2 r1.1 r1.2 (aA.enc b0))) (
  aiG (C26 Γ γ32 γ77 γ79 γ80) Λ2 J (List.map aA.enc x0) x1 x2 r1.1 r1.2 (aA.enc b0)))) none) (
 cond (!r1.2) (
 cond (decide ((lM aA.enc x0 : Int) ≥ 32)) (
  (some (.ret [.row 0, aA.av (aA.mk [] 0 0), .d (.int .i64 6)] [] [⟨aA.ks, 24, 32, []⟩]))) (
 aiG (C26 Γ γ32 γ77 γ79 γ80) Λ2 J (List.map aA.enc x0) x1 x2 r1.1 r1.2 (aA.enc b0))) (
 aiG (C26 Γ γ32 γ77 γ79 γ80) Λ2 J (List.map aA.enc x0) x1 x2 r1.1 r1.2 (aA.enc b0))) := by kernel_rfl
end
abbrev X26 : aN := C26 gG (cT 32 brokerref01_lower_out) (cT 77 cA) (cT 79 aS) (cT 80 aS)
theorem aq3 : X26 = aQ gG := by unfold X26 C26; repeat rw [bB fun _ h => h]
abbrev ayo := aiG X26 (bQ SE gG (SE.hl 26) (SE.hr 26)) (J0 SE X26)
abbrev axA := asu X26 (bQ SE gG (SE.hl 26) (SE.hr 26)) (J0 SE X26)
theorem pC (x0 : List aA) (x1 : Str) (x2 x9 : Int) (x10 : Bool) (b0 : aA) : Le (Option.map cU (lZ x0 x1 x2 x9 x10 b0)) (ayo (List.map aA.enc x0) x1 x2 x9 x10 (aA.enc b0)) := by
 refine Le.trans ?_ (le_of_eq ((aX aq3).trans (ax3 ..)).symm)
 unfold lZ
 refine lQ eX bL (mL _) fun r2 _ => ?_
 refine lC ?_ ?_
 ·refine lQ eX bL (l3 _ _ _) fun r3 _ => ?_
  exact aI rfl
 ·refine lG (by simp only [EN]) ?_
  refine lG (by simp only [EN]) ?_
  exact aI (by first | rfl | simp only [EN, cU] <;> rfl)
theorem afy (x0 : List aA) (x1 : Str) (x2 : Int) (b0 : aA) : Le (Option.map cU (w9 x0 x1 x2 b0)) (axA (List.map aA.enc x0) x1 x2 (aA.enc b0)) := by
 refine Le.trans ?_ (le_of_eq ((aX aq3).trans (ayv ..)).symm)
 unfold w9
 refine lQ eX nO (tM _ _) fun r1 _ => ?_
 refine lC ?_ ?_
 ·refine lG (by simp only [EN]) ?_
  refine lD (by simp only [EN]) ?_ ?_
  ·exact aI rfl
  ·refine lC ?_ ?_
   ·refine lD (by simp only [EN]) ?_ ?_
    ·exact aI rfl
    ·exact pC x0 x1 x2 r1.1 r1.2 b0
   ·exact pC x0 x1 x2 r1.1 r1.2 b0
 ·refine lC ?_ ?_
  ·refine lD (by simp only [EN]) ?_ ?_
   ·exact aI rfl
   ·exact pC x0 x1 x2 r1.1 r1.2 b0
  ·exact pC x0 x1 x2 r1.1 r1.2 b0
theorem sL (p0 : List aA) (p1 : Str) (p2 : Int) : Le (Option.map cU (pP p0 p1 p2)) (bD SE 26 [.d (.sl aA.ks (List.map aA.enc p0)), .d (.str p1), .d (.int .i64 p2)] [] []) := by
 refine aV aq3 rfl ?_
 refine Le.trans ?_ (le_of_eq (T26 ..).symm)
 unfold pP
 refine lQ eX brokerref01_lower_inj (pS _) fun r0 _ => ?_
 refine lC ?_ ?_
 ·exact aI rfl
 ·refine lC ?_ ?_
  ·exact aI rfl
  ·refine lC ?_ ?_
   ·exact aI rfl
   ·exact afy p0 p1 p2 (aA.mk [] 0 0)
def aos (C : aN) (Λ2 J : Lam) (a0 : List (List D)) (a1 a2 : Int) (a3 : List D) : Res := lab SE C Λ2 J 83 0 [1, 0, 1, 0] (aU [(0, .d (.sl aA.ks a0)), (3, .ptr 1000000000 0), (7, .d (.int .i64 a1)), (8, .d (.int .i64 a2))] [⟨24, (List.map AV.d a3)⟩] [] [] [])
section
variable (Γ : Fun)  (Λ2 J : Lam)
def C83 : aN := aQ Γ
theorem T83 (p0 : List aA) (p1 : aA) : bF SE (C83 Γ) Λ2 J 83 [.d (.sl aA.ks (List.map aA.enc p0)), aA.av p1] [] [] =
 aos (C83 Γ) Λ2 J (List.map aA.enc p0) (lM aA.enc p0 : Int) 0 (aA.enc p1) := by kernel_rfl
theorem azG (x0 : List aA) (x7 x8 : Int) (b0 : aA) : bR SE (C83 Γ) Λ2 J 83 0 [1, 0, 1, 0] (aU [(0, .d (.sl aA.ks (List.map aA.enc x0))), (3, .ptr 1000000000 0), (7, .d (.int .i64 x7)), (8, .d (.int .i64 x8))] [⟨24, (List.map AV.d (aA.enc b0))⟩] [] [] []) =
 cond (decide (x8 < x7)) (
 cond (iB x8 (lM aA.enc x0 : Int)) (
  cond ((b0.Client == (bK (cE aA.enc x0 x8 0))) && ((b0.Node == (aW (cE aA.enc x0 x8 1))) && ((b0.Epoch == (aW (cE aA.enc x0 x8 2))) && true))) (
  (rI x8)) (
  aos (C83 Γ) Λ2 J (List.map aA.enc x0) x7 (w6 (x8 + 1)) (aA.enc b0))) none) (
 (rI (-1))) := by kernel_rfl
end
abbrev X83 : aN := C83 gG
theorem aue : X83 = aQ gG := rfl
abbrev azW := aos X83 (bQ SE gG (SE.hl 83) (SE.hr 83)) (J0 SE X83)
theorem sV : ∀ (fu : Nat) (x0 : List aA) (x7 x8 : Int) (b0 : aA), Le (Option.map brokerref43_Check_out (cS fu x0 x7 x8 b0)) (azW (List.map aA.enc x0) x7 x8 (aA.enc b0)) := by
 intro fu
 induction fu with
 | zero => intros; exact le_none
 | succ fu ih =>
  intro x0 x7 x8 b0
  refine Le.trans ?_ (le_of_eq ((aX aue).trans (azG ..)).symm)
  unfold cS
  refine lC ?_ ?_
  ·refine lG (by simp only [EN]) ?_
   refine lD (by simp only [EN]) ?_ ?_
   ·exact aI rfl
   ·exact ih x0 x7 (w6 (x8 + 1)) b0
  ·exact aI rfl
theorem uJ (p0 : List aA) (p1 : aA) : Le (Option.map brokerref43_Check_out (gQ p0 p1)) (bD SE 83 [.d (.sl aA.ks (List.map aA.enc p0)), aA.av p1] [] []) := by
 refine aV aue rfl ?_
 refine Le.trans ?_ (le_of_eq (T83 ..).symm)
 unfold gQ
 (try simp only [EN]); exact sV fuel p0 (List.length p0 : Int) 0 p1
section
variable (Γ : Fun) (γ83 : Gm (Int)) (Λ2 J : Lam)
def C31 : aN := aZ (aQ Γ) 83 brokerref43_Check_out γ83
theorem T31 (p0 : List aA) (p1 : aA) : bF SE (C31 Γ γ83) Λ2 J 31 [.d (.sl aA.ks (List.map aA.enc p0)), aA.av p1] [] [] =
 γ83 [.d (.sl aA.ks (List.map aA.enc p0)), aA.av p1] [] [] fun r0 =>
 (rB (decide (r0 ≥ 0))) := by kernel_rfl
end
abbrev X31 : aN := C31 gG (cT 83 brokerref43_Check_out)
theorem aAM : X31 = aQ gG := by unfold X31 C31; rw [bB fun _ h => h]
theorem eU (p0 : List aA) (p1 : aA) : Le (Option.map brokerref01_lower_out (cR p0 p1)) (bD SE 31 [.d (.sl aA.ks (List.map aA.enc p0)), aA.av p1] [] []) := by
 refine aV aAM rfl ?_
 refine Le.trans ?_ (le_of_eq (T31 ..).symm)
 unfold cR
 refine lQ eX brokerref43_Check_inj (uJ _ _) fun r0 _ => ?_
 exact aI rfl
section
variable (Γ : Fun) (γ31 : Gm (Bool)) (Λ2 J : Lam)
def C15 : aN := aZ (aQ Γ) 31 brokerref01_lower_out γ31
theorem T15 (p0 : List aA) (p1 : Str) (p2 p3 : Int) : bF SE (C15 Γ γ31) Λ2 J 15 [.d (.sl aA.ks (List.map aA.enc p0)), .d (.str p1), .d (.int .i64 p2), .d (.int .i64 p3)] [] [] =
 γ31 [.d (.sl aA.ks (List.map aA.enc p0)), aA.av (aA.mk p1 p2 p3)] [] [] fun r0 =>
 (rB r0) := by kernel_rfl
end
abbrev X15 : aN := C15 gG (cT 31 brokerref01_lower_out)
theorem aBL : X15 = aQ gG := by unfold X15 C15; rw [bB fun _ h => h]
theorem oP (p0 : List aA) (p1 : Str) (p2 p3 : Int) : Le (Option.map brokerref01_lower_out (jV p0 p1 p2 p3)) (bD SE 15 [.d (.sl aA.ks (List.map aA.enc p0)), .d (.str p1), .d (.int .i64 p2), .d (.int .i64 p3)] [] []) := by
 refine aV aBL rfl ?_
 refine Le.trans ?_ (le_of_eq (T15 ..).symm)
 unfold jV
 refine lQ eX brokerref01_lower_inj (eU _ _) fun r0 _ => ?_
 exact aI rfl
def ak2 (C : aN) (Λ2 J : Lam) (a0 a1 : List (List D)) (a2 a3 : Int) : Res := lab SE C Λ2 J 13 0 [1, 1, 0, 1, 0] (aU [(0, .d (.sl aA.ks a0)), (8, .d (.sl aA.ks a1)), (9, .d (.int .i64 a2)), (10, .d (.int .i64 a3))] [] [] [] [])
section
variable (Γ : Fun) (γ32 : Gm (Bool)) (Λ2 J : Lam)
def C13 : aN := aZ (aQ Γ) 32 brokerref01_lower_out γ32
theorem T13 (p0 : List aA) : bF SE (C13 Γ γ32) Λ2 J 13 [.d (.sl aA.ks (List.map aA.enc p0))] [] [] =
 cond (decide ((lM aA.enc p0 : Int) > 32)) (
 (rI 5)) (
 ak2 (C13 Γ γ32) Λ2 J (List.map aA.enc p0) (List.map aA.enc p0) (lM aA.enc p0 : Int) 0) := by kernel_rfl
theorem azb (x0 x8 : List aA) (x9 x10 : Int) : bR SE (C13 Γ γ32) Λ2 J 13 0 [1, 1, 0, 1, 0] (aU [(0, .d (.sl aA.ks (List.map aA.enc x0))), (8, .d (.sl aA.ks (List.map aA.enc x8))), (9, .d (.int .i64 x9)), (10, .d (.int .i64 x10))] [] [] [] []) =
 cond (decide (x10 < x9)) (
 cond (iB x10 (lM aA.enc x8 : Int)) (
  γ32 [.d (.str (bK (cE aA.enc x8 x10 0)))] [] [] fun r0 =>
  cond (!r0) (
  (rI 11)) (
  cond (decide ((aW (cE aA.enc x8 x10 1)) < 0)) (
  (rI 1)) (
  cond (decide ((aW (cE aA.enc x8 x10 1)) ≥ 7)) (
  (rI 1)) (
  cond (decide ((aW (cE aA.enc x8 x10 2)) < 1)) (
  (rI 1)) (
  cond (decide ((aW (cE aA.enc x8 x10 2)) > 1099511627776)) (
  (rI 1)) (
  cond (decide (x10 > 0)) (
  cond (iB (w6 (x10 - 1)) (lM aA.enc x0 : Int)) (
   cond (Op.bytesLess (bK (cE aA.enc x8 x10 0)) (bK (cE aA.enc x0 (w6 (x10 - 1)) 0)) || (bK (cE aA.enc x8 x10 0)) == (bK (cE aA.enc x0 (w6 (x10 - 1)) 0))) (
   (rI 22)) (
   ak2 (C13 Γ γ32) Λ2 J (List.map aA.enc x0) (List.map aA.enc x8) x9 (w6 (x10 + 1)))) none) (
  ak2 (C13 Γ γ32) Λ2 J (List.map aA.enc x0) (List.map aA.enc x8) x9 (w6 (x10 + 1))))))))) none) (
 (rI 0)) := by kernel_rfl
end
abbrev X13 : aN := C13 gG (cT 32 brokerref01_lower_out)
theorem auu : X13 = aQ gG := by unfold X13 C13; rw [bB fun _ h => h]
abbrev az6 := ak2 X13 (bQ SE gG (SE.hl 13) (SE.hr 13)) (J0 SE X13)
theorem afB : ∀ (fu : Nat) (x0 x8 : List aA) (x9 x10 : Int), Le (Option.map brokerref43_Check_out (iO fu x0 x8 x9 x10)) (az6 (List.map aA.enc x0) (List.map aA.enc x8) x9 x10) := by
 intro fu
 induction fu with
 | zero => intros; exact le_none
 | succ fu ih =>
  intro x0 x8 x9 x10
  refine Le.trans ?_ (le_of_eq ((aX auu).trans (azb ..)).symm)
  unfold iO
  refine lC ?_ ?_
  ·refine lG (by simp only [EN]) ?_
   refine lQ eX brokerref01_lower_inj (by (try simp only [EN]); exact pS ((List.getD x8 (Int.toNat x10) default).Client)) fun r0 _ => ?_
   refine lC ?_ ?_
   ·exact aI rfl
   ·refine lD (by simp only [EN]) ?_ ?_
    ·exact aI rfl
    ·refine lD (by simp only [EN]) ?_ ?_
     ·exact aI rfl
     ·refine lD (by simp only [EN]) ?_ ?_
      ·exact aI rfl
      ·refine lD (by simp only [EN]) ?_ ?_
       ·exact aI rfl
       ·refine lC ?_ ?_
        ·refine lG (by simp only [EN]) ?_
         refine lD (by simp only [EN]) ?_ ?_
         ·exact aI rfl
         ·exact ih x0 x8 x9 (w6 (x10 + 1))
        ·exact ih x0 x8 x9 (w6 (x10 + 1))
  ·exact aI rfl
theorem ab5 (p0 : List aA) : Le (Option.map brokerref43_Check_out (pQ p0)) (bD SE 13 [.d (.sl aA.ks (List.map aA.enc p0))] [] []) := by
 refine aV auu rfl ?_
 refine Le.trans ?_ (le_of_eq (T13 ..).symm)
 unfold pQ
 refine lD (by simp only [EN]) ?_ ?_
 ·exact aI rfl
 ·(try simp only [EN]); exact afB fuel p0 p0 (List.length p0 : Int) 0
def aeh (C : aN) (Λ2 J : Lam) (a0 : List (List D)) (a1 a2 : Int) (a3 : List (List D)) : Res := lab SE C Λ2 J 29 0 [1, 1, 0, 1, 0] (aU [(5, .row 3005), (12, .d (.sl aA.ks a0)), (13, .d (.int .i64 a1)), (14, .d (.int .i64 a2))] [] [] [] [(3005, ⟨aA.ks, 24, 32, a3⟩)])
section
variable (Γ : Fun) (γ79 : Gm ((List aA))) (γ77 : Gm (Int × Bool)) (γ80 : Gm ((List aA))) (Λ2 J : Lam)
def C29 : aN := aZ (aZ (aZ (aQ Γ) 79 aS γ79) 77 cA γ77) 80 aS γ80
theorem T29 (p0 p1 : List aA) : bF SE (C29 Γ γ79 γ77 γ80) Λ2 J 29 [.d (.sl aA.ks (List.map aA.enc p0)), .d (.sl aA.ks (List.map aA.enc p1))] [] [] =
 γ79 [.d (.sl aA.ks (List.map aA.enc p0))] [] [] fun r0 =>
 aeh (C29 Γ γ79 γ77 γ80) Λ2 J (List.map aA.enc p1) (lM aA.enc p1 : Int) 0 (List.map aA.enc r0) := by kernel_rfl
theorem aAm (x12 : List aA) (x13 x14 : Int) (w3005 : List aA) : bR SE (C29 Γ γ79 γ77 γ80) Λ2 J 29 0 [1, 1, 0, 1, 0] (aU [(5, .row 3005), (12, .d (.sl aA.ks (List.map aA.enc x12))), (13, .d (.int .i64 x13)), (14, .d (.int .i64 x14))] [] [] [] [(3005, ⟨aA.ks, 24, 32, (List.map aA.enc w3005)⟩)]) =
 cond (decide (x14 < x13)) (
 cond (iB x14 (lM aA.enc x12 : Int)) (
  γ77 [.d (.sl aA.ks (List.map aA.enc w3005)), .d (.str (bK (cE aA.enc x12 x14 0))), .fn 78 [] []] [] [] fun r1 =>
  cond (!r1.2) (
  γ80 [.row 2000000000, .d (.int .i64 r1.1), .row 2000000001] [] [⟨aA.ks, 24, 32, (List.map aA.enc w3005)⟩, ⟨aA.ks, 24, 32, [[D.str (bK (cE aA.enc x12 x14 0)), D.int .i64 (aW (cE aA.enc x12 x14 1)), D.int .i64 (aW (cE aA.enc x12 x14 2))]]⟩] fun r2 =>
  aeh (C29 Γ γ79 γ77 γ80) Λ2 J (List.map aA.enc x12) x13 (w6 (x14 + 1)) (List.map aA.enc r2)) (
  cond (iB r1.1 (lM aA.enc w3005 : Int)) (
  cond (decide ((aW (cE aA.enc x12 x14 2)) > (aW (cE aA.enc w3005 r1.1 2)))) (
   cond (iB r1.1 (lM aA.enc w3005 : Int)) (
   aeh (C29 Γ γ79 γ77 γ80) Λ2 J (List.map aA.enc x12) x13 (w6 (x14 + 1)) ((n7 (List.map aA.enc w3005) (Int.toNat r1.1) 0 [D.str (bK (cE aA.enc x12 x14 0)), D.int .i64 (aW (cE aA.enc x12 x14 1)), D.int .i64 (aW (cE aA.enc x12 x14 2))]))) none) (
  cond (iB r1.1 (lM aA.enc w3005 : Int)) (
   cond ((aW (cE aA.enc x12 x14 2)) == (aW (cE aA.enc w3005 r1.1 2))) (
   cond (iB r1.1 (lM aA.enc w3005 : Int)) (
    cond (decide ((aW (cE aA.enc x12 x14 1)) < (aW (cE aA.enc w3005 r1.1 1)))) (
    cond (iB r1.1 (lM aA.enc w3005 : Int)) (
     aeh (C29 Γ γ79 γ77 γ80) Λ2 J (List.map aA.enc x12) x13 (w6 (x14 + 1)) ((n7 (List.map aA.enc w3005) (Int.toNat r1.1) 0 [D.str (bK (cE aA.enc x12 x14 0)), D.int .i64 (aW (cE aA.enc x12 x14 1)), D.int .i64 (aW (cE aA.enc x12 x14 2))]))) none) (
    aeh (C29 Γ γ79 γ77 γ80) Λ2 J (List.map aA.enc x12) x13 (w6 (x14 + 1)) (List.map aA.enc w3005))) none) (
   aeh (C29 Γ γ79 γ77 γ80) Λ2 J (List.map aA.enc x12) x13 (w6 (x14 + 1)) (List.map aA.enc w3005))) none)) none)) none) (
 (some (.ret [.row 0] [] [⟨aA.ks, 24, 32, (List.map aA.enc w3005)⟩]))) := by kernel_rfl
end
abbrev X29 : aN := C29 gG (cT 79 aS) (cT 77 cA) (cT 80 aS)
theorem au9 : X29 = aQ gG := by unfold X29 C29; repeat rw [bB fun _ h => h]
abbrev azt := aeh X29 (bQ SE gG (SE.hl 29) (SE.hr 29)) (J0 SE X29)
theorem afp : ∀ (fu : Nat) (x12 : List aA) (x13 x14 : Int) (w3005 : List aA), Le (Option.map aS (iV fu x12 x13 x14 w3005)) (azt (List.map aA.enc x12) x13 x14 (List.map aA.enc w3005)) := by
 intro fu
 induction fu with
 | zero => intros; exact le_none
 | succ fu ih =>
  intro x12 x13 x14 w3005
  refine Le.trans ?_ (le_of_eq ((aX au9).trans (aAm ..)).symm)
  unfold iV
  refine lC ?_ ?_
  ·refine lG (by simp only [EN]) ?_
   refine lQ eX nO (by (try simp only [EN]); exact tM w3005 ((List.getD x12 (Int.toNat x14) default).Client)) fun r1 _ => ?_
   refine lC ?_ ?_
   ·refine lQ eX bL (by (try simp only [EN]); exact l3 w3005 r1.1 [(List.getD x12 (Int.toNat x14) default)]) fun r2 _ => ?_
    exact ih x12 x13 (w6 (x14 + 1)) r2
   ·refine lG (by simp only [EN]) ?_
    refine lD (by simp only [EN]) ?_ ?_
    ·refine lG (by simp only [EN]) ?_
     (try simp only [EN]); exact ih x12 x13 (w6 (x14 + 1)) ((List.set w3005 (Int.toNat r1.1) (List.getD x12 (Int.toNat x14) default)))
    ·refine lG (by simp only [EN]) ?_
     refine lD (by simp only [EN]) ?_ ?_
     ·refine lG (by simp only [EN]) ?_
      refine lD (by simp only [EN]) ?_ ?_
      ·refine lG (by simp only [EN]) ?_
       (try simp only [EN]); exact ih x12 x13 (w6 (x14 + 1)) ((List.set w3005 (Int.toNat r1.1) (List.getD x12 (Int.toNat x14) default)))
      ·exact ih x12 x13 (w6 (x14 + 1)) w3005
     ·exact ih x12 x13 (w6 (x14 + 1)) w3005
  ·exact aI rfl
theorem fS (p0 p1 : List aA) : Le (Option.map aS (gB p0 p1)) (bD SE 29 [.d (.sl aA.ks (List.map aA.enc p0)), .d (.sl aA.ks (List.map aA.enc p1))] [] []) := by
 refine aV au9 rfl ?_
 refine Le.trans ?_ (le_of_eq (T29 ..).symm)
 unfold gB
 refine lQ eX bL (mL _) fun r0 _ => ?_
 (try simp only [EN]); exact afp fuel p1 (List.length p1 : Int) 0 r0
section
variable (Γ : Fun)  (Λ2 J : Lam)
def aus : aN := aQ Γ
theorem aBK (p0 : Int) : bF SE (aus Γ) Λ2 J 116 [.d (.int .i64 p0)] [] [] =
 cond (decide (p0 ≥ 0)) (
 (rB (decide (p0 ≤ 1099511627776)))) (
 (rB false)) := by kernel_rfl
end
abbrev aCm : aN := aus gG
theorem axB : aCm = aQ gG := rfl
theorem acJ (p0 : Int) : Le (Option.map brokerref01_lower_out (qZ p0)) (bD SE 116 [.d (.int .i64 p0)] [] []) := by
 refine aV axB rfl ?_
 refine Le.trans ?_ (le_of_eq (aBK ..).symm)
 unfold qZ
 refine lC ?_ ?_
 ·exact aI rfl
 ·exact aI rfl
def ait (C : aN) (Λ2 J : Lam) (a0 : List D) : Res := lab SE C Λ2 J 86 0 [1, 1, 1, 0, 0] (aU [(1, .ptr 1000000000 0)] [⟨46, (List.map AV.d a0)⟩] [] [] [])
def aoe (C : aN) (Λ2 J : Lam) (a0 : List D) : Res := lab SE C Λ2 J 86 0 [1, 1, 0, 0] (aU [(1, .ptr 1000000000 0)] [⟨46, (List.map AV.d a0)⟩] [] [] [])
section
variable (Γ : Fun) (γ32 γ116 : Gm (Bool)) (Λ2 J : Lam)
def C86 : aN := aZ (aZ (aQ Γ) 32 brokerref01_lower_out γ32) 116 brokerref01_lower_out γ116
theorem T86 (p0 : aJ) : bF SE (C86 Γ γ32 γ116) Λ2 J 86 [aJ.av p0] [] [] =
 γ32 [.d (.str p0.Client)] [] [] fun r0 =>
 cond (!r0) (
 (rI 11)) (
 cond (!(p0.User == ([] : Str))) (
 γ32 [.d (.str p0.User)] [] [] fun r1 =>
 cond (!r1) (
  (rI 11)) (
 aoe (C86 Γ γ32 γ116) Λ2 J (aJ.enc p0))) (
 aoe (C86 Γ γ32 γ116) Λ2 J (aJ.enc p0))) := by kernel_rfl
theorem axG (b0 : aJ) : bR SE (C86 Γ γ32 γ116) Λ2 J 86 0 [1, 1, 1, 0, 0] (aU [(1, .ptr 1000000000 0)] [⟨46, (List.map AV.d (aJ.enc b0))⟩] [] [] []) =
 γ116 [.d (.int .i64 b0.Expiry)] [] [] fun r2 =>
 cond (!r2) (
 (rI 1)) (
 γ116 [.d (.int .i64 b0.Until)] [] [] fun r3 =>
 cond (!r3) (
 (rI 1)) (
 cond (decide (b0.Dropped < 0)) (
 (rI 1)) (
 cond (decide (b0.Dropped > 1099511627776)) (
 (rI 1)) (
 (rI 0))))) := by kernel_rfl
theorem axS (b0 : aJ) : bR SE (C86 Γ γ32 γ116) Λ2 J 86 0 [1, 1, 0, 0] (aU [(1, .ptr 1000000000 0)] [⟨46, (List.map AV.d (aJ.enc b0))⟩] [] [] []) =
 cond (!b0.Online) (
 cond (b0.Conn != 0) (
  (rI 9)) (
 cond b0.Online (
  cond (b0.Until != 0) (
  (rI 9)) (
  ait (C86 Γ γ32 γ116) Λ2 J (aJ.enc b0))) (
 ait (C86 Γ γ32 γ116) Λ2 J (aJ.enc b0)))) (
 cond b0.Online (
 cond (b0.Until != 0) (
  (rI 9)) (
 ait (C86 Γ γ32 γ116) Λ2 J (aJ.enc b0))) (
 ait (C86 Γ γ32 γ116) Λ2 J (aJ.enc b0))) := by kernel_rfl
end
abbrev X86 : aN := C86 gG (cT 32 brokerref01_lower_out) (cT 116 brokerref01_lower_out)
theorem aqT : X86 = aQ gG := by unfold X86 C86; repeat rw [bB fun _ h => h]
abbrev az7 := ait X86 (bQ SE gG (SE.hl 86) (SE.hr 86)) (J0 SE X86)
abbrev azm := aoe X86 (bQ SE gG (SE.hl 86) (SE.hr 86)) (J0 SE X86)
theorem lB (b0 : aJ) : Le (Option.map brokerref43_Check_out (gY b0)) (az7 (aJ.enc b0)) := by
 refine Le.trans ?_ (le_of_eq ((aX aqT).trans (axG ..)).symm)
 unfold gY
 refine lQ eX brokerref01_lower_inj (acJ _) fun r2 _ => ?_
 refine lC ?_ ?_
 ·exact aI rfl
 ·refine lQ eX brokerref01_lower_inj (acJ _) fun r3 _ => ?_
  refine lC ?_ ?_
  ·exact aI rfl
  ·refine lC ?_ ?_
   ·exact aI rfl
   ·refine lC ?_ ?_
    ·exact aI rfl
    ·exact aI rfl
theorem vT (b0 : aJ) : Le (Option.map brokerref43_Check_out (kG b0)) (azm (aJ.enc b0)) := by
 refine Le.trans ?_ (le_of_eq ((aX aqT).trans (axS ..)).symm)
 unfold kG
 refine lC ?_ ?_
 ·refine lC ?_ ?_
  ·exact aI rfl
  ·refine lC ?_ ?_
   ·refine lC ?_ ?_
    ·exact aI rfl
    ·exact lB b0
   ·exact lB b0
 ·refine lC ?_ ?_
  ·refine lC ?_ ?_
   ·exact aI rfl
   ·exact lB b0
  ·exact lB b0
theorem aeU (p0 : aJ) : Le (Option.map brokerref43_Check_out (nZ p0)) (bD SE 86 [aJ.av p0] [] []) := by
 refine aV aqT rfl ?_
 refine Le.trans ?_ (le_of_eq (T86 ..).symm)
 unfold nZ
 refine lQ eX brokerref01_lower_inj (pS _) fun r0 _ => ?_
 refine lC ?_ ?_
 ·exact aI rfl
 ·refine lC ?_ ?_
  ·refine lQ eX brokerref01_lower_inj (pS _) fun r1 _ => ?_
   refine lC ?_ ?_
   ·exact aI rfl
   ·exact vT p0
  ·exact vT p0
section
variable (Γ : Fun)  (Λ2 J : Lam)
def awX : aN := aQ Γ
theorem aCQ (p0 p1 : Str) : bF SE (awX Γ) Λ2 J 158 [.d (.str p0), .d (.str p1)] [] [] =
 cond (decide ((List.length p0 : Int) ≥ (List.length p1 : Int))) (
 cond (decide (0 ≤ (List.length p1 : Int)) && decide ((List.length p1 : Int) ≤ ((List.length p0) : Int))) (
  (rB ((cY p0 none (some (List.length p1 : Int))) == p1))) none) (
 (rB false)) := by kernel_rfl
end
abbrev aBc : aN := awX gG
theorem ayE : aBc = aQ gG := rfl
theorem uD (p0 p1 : Str) : Le (Option.map brokerref01_lower_out (iJ p0 p1)) (bD SE 158 [.d (.str p0), .d (.str p1)] [] []) := by
 refine aV ayE rfl ?_
 refine Le.trans ?_ (le_of_eq (aCQ ..).symm)
 unfold iJ
 refine lC ?_ ?_
 ·refine lF ?_
  exact aI rfl
 ·exact aI rfl
section
variable (Γ : Fun) (γ158 : Gm (Bool)) (Λ2 J : Lam)
def aqL : aN := aZ (aQ Γ) 158 brokerref01_lower_out γ158
theorem aCe (p0 p1 : Str) : bF SE (aqL Γ γ158) Λ2 J 164 [.d (.str p0), .d (.str p1)] [] [] =
 γ158 [.d (.str p0), .d (.str p1)] [] [] fun r0 =>
 cond (!r0) (
 (some (.ret [.d (.str p0), .d (.bool false)] [] []))) (
 cond (decide (0 ≤ (List.length p1 : Int)) && decide ((List.length p1 : Int) ≤ ((List.length p0) : Int))) (
 (some (.ret [.d (.str (cY p0 (some (List.length p1 : Int)) none)), .d (.bool true)] [] []))) none) := by kernel_rfl
end
abbrev avQ : aN := aqL gG (cT 158 brokerref01_lower_out)
theorem azq : avQ = aQ gG := by unfold avQ aqL; rw [bB fun _ h => h]
theorem abF (p0 p1 : Str) : Le (Option.map dG (nG p0 p1)) (bD SE 164 [.d (.str p0), .d (.str p1)] [] []) := by
 refine aV azq rfl ?_
 refine Le.trans ?_ (le_of_eq (aCe ..).symm)
 unfold nG
 refine lQ eX brokerref01_lower_inj (uD _ _) fun r0 _ => ?_
 refine lC ?_ ?_
 ·exact aI rfl
 ·refine lF ?_
  exact aI rfl
section
variable (Γ : Fun) (γ164 : Gm (Str × Bool)) (Λ2 J : Lam)
def aq0 : aN := aZ (aQ Γ) 164 dG γ164
theorem aBr (p0 p1 : Str) : bF SE (aq0 Γ γ164) Λ2 J 154 [.d (.str p0), .d (.str p1)] [] [] =
 γ164 [.d (.str p0), .d (.str p1)] [] [] fun r0 =>
 (some (.ret [.d (.str r0.1), .d (.bool r0.2)] [] [])) := by kernel_rfl
end
abbrev aw2 : aN := aq0 gG (cT 164 dG)
theorem az8 : aw2 = aQ gG := by unfold aw2 aq0; rw [bB fun _ h => h]
theorem aeT (p0 p1 : Str) : Le (Option.map dG (nV p0 p1)) (bD SE 154 [.d (.str p0), .d (.str p1)] [] []) := by
 refine aV az8 rfl ?_
 refine Le.trans ?_ (le_of_eq (aBr ..).symm)
 unfold nV
 refine lQ eX tN (abF _ _) fun r0 _ => ?_
 exact aI rfl
section
variable (Γ : Fun)  (Λ2 J : Lam)
def auQ : aN := aQ Γ
theorem aCL (p0 : Str) (p1 : Int) : bF SE (auQ Γ) Λ2 J 172 [.d (.str p0), .d (.int .u8 p1)] [] [] =
 (rI (Lib.indexByte p0 (UInt8.ofNat (Int.toNat p1)) : Int)) := by kernel_rfl
end
abbrev aCC : aN := auQ gG
theorem azn : aCC = aQ gG := rfl
theorem abA (p0 : Str) (p1 : Int) : Le (Option.map brokerref43_Check_out (rM p0 p1)) (bD SE 172 [.d (.str p0), .d (.int .u8 p1)] [] []) := by
 refine aV azn rfl ?_
 refine Le.trans ?_ (le_of_eq (aCL ..).symm)
 unfold rM
 exact aI rfl
section
variable (Γ : Fun) (γ172 : Gm (Int)) (Λ2 J : Lam)
def arM : aN := aZ (aQ Γ) 172 brokerref43_Check_out γ172
theorem aB4 (p0 p1 : Str) : bF SE (arM Γ γ172) Λ2 J 169 [.d (.str p0), .d (.str p1)] [] [] =
 cond ((List.length p1 : Int) == 0) (
 (rI 0)) (
 cond (p1 == p0) (
 (rI 0)) (
 cond ((List.length p1 : Int) == 1) (
 cond (decide (0 ≤ 0) && decide (0 < (List.length p1 : Int))) (
  γ172 [.d (.str p0), .d (.int .u8 (UInt8.toNat (List.getD p1 (Int.toNat 0) 0) : Int))] [] [] fun r0 =>
  (rI r0)) none) (
 cond (decide ((List.length p1 : Int) ≥ (List.length p0 : Int))) (
 (rI (-1))) none))) := by kernel_rfl
end
abbrev auM : aN := arM gG (cT 172 brokerref43_Check_out)
theorem ayu : auM = aQ gG := by unfold auM arM; rw [bB fun _ h => h]
theorem yA (p0 p1 : Str) : Le (Option.map brokerref43_Check_out (jG p0 p1)) (bD SE 169 [.d (.str p0), .d (.str p1)] [] []) := by
 refine aV ayu rfl ?_
 refine Le.trans ?_ (le_of_eq (aB4 ..).symm)
 unfold jG
 refine lC ?_ ?_
 ·exact aI rfl
 ·refine lC ?_ ?_
  ·exact aI rfl
  ·refine lC ?_ ?_
   ·refine lF ?_
    refine lQ eX brokerref43_Check_inj (abA _ _) fun r0 _ => ?_
    exact aI rfl
   ·refine lF ?_
    exact aI rfl
section
variable (Γ : Fun) (γ169 : Gm (Int)) (Λ2 J : Lam)
def ar8 : aN := aZ (aQ Γ) 169 brokerref43_Check_out γ169
theorem aCg (p0 p1 : Str) : bF SE (ar8 Γ γ169) Λ2 J 165 [.d (.str p0), .d (.str p1)] [] [] =
 γ169 [.d (.str p0), .d (.str p1)] [] [] fun r0 =>
 cond (decide (r0 ≥ 0)) (
 cond (decide (0 ≤ r0) && decide (r0 ≤ ((List.length p0) : Int))) (
  cond (decide (0 ≤ (w6 (r0 + (List.length p1 : Int)))) && decide ((w6 (r0 + (List.length p1 : Int))) ≤ ((List.length p0) : Int))) (
  (some (.ret [.d (.str (cY p0 none (some r0))), .d (.str (cY p0 (some (w6 (r0 + (List.length p1 : Int)))) none)), .d (.bool true)] [] []))) none) none) (
 (some (.ret [.d (.str p0), .d (.str []), .d (.bool false)] [] []))) := by kernel_rfl
end
abbrev avP : aN := ar8 gG (cT 169 brokerref43_Check_out)
theorem azF : avP = aQ gG := by unfold avP ar8; rw [bB fun _ h => h]
theorem af8 (p0 p1 : Str) : Le (Option.map bX (tW p0 p1)) (bD SE 165 [.d (.str p0), .d (.str p1)] [] []) := by
 refine aV azF rfl ?_
 refine Le.trans ?_ (le_of_eq (aCg ..).symm)
 unfold tW
 refine lQ eX brokerref43_Check_inj (yA _ _) fun r0 _ => ?_
 refine lC ?_ ?_
 ·refine lF ?_
  refine lF ?_
  exact aI rfl
 ·exact aI rfl
section
variable (Γ : Fun) (γ165 : Gm (Str × Str × Bool)) (Λ2 J : Lam)
def arN : aN := aZ (aQ Γ) 165 bX γ165
theorem aBp (p0 p1 : Str) : bF SE (arN Γ γ165) Λ2 J 155 [.d (.str p0), .d (.str p1)] [] [] =
 γ165 [.d (.str p0), .d (.str p1)] [] [] fun r0 =>
 (some (.ret [.d (.str r0.1), .d (.str r0.2.1), .d (.bool r0.2.2)] [] [])) := by kernel_rfl
end
abbrev awZ : aN := arN gG (cT 165 bX)
theorem azE : awZ = aQ gG := by unfold awZ arN; rw [bB fun _ h => h]
theorem ajm (p0 p1 : Str) : Le (Option.map bX (wF p0 p1)) (bD SE 155 [.d (.str p0), .d (.str p1)] [] []) := by
 refine aV azE rfl ?_
 refine Le.trans ?_ (le_of_eq (aBp ..).symm)
 unfold wF
 refine lQ eX lL (af8 _ _) fun r0 _ => ?_
 exact aI rfl
def ai6 (C : aN) (Λ2 J : Lam) (a0 : Int) (a1 : Str) (a2 : Nat) : Res := lab SE C Λ2 J 156 0 [1, 1, 1, 0, 1, 0] (aU [(3, .d (.int .i64 a0)), (15, .it 4000)] [] [] [(4000, (a1, a2))] [])
def ao9 (C : aN) (Λ2 J : Lam) (a0 : Str) : Res := lab SE C Λ2 J 156 0 [1, 1, 0] (aU [(0, .d (.str a0))] [] [] [] [])
section
variable (Γ : Fun)  (Λ2 J : Lam)
def afR : aN := aQ Γ
theorem aCt (p0 : Str) : bF SE (afR Γ) Λ2 J 156 [.d (.str p0)] [] [] =
 cond (decide ((List.length p0 : Int) < 1)) (
 (rB false)) (
 cond (decide ((List.length p0 : Int) > 64)) (
 (rB false)) (
 ao9 (afR Γ) Λ2 J p0)) := by kernel_rfl
theorem awg (x3 : Int) (s4000 : Str) (i4000 : Nat) : bR SE (afR Γ) Λ2 J 156 0 [1, 1, 1, 0, 1, 0] (aU [(3, .d (.int .i64 x3)), (15, .it 4000)] [] [] [(4000, (s4000, i4000))] []) =
 cond (decide (i4000 < List.length s4000)) (
 cond (((dec s4000 i4000).1 : Int) == 0) (
  (rB false)) (
 cond (((dec s4000 i4000).1 : Int) == 47) (
  ai6 (afR Γ) Λ2 J (w6 (x3 + 1)) s4000 (i4000 + (dec s4000 i4000).2)) (
 ai6 (afR Γ) Λ2 J x3 s4000 (i4000 + (dec s4000 i4000).2)))) (
 (rB (decide (x3 ≤ 8)))) := by kernel_rfl
theorem aut (x0 : Str) : bR SE (afR Γ) Λ2 J 156 0 [1, 1, 0] (aU [(0, .d (.str x0))] [] [] [] []) =
 ai6 (afR Γ) Λ2 J 1 x0 0 := by kernel_rfl
end
abbrev amm : aN := afR gG
theorem anM : amm = aQ gG := rfl
abbrev atV := ai6 amm (bQ SE gG (SE.hl 156) (SE.hr 156)) (J0 SE amm)
abbrev awA := ao9 amm (bQ SE gG (SE.hl 156) (SE.hr 156)) (J0 SE amm)
theorem ag7 : ∀ (fu : Nat) (x3 : Int) (s4000 : Str) (i4000 : Nat), Le (Option.map brokerref01_lower_out (iY fu x3 s4000 i4000)) (atV x3 s4000 i4000) := by
 intro fu
 induction fu with
 | zero => intros; exact le_none
 | succ fu ih =>
  intro x3 s4000 i4000
  refine Le.trans ?_ (le_of_eq ((aX anM).trans (awg ..)).symm)
  unfold iY
  refine lC ?_ ?_
  ·refine lC ?_ ?_
   ·exact aI rfl
   ·refine lC ?_ ?_
    ·exact ih (w6 (x3 + 1)) s4000 (i4000 + (dec s4000 i4000).2)
    ·exact ih x3 s4000 (i4000 + (dec s4000 i4000).2)
  ·exact aI rfl
theorem ag6 (x0 : Str) : Le (Option.map brokerref01_lower_out (vF x0)) (awA x0) := by
 refine Le.trans ?_ (le_of_eq ((aX anM).trans (aut ..)).symm)
 unfold vF
 exact ag7 fuel 1 x0 0
theorem adV (p0 : Str) : Le (Option.map brokerref01_lower_out (tC p0)) (bD SE 156 [.d (.str p0)] [] []) := by
 refine aV anM rfl ?_
 refine Le.trans ?_ (le_of_eq (aCt ..).symm)
 unfold tC
 refine lC ?_ ?_
 ·exact aI rfl
 ·refine lC ?_ ?_
  ·exact aI rfl
  ·exact ag6 p0
section
variable (Γ : Fun) (γ169 : Gm (Int)) (Λ2 J : Lam)
def arL : aN := aZ (aQ Γ) 169 brokerref43_Check_out γ169
theorem aBR (p0 p1 : Str) : bF SE (arL Γ γ169) Λ2 J 178 [.d (.str p0), .d (.str p1)] [] [] =
 γ169 [.d (.str p0), .d (.str p1)] [] [] fun r0 =>
 (rI r0) := by kernel_rfl
end
abbrev aw6 : aN := arL gG (cT 169 brokerref43_Check_out)
theorem azz : aw6 = aQ gG := by unfold aw6 arL; rw [bB fun _ h => h]
theorem abH (p0 p1 : Str) : Le (Option.map brokerref43_Check_out (kX p0 p1)) (bD SE 178 [.d (.str p0), .d (.str p1)] [] []) := by
 refine aV azz rfl ?_
 refine Le.trans ?_ (le_of_eq (aBR ..).symm)
 unfold kX
 refine lQ eX brokerref43_Check_inj (yA _ _) fun r0 _ => ?_
 exact aI rfl
def amP (C : aN) (Λ2 J : Lam) (a0 a1 : Str) (a2 : Int) : Res := lab SE C Λ2 J 177 0 [1, 1, 1, 1, 0] (aU [(0, .d (.str a0)), (1, .d (.str a1)), (5, .d (.int .i64 a2))] [] [] [] [])
section
variable (Γ : Fun) (γ178 : Gm (Int)) (Λ2 J : Lam)
def aju : aN := aZ (aQ Γ) 178 brokerref43_Check_out γ178
theorem aCv (p0 p1 : Str) : bF SE (aju Γ γ178) Λ2 J 177 [.d (.str p0), .d (.str p1)] [] [] =
 cond ((List.length p1 : Int) == 0) (
 none) (
 cond ((List.length p1 : Int) == 1) (
 cond (decide (0 ≤ 0) && decide (0 < (List.length p1 : Int))) (
  (rI (Lib.countByte p0 (UInt8.ofNat (Int.toNat (UInt8.toNat (List.getD p1 (Int.toNat 0) 0) : Int))) : Int))) none) (
 amP (aju Γ γ178) Λ2 J p0 p1 0)) := by kernel_rfl
theorem at3 (x0 x1 : Str) (x5 : Int) : bR SE (aju Γ γ178) Λ2 J 177 0 [1, 1, 1, 1, 0] (aU [(0, .d (.str x0)), (1, .d (.str x1)), (5, .d (.int .i64 x5))] [] [] [] []) =
 γ178 [.d (.str x0), .d (.str x1)] [] [] fun r0 =>
 cond (r0 == (-1)) (
 (rI x5)) (
 cond (decide (0 ≤ (w6 (r0 + (List.length x1 : Int)))) && decide ((w6 (r0 + (List.length x1 : Int))) ≤ ((List.length x0) : Int))) (
 amP (aju Γ γ178) Λ2 J (cY x0 (some (w6 (r0 + (List.length x1 : Int)))) none) x1 (w6 (x5 + 1))) none) := by kernel_rfl
end
abbrev aoA : aN := aju gG (cT 178 brokerref43_Check_out)
theorem asU : aoA = aQ gG := by unfold aoA aju; rw [bB fun _ h => h]
abbrev at7 := amP aoA (bQ SE gG (SE.hl 177) (SE.hr 177)) (J0 SE aoA)
theorem afn : ∀ (fu : Nat) (x0 x1 : Str) (x5 : Int), Le (Option.map brokerref43_Check_out (rS fu x0 x1 x5)) (at7 x0 x1 x5) := by
 intro fu
 induction fu with
 | zero => intros; exact le_none
 | succ fu ih =>
  intro x0 x1 x5
  refine Le.trans ?_ (le_of_eq ((aX asU).trans (at3 ..)).symm)
  unfold rS
  refine lQ eX brokerref43_Check_inj (abH _ _) fun r0 _ => ?_
  refine lC ?_ ?_
  ·exact aI rfl
  ·refine lF ?_
   exact ih (cY x0 (some (w6 (r0 + (List.length x1 : Int)))) none) x1 (w6 (x5 + 1))
theorem ahP (p0 p1 : Str) : Le (Option.map brokerref43_Check_out (sO p0 p1)) (bD SE 177 [.d (.str p0), .d (.str p1)] [] []) := by
 refine aV asU rfl ?_
 refine Le.trans ?_ (le_of_eq (aCv ..).symm)
 unfold sO
 refine lC ?_ ?_
 ·exact le_none
 ·refine lC ?_ ?_
  ·refine lF ?_
   exact aI rfl
  ·exact afn fuel p0 p1 0
def ajD (C : aN) (Λ2 J : Lam) (a0 : Str) (a1 : Int) (a2 : List (List D)) : Res := lab SE C Λ2 J 170 0 [1, 1, 1, 1, 1, 1, 1, 1, 1, 0] (aU [(0, .d (.str a0)), (9, .row 3009), (10, .d (.int .i64 a1))] [] [] [] [(3009, ⟨[.str], 9, 16, a2⟩)])
def ajn (C : aN) (Λ2 J : Lam) (a0 a1 : Str) (a2 a3 a4 : Int) (a5 : List (List D)) : Res := lab SE C Λ2 J 170 0 [1, 1, 1, 1, 1, 1, 1, 1, 0, 0] (aU [(0, .d (.str a0)), (1, .d (.str a1)), (2, .d (.int .i64 a2)), (3, .d (.int .i64 a3)), (9, .row 3009), (10, .d (.int .i64 a4))] [] [] [] [(3009, ⟨[.str], 9, 16, a5⟩)])
def alT (C : aN) (Λ2 J : Lam) (a0 a1 : Str) (a2 a3 : Int) : Res := lab SE C Λ2 J 170 0 [1, 1, 1, 1, 0] (aU [(0, .d (.str a0)), (1, .d (.str a1)), (2, .d (.int .i64 a2)), (3, .d (.int .i64 a3))] [] [] [] [])
section
variable (Γ : Fun) (γ177 γ178 : Gm (Int)) (Λ2 J : Lam)
def aaM : aN := aZ (aZ (aQ Γ) 177 brokerref43_Check_out γ177) 178 brokerref43_Check_out γ178
theorem aCk (p0 p1 : Str) (p2 p3 : Int) : bF SE (aaM Γ γ177 γ178) Λ2 J 170 [.d (.str p0), .d (.str p1), .d (.int .i64 p2), .d (.int .i64 p3)] [] [] =
 cond (p3 == 0) (
 (some (.ret [.d (.sl [.str] (List.map cG []))] [] []))) (
 cond (p1 == ([] : Str)) (
 none) (
 cond (decide (p3 < 0)) (
 γ177 [.d (.str p0), .d (.str p1)] [] [] fun r0 =>
 alT (aaM Γ γ177 γ178) Λ2 J p0 p1 p2 (w6 (r0 + 1))) (
 alT (aaM Γ γ177 γ178) Λ2 J p0 p1 p2 p3))) := by kernel_rfl
theorem atK (x0 : Str) (x10 : Int) (w3009 : List Str) : bR SE (aaM Γ γ177 γ178) Λ2 J 170 0 [1, 1, 1, 1, 1, 1, 1, 1, 1, 0] (aU [(0, .d (.str x0)), (9, .row 3009), (10, .d (.int .i64 x10))] [] [] [] [(3009, ⟨[.str], 9, 16, (List.map cG w3009)⟩)]) =
 cond (iB x10 (lM cG w3009 : Int)) (
 cond (decide (0 ≤ (w6 (x10 + 1))) && decide ((w6 (x10 + 1)) ≤ ((List.length (n7 (List.map cG w3009) (Int.toNat x10) 0 [D.str x0])) : Int))) (
  (some (.ret [.d (.sl [.str] (List.take ((Int.toNat (w6 (x10 + 1))) - 0) (List.drop 0 (n7 (List.map cG w3009) (Int.toNat x10) 0 [D.str x0]))))] [] []))) none) none := by kernel_rfl
theorem atg (x0 x1 : Str) (x2 x3 x10 : Int) (w3009 : List Str) : bR SE (aaM Γ γ177 γ178) Λ2 J 170 0 [1, 1, 1, 1, 1, 1, 1, 1, 0, 0] (aU [(0, .d (.str x0)), (1, .d (.str x1)), (2, .d (.int .i64 x2)), (3, .d (.int .i64 x3)), (9, .row 3009), (10, .d (.int .i64 x10))] [] [] [] [(3009, ⟨[.str], 9, 16, (List.map cG w3009)⟩)]) =
 cond (decide (x10 < x3)) (
 γ178 [.d (.str x0), .d (.str x1)] [] [] fun r1 =>
 cond (decide (r1 < 0)) (
  ajD (aaM Γ γ177 γ178) Λ2 J x0 x10 (List.map cG w3009)) (
 cond (decide (0 ≤ (w6 (r1 + x2))) && decide ((w6 (r1 + x2)) ≤ ((List.length x0) : Int))) (
  cond (iB x10 (lM cG w3009 : Int)) (
  cond (decide (0 ≤ (w6 (r1 + (List.length x1 : Int)))) && decide ((w6 (r1 + (List.length x1 : Int))) ≤ ((List.length x0) : Int))) (
   ajn (aaM Γ γ177 γ178) Λ2 J (cY x0 (some (w6 (r1 + (List.length x1 : Int)))) none) x1 x2 x3 (w6 (x10 + 1)) ((n7 (List.map cG w3009) (Int.toNat x10) 0 [D.str (cY x0 none (some (w6 (r1 + x2))))]))) none) none) none)) (
 ajD (aaM Γ γ177 γ178) Λ2 J x0 x10 (List.map cG w3009)) := by kernel_rfl
theorem aul (x0 x1 : Str) (x2 x3 : Int) : bR SE (aaM Γ γ177 γ178) Λ2 J 170 0 [1, 1, 1, 1, 0] (aU [(0, .d (.str x0)), (1, .d (.str x1)), (2, .d (.int .i64 x2)), (3, .d (.int .i64 x3))] [] [] [] []) =
 cond (decide (0 ≤ (if (w6 ((List.length x0 : Int) + 1)) < x3 then (w6 ((List.length x0 : Int) + 1)) else x3)) && decide ((if (w6 ((List.length x0 : Int) + 1)) < x3 then (w6 ((List.length x0 : Int) + 1)) else x3) ≤ (if (w6 ((List.length x0 : Int) + 1)) < x3 then (w6 ((List.length x0 : Int) + 1)) else x3)) && decide ((if (w6 ((List.length x0 : Int) + 1)) < x3 then (w6 ((List.length x0 : Int) + 1)) else x3) * 16 ≤ 281474976710656)) (
 ajn (aaM Γ γ177 γ178) Λ2 J x0 x1 x2 ((w6 ((if (w6 ((List.length x0 : Int) + 1)) < x3 then (w6 ((List.length x0 : Int) + 1)) else x3) - 1))) 0 ((List.replicate (Int.toNat (if (w6 ((List.length x0 : Int) + 1)) < x3 then (w6 ((List.length x0 : Int) + 1)) else x3)) [D.str []]))) none := by kernel_rfl
end
abbrev afV : aN := aaM gG (cT 177 brokerref43_Check_out) (cT 178 brokerref43_Check_out)
theorem akW : afV = aQ gG := by unfold afV aaM; repeat rw [bB fun _ h => h]
abbrev as5 := ajD afV (bQ SE gG (SE.hl 170) (SE.hr 170)) (J0 SE afV)
abbrev atC := ajn afV (bQ SE gG (SE.hl 170) (SE.hr 170)) (J0 SE afV)
abbrev avN := alT afV (bQ SE gG (SE.hl 170) (SE.hr 170)) (J0 SE afV)
theorem vQ (x0 : Str) (x10 : Int) (w3009 : List Str) : Le (Option.map cD (kK x0 x10 w3009)) (as5 x0 x10 (List.map cG w3009)) := by
 refine Le.trans ?_ (le_of_eq ((aX akW).trans (atK ..)).symm)
 unfold kK
 refine lG (by simp only [EN]) ?_
 refine lG (by simp only [EN]) ?_
 exact aI (by first | rfl | simp only [EN, cD] <;> rfl)
theorem acq : ∀ (fu : Nat) (x0 x1 : Str) (x2 x3 x10 : Int) (w3009 : List Str), Le (Option.map cD (gU fu x0 x1 x2 x3 x10 w3009)) (atC x0 x1 x2 x3 x10 (List.map cG w3009)) := by
 intro fu
 induction fu with
 | zero => intros; exact le_none
 | succ fu ih =>
  intro x0 x1 x2 x3 x10 w3009
  refine Le.trans ?_ (le_of_eq ((aX akW).trans (atg ..)).symm)
  unfold gU
  refine lC ?_ ?_
  ·refine lQ eX brokerref43_Check_inj (abH _ _) fun r1 _ => ?_
   refine lC ?_ ?_
   ·exact vQ x0 x10 w3009
   ·refine lF ?_
    refine lG (by simp only [EN]) ?_
    refine lF ?_
    (try simp only [EN]); exact ih (cY x0 (some (w6 (r1 + (List.length x1 : Int)))) none) x1 x2 x3 (w6 (x10 + 1)) ((List.set w3009 (Int.toNat x10) (cY x0 none (some (w6 (r1 + x2))))))
  ·exact vQ x0 x10 w3009
theorem wJ (x0 x1 : Str) (x2 x3 : Int) : Le (Option.map cD (lI x0 x1 x2 x3)) (avN x0 x1 x2 x3) := by
 refine Le.trans ?_ (le_of_eq ((aX akW).trans (aul ..)).symm)
 unfold lI
 refine lF ?_
 (try simp only [EN]); exact acq fuel x0 x1 x2 ((w6 ((if (w6 ((List.length x0 : Int) + 1)) < x3 then (w6 ((List.length x0 : Int) + 1)) else x3) - 1))) 0 ((List.replicate (Int.toNat (if (w6 ((List.length x0 : Int) + 1)) < x3 then (w6 ((List.length x0 : Int) + 1)) else x3)) (default : Str)))
theorem afr (p0 p1 : Str) (p2 p3 : Int) : Le (Option.map cD (sM p0 p1 p2 p3)) (bD SE 170 [.d (.str p0), .d (.str p1), .d (.int .i64 p2), .d (.int .i64 p3)] [] []) := by
 refine aV akW rfl ?_
 refine Le.trans ?_ (le_of_eq (aCk ..).symm)
 unfold sM
 refine lC ?_ ?_
 ·exact aI rfl
 ·refine lC ?_ ?_
  ·exact le_none
  ·refine lC ?_ ?_
   ·refine lQ eX brokerref43_Check_inj (ahP _ _) fun r0 _ => ?_
    exact wJ p0 p1 p2 (w6 (r0 + 1))
   ·exact wJ p0 p1 p2 p3
section
variable (Γ : Fun) (γ170 : Gm ((List Str))) (Λ2 J : Lam)
def aqw : aN := aZ (aQ Γ) 170 cD γ170
theorem aCF (p0 p1 : Str) : bF SE (aqw Γ γ170) Λ2 J 166 [.d (.str p0), .d (.str p1)] [] [] =
 γ170 [.d (.str p0), .d (.str p1), .d (.int .i64 0), .d (.int .i64 (-1))] [] [] fun r0 =>
 (some (.ret [.d (.sl [.str] (List.map cG r0))] [] [])) := by kernel_rfl
end
abbrev awb : aN := aqw gG (cT 170 cD)
theorem ays : awb = aQ gG := by unfold awb aqw; rw [bB fun _ h => h]
theorem ah5 (p0 p1 : Str) : Le (Option.map cD (sW p0 p1)) (bD SE 166 [.d (.str p0), .d (.str p1)] [] []) := by
 refine aV ays rfl ?_
 refine Le.trans ?_ (le_of_eq (aCF ..).symm)
 unfold sW
 refine lQ eX rR (afr _ _ _ _) fun r0 _ => ?_
 exact aI rfl
section
variable (Γ : Fun) (γ166 : Gm ((List Str))) (Λ2 J : Lam)
def aq7 : aN := aZ (aQ Γ) 166 cD γ166
theorem aAy (p0 : Str) : bF SE (aq7 Γ γ166) Λ2 J 157 [.d (.str p0)] [] [] =
 γ166 [.d (.str p0), .d (.str ([47] : Str))] [] [] fun r0 =>
 (some (.ret [.d (.sl [.str] (List.map cG r0))] [] [])) := by kernel_rfl
end
abbrev avL : aN := aq7 gG (cT 166 cD)
theorem azV : avL = aQ gG := by unfold avL aq7; rw [bB fun _ h => h]
theorem aiP (p0 : Str) : Le (Option.map cD (uT p0)) (bD SE 157 [.d (.str p0)] [] []) := by
 refine aV azV rfl ?_
 refine Le.trans ?_ (le_of_eq (aAy ..).symm)
 unfold uT
 refine lQ eX rR (ah5 _ _) fun r0 _ => ?_
 exact aI rfl
def ad8 (C : aN) (Λ2 J : Lam) (a0 : List (List D)) (a1 : Bool) (a2 : Int) (a3 : Str) (a4 : List (List D)) (a5 a6 : Int) (a7 : Str) (a8 : Nat) : Res := lab SE C Λ2 J 141 0 [1, 0, 1, 1, 1, 1, 0, 1, 0, 0, 1, 1, 0, 0, 1, 1, 0] (aU [(3, .d (.sl [.str] a0)), (4, .d (.bool a1)), (5, .d (.int .i64 a2)), (6, .d (.str a3)), (15, .d (.sl [.str] a4)), (16, .d (.int .i64 a5)), (17, .d (.int .i64 a6)), (23, .it 4000)] [] [] [(4000, (a7, a8))] [])
def ame (C : aN) (Λ2 J : Lam) (a0 : List (List D)) (a1 : Bool) (a2 : List (List D)) (a3 a4 : Int) : Res := lab SE C Λ2 J 141 0 [1, 0, 1, 1, 1, 1, 0, 1, 0] (aU [(3, .d (.sl [.str] a0)), (4, .d (.bool a1)), (15, .d (.sl [.str] a2)), (16, .d (.int .i64 a3)), (17, .d (.int .i64 a4))] [] [] [] [])
section
variable (Γ : Fun) (γ156 : Gm (Bool)) (γ157 : Gm ((List Str))) (Λ2 J : Lam)
def aaR : aN := aZ (aZ (aQ Γ) 156 brokerref01_lower_out γ156) 157 cD γ157
theorem aBO (p0 : Str) : bF SE (aaR Γ γ156 γ157) Λ2 J 141 [.d (.str p0)] [] [] =
 γ156 [.d (.str p0)] [] [] fun r0 =>
 cond (!r0) (
 (rB false)) (
 γ157 [.d (.str p0)] [] [] fun r1 =>
 ame (aaR Γ γ156 γ157) Λ2 J (List.map cG r1) true (List.map cG r1) (lM cG r1 : Int) 0) := by kernel_rfl
theorem awS (x3 : List Str) (x4 : Bool) (x5 : Int) (x6 : Str) (x15 : List Str) (x16 x17 : Int) (s4000 : Str) (i4000 : Nat) : bR SE (aaR Γ γ156 γ157) Λ2 J 141 0 [1, 0, 1, 1, 1, 1, 0, 1, 0, 0, 1, 1, 0, 0, 1, 1, 0] (aU [(3, .d (.sl [.str] (List.map cG x3))), (4, .d (.bool x4)), (5, .d (.int .i64 x5)), (6, .d (.str x6)), (15, .d (.sl [.str] (List.map cG x15))), (16, .d (.int .i64 x16)), (17, .d (.int .i64 x17)), (23, .it 4000)] [] [] [(4000, (s4000, i4000))] []) =
 cond (decide (i4000 < List.length s4000)) (
 cond (((dec s4000 i4000).1 : Int) == 43) (
  cond (!((List.length x6 : Int) == 1)) (
  (rB false)) (
  cond (((dec s4000 i4000).1 : Int) == 35) (
  cond (!((List.length x6 : Int) == 1)) (
   (rB false)) (
  cond (decide (x5 < (w6 ((lM cG x3 : Int) - 1)))) (
   (rB false)) (
  ad8 (aaR Γ γ156 γ157) Λ2 J (List.map cG x3) x4 x5 x6 (List.map cG x15) x16 x17 s4000 (i4000 + (dec s4000 i4000).2)))) (
  ad8 (aaR Γ γ156 γ157) Λ2 J (List.map cG x3) x4 x5 x6 (List.map cG x15) x16 x17 s4000 (i4000 + (dec s4000 i4000).2)))) (
 cond (((dec s4000 i4000).1 : Int) == 35) (
  cond (!((List.length x6 : Int) == 1)) (
  (rB false)) (
  cond (decide (x5 < (w6 ((lM cG x3 : Int) - 1)))) (
  (rB false)) (
  ad8 (aaR Γ γ156 γ157) Λ2 J (List.map cG x3) x4 x5 x6 (List.map cG x15) x16 x17 s4000 (i4000 + (dec s4000 i4000).2)))) (
 ad8 (aaR Γ γ156 γ157) Λ2 J (List.map cG x3) x4 x5 x6 (List.map cG x15) x16 x17 s4000 (i4000 + (dec s4000 i4000).2)))) (
 ame (aaR Γ γ156 γ157) Λ2 J (List.map cG x3) x4 (List.map cG x15) x16 (w6 (x17 + 1))) := by kernel_rfl
theorem awM (x3 : List Str) (x4 : Bool) (x15 : List Str) (x16 x17 : Int) : bR SE (aaR Γ γ156 γ157) Λ2 J 141 0 [1, 0, 1, 1, 1, 1, 0, 1, 0] (aU [(3, .d (.sl [.str] (List.map cG x3))), (4, .d (.bool x4)), (15, .d (.sl [.str] (List.map cG x15))), (16, .d (.int .i64 x16)), (17, .d (.int .i64 x17))] [] [] [] []) =
 cond (decide (x17 < x16)) (
 cond (iB x17 (lM cG x15 : Int)) (
  ad8 (aaR Γ γ156 γ157) Λ2 J (List.map cG x3) x4 x17 ((bK (cE cG x15 x17 0))) (List.map cG x15) x16 x17 ((bK (cE cG x15 x17 0))) 0) none) (
 (rB x4)) := by kernel_rfl
end
abbrev ajE : aN := aaR gG (cT 156 brokerref01_lower_out) (cT 157 cD)
theorem anP : ajE = aQ gG := by unfold ajE aaR; repeat rw [bB fun _ h => h]
abbrev auP := ad8 ajE (bQ SE gG (SE.hl 141) (SE.hr 141)) (J0 SE ajE)
abbrev ap8 := ame ajE (bQ SE gG (SE.hl 141) (SE.hr 141)) (J0 SE ajE)
theorem agB : ∀ (fu : Nat) (k6 : (List Str) → Bool → (List Str) → Int → Int → Option (Bool)) (hk6 : ∀ (x3 : List Str) (x4 : Bool) (x15 : List Str) (x16 x17 : Int), Le (Option.map brokerref01_lower_out (k6 x3 x4 x15 x16 x17)) (ap8 (List.map cG x3) x4 (List.map cG x15) x16 x17)) (x3 : List Str) (x4 : Bool) (x5 : Int) (x6 : Str) (x15 : List Str) (x16 x17 : Int) (s4000 : Str) (i4000 : Nat), Le (Option.map brokerref01_lower_out (fL fu k6 x3 x4 x5 x6 x15 x16 x17 s4000 i4000)) (auP (List.map cG x3) x4 x5 x6 (List.map cG x15) x16 x17 s4000 i4000) := by
 intro fu
 induction fu with
 | zero => intros; exact le_none
 | succ fu ih =>
  intro k6 hk6 x3 x4 x5 x6 x15 x16 x17 s4000 i4000
  refine Le.trans ?_ (le_of_eq ((aX anP).trans (awS ..)).symm)
  unfold fL
  refine lC ?_ ?_
  ·refine lC ?_ ?_
   ·refine lC ?_ ?_
    ·exact aI rfl
    ·refine lC ?_ ?_
     ·refine lC ?_ ?_
      ·exact aI rfl
      ·refine lD (by simp only [EN]) ?_ ?_
       ·exact aI rfl
       ·exact ih _ hk6 x3 x4 x5 x6 x15 x16 x17 s4000 (i4000 + (dec s4000 i4000).2)
     ·exact ih _ hk6 x3 x4 x5 x6 x15 x16 x17 s4000 (i4000 + (dec s4000 i4000).2)
   ·refine lC ?_ ?_
    ·refine lC ?_ ?_
     ·exact aI rfl
     ·refine lD (by simp only [EN]) ?_ ?_
      ·exact aI rfl
      ·exact ih _ hk6 x3 x4 x5 x6 x15 x16 x17 s4000 (i4000 + (dec s4000 i4000).2)
    ·exact ih _ hk6 x3 x4 x5 x6 x15 x16 x17 s4000 (i4000 + (dec s4000 i4000).2)
  ·exact hk6 x3 x4 x15 x16 (w6 (x17 + 1))
theorem agE : ∀ (fu : Nat) (x3 : List Str) (x4 : Bool) (x15 : List Str) (x16 x17 : Int), Le (Option.map brokerref01_lower_out (kI fu x3 x4 x15 x16 x17)) (ap8 (List.map cG x3) x4 (List.map cG x15) x16 x17) := by
 intro fu
 induction fu with
 | zero => intros; exact le_none
 | succ fu ih =>
  intro x3 x4 x15 x16 x17
  refine Le.trans ?_ (le_of_eq ((aX anP).trans (awM ..)).symm)
  unfold kI
  refine lC ?_ ?_
  ·refine lG (by simp only [EN]) ?_
   (try simp only [EN]); exact agB fuel _ (ih) x3 x4 x17 (List.getD x15 (Int.toNat x17) default) x15 x16 x17 (List.getD x15 (Int.toNat x17) default) 0
  ·exact aI rfl
theorem acN (p0 : Str) : Le (Option.map brokerref01_lower_out (rE p0)) (bD SE 141 [.d (.str p0)] [] []) := by
 refine aV anP rfl ?_
 refine Le.trans ?_ (le_of_eq (aBO ..).symm)
 unfold rE
 refine lQ eX brokerref01_lower_inj (adV _) fun r0 _ => ?_
 refine lC ?_ ?_
 ·exact aI rfl
 ·refine lQ eX rR (aiP _) fun r1 _ => ?_
  (try simp only [EN]); exact agE fuel r1 true r1 (List.length r1 : Int) 0
section
variable (Γ : Fun) (γ158 : Gm (Bool)) (Λ2 J : Lam)
def aqj : aN := aZ (aQ Γ) 158 brokerref01_lower_out γ158
theorem aCD (p0 p1 : Str) : bF SE (aqj Γ γ158) Λ2 J 142 [.d (.str p0), .d (.str p1)] [] [] =
 γ158 [.d (.str p0), .d (.str p1)] [] [] fun r0 =>
 (rB r0) := by kernel_rfl
end
abbrev aua : aN := aqj gG (cT 158 brokerref01_lower_out)
theorem aze : aua = aQ gG := by unfold aua aqj; rw [bB fun _ h => h]
theorem yF (p0 p1 : Str) : Le (Option.map brokerref01_lower_out (kQ p0 p1)) (bD SE 142 [.d (.str p0), .d (.str p1)] [] []) := by
 refine aV aze rfl ?_
 refine Le.trans ?_ (le_of_eq (aCD ..).symm)
 unfold kQ
 refine lQ eX brokerref01_lower_inj (uD _ _) fun r0 _ => ?_
 exact aI rfl
section
variable (Γ : Fun) (γ154 : Gm (Str × Bool)) (γ155 : Gm (Str × Str × Bool)) (γ32 γ141 γ142 : Gm (Bool)) (Λ2 J : Lam)
def ar1 : aN := aZ (aZ (aZ (aZ (aZ (aQ Γ) 154 dG γ154) 155 bX γ155) 32 brokerref01_lower_out γ32) 141 brokerref01_lower_out γ141) 142 brokerref01_lower_out γ142
theorem aB2 (p0 : Str) : bF SE (ar1 Γ γ154 γ155 γ32 γ141 γ142) Λ2 J 139 [.d (.str p0)] [] [] =
 γ154 [.d (.str p0), .d (.str ([36, 115, 104, 97, 114, 101, 47] : Str))] [] [] fun r0 =>
 cond (!r0.2) (
 (some (.ret [.d (.str []), .d (.str []), .d (.bool false)] [] []))) (
 γ155 [.d (.str r0.1), .d (.str ([47] : Str))] [] [] fun r1 =>
 cond (!r1.2.2) (
 (some (.ret [.d (.str []), .d (.str []), .d (.bool false)] [] []))) (
 γ32 [.d (.str r1.1)] [] [] fun r2 =>
 cond (!r2) (
 (some (.ret [.d (.str []), .d (.str []), .d (.bool false)] [] []))) (
 γ141 [.d (.str r1.2.1)] [] [] fun r3 =>
 cond (!r3) (
 (some (.ret [.d (.str []), .d (.str []), .d (.bool false)] [] []))) (
 γ142 [.d (.str r1.2.1), .d (.str ([36, 115, 104, 97, 114, 101, 47] : Str))] [] [] fun r4 =>
 cond r4 (
 (some (.ret [.d (.str []), .d (.str []), .d (.bool false)] [] []))) (
 (some (.ret [.d (.str r1.1), .d (.str r1.2.1), .d (.bool true)] [] []))))))) := by kernel_rfl
end
abbrev avY : aN := ar1 gG (cT 154 dG) (cT 155 bX) (cT 32 brokerref01_lower_out) (cT 141 brokerref01_lower_out) (cT 142 brokerref01_lower_out)
theorem ayj : avY = aQ gG := by unfold avY ar1; repeat rw [bB fun _ h => h]
theorem aiX (p0 : Str) : Le (Option.map bX (uE p0)) (bD SE 139 [.d (.str p0)] [] []) := by
 refine aV ayj rfl ?_
 refine Le.trans ?_ (le_of_eq (aB2 ..).symm)
 unfold uE
 refine lQ eX tN (aeT _ _) fun r0 _ => ?_
 refine lC ?_ ?_
 ·exact aI rfl
 ·refine lQ eX lL (ajm _ _) fun r1 _ => ?_
  refine lC ?_ ?_
  ·exact aI rfl
  ·refine lQ eX brokerref01_lower_inj (pS _) fun r2 _ => ?_
   refine lC ?_ ?_
   ·exact aI rfl
   ·refine lQ eX brokerref01_lower_inj (acN _) fun r3 _ => ?_
    refine lC ?_ ?_
    ·exact aI rfl
    ·refine lQ eX brokerref01_lower_inj (yF _ _) fun r4 _ => ?_
     refine lC ?_ ?_
     ·exact aI rfl
     ·exact aI rfl
section
variable (Γ : Fun) (γ141 γ142 : Gm (Bool)) (Λ2 J : Lam)
def aqY : aN := aZ (aZ (aQ Γ) 141 brokerref01_lower_out γ141) 142 brokerref01_lower_out γ142
theorem aBf (p0 : aK) : bF SE (aqY Γ γ141 γ142) Λ2 J 140 [.ptr 2000000000 0] [⟨72, (aK.avs p0)⟩] [] =
 γ141 [.d (.str p0.Filter)] [] [] fun r0 =>
 cond r0 (
 γ142 [.d (.str p0.Filter), .d (.str ([36, 115, 104, 97, 114, 101, 47] : Str))] [] [] fun r1 =>
 (some (.ret [.d (.bool (!r1))] [⟨72, (aK.avs p0)⟩] []))) (
 (some (.ret [.d (.bool false)] [⟨72, (aK.avs p0)⟩] []))) := by kernel_rfl
end
abbrev avB : aN := aqY gG (cT 141 brokerref01_lower_out) (cT 142 brokerref01_lower_out)
theorem ayb : avB = aQ gG := by unfold avB aqY; repeat rw [bB fun _ h => h]
theorem adu (p0 : aK) : Le (Option.map g9 (p9 p0)) (bD SE 140 [.ptr 2000000000 0] [⟨72, (aK.avs p0)⟩] []) := by
 refine aV ayb rfl ?_
 refine Le.trans ?_ (le_of_eq (aBf ..).symm)
 unfold p9
 refine lQ eX brokerref01_lower_inj (acN _) fun r0 _ => ?_
 refine lC ?_ ?_
 ·refine lQ eX brokerref01_lower_inj (yF _ _) fun r1 _ => ?_
  exact aI rfl
 ·exact aI rfl
section
variable (Γ : Fun) (γ139 : Gm (Str × Str × Bool)) (γ140 : Gm (Bool × aK)) (Λ2 J : Lam)
def aq6 : aN := aZ (aZ (aQ Γ) 139 bX γ139) 140 g9 γ140
theorem aCx (p0 : aK) : bF SE (aq6 Γ γ139 γ140) Λ2 J 117 [aK.av p0] [] [] =
 γ139 [.d (.str p0.Filter)] [] [] fun r0 =>
 cond (!r0.2.2) (
 γ140 [.ptr 2000000000 0] [⟨72, (aK.avs p0)⟩] [] fun r1 =>
 cond (!r1.1) (
  (rI 13)) (
 cond (decide (r1.2.Level < 0)) (
  (rI 14)) (
 cond (decide (r1.2.Level > 2)) (
  (rI 14)) (
 cond r1.2.NoLocal (
  cond r0.2.2 (
  (rI 28)) (
  (rI 0))) (
 (rI 0)))))) (
 cond (decide (p0.Level < 0)) (
 (rI 14)) (
 cond (decide (p0.Level > 2)) (
 (rI 14)) (
 cond p0.NoLocal (
 cond r0.2.2 (
  (rI 28)) (
 (rI 0))) (
 (rI 0))))) := by kernel_rfl
end
abbrev avV : aN := aq6 gG (cT 139 bX) (cT 140 g9)
theorem azM : avV = aQ gG := by unfold avV aq6; repeat rw [bB fun _ h => h]
theorem afk (p0 : aK) : Le (Option.map brokerref43_Check_out (oW p0)) (bD SE 117 [aK.av p0] [] []) := by
 refine aV azM rfl ?_
 refine Le.trans ?_ (le_of_eq (aCx ..).symm)
 unfold oW
 refine lQ eX lL (aiX _) fun r0 _ => ?_
 refine lC ?_ ?_
 ·refine lQ eX ac0 (adu _) fun r1 _ => ?_
  refine lC ?_ ?_
  ·exact aI rfl
  ·refine lC ?_ ?_
   ·exact aI rfl
   ·refine lC ?_ ?_
    ·exact aI rfl
    ·refine lC ?_ ?_
     ·refine lC ?_ ?_
      ·exact aI rfl
      ·exact aI rfl
     ·exact aI rfl
 ·refine lC ?_ ?_
  ·exact aI rfl
  ·refine lC ?_ ?_
   ·exact aI rfl
   ·refine lC ?_ ?_
    ·refine lC ?_ ?_
     ·exact aI rfl
     ·exact aI rfl
    ·exact aI rfl
def alM (C : aN) (Λ2 J : Lam) (a0 : Str) (a1 : Nat) : Res := lab SE C Λ2 J 143 0 [1, 1, 0, 1, 0] (aU [(9, .it 4000)] [] [] [(4000, (a0, a1))] [])
section
variable (Γ : Fun) (γ156 : Gm (Bool)) (Λ2 J : Lam)
def aj2 : aN := aZ (aQ Γ) 156 brokerref01_lower_out γ156
theorem aBZ (p0 : Str) : bF SE (aj2 Γ γ156) Λ2 J 143 [.d (.str p0)] [] [] =
 γ156 [.d (.str p0)] [] [] fun r0 =>
 cond (!r0) (
 (rB false)) (
 alM (aj2 Γ γ156) Λ2 J p0 0) := by kernel_rfl
theorem axr (s4000 : Str) (i4000 : Nat) : bR SE (aj2 Γ γ156) Λ2 J 143 0 [1, 1, 0, 1, 0] (aU [(9, .it 4000)] [] [] [(4000, (s4000, i4000))] []) =
 cond (decide (i4000 < List.length s4000)) (
 cond (((dec s4000 i4000).1 : Int) == 43) (
  (rB false)) (
 cond (((dec s4000 i4000).1 : Int) == 35) (
  (rB false)) (
 alM (aj2 Γ γ156) Λ2 J s4000 (i4000 + (dec s4000 i4000).2)))) (
 (rB true)) := by kernel_rfl
end
abbrev anS : aN := aj2 gG (cT 156 brokerref01_lower_out)
theorem asM : anS = aQ gG := by unfold anS aj2; rw [bB fun _ h => h]
abbrev avA := alM anS (bQ SE gG (SE.hl 143) (SE.hr 143)) (J0 SE anS)
theorem ag2 : ∀ (fu : Nat) (s4000 : Str) (i4000 : Nat), Le (Option.map brokerref01_lower_out (j1 fu s4000 i4000)) (avA s4000 i4000) := by
 intro fu
 induction fu with
 | zero => intros; exact le_none
 | succ fu ih =>
  intro s4000 i4000
  refine Le.trans ?_ (le_of_eq ((aX asM).trans (axr ..)).symm)
  unfold j1
  refine lC ?_ ?_
  ·refine lC ?_ ?_
   ·exact aI rfl
   ·refine lC ?_ ?_
    ·exact aI rfl
    ·exact ih s4000 (i4000 + (dec s4000 i4000).2)
  ·exact aI rfl
theorem ajX (p0 : Str) : Le (Option.map brokerref01_lower_out (wH p0)) (bD SE 143 [.d (.str p0)] [] []) := by
 refine aV asM rfl ?_
 refine Le.trans ?_ (le_of_eq (aBZ ..).symm)
 unfold wH
 refine lQ eX brokerref01_lower_inj (adV _) fun r0 _ => ?_
 refine lC ?_ ?_
 ·exact aI rfl
 ·exact ag2 fuel p0 0
section
variable (Γ : Fun)  (Λ2 J : Lam)
def auS : aN := aQ Γ
theorem aBv (p0 p1 : Int) : bF SE (auS Γ) Λ2 J 128 [.d (.int .i64 p0), .d (.int .i64 p1)] [] [] =
 cond (decide (p0 ≥ 0)) (
 (rB (decide (p0 ≤ p1)))) (
 (rB false)) := by kernel_rfl
end
abbrev aBQ : aN := auS gG
theorem azB : aBQ = aQ gG := rfl
theorem pO (p0 p1 : Int) : Le (Option.map brokerref01_lower_out (mB p0 p1)) (bD SE 128 [.d (.int .i64 p0), .d (.int .i64 p1)] [] []) := by
 refine aV azB rfl ?_
 refine Le.trans ?_ (le_of_eq (aBv ..).symm)
 unfold mB
 refine lC ?_ ?_
 ·exact aI rfl
 ·exact aI rfl
def yI (C : aN) (Λ2 J : Lam) (a0 : Str) (a1 : Int) : Res := lab SE C Λ2 J 159 0 [1, 1, 0, 1, 0] (aU [(0, .d (.str a0)), (3, .d (.int .i64 a1))] [] [] [] [])
def apO (C : aN) (Λ2 J : Lam) (a0 : Str) : Res := lab SE C Λ2 J 159 0 [1, 1, 0, 0] (aU [(0, .d (.str a0))] [] [] [] [])
section
variable (Γ : Fun)  (Λ2 J : Lam)
def aaj : aN := aQ Γ
theorem aCU (p0 : Str) : bF SE (aaj Γ) Λ2 J 159 [.d (.str p0)] [] [] =
 cond (decide ((List.length p0 : Int) < 1)) (
 (rB false)) (
 cond (decide ((List.length p0 : Int) > 16)) (
 (rB false)) (
 apO (aaj Γ) Λ2 J p0)) := by kernel_rfl
theorem auc (x0 : Str) (x3 : Int) : bR SE (aaj Γ) Λ2 J 159 0 [1, 1, 0, 1, 0] (aU [(0, .d (.str x0)), (3, .d (.int .i64 x3))] [] [] [] []) =
 cond (decide (x3 < (List.length x0 : Int))) (
 cond (iB x3 (List.length x0 : Int)) (
  cond (decide ((UInt8.toNat (List.getD x0 (Int.toNat x3) 0) : Int) < 97)) (
  cond (decide ((UInt8.toNat (List.getD x0 (Int.toNat x3) 0) : Int) < 48)) (
   cond ((UInt8.toNat (List.getD x0 (Int.toNat x3) 0) : Int) != 45) (
   (rB false)) (
   yI (aaj Γ) Λ2 J x0 (w6 (x3 + 1)))) (
  cond (decide ((UInt8.toNat (List.getD x0 (Int.toNat x3) 0) : Int) > 57)) (
   cond ((UInt8.toNat (List.getD x0 (Int.toNat x3) 0) : Int) != 45) (
   (rB false)) (
   yI (aaj Γ) Λ2 J x0 (w6 (x3 + 1)))) (
  yI (aaj Γ) Λ2 J x0 (w6 (x3 + 1))))) (
  cond (decide ((UInt8.toNat (List.getD x0 (Int.toNat x3) 0) : Int) > 122)) (
  cond (decide ((UInt8.toNat (List.getD x0 (Int.toNat x3) 0) : Int) < 48)) (
   cond ((UInt8.toNat (List.getD x0 (Int.toNat x3) 0) : Int) != 45) (
   (rB false)) (
   yI (aaj Γ) Λ2 J x0 (w6 (x3 + 1)))) (
  cond (decide ((UInt8.toNat (List.getD x0 (Int.toNat x3) 0) : Int) > 57)) (
   cond ((UInt8.toNat (List.getD x0 (Int.toNat x3) 0) : Int) != 45) (
   (rB false)) (
   yI (aaj Γ) Λ2 J x0 (w6 (x3 + 1)))) (
  yI (aaj Γ) Λ2 J x0 (w6 (x3 + 1))))) (
  yI (aaj Γ) Λ2 J x0 (w6 (x3 + 1))))) none) (
 (rB true)) := by kernel_rfl
theorem axo (x0 : Str) : bR SE (aaj Γ) Λ2 J 159 0 [1, 1, 0, 0] (aU [(0, .d (.str x0))] [] [] [] []) =
 yI (aaj Γ) Λ2 J x0 0 := by kernel_rfl
end
abbrev al5 : aN := aaj gG
theorem aof : al5 = aQ gG := rfl
abbrev auH := yI al5 (bQ SE gG (SE.hl 159) (SE.hr 159)) (J0 SE al5)
abbrev avJ := apO al5 (bQ SE gG (SE.hl 159) (SE.hr 159)) (J0 SE al5)
theorem ag3 : ∀ (fu : Nat) (x0 : Str) (x3 : Int), Le (Option.map brokerref01_lower_out (eQ fu x0 x3)) (auH x0 x3) := by
 intro fu
 induction fu with
 | zero => intros; exact le_none
 | succ fu ih =>
  intro x0 x3
  refine Le.trans ?_ (le_of_eq ((aX aof).trans (auc ..)).symm)
  unfold eQ
  refine lC ?_ ?_
  ·refine lF ?_
   refine lC ?_ ?_
   ·refine lC ?_ ?_
    ·refine lC ?_ ?_
     ·exact aI rfl
     ·exact ih x0 (w6 (x3 + 1))
    ·refine lC ?_ ?_
     ·refine lC ?_ ?_
      ·exact aI rfl
      ·exact ih x0 (w6 (x3 + 1))
     ·exact ih x0 (w6 (x3 + 1))
   ·refine lC ?_ ?_
    ·refine lC ?_ ?_
     ·refine lC ?_ ?_
      ·exact aI rfl
      ·exact ih x0 (w6 (x3 + 1))
     ·refine lC ?_ ?_
      ·refine lC ?_ ?_
       ·exact aI rfl
       ·exact ih x0 (w6 (x3 + 1))
      ·exact ih x0 (w6 (x3 + 1))
    ·exact ih x0 (w6 (x3 + 1))
  ·exact aI rfl
theorem ahd (x0 : Str) : Le (Option.map brokerref01_lower_out (vC x0)) (avJ x0) := by
 refine Le.trans ?_ (le_of_eq ((aX aof).trans (axo ..)).symm)
 unfold vC
 exact ag3 fuel x0 0
theorem aj4 (p0 : Str) : Le (Option.map brokerref01_lower_out (wE p0)) (bD SE 159 [.d (.str p0)] [] []) := by
 refine aV aof rfl ?_
 refine Le.trans ?_ (le_of_eq (aCU ..).symm)
 unfold wE
 refine lC ?_ ?_
 ·exact aI rfl
 ·refine lC ?_ ?_
  ·exact aI rfl
  ·exact ahd p0
def aiC (C : aN) (Λ2 J : Lam) (a0 a1 : List (List D)) (a2 a3 : Int) : Res := lab SE C Λ2 J 144 0 [1, 1, 0, 1, 0] (aU [(0, .d (.sl aG.ks a0)), (8, .d (.sl aG.ks a1)), (9, .d (.int .i64 a2)), (10, .d (.int .i64 a3))] [] [] [] [])
section
variable (Γ : Fun) (γ159 : Gm (Bool)) (Λ2 J : Lam)
def ahA : aN := aZ (aQ Γ) 159 brokerref01_lower_out γ159
theorem aCn (p0 : List aG) : bF SE (ahA Γ γ159) Λ2 J 144 [.d (.sl aG.ks (List.map aG.enc p0))] [] [] =
 cond (decide ((lM aG.enc p0 : Int) > 8)) (
 (rI 5)) (
 aiC (ahA Γ γ159) Λ2 J (List.map aG.enc p0) (List.map aG.enc p0) (lM aG.enc p0 : Int) 0) := by kernel_rfl
theorem awz (x0 x8 : List aG) (x9 x10 : Int) : bR SE (ahA Γ γ159) Λ2 J 144 0 [1, 1, 0, 1, 0] (aU [(0, .d (.sl aG.ks (List.map aG.enc x0))), (8, .d (.sl aG.ks (List.map aG.enc x8))), (9, .d (.int .i64 x9)), (10, .d (.int .i64 x10))] [] [] [] []) =
 cond (decide (x10 < x9)) (
 cond (iB x10 (lM aG.enc x8 : Int)) (
  γ159 [.d (.str (bK (cE aG.enc x8 x10 0)))] [] [] fun r0 =>
  cond (!r0) (
  (rI 16)) (
  cond (decide ((List.length (bK (cE aG.enc x8 x10 1)) : Int) > 160)) (
  (rI 5)) (
  cond (decide (x10 > 0)) (
  cond (iB (w6 (x10 - 1)) (lM aG.enc x0 : Int)) (
   cond (Op.bytesLess (bK (cE aG.enc x8 x10 0)) (bK (cE aG.enc x0 (w6 (x10 - 1)) 0)) || (bK (cE aG.enc x8 x10 0)) == (bK (cE aG.enc x0 (w6 (x10 - 1)) 0))) (
   (rI 16)) (
   aiC (ahA Γ γ159) Λ2 J (List.map aG.enc x0) (List.map aG.enc x8) x9 (w6 (x10 + 1)))) none) (
  aiC (ahA Γ γ159) Λ2 J (List.map aG.enc x0) (List.map aG.enc x8) x9 (w6 (x10 + 1)))))) none) (
 (rI 0)) := by kernel_rfl
end
abbrev anK : aN := ahA gG (cT 159 brokerref01_lower_out)
theorem asK : anK = aQ gG := by unfold anK ahA; rw [bB fun _ h => h]
abbrev axc := aiC anK (bQ SE gG (SE.hl 144) (SE.hr 144)) (J0 SE anK)
theorem afA : ∀ (fu : Nat) (x0 x8 : List aG) (x9 x10 : Int), Le (Option.map brokerref43_Check_out (iW fu x0 x8 x9 x10)) (axc (List.map aG.enc x0) (List.map aG.enc x8) x9 x10) := by
 intro fu
 induction fu with
 | zero => intros; exact le_none
 | succ fu ih =>
  intro x0 x8 x9 x10
  refine Le.trans ?_ (le_of_eq ((aX asK).trans (awz ..)).symm)
  unfold iW
  refine lC ?_ ?_
  ·refine lG (by simp only [EN]) ?_
   refine lQ eX brokerref01_lower_inj (by (try simp only [EN]); exact aj4 ((List.getD x8 (Int.toNat x10) default).Key)) fun r0 _ => ?_
   refine lC ?_ ?_
   ·exact aI rfl
   ·refine lD (by simp only [EN]) ?_ ?_
    ·exact aI rfl
    ·refine lC ?_ ?_
     ·refine lG (by simp only [EN]) ?_
      refine lD (by simp only [EN]) ?_ ?_
      ·exact aI rfl
      ·exact ih x0 x8 x9 (w6 (x10 + 1))
     ·exact ih x0 x8 x9 (w6 (x10 + 1))
  ·exact aI rfl
theorem abY (p0 : List aG) : Le (Option.map brokerref43_Check_out (pT p0)) (bD SE 144 [.d (.sl aG.ks (List.map aG.enc p0))] [] []) := by
 refine aV asK rfl ?_
 refine Le.trans ?_ (le_of_eq (aCn ..).symm)
 unfold pT
 refine lD (by simp only [EN]) ?_ ?_
 ·exact aI rfl
 ·(try simp only [EN]); exact afA fuel p0 p0 (List.length p0 : Int) 0
section
variable (Γ : Fun) (γ143 γ128 γ32 : Gm (Bool)) (γ144 : Gm (Int)) (Λ2 J : Lam)
def arI : aN := aZ (aZ (aZ (aZ (aQ Γ) 143 brokerref01_lower_out γ143) 128 brokerref01_lower_out γ128) 32 brokerref01_lower_out γ32) 144 brokerref43_Check_out γ144
theorem aBe (p0 : aC) : bF SE (arI Γ γ143 γ128 γ32 γ144) Λ2 J 118 [aC.av p0] [] [] =
 γ143 [.d (.str p0.Topic)] [] [] fun r0 =>
 cond (!r0) (
 (rI 12)) (
 cond (decide ((List.length p0.Payload : Int) > 256)) (
 (rI 5)) (
 γ128 [.d (.int .i64 p0.Level), .d (.int .i64 2)] [] [] fun r1 =>
 cond (!r1) (
 (rI 14)) (
 γ128 [.d (.int .i64 p0.Priority), .d (.int .i64 9)] [] [] fun r2 =>
 cond (!r2) (
 (rI 1)) (
 γ128 [.d (.int .i64 p0.Expires), .d (.int .i64 1099511627776)] [] [] fun r3 =>
 cond (!r3) (
 (rI 1)) (
 cond (!(p0.From == ([] : Str))) (
 γ32 [.d (.str p0.From)] [] [] fun r4 =>
 cond (!r4) (
  (rI 11)) (
 γ128 [.d (.int .i64 p0.Seq), .d (.int .i64 1099511627776)] [] [] fun r5 =>
 cond (!r5) (
  (rI 1)) (
 γ144 [.d (.sl aG.ks (List.map aG.enc p0.Props))] [] [] fun r6 =>
 (rI r6)))) (
 γ128 [.d (.int .i64 p0.Seq), .d (.int .i64 1099511627776)] [] [] fun r7 =>
 cond (!r7) (
 (rI 1)) (
 γ144 [.d (.sl aG.ks (List.map aG.enc p0.Props))] [] [] fun r8 =>
 (rI r8)))))))) := by kernel_rfl
end
abbrev auG : aN := arI gG (cT 143 brokerref01_lower_out) (cT 128 brokerref01_lower_out) (cT 32 brokerref01_lower_out) (cT 144 brokerref43_Check_out)
theorem az0 : auG = aQ gG := by unfold auG arI; repeat rw [bB fun _ h => h]
theorem sD (p0 : aC) : Le (Option.map brokerref43_Check_out (kZ p0)) (bD SE 118 [aC.av p0] [] []) := by
 refine aV az0 rfl ?_
 refine Le.trans ?_ (le_of_eq (aBe ..).symm)
 unfold kZ
 refine lQ eX brokerref01_lower_inj (ajX _) fun r0 _ => ?_
 refine lC ?_ ?_
 ·exact aI rfl
 ·refine lC ?_ ?_
  ·exact aI rfl
  ·refine lQ eX brokerref01_lower_inj (pO _ _) fun r1 _ => ?_
   refine lC ?_ ?_
   ·exact aI rfl
   ·refine lQ eX brokerref01_lower_inj (pO _ _) fun r2 _ => ?_
    refine lC ?_ ?_
    ·exact aI rfl
    ·refine lQ eX brokerref01_lower_inj (pO _ _) fun r3 _ => ?_
     refine lC ?_ ?_
     ·exact aI rfl
     ·refine lC ?_ ?_
      ·refine lQ eX brokerref01_lower_inj (pS _) fun r4 _ => ?_
       refine lC ?_ ?_
       ·exact aI rfl
       ·refine lQ eX brokerref01_lower_inj (pO _ _) fun r5 _ => ?_
        refine lC ?_ ?_
        ·exact aI rfl
        ·refine lQ eX brokerref43_Check_inj (abY _) fun r6 _ => ?_
         exact aI rfl
      ·refine lQ eX brokerref01_lower_inj (pO _ _) fun r7 _ => ?_
       refine lC ?_ ?_
       ·exact aI rfl
       ·refine lQ eX brokerref43_Check_inj (abY _) fun r8 _ => ?_
        exact aI rfl
def alc (C : aN) (Λ2 J : Lam) (a0 : List (List D)) (a1 a2 : Int) : Res := lab SE C Λ2 J 87 0 [1, 1, 1, 1, 0, 1, 0] (aU [(46, .d (.sl aC.ks a0)), (47, .d (.int .i64 a1)), (48, .d (.int .i64 a2))] [] [] [] [])
def alb (C : aN) (Λ2 J : Lam) (a0 : List (List D)) (a1 a2 : Int) (a3 : List D) : Res := lab SE C Λ2 J 87 0 [1, 1, 0, 1, 0] (aU [(1, .ptr 1000000000 0), (14, .d (.sl aK.ks a0)), (15, .d (.int .i64 a1)), (16, .d (.int .i64 a2))] [⟨46, (List.map AV.d a3)⟩] [] [] [])
section
variable (Γ : Fun) (γ117 γ118 : Gm (Int)) (Λ2 J : Lam)
def C87 : aN := aZ (aZ (aQ Γ) 117 brokerref43_Check_out γ117) 118 brokerref43_Check_out γ118
theorem T87 (p0 : aJ) : bF SE (C87 Γ γ117 γ118) Λ2 J 87 [aJ.av p0] [] [] =
 cond (decide ((lM aK.enc p0.Subs : Int) > 32)) (
 (rI 5)) (
 alb (C87 Γ γ117 γ118) Λ2 J (List.map aK.enc p0.Subs) (lM aK.enc p0.Subs : Int) 0 (aJ.enc p0)) := by kernel_rfl
theorem avm (x46 : List aC) (x47 x48 : Int) : bR SE (C87 Γ γ117 γ118) Λ2 J 87 0 [1, 1, 1, 1, 0, 1, 0] (aU [(46, .d (.sl aC.ks (List.map aC.enc x46))), (47, .d (.int .i64 x47)), (48, .d (.int .i64 x48))] [] [] [] []) =
 cond (decide (x48 < x47)) (
 cond (iB x48 (lM aC.enc x46 : Int)) (
  γ118 [.agg [.d (.str (bK (cE aC.enc x46 x48 0))), .d (.str (bK (cE aC.enc x46 x48 1))), .d (.int .i64 (aW (cE aC.enc x46 x48 2))), .d (.bool (dC (cE aC.enc x46 x48 3))), .d (.int .i64 (aW (cE aC.enc x46 x48 4))), .d (.int .i64 (aW (cE aC.enc x46 x48 5))), .d (.str (bK (cE aC.enc x46 x48 6))), .d (.int .i64 (aW (cE aC.enc x46 x48 7))), .d (.sl aG.ks (dSl (cE aC.enc x46 x48 8)))]] [] [] fun r1 =>
  cond (r1 != 0) (
  (rI r1)) (
  alc (C87 Γ γ117 γ118) Λ2 J (List.map aC.enc x46) x47 (w6 (x48 + 1)))) none) (
 (rI 0)) := by kernel_rfl
theorem ayU (x14 : List aK) (x15 x16 : Int) (b0 : aJ) : bR SE (C87 Γ γ117 γ118) Λ2 J 87 0 [1, 1, 0, 1, 0] (aU [(1, .ptr 1000000000 0), (14, .d (.sl aK.ks (List.map aK.enc x14))), (15, .d (.int .i64 x15)), (16, .d (.int .i64 x16))] [⟨46, (List.map AV.d (aJ.enc b0))⟩] [] [] []) =
 cond (decide (x16 < x15)) (
 cond (iB x16 (lM aK.enc x14 : Int)) (
  γ117 [.agg [.d (.str (bK (cE aK.enc x14 x16 0))), .d (.int .i64 (aW (cE aK.enc x14 x16 1))), .d (.bool (dC (cE aK.enc x14 x16 2)))]] [] [] fun r0 =>
  cond (r0 != 0) (
  (rI r0)) (
  cond (decide (x16 > 0)) (
  cond (iB (w6 (x16 - 1)) (lM aK.enc b0.Subs : Int)) (
   cond (Op.bytesLess (bK (cE aK.enc x14 x16 0)) (bK (cE aK.enc b0.Subs (w6 (x16 - 1)) 0)) || (bK (cE aK.enc x14 x16 0)) == (bK (cE aK.enc b0.Subs (w6 (x16 - 1)) 0))) (
   (rI 22)) (
   alb (C87 Γ γ117 γ118) Λ2 J (List.map aK.enc x14) x15 (w6 (x16 + 1)) (aJ.enc b0))) none) (
  alb (C87 Γ γ117 γ118) Λ2 J (List.map aK.enc x14) x15 (w6 (x16 + 1)) (aJ.enc b0)))) none) (
 cond (decide ((lM aC.enc b0.Queue : Int) > 256)) (
 (rI 5)) (
 alc (C87 Γ γ117 γ118) Λ2 J (List.map aC.enc b0.Queue) (lM aC.enc b0.Queue : Int) 0)) := by kernel_rfl
end
abbrev X87 : aN := C87 gG (cT 117 brokerref43_Check_out) (cT 118 brokerref43_Check_out)
theorem aq2 : X87 = aQ gG := by unfold X87 C87; repeat rw [bB fun _ h => h]
abbrev avv := alc X87 (bQ SE gG (SE.hl 87) (SE.hr 87)) (J0 SE X87)
abbrev azj := alb X87 (bQ SE gG (SE.hl 87) (SE.hr 87)) (J0 SE X87)
theorem aba : ∀ (fu : Nat) (x46 : List aC) (x47 x48 : Int), Le (Option.map brokerref43_Check_out (eO fu x46 x47 x48)) (avv (List.map aC.enc x46) x47 x48) := by
 intro fu
 induction fu with
 | zero => intros; exact le_none
 | succ fu ih =>
  intro x46 x47 x48
  refine Le.trans ?_ (le_of_eq ((aX aq2).trans (avm ..)).symm)
  unfold eO
  refine lC ?_ ?_
  ·refine lG (by simp only [EN]) ?_
   refine lQ eX brokerref43_Check_inj (by (try simp only [EN]); exact sD (List.getD x46 (Int.toNat x48) default)) fun r1 _ => ?_
   refine lC ?_ ?_
   ·exact aI rfl
   ·exact ih x46 x47 (w6 (x48 + 1))
  ·exact aI rfl
theorem ab1 : ∀ (fu : Nat) (x14 : List aK) (x15 x16 : Int) (b0 : aJ), Le (Option.map brokerref43_Check_out (fG fu x14 x15 x16 b0)) (azj (List.map aK.enc x14) x15 x16 (aJ.enc b0)) := by
 intro fu
 induction fu with
 | zero => intros; exact le_none
 | succ fu ih =>
  intro x14 x15 x16 b0
  refine Le.trans ?_ (le_of_eq ((aX aq2).trans (ayU ..)).symm)
  unfold fG
  refine lC ?_ ?_
  ·refine lG (by simp only [EN]) ?_
   refine lQ eX brokerref43_Check_inj (by (try simp only [EN]); exact afk (List.getD x14 (Int.toNat x16) default)) fun r0 _ => ?_
   refine lC ?_ ?_
   ·exact aI rfl
   ·refine lC ?_ ?_
    ·refine lG (by simp only [EN]) ?_
     refine lD (by simp only [EN]) ?_ ?_
     ·exact aI rfl
     ·exact ih x14 x15 (w6 (x16 + 1)) b0
    ·exact ih x14 x15 (w6 (x16 + 1)) b0
  ·refine lD (by simp only [EN]) ?_ ?_
   ·exact aI rfl
   ·(try simp only [EN]); exact aba fuel b0.Queue (List.length b0.Queue : Int) 0
theorem adM (p0 : aJ) : Le (Option.map brokerref43_Check_out (mS p0)) (bD SE 87 [aJ.av p0] [] []) := by
 refine aV aq2 rfl ?_
 refine Le.trans ?_ (le_of_eq (T87 ..).symm)
 unfold mS
 refine lD (by simp only [EN]) ?_ ?_
 ·exact aI rfl
 ·(try simp only [EN]); exact ab1 fuel p0.Subs (List.length p0.Subs : Int) 0 p0
def amA (C : aN) (Λ2 J : Lam) (a0 : Int) (a1 : List (List D)) (a2 a3 : Int) (a4 : List D) : Res := lab SE C Λ2 J 119 0 [1, 1, 1, 0, 1, 0] (aU [(1, .ptr 1000000000 0), (3, .d (.int .i64 a0)), (11, .d (.sl [.int .i64] a1)), (12, .d (.int .i64 a2)), (13, .d (.int .i64 a3))] [⟨35, (List.map AV.d a4)⟩] [] [] [])
section
variable (Γ : Fun)  (Λ2 J : Lam)
def alw : aN := aQ Γ
theorem aAP (p0 : bC) : bF SE (alw Γ) Λ2 J 119 [bC.av p0] [] [] =
 cond (decide ((lM eI p0.Used : Int) > 32)) (
 (rI 5)) (
 amA (alw Γ) Λ2 J 0 (List.map eI p0.Used) (lM eI p0.Used : Int) 0 (bC.enc p0)) := by kernel_rfl
theorem avS (x3 : Int) (x11 : List Int) (x12 x13 : Int) (b0 : bC) : bR SE (alw Γ) Λ2 J 119 0 [1, 1, 1, 0, 1, 0] (aU [(1, .ptr 1000000000 0), (3, .d (.int .i64 x3)), (11, .d (.sl [.int .i64] (List.map eI x11))), (12, .d (.int .i64 x12)), (13, .d (.int .i64 x13))] [⟨35, (List.map AV.d (bC.enc b0))⟩] [] [] []) =
 cond (decide (x13 < x12)) (
 cond (iB x13 (lM eI x11 : Int)) (
  cond (decide ((aW (cE eI x11 x13 0)) ≤ x3)) (
  (rI 15)) (
  cond (decide ((aW (cE eI x11 x13 0)) > 65535)) (
  (rI 15)) (
  amA (alw Γ) Λ2 J ((aW (cE eI x11 x13 0))) (List.map eI x11) x12 (w6 (x13 + 1)) (bC.enc b0)))) none) (
 cond (decide (b0.Last < 0)) (
 (rI 1)) (
 cond (decide (b0.Last > 65535)) (
 (rI 1)) (
 (rI 0)))) := by kernel_rfl
end
abbrev aqb : aN := alw gG
theorem ast : aqb = aQ gG := rfl
abbrev av8 := amA aqb (bQ SE gG (SE.hl 119) (SE.hr 119)) (J0 SE aqb)
theorem ag8 : ∀ (fu : Nat) (x3 : Int) (x11 : List Int) (x12 x13 : Int) (b0 : bC), Le (Option.map brokerref43_Check_out (lP fu x3 x11 x12 x13 b0)) (av8 x3 (List.map eI x11) x12 x13 (bC.enc b0)) := by
 intro fu
 induction fu with
 | zero => intros; exact le_none
 | succ fu ih =>
  intro x3 x11 x12 x13 b0
  refine Le.trans ?_ (le_of_eq ((aX ast).trans (avS ..)).symm)
  unfold lP
  refine lC ?_ ?_
  ·refine lG (by simp only [EN]) ?_
   refine lD (by simp only [EN]) ?_ ?_
   ·exact aI rfl
   ·refine lD (by simp only [EN]) ?_ ?_
    ·exact aI rfl
    ·(try simp only [EN]); exact ih (List.getD x11 (Int.toNat x13) default) x11 x12 (w6 (x13 + 1)) b0
  ·refine lC ?_ ?_
   ·exact aI rfl
   ·refine lC ?_ ?_
    ·exact aI rfl
    ·exact aI rfl
theorem aj7 (p0 : bC) : Le (Option.map brokerref43_Check_out (wD p0)) (bD SE 119 [bC.av p0] [] []) := by
 refine aV ast rfl ?_
 refine Le.trans ?_ (le_of_eq (aAP ..).symm)
 unfold wD
 refine lD (by simp only [EN]) ?_ ?_
 ·exact aI rfl
 ·(try simp only [EN]); exact ag8 fuel 0 p0.Used (List.length p0.Used : Int) 0 p0
section
variable (Γ : Fun)  (Λ2 J : Lam)
def avE : aN := aQ Γ
theorem aBs (p0 : Int) : bF SE (avE Γ) Λ2 J 171 [.d (.int .i64 p0)] [] [] =
 (rB (p0 != p0)) := by kernel_rfl
end
abbrev aBo : aN := avE gG
theorem aAq : aBo = aQ gG := rfl
theorem aaT (p0 : Int) : Le (Option.map brokerref01_lower_out (rC p0)) (bD SE 171 [.d (.int .i64 p0)] [] []) := by
 refine aV aAq rfl ?_
 refine Le.trans ?_ (le_of_eq (aBs ..).symm)
 unfold rC
 exact aI rfl
section
variable (Γ : Fun) (γ171 : Gm (Bool)) (Λ2 J : Lam)
def arn : aN := aZ (aQ Γ) 171 brokerref01_lower_out γ171
theorem aBx (p0 p1 : Int) : bF SE (arn Γ γ171) Λ2 J 167 [.d (.int .i64 p0), .d (.int .i64 p1)] [] [] =
 γ171 [.d (.int .i64 p0)] [] [] fun r0 =>
 cond r0 (
 γ171 [.d (.int .i64 p1)] [] [] fun r1 =>
 cond (!r1) (
  (rB true)) (
 (rB (decide (p0 < p1))))) (
 (rB (decide (p0 < p1)))) := by kernel_rfl
end
abbrev aup : aN := arn gG (cT 171 brokerref01_lower_out)
theorem azH : aup = aQ gG := by unfold aup arn; rw [bB fun _ h => h]
theorem ahD (p0 p1 : Int) : Le (Option.map brokerref01_lower_out (s9 p0 p1)) (bD SE 167 [.d (.int .i64 p0), .d (.int .i64 p1)] [] []) := by
 refine aV azH rfl ?_
 refine Le.trans ?_ (le_of_eq (aBx ..).symm)
 unfold s9
 refine lQ eX brokerref01_lower_inj (aaT _) fun r0 _ => ?_
 refine lC ?_ ?_
 ·refine lQ eX brokerref01_lower_inj (aaT _) fun r1 _ => ?_
  refine lC ?_ ?_
  ·exact aI rfl
  ·exact aI rfl
 ·exact aI rfl
section
variable (Γ : Fun)  (Λ2 J : Lam)
def aw8 : aN := aQ Γ
theorem aCR (p0 : Int) : bF SE (aw8 Γ) Λ2 J 168 [.d (.int .i64 p0)] [] [] =
 (rB (p0 != p0)) := by kernel_rfl
end
abbrev aAE : aN := aw8 gG
theorem axT : aAE = aQ gG := rfl
theorem yS (p0 : Int) : Le (Option.map brokerref01_lower_out (kV p0)) (bD SE 168 [.d (.int .i64 p0)] [] []) := by
 refine aV axT rfl ?_
 refine Le.trans ?_ (le_of_eq (aCR ..).symm)
 unfold kV
 exact aI rfl
def ai7 (C : aN) (Λ2 J : Lam) (a0 : List (List D)) (a1 a2 a3 a4 : Int) : Res := lab SE C Λ2 J 160 0 [1, 1, 1, 0, 0] (aU [(0, .d (.sl [.int .i64] a0)), (1, .d (.int .i64 a1)), (6, .d (.int .i64 a2)), (7, .d (.int .i64 a3)), (8, .d (.int .i64 a4))] [] [] [] [])
section
variable (Γ : Fun) (γ167 γ168 : Gm (Bool)) (Λ2 J : Lam)
def ahV : aN := aZ (aZ (aQ Γ) 167 brokerref01_lower_out γ167) 168 brokerref01_lower_out γ168
theorem aAB (p0 : List Int) (p1 : Int) : bF SE (ahV Γ γ167 γ168) Λ2 J 160 [.d (.sl [.int .i64] (List.map eI p0)), .d (.int .i64 p1)] [] [] =
 ai7 (ahV Γ γ167 γ168) Λ2 J (List.map eI p0) p1 (lM eI p0 : Int) 0 (lM eI p0 : Int) := by kernel_rfl
theorem avt (x0 : List Int) (x1 x6 x7 x8 : Int) : bR SE (ahV Γ γ167 γ168) Λ2 J 160 0 [1, 1, 1, 0, 0] (aU [(0, .d (.sl [.int .i64] (List.map eI x0))), (1, .d (.int .i64 x1)), (6, .d (.int .i64 x6)), (7, .d (.int .i64 x7)), (8, .d (.int .i64 x8))] [] [] [] []) =
 cond (decide (x7 < x8)) (
 cond (iB (w6 (shr .u64 (IntKind.wrap .u64 (w6 (x7 + x8))) 1)) (lM eI x0 : Int)) (
  γ167 [.d (.int .i64 (aW (cE eI x0 (w6 (shr .u64 (IntKind.wrap .u64 (w6 (x7 + x8))) 1)) 0))), .d (.int .i64 x1)] [] [] fun r0 =>
  cond r0 (
  ai7 (ahV Γ γ167 γ168) Λ2 J (List.map eI x0) x1 x6 (w6 ((w6 (shr .u64 (IntKind.wrap .u64 (w6 (x7 + x8))) 1)) + 1)) x8) (
  ai7 (ahV Γ γ167 γ168) Λ2 J (List.map eI x0) x1 x6 x7 (w6 (shr .u64 (IntKind.wrap .u64 (w6 (x7 + x8))) 1)))) none) (
 cond (decide (x7 < x6)) (
 cond (iB x7 (lM eI x0 : Int)) (
  cond ((aW (cE eI x0 x7 0)) == x1) (
  (some (.ret [.d (.int .i64 x7), .d (.bool true)] [] []))) (
  cond (iB x7 (lM eI x0 : Int)) (
  γ168 [.d (.int .i64 (aW (cE eI x0 x7 0)))] [] [] fun r1 =>
  cond r1 (
   γ168 [.d (.int .i64 x1)] [] [] fun r2 =>
   (some (.ret [.d (.int .i64 x7), .d (.bool r2)] [] []))) (
  (some (.ret [.d (.int .i64 x7), .d (.bool false)] [] [])))) none)) none) (
 (some (.ret [.d (.int .i64 x7), .d (.bool false)] [] [])))) := by kernel_rfl
end
abbrev aob : aN := ahV gG (cT 167 brokerref01_lower_out) (cT 168 brokerref01_lower_out)
theorem asI : aob = aQ gG := by unfold aob ahV; repeat rw [bB fun _ h => h]
abbrev avW := ai7 aob (bQ SE gG (SE.hl 160) (SE.hr 160)) (J0 SE aob)
theorem uM : ∀ (fu : Nat) (x0 : List Int) (x1 x6 x7 x8 : Int), Le (Option.map cA (cN fu x0 x1 x6 x7 x8)) (avW (List.map eI x0) x1 x6 x7 x8) := by
 intro fu
 induction fu with
 | zero => intros; exact le_none
 | succ fu ih =>
  intro x0 x1 x6 x7 x8
  refine Le.trans ?_ (le_of_eq ((aX asI).trans (avt ..)).symm)
  unfold cN
  refine lC ?_ ?_
  ·refine lG (by simp only [EN]) ?_
   refine lQ eX brokerref01_lower_inj (by (try simp only [EN]); exact ahD (List.getD x0 (Int.toNat (w6 (shr .u64 (IntKind.wrap .u64 (w6 (x7 + x8))) 1))) default) x1) fun r0 _ => ?_
   refine lC ?_ ?_
   ·exact ih x0 x1 x6 (w6 ((w6 (shr .u64 (IntKind.wrap .u64 (w6 (x7 + x8))) 1)) + 1)) x8
   ·exact ih x0 x1 x6 x7 (w6 (shr .u64 (IntKind.wrap .u64 (w6 (x7 + x8))) 1))
  ·refine lC ?_ ?_
   ·refine lG (by simp only [EN]) ?_
    refine lD (by simp only [EN]) ?_ ?_
    ·exact aI rfl
    ·refine lG (by simp only [EN]) ?_
     refine lQ eX brokerref01_lower_inj (by (try simp only [EN]); exact yS (List.getD x0 (Int.toNat x7) default)) fun r1 _ => ?_
     refine lC ?_ ?_
     ·refine lQ eX brokerref01_lower_inj (yS _) fun r2 _ => ?_
      exact aI rfl
     ·exact aI rfl
   ·exact aI rfl
theorem wB (p0 : List Int) (p1 : Int) : Le (Option.map cA (fN p0 p1)) (bD SE 160 [.d (.sl [.int .i64] (List.map eI p0)), .d (.int .i64 p1)] [] []) := by
 refine aV asI rfl ?_
 refine Le.trans ?_ (le_of_eq (aAB ..).symm)
 unfold fN
 (try simp only [EN]); exact uM fuel p0 p1 (List.length p0 : Int) 0 (List.length p0 : Int)
section
variable (Γ : Fun) (γ160 : Gm (Int × Bool)) (Λ2 J : Lam)
def aqZ : aN := aZ (aQ Γ) 160 cA γ160
theorem aBI (p0 : bC) (p1 : Int) : bF SE (aqZ Γ γ160) Λ2 J 145 [bC.av p0, .d (.int .i64 p1)] [] [] =
 γ160 [.d (.sl [.int .i64] (List.map eI p0.Used)), .d (.int .i64 p1)] [] [] fun r0 =>
 (rB r0.2) := by kernel_rfl
end
abbrev awG : aN := aqZ gG (cT 160 cA)
theorem ax4 : awG = aQ gG := by unfold awG aqZ; rw [bB fun _ h => h]
theorem amG (p0 : bC) (p1 : Int) : Le (Option.map brokerref01_lower_out (aaC p0 p1)) (bD SE 145 [bC.av p0, .d (.int .i64 p1)] [] []) := by
 refine aV ax4 rfl ?_
 refine Le.trans ?_ (le_of_eq (aBI ..).symm)
 unfold aaC
 refine lQ eX nO (wB _ _) fun r0 _ => ?_
 exact aI rfl
section
variable (Γ : Fun)  (Λ2 J : Lam)
def avI : aN := aQ Γ
theorem aCi (p0 : aE) (p1 : Int) : bF SE (avI Γ) Λ2 J 162 [aE.av p0, .ptr 2000000000 0] [⟨3, [.d (.int .i64 p1)]⟩] [] =
 (some (.ret [.d (.bool (p0.ID == p1))] [⟨3, [.d (.int .i64 p1)]⟩] [])) := by kernel_rfl
end
abbrev aB7 : aN := avI gG
theorem ayP : aB7 = aQ gG := rfl
theorem agu (p0 : aE) (p1 : Int) : Le (Option.map jL (tO p0 p1)) (bD SE 162 [aE.av p0, .ptr 2000000000 0] [⟨3, [.d (.int .i64 p1)]⟩] []) := by
 refine aV ayP rfl ?_
 refine Le.trans ?_ (le_of_eq (aCi ..).symm)
 unfold tO
 exact aI rfl
def al8 (C : aN) (Λ2 J : Lam) (a0 : List (List D)) (a1 a2 a3 : Int) : Res := lab SE C Λ2 J 161 1 [1, 0, 1, 0] (aU [(0, .d (.sl aE.ks a0)), (1, .fn 162 [] [.ptr 2000000000 0]), (7, .d (.int .i64 a1)), (8, .d (.int .i64 a2))] [] [⟨3, [.d (.int .i64 a3)]⟩] [] [])
section
variable (Γ : Fun) (γ162 : Gm (Bool × Int)) (Λ2 J : Lam)
def ajo : aN := aZ (aQ Γ) 162 jL γ162
theorem aBm (p0 : List aE) (p1_0 : Int) : bF SE (ajo Γ γ162) Λ2 J 161 [.d (.sl aE.ks (List.map aE.enc p0)), .fn 162 [] [.ptr 2000000000 0]] [⟨3, [.d (.int .i64 p1_0)]⟩] [] =
 al8 (ajo Γ γ162) Λ2 J (List.map aE.enc p0) (lM aE.enc p0 : Int) 0 p1_0 := by kernel_rfl
theorem axk (x0 : List aE) (x7 x8 q0_0 : Int) : bR SE (ajo Γ γ162) Λ2 J 161 1 [1, 0, 1, 0] (aU [(0, .d (.sl aE.ks (List.map aE.enc x0))), (1, .fn 162 [] [.ptr 2000000000 0]), (7, .d (.int .i64 x7)), (8, .d (.int .i64 x8))] [] [⟨3, [.d (.int .i64 q0_0)]⟩] [] []) =
 cond (decide (x8 < x7)) (
 cond (iB x8 (lM aE.enc x0 : Int)) (
  γ162 [.agg [.d (.int .i64 (aW (cE aE.enc x0 x8 0))), .d (.int .i64 (aW (cE aE.enc x0 x8 1))), .d (.str (bK (cE aE.enc x0 x8 2))), .d (.str (bK (cE aE.enc x0 x8 3))), .d (.int .i64 (aW (cE aE.enc x0 x8 4))), .d (.bool (dC (cE aE.enc x0 x8 5))), .d (.int .i64 (aW (cE aE.enc x0 x8 6))), .d (.int .i64 (aW (cE aE.enc x0 x8 7))), .d (.str (bK (cE aE.enc x0 x8 8))), .d (.int .i64 (aW (cE aE.enc x0 x8 9))), .d (.sl aG.ks (dSl (cE aE.enc x0 x8 10)))], .ptr 2000000000 0] [⟨3, [.d (.int .i64 q0_0)]⟩] [] fun r0 =>
  cond r0.1 (
  (some (.ret [.d (.int .i64 x8)] [⟨3, [.d (.int .i64 r0.2)]⟩] []))) (
  al8 (ajo Γ γ162) Λ2 J (List.map aE.enc x0) x7 (w6 (x8 + 1)) r0.2)) none) (
 (some (.ret [.d (.int .i64 (-1))] [⟨3, [.d (.int .i64 q0_0)]⟩] []))) := by kernel_rfl
end
abbrev aoM : aN := ajo gG (cT 162 jL)
theorem asc : aoM = aQ gG := by unfold aoM ajo; rw [bB fun _ h => h]
abbrev awd := al8 aoM (bQ SE gG (SE.hl 161) (SE.hr 161)) (J0 SE aoM)
theorem pL : ∀ (fu : Nat) (x0 : List aE) (x7 x8 q0_0 : Int), Le (Option.map cK (cM fu x0 x7 x8 q0_0)) (awd (List.map aE.enc x0) x7 x8 q0_0) := by
 intro fu
 induction fu with
 | zero => intros; exact le_none
 | succ fu ih =>
  intro x0 x7 x8 q0_0
  refine Le.trans ?_ (le_of_eq ((aX asc).trans (axk ..)).symm)
  unfold cM
  refine lC ?_ ?_
  ·refine lG (by simp only [EN]) ?_
   refine lQ eX afl (by (try simp only [EN]); exact agu (List.getD x0 (Int.toNat x8) default) q0_0) fun r0 _ => ?_
   refine lC ?_ ?_
   ·exact aI rfl
   ·exact ih x0 x7 (w6 (x8 + 1)) r0.2
  ·exact aI rfl
theorem qL (p0 : List aE) (p1_0 : Int) : Le (Option.map cK (eH p0 p1_0)) (bD SE 161 [.d (.sl aE.ks (List.map aE.enc p0)), .fn 162 [] [.ptr 2000000000 0]] [⟨3, [.d (.int .i64 p1_0)]⟩] []) := by
 refine aV asc rfl ?_
 refine Le.trans ?_ (le_of_eq (aBm ..).symm)
 unfold eH
 (try simp only [EN]); exact pL fuel p0 (List.length p0 : Int) 0 p1_0
section
variable (Γ : Fun) (γ161 : Gm (Int × Int)) (Λ2 J : Lam)
def arK : aN := aZ (aQ Γ) 161 cK γ161
theorem aBq (p0 : List aE) (p1 : Int) : bF SE (arK Γ γ161) Λ2 J 146 [.d (.sl aE.ks (List.map aE.enc p0)), .d (.int .i64 p1)] [] [] =
 γ161 [.d (.sl aE.ks (List.map aE.enc p0)), .fn 162 [] [.ptr 2000000000 0]] [⟨3, [.d (.int .i64 p1)]⟩] [] fun r0 =>
 (rI r0.1) := by kernel_rfl
end
abbrev awP : aN := arK gG (cT 161 cK)
theorem azf : awP = aQ gG := by unfold awP arK; rw [bB fun _ h => h]
theorem ah7 (p0 : List aE) (p1 : Int) : Le (Option.map brokerref43_Check_out (sS p0 p1)) (bD SE 146 [.d (.sl aE.ks (List.map aE.enc p0)), .d (.int .i64 p1)] [] []) := by
 refine aV azf rfl ?_
 refine Le.trans ?_ (le_of_eq (aBq ..).symm)
 unfold sS
 refine lQ eX pW (qL _ _) fun r0 _ => ?_
 exact aI rfl
def apx (C : aN) (Λ2 J : Lam) (a0 : List D) : Res := lab SE C Λ2 J 120 0 [1, 1, 1, 0, 0] (aU [(5, .ptr 1000000000 0)] [⟨78, (List.map AV.d a0)⟩] [] [] [])
section
variable (Γ : Fun) (γ145 : Gm (Bool)) (γ146 γ118 : Gm (Int)) (Λ2 J : Lam)
def al1 : aN := aZ (aZ (aZ (aQ Γ) 145 brokerref01_lower_out γ145) 146 brokerref43_Check_out γ146) 118 brokerref43_Check_out γ118
theorem aAS (p0 : aM) (p1 : Int) : bF SE (al1 Γ γ145 γ146 γ118) Λ2 J 120 [aM.av p0, .d (.int .i64 p1)] [] [] =
 cond (iB p1 (lM aE.enc p0.Items : Int)) (
 γ145 [bC.av p0.Pool, .d (.int .i64 (aW (cE aE.enc p0.Items p1 0)))] [] [] fun r0 =>
 cond (!r0) (
  (rI 15)) (
 cond (decide (0 ≤ p1) && decide (p1 ≤ ((lM aE.enc p0.Items) : Int))) (
  γ146 [.d (.sl aE.ks (cY (List.map aE.enc p0.Items) none (some p1))), .d (.int .i64 (aW (cE aE.enc p0.Items p1 0)))] [] [] fun r1 =>
  cond (decide (r1 ≥ 0)) (
  (rI 15)) (
  apx (al1 Γ γ145 γ146 γ118) Λ2 J [D.int .i64 (aW (cE aE.enc p0.Items p1 0)), D.int .i64 (aW (cE aE.enc p0.Items p1 1)), D.str (bK (cE aE.enc p0.Items p1 2)), D.str (bK (cE aE.enc p0.Items p1 3)), D.int .i64 (aW (cE aE.enc p0.Items p1 4)), D.bool (dC (cE aE.enc p0.Items p1 5)), D.int .i64 (aW (cE aE.enc p0.Items p1 6)), D.int .i64 (aW (cE aE.enc p0.Items p1 7)), D.str (bK (cE aE.enc p0.Items p1 8)), D.int .i64 (aW (cE aE.enc p0.Items p1 9)), D.sl aG.ks (dSl (cE aE.enc p0.Items p1 10))])) none)) none := by kernel_rfl
theorem aw5 (b0 : aE) : bR SE (al1 Γ γ145 γ146 γ118) Λ2 J 120 0 [1, 1, 1, 0, 0] (aU [(5, .ptr 1000000000 0)] [⟨78, (List.map AV.d (aE.enc b0))⟩] [] [] []) =
 γ118 [aC.av b0.Message] [] [] fun r2 =>
 cond (r2 != 0) (
 (rI r2)) (
 cond (b0.Message.Level == 0) (
 (rI 14)) (
 cond (b0.State != 1) (
 cond (b0.State != 2) (
  (rI 9)) (
 cond (b0.Message.Level == 1) (
  (rI 9)) (
 (rI 0)))) (
 (rI 0)))) := by kernel_rfl
end
abbrev aoq : aN := al1 gG (cT 145 brokerref01_lower_out) (cT 146 brokerref43_Check_out) (cT 118 brokerref43_Check_out)
theorem asJ : aoq = aQ gG := by unfold aoq al1; repeat rw [bB fun _ h => h]
abbrev aw3 := apx aoq (bQ SE gG (SE.hl 120) (SE.hr 120)) (J0 SE aoq)
theorem abT (b0 : aE) : Le (Option.map brokerref43_Check_out (m5 b0)) (aw3 (aE.enc b0)) := by
 refine Le.trans ?_ (le_of_eq ((aX asJ).trans (aw5 ..)).symm)
 unfold m5
 refine lQ eX brokerref43_Check_inj (sD _) fun r2 _ => ?_
 refine lC ?_ ?_
 ·exact aI rfl
 ·refine lC ?_ ?_
  ·exact aI rfl
  ·refine lC ?_ ?_
   ·refine lC ?_ ?_
    ·exact aI rfl
    ·refine lC ?_ ?_
     ·exact aI rfl
     ·exact aI rfl
   ·exact aI rfl
theorem ad0 (p0 : aM) (p1 : Int) : Le (Option.map brokerref43_Check_out (mV p0 p1)) (bD SE 120 [aM.av p0, .d (.int .i64 p1)] [] []) := by
 refine aV asJ rfl ?_
 refine Le.trans ?_ (le_of_eq (aAS ..).symm)
 unfold mV
 refine lG (by simp only [EN]) ?_
 refine lQ eX brokerref01_lower_inj (by (try simp only [EN]); exact amG p0.Pool ((List.getD p0.Items (Int.toNat p1) default).ID)) fun r0 _ => ?_
 refine lC ?_ ?_
 ·exact aI rfl
 ·refine lG (by simp only [EN]) ?_
  refine lQ eX brokerref43_Check_inj (by (try simp only [EN]); exact ah7 (cY p0.Items none (some p1)) ((List.getD p0.Items (Int.toNat p1) default).ID)) fun r1 _ => ?_
  refine lC ?_ ?_
  ·exact aI rfl
  ·(try simp only [EN]); exact abT (List.getD p0.Items (Int.toNat p1) default)
end Te
end PX
