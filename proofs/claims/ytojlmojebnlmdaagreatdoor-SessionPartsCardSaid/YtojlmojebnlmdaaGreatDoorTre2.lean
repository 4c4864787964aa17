import Derived.Test.YtojlmojebnlmdaaGreatDoorTre1
set_option linter.unusedVariables false
set_option linter.unusedSimpArgs false
set_option maxRecDepth 100000
noncomputable section
namespace PX
open Go
open Md
namespace Te
def aoV (C : aP) (Λ2 J : Lam) (a0 : List (List D)) (a1 a2 : Int) (a3 : List D) : Res := lab SE C Λ2 J 144 0 [1, 1, 0, 1, 0] (aW [(3, .ptr 1000000000 0), (71, .d (.sl aG.ks a0)), (72, .d (.int .i64 a1)), (73, .d (.int .i64 a2))] [⟨34, (List.map AV.d a3)⟩] [] [] [])
def asj (C : aP) (Λ2 J : Lam) (a0 a1 : List D) : Res := lab SE C Λ2 J 144 0 [1, 1, 0, 0] (aW [(2, .ptr 1000000000 0), (3, .ptr 1000000001 0)] [⟨34, (List.map AV.d a0)⟩, ⟨34, (List.map AV.d a1)⟩] [] [] [])
section
variable (Γ : Fun)  (Λ2 J : Lam)
def ajt : aP := aQ Γ
theorem aDV (p0 p1 : aA) : bF SE (ajt Γ) Λ2 J 144 [aA.av p0, aA.av p1] [] [] =
 cond (!(p0.Topic == p1.Topic)) (
 (rB false)) (
 cond (!(p0.Payload == p1.Payload)) (
 (rB false)) (
 cond (p0.Level != p1.Level) (
 (rB false)) (
 cond (p0.Retain != p1.Retain) (
 (rB false)) (
 cond (p0.Priority != p1.Priority) (
 (rB false)) (
 cond (p0.Expires != p1.Expires) (
 (rB false)) (
 cond (!(p0.From == p1.From)) (
 (rB false)) (
 cond (p0.Seq != p1.Seq) (
 (rB false)) (
 cond ((lM aG.enc p0.Props : Int) != (lM aG.enc p1.Props : Int)) (
 (rB false)) (
 asj (ajt Γ) Λ2 J (aA.enc p0) (aA.enc p1)))))))))) := by kernel_rfl
theorem ayN (x71 : List aG) (x72 x73 : Int) (b0 : aA) : bT SE (ajt Γ) Λ2 J 144 0 [1, 1, 0, 1, 0] (aW [(3, .ptr 1000000000 0), (71, .d (.sl aG.ks (List.map aG.enc x71))), (72, .d (.int .i64 x72)), (73, .d (.int .i64 x73))] [⟨34, (List.map AV.d (aA.enc b0))⟩] [] [] []) =
 cond (decide (x73 < x72)) (
 cond (iB x73 (lM aG.enc x71 : Int)) (
  cond (iB x73 (lM aG.enc b0.Props : Int)) (
  cond (!(((bC (cE aG.enc x71 x73 0)) == (bC (cE aG.enc b0.Props x73 0))) && (((bC (cE aG.enc x71 x73 1)) == (bC (cE aG.enc b0.Props x73 1))) && true))) (
   (rB false)) (
  aoV (ajt Γ) Λ2 J (List.map aG.enc x71) x72 (w6 (x73 + 1)) (aA.enc b0))) none) none) (
 (rB true)) := by kernel_rfl
theorem ay3 (b0 b1 : aA) : bT SE (ajt Γ) Λ2 J 144 0 [1, 1, 0, 0] (aW [(2, .ptr 1000000000 0), (3, .ptr 1000000001 0)] [⟨34, (List.map AV.d (aA.enc b0))⟩, ⟨34, (List.map AV.d (aA.enc b1))⟩] [] [] []) =
 aoV (ajt Γ) Λ2 J (List.map aG.enc b0.Props) (lM aG.enc b0.Props : Int) 0 (aA.enc b1) := by kernel_rfl
end
abbrev ao1 : aP := ajt gG
theorem aqL : ao1 = aQ gG := rfl
abbrev azn := aoV ao1 (bP SE gG (SE.hl 144) (SE.hr 144)) (J0 SE ao1)
abbrev azy := asj ao1 (bP SE gG (SE.hl 144) (SE.hr 144)) (J0 SE ao1)
theorem ahu : ∀ (fu : Nat) (x71 : List aG) (x72 x73 : Int) (b0 : aA), Le (Option.map stringslite_HasPrefix_out (lX fu x71 x72 x73 b0)) (azn (List.map aG.enc x71) x72 x73 (aA.enc b0)) := by
 intro fu
 induction fu with
 | zero => intros; exact le_none
 | succ fu ih =>
  intro x71 x72 x73 b0
  refine Le.trans ?_ (le_of_eq ((aZ aqL).trans (ayN ..)).symm)
  unfold lX
  refine lC ?_ ?_
  ·refine lG (by simp only [EN]) ?_
   refine lG (by simp only [EN]) ?_
   refine lD (by simp only [EN]) ?_ ?_
   ·exact aJ rfl
   ·exact ih x71 x72 (w6 (x73 + 1)) b0
  ·exact aJ rfl
theorem ahV (b0 b1 : aA) : Le (Option.map stringslite_HasPrefix_out (vW b0 b1)) (azy (aA.enc b0) (aA.enc b1)) := by
 refine Le.trans ?_ (le_of_eq ((aZ aqL).trans (ay3 ..)).symm)
 unfold vW
 (try simp only [EN]); exact ahu fuel b0.Props (List.length b0.Props : Int) 0 b1
theorem akO (p0 p1 : aA) : Le (Option.map stringslite_HasPrefix_out (wG p0 p1)) (bA SE 144 [aA.av p0, aA.av p1] [] []) := by
 refine aV aqL rfl ?_
 refine Le.trans ?_ (le_of_eq (aDV ..).symm)
 unfold wG
 refine lC ?_ ?_
 ·exact aJ rfl
 ·refine lC ?_ ?_
  ·exact aJ rfl
  ·refine lC ?_ ?_
   ·exact aJ rfl
   ·refine lC ?_ ?_
    ·exact aJ rfl
    ·refine lC ?_ ?_
     ·exact aJ rfl
     ·refine lC ?_ ?_
      ·exact aJ rfl
      ·refine lC ?_ ?_
       ·exact aJ rfl
       ·refine lC ?_ ?_
        ·exact aJ rfl
        ·refine lD (by simp only [EN]) ?_ ?_
         ·exact aJ rfl
         ·exact ahV p0 p1
section
variable (Γ : Fun) (γ144 : Gm (Bool)) (γ141 : Gm (Int)) (Λ2 J : Lam)
def C87 : aP := aY (aY (aQ Γ) 144 stringslite_HasPrefix_out γ144) 141 stringslite_IndexByte_out γ141
theorem T87 (p0 : aT) : bF SE (C87 Γ γ144 γ141) Λ2 J 87 [aT.av p0] [] [] =
 cond (!p0.Set) (
 cond (p0.Delay != 0) (
  (rI 28)) (
 γ144 [aA.av p0.Message, .agg [.d (.str []), .d (.str []), .d (.int .i64 0), .d (.bool false), .d (.int .i64 0), .d (.int .i64 0), .d (.str []), .d (.int .i64 0), .d (.sl aG.ks (List.map aG.enc []))]] [] [] fun r0 =>
 cond (!r0) (
  (rI 28)) (
 (rI 0)))) (
 cond (decide (p0.Delay < 0)) (
 (rI 1)) (
 cond (decide (p0.Delay > 1099511627776)) (
 (rI 1)) (
 γ141 [aA.av p0.Message] [] [] fun r1 =>
 (rI r1)))) := by kernel_rfl
end
abbrev X87 : aP := C87 gG (cT 144 stringslite_HasPrefix_out) (cT 141 stringslite_IndexByte_out)
theorem aEn : X87 = aQ gG := by unfold X87 C87; repeat rw [bB fun _ h => h]
theorem amN (p0 : aT) : Le (Option.map stringslite_IndexByte_out (zP p0)) (bA SE 87 [aT.av p0] [] []) := by
 refine aV aEn rfl ?_
 refine Le.trans ?_ (le_of_eq (T87 ..).symm)
 unfold zP
 refine lC ?_ ?_
 ·refine lC ?_ ?_
  ·exact aJ rfl
  ·refine lQ eX stringslite_HasPrefix_inj (by (try simp only [EN]); exact akO p0.Message ((aA.mk [] [] 0 false 0 0 [] 0 []))) fun r0 _ => ?_
   refine lC ?_ ?_
   ·exact aJ rfl
   ·exact aJ rfl
 ·refine lC ?_ ?_
  ·exact aJ rfl
  ·refine lC ?_ ?_
   ·exact aJ rfl
   ·refine lQ eX stringslite_IndexByte_inj (uJ _) fun r1 _ => ?_
    exact aJ rfl
section
variable (Γ : Fun) (γ83 γ84 γ85 γ86 γ87 : Gm (Int)) (Λ2 J : Lam)
def C33 : aP := aY (aY (aY (aY (aY (aQ Γ) 83 stringslite_IndexByte_out γ83) 84 stringslite_IndexByte_out γ84) 85 stringslite_IndexByte_out γ85) 86 stringslite_IndexByte_out γ86) 87 stringslite_IndexByte_out γ87
theorem T33 (p0 : aB) : bF SE (C33 Γ γ83 γ84 γ85 γ86 γ87) Λ2 J 33 [aB.av p0] [] [] =
 γ83 [aB.av p0] [] [] fun r0 =>
 cond (r0 != 0) (
 (rI r0)) (
 γ84 [aB.av p0] [] [] fun r1 =>
 cond (r1 != 0) (
 (rI r1)) (
 γ85 [aI.av p0.Out] [] [] fun r2 =>
 cond (r2 != 0) (
 (rI r2)) (
 γ86 [bE.av p0.In] [] [] fun r3 =>
 cond (r3 != 0) (
 (rI r3)) (
 γ87 [aT.av p0.Will] [] [] fun r4 =>
 (rI r4))))) := by kernel_rfl
end
abbrev X33 : aP := C33 gG (cT 83 stringslite_IndexByte_out) (cT 84 stringslite_IndexByte_out) (cT 85 stringslite_IndexByte_out) (cT 86 stringslite_IndexByte_out) (cT 87 stringslite_IndexByte_out)
theorem aFe : X33 = aQ gG := by unfold X33 C33; repeat rw [bB fun _ h => h]
theorem nQ (p0 : aB) : Le (Option.map stringslite_IndexByte_out (hY p0)) (bA SE 33 [aB.av p0] [] []) := by
 refine aV aFe rfl ?_
 refine Le.trans ?_ (le_of_eq (T33 ..).symm)
 unfold hY
 refine lQ eX stringslite_IndexByte_inj (af5 _) fun r0 _ => ?_
 refine lC ?_ ?_
 ·exact aJ rfl
 ·refine lQ eX stringslite_IndexByte_inj (ae4 _) fun r1 _ => ?_
  refine lC ?_ ?_
  ·exact aJ rfl
  ·refine lQ eX stringslite_IndexByte_inj (aiP _) fun r2 _ => ?_
   refine lC ?_ ?_
   ·exact aJ rfl
   ·refine lQ eX stringslite_IndexByte_inj (ajB _) fun r3 _ => ?_
    refine lC ?_ ?_
    ·exact aJ rfl
    ·refine lQ eX stringslite_IndexByte_inj (amN _) fun r4 _ => ?_
     exact aJ rfl
def akh (C : aP) (Λ2 J : Lam) (a0 a1 : Int) (a2 : List (List D)) (a3 a4 a5 a6 a7 a8 a9 : Int) (a10 : Bool) (a11 : List (List D)) (a12 a13 : Int) (a14 : Bool) (a15 : List D) (a16 : Int) (a17 : Bool) (a18 : List D) : Res := lab SE C Λ2 J 11 0 [1, 1, 1, 0, 1, 0, 0, 1, 0, 0, 1, 1, 1, 1, 0] (aW [(1, .d (.int .i64 a0)), (2, .d (.int .i64 a1)), (3, .d (.sl aK.ks a2)), (9, .ptr 1000000000 0), (10, .d (.int .i64 a3)), (11, .d (.int .i64 a4)), (12, .d (.int .i64 a5)), (13, .d (.int .i64 a6)), (14, .d (.int .i64 a7)), (20, .d (.int .i64 a8)), (32, .d (.int .i64 a9)), (33, .d (.bool a10)), (154, .ptr 1000000000 9), (155, .ptr 1000000000 10), (156, .d (.sl aD.ks a11)), (157, .d (.int .i64 a12)), (158, .d (.int .i64 a13)), (159, .d (.bool a14)), (162, .agg (List.map AV.d a15)), (163, .d (.int .i64 a16)), (164, .d (.bool a17))] [⟨38, (List.map AV.d a18)⟩] [] [] [])
def asI (C : aP) (Λ2 J : Lam) (a0 a1 : Int) (a2 : List (List D)) (a3 a4 a5 a6 a7 a8 : Int) (a9 : Bool) (a10 : List (List D)) (a11 a12 : Int) (a13 : Bool) (a14 : List D) (a15 : Int) (a16 : Bool) (a17 : List D) : Res := lab SE C Λ2 J 11 0 [1, 1, 1, 0, 1, 0, 0, 1, 0, 0, 1, 1, 1, 0] (aW [(1, .d (.int .i64 a0)), (2, .d (.int .i64 a1)), (3, .d (.sl aK.ks a2)), (9, .ptr 1000000000 0), (10, .d (.int .i64 a3)), (11, .d (.int .i64 a4)), (12, .d (.int .i64 a5)), (13, .d (.int .i64 a6)), (14, .d (.int .i64 a7)), (32, .d (.int .i64 a8)), (33, .d (.bool a9)), (154, .ptr 1000000000 9), (155, .ptr 1000000000 10), (156, .d (.sl aD.ks a10)), (157, .d (.int .i64 a11)), (158, .d (.int .i64 a12)), (159, .d (.bool a13)), (162, .agg (List.map AV.d a14)), (163, .d (.int .i64 a15)), (164, .d (.bool a16))] [⟨38, (List.map AV.d a17)⟩] [] [] [])
def aoZ (C : aP) (Λ2 J : Lam) (a0 a1 : Int) (a2 : List (List D)) (a3 a4 a5 a6 a7 a8 : Int) (a9 : Bool) (a10 : List D) : Res := lab SE C Λ2 J 11 0 [1, 1, 1, 0, 1, 0, 0, 1, 0, 0, 1, 1, 0, 0] (aW [(1, .d (.int .i64 a0)), (2, .d (.int .i64 a1)), (3, .d (.sl aK.ks a2)), (9, .ptr 1000000000 0), (10, .d (.int .i64 a3)), (11, .d (.int .i64 a4)), (12, .d (.int .i64 a5)), (13, .d (.int .i64 a6)), (14, .d (.int .i64 a7)), (32, .d (.int .i64 a8)), (33, .d (.bool a9))] [⟨38, (List.map AV.d a10)⟩] [] [] [])
def akQ (C : aP) (Λ2 J : Lam) (a0 a1 : Int) (a2 : List (List D)) (a3 a4 a5 a6 a7 a8 : Int) (a9 : Bool) (a10 a11 : List D) : Res := lab SE C Λ2 J 11 0 [1, 1, 1, 0, 1, 0, 0, 1, 0, 0, 1, 0, 1, 0, 1, 1, 1] (aW [(1, .d (.int .i64 a0)), (2, .d (.int .i64 a1)), (3, .d (.sl aK.ks a2)), (9, .ptr 1000000000 0), (10, .d (.int .i64 a3)), (11, .d (.int .i64 a4)), (12, .d (.int .i64 a5)), (13, .d (.int .i64 a6)), (14, .d (.int .i64 a7)), (15, .ptr 1000000001 0), (32, .d (.int .i64 a8)), (33, .d (.bool a9))] [⟨38, (List.map AV.d a10)⟩, ⟨34, (List.map AV.d a11)⟩] [] [] [])
def ag9 (C : aP) (Λ2 J : Lam) (a0 a1 : Int) (a2 : List (List D)) (a3 a4 a5 a6 a7 a8 a9 : Int) (a10 : Bool) (a11 : List D) (a12 : List (List D)) : Res := lab SE C Λ2 J 11 0 [1, 1, 1, 0, 1, 0, 0, 1, 0, 0, 1, 0, 1, 1, 1, 1, 1, 1, 0] (aW [(1, .d (.int .i64 a0)), (2, .d (.int .i64 a1)), (3, .d (.sl aK.ks a2)), (9, .ptr 1000000000 0), (10, .d (.int .i64 a3)), (11, .d (.int .i64 a4)), (12, .d (.int .i64 a5)), (13, .d (.int .i64 a6)), (14, .d (.int .i64 a7)), (17, .row 3017), (19, .d (.int .i64 a8)), (32, .d (.int .i64 a9)), (33, .d (.bool a10))] [⟨38, (List.map AV.d a11)⟩] [] [] [(3017, ⟨aC.ks, 49, 416, a12⟩)])
def avk (C : aP) (Λ2 J : Lam) (a0 a1 : Int) (a2 : List (List D)) (a3 a4 a5 a6 a7 a8 : Int) (a9 : Bool) (a10 : List D) : Res := lab SE C Λ2 J 11 0 [1, 1, 1, 0, 1, 0, 0, 1, 0, 0, 0] (aW [(1, .d (.int .i64 a0)), (2, .d (.int .i64 a1)), (3, .d (.sl aK.ks a2)), (9, .ptr 1000000000 0), (10, .d (.int .i64 a3)), (11, .d (.int .i64 a4)), (12, .d (.int .i64 a5)), (13, .d (.int .i64 a6)), (14, .d (.int .i64 a7)), (32, .d (.int .i64 a8)), (33, .d (.bool a9))] [⟨38, (List.map AV.d a10)⟩] [] [] [])
def arQ (C : aP) (Λ2 J : Lam) (a0 a1 : Int) (a2 : List (List D)) (a3 a4 a5 a6 a7 : Int) (a8 : List D) : Res := lab SE C Λ2 J 11 0 [1, 1, 1, 0, 1, 0] (aW [(1, .d (.int .i64 a0)), (2, .d (.int .i64 a1)), (3, .d (.sl aK.ks a2)), (9, .ptr 1000000000 0), (10, .d (.int .i64 a3)), (11, .d (.int .i64 a4)), (12, .d (.int .i64 a5)), (13, .d (.int .i64 a6)), (14, .d (.int .i64 a7))] [⟨38, (List.map AV.d a8)⟩] [] [] [])
section
variable (Γ : Fun) (γ31 : Gm (aB)) (γ14 : Gm (Bool)) (γ39 : Gm (aB × (List aC) × Bool)) (γ15 : Gm (aB × Bool)) (γ33 : Gm (Int)) (Λ2 J : Lam)
def C11 : aP := aY (aY (aY (aY (aY (aQ Γ) 31 cB γ31) 14 stringslite_HasPrefix_out γ14) 39 gN γ39) 15 cW γ15) 33 stringslite_IndexByte_out γ33
theorem T11 (p0 p1 p2 : Int) (p3 : List aK) : bF SE (C11 Γ γ31 γ14 γ39 γ15 γ33) Λ2 J 11 [.d (.int .u8 p0), .d (.int .i64 p1), .d (.int .i64 p2), .d (.sl aK.ks (List.map aK.enc p3))] [] [] =
 γ31 [.agg [.d (.int .i64 1), .d (.int .i64 0), .d (.bool false), .d (.str []), .d (.str []), .d (.int .i64 0), .d (.bool false), .d (.int .i64 0), .d (.int .i64 0), .d (.str []), .d (.int .i64 0), .d (.sl aG.ks (List.map aG.enc [])), .d (.str ([99] : Str)), .d (.str []), .d (.bool false), .d (.int .i64 0), .d (.int .i64 9), .d (.int .i64 (w6 (1 + (Int.tmod (w6 p0) 32)))), .d (.bool false), .d (.int .i64 0), .d (.str []), .d (.str []), .d (.int .i64 0), .d (.bool false), .d (.int .i64 0), .d (.int .i64 0), .d (.str []), .d (.int .i64 0), .d (.sl aG.ks (List.map aG.enc [])), .d (.bool false), .d (.int .i64 0), .d (.sl aF.ks (List.map aF.enc [])), .d (.sl [.str] (List.map bL [])), .d (.sl [.int .i64] (List.map eI []))], .d (.int .i64 1)] [] [] fun r0 =>
 arQ (C11 Γ γ31 γ14 γ39 γ15 γ33) Λ2 J p1 p2 (List.map aK.enc p3) 0 0 0 0 0 (aB.enc r0) := by kernel_rfl
theorem aAD (x1 x2 : Int) (x3 : List aK) (x10 x11 x12 x13 x14 x20 x32 : Int) (x33 : Bool) (x156 : List aD) (x157 x158 : Int) (x159 : Bool) (x162 : aB) (x163 : Int) (x164 : Bool) (b0 : aB) : bT SE (C11 Γ γ31 γ14 γ39 γ15 γ33) Λ2 J 11 0 [1, 1, 1, 0, 1, 0, 0, 1, 0, 0, 1, 1, 1, 1, 0] (aW [(1, .d (.int .i64 x1)), (2, .d (.int .i64 x2)), (3, .d (.sl aK.ks (List.map aK.enc x3))), (9, .ptr 1000000000 0), (10, .d (.int .i64 x10)), (11, .d (.int .i64 x11)), (12, .d (.int .i64 x12)), (13, .d (.int .i64 x13)), (14, .d (.int .i64 x14)), (20, .d (.int .i64 x20)), (32, .d (.int .i64 x32)), (33, .d (.bool x33)), (154, .ptr 1000000000 9), (155, .ptr 1000000000 10), (156, .d (.sl aD.ks (List.map aD.enc x156))), (157, .d (.int .i64 x157)), (158, .d (.int .i64 x158)), (159, .d (.bool x159)), (162, .agg (List.map AV.d (aB.enc x162))), (163, .d (.int .i64 x163)), (164, .d (.bool x164))] [⟨38, (List.map AV.d (aB.enc b0))⟩] [] [] []) =
 cond (decide (x20 < (lM aA.enc b0.Queue : Int))) (
 cond (iB x20 (lM aA.enc b0.Queue : Int)) (
  cond (decide ((aR (cE aA.enc b0.Queue x20 7)) ≤ x11)) (
  (rB false)) (
  cond (decide (x20 > 0)) (
  cond (iB x20 (lM aA.enc b0.Queue : Int)) (
   cond (iB (w6 (x20 - 1)) (lM aA.enc b0.Queue : Int)) (
   cond (decide ((aR (cE aA.enc b0.Queue x20 7)) ≤ (aR (cE aA.enc b0.Queue (w6 (x20 - 1)) 7)))) (
    (rB false)) (
   akh (C11 Γ γ31 γ14 γ39 γ15 γ33) Λ2 J x1 x2 (List.map aK.enc x3) x10 x11 x12 x13 x14 (w6 (x20 + 1)) x32 x33 (List.map aD.enc x156) x157 x158 x159 (aB.enc x162) x163 x164 (aB.enc b0))) none) none) (
  akh (C11 Γ γ31 γ14 γ39 γ15 γ33) Λ2 J x1 x2 (List.map aK.enc x3) x10 x11 x12 x13 x14 (w6 (x20 + 1)) x32 x33 (List.map aD.enc x156) x157 x158 x159 (aB.enc x162) x163 x164 (aB.enc b0)))) none) (
 arQ (C11 Γ γ31 γ14 γ39 γ15 γ33) Λ2 J x1 x2 (List.map aK.enc x3) x10 x11 x12 x13 (w6 (x14 + 1)) (aB.enc b0)) := by kernel_rfl
theorem awx (x1 x2 : Int) (x3 : List aK) (x10 x11 x12 x13 x14 x32 : Int) (x33 : Bool) (x156 : List aD) (x157 x158 : Int) (x159 : Bool) (x162 : aB) (x163 : Int) (x164 : Bool) (b0 : aB) : bT SE (C11 Γ γ31 γ14 γ39 γ15 γ33) Λ2 J 11 0 [1, 1, 1, 0, 1, 0, 0, 1, 0, 0, 1, 1, 1, 0] (aW [(1, .d (.int .i64 x1)), (2, .d (.int .i64 x2)), (3, .d (.sl aK.ks (List.map aK.enc x3))), (9, .ptr 1000000000 0), (10, .d (.int .i64 x10)), (11, .d (.int .i64 x11)), (12, .d (.int .i64 x12)), (13, .d (.int .i64 x13)), (14, .d (.int .i64 x14)), (32, .d (.int .i64 x32)), (33, .d (.bool x33)), (154, .ptr 1000000000 9), (155, .ptr 1000000000 10), (156, .d (.sl aD.ks (List.map aD.enc x156))), (157, .d (.int .i64 x157)), (158, .d (.int .i64 x158)), (159, .d (.bool x159)), (162, .agg (List.map AV.d (aB.enc x162))), (163, .d (.int .i64 x163)), (164, .d (.bool x164))] [⟨38, (List.map AV.d (aB.enc b0))⟩] [] [] []) =
 akh (C11 Γ γ31 γ14 γ39 γ15 γ33) Λ2 J x1 x2 (List.map aK.enc x3) x10 x11 x12 x13 x14 0 x32 x33 (List.map aD.enc x156) x157 x158 x159 (aB.enc x162) x163 x164 (aB.enc b0) := by kernel_rfl
theorem aAn (x1 x2 : Int) (x3 : List aK) (x10 x11 x12 x13 x14 x32 : Int) (x33 : Bool) (b0 : aB) : bT SE (C11 Γ γ31 γ14 γ39 γ15 γ33) Λ2 J 11 0 [1, 1, 1, 0, 1, 0, 0, 1, 0, 0, 1, 1, 0, 0] (aW [(1, .d (.int .i64 x1)), (2, .d (.int .i64 x2)), (3, .d (.sl aK.ks (List.map aK.enc x3))), (9, .ptr 1000000000 0), (10, .d (.int .i64 x10)), (11, .d (.int .i64 x11)), (12, .d (.int .i64 x12)), (13, .d (.int .i64 x13)), (14, .d (.int .i64 x14)), (32, .d (.int .i64 x32)), (33, .d (.bool x33))] [⟨38, (List.map AV.d (aB.enc b0))⟩] [] [] []) =
 cond ((w6 ((w6 ((lM aA.enc b0.Queue : Int) + x12)) + b0.Dropped)) != x10) (
 (rB false)) (
 cond (decide ((lM aD.enc b0.Out.Items : Int) > x12)) (
 (rB false)) (
 γ33 [aB.av b0] [] [] fun r5 =>
 cond (r5 != 0) (
 (rB false)) (
 asI (C11 Γ γ31 γ14 γ39 γ15 γ33) Λ2 J x1 x2 (List.map aK.enc x3) x10 x11 x12 x13 x14 x32 x33 (List.map aD.enc b0.Out.Items) (lM aD.enc b0.Out.Items : Int) x12 (decide ((lM aD.enc b0.Out.Items : Int) > x12)) (aB.enc b0) r5 (r5 != 0) (aB.enc b0)))) := by kernel_rfl
theorem az8 (x1 x2 : Int) (x3 : List aK) (x10 x11 x12 x13 x14 x32 : Int) (x33 : Bool) (b0 : aB) (b1 : aA) : bT SE (C11 Γ γ31 γ14 γ39 γ15 γ33) Λ2 J 11 0 [1, 1, 1, 0, 1, 0, 0, 1, 0, 0, 1, 0, 1, 0, 1, 1, 1] (aW [(1, .d (.int .i64 x1)), (2, .d (.int .i64 x2)), (3, .d (.sl aK.ks (List.map aK.enc x3))), (9, .ptr 1000000000 0), (10, .d (.int .i64 x10)), (11, .d (.int .i64 x11)), (12, .d (.int .i64 x12)), (13, .d (.int .i64 x13)), (14, .d (.int .i64 x14)), (15, .ptr 1000000001 0), (32, .d (.int .i64 x32)), (33, .d (.bool x33))] [⟨38, (List.map AV.d (aB.enc b0))⟩, ⟨34, (List.map AV.d (aA.enc b1))⟩] [] [] []) =
 γ15 [aB.av b0, aA.av b1, .d (.int .i64 x1), .d (.int .i64 x2)] [] [] fun r4 =>
 aoZ (C11 Γ γ31 γ14 γ39 γ15 γ33) Λ2 J x1 x2 (List.map aK.enc x3) x10 x11 x12 x13 x14 x32 x33 (aB.enc r4.1) := by kernel_rfl
theorem axd (x1 x2 : Int) (x3 : List aK) (x10 x11 x12 x13 x14 x19 x32 : Int) (x33 : Bool) (b0 : aB) (w3017 : List aC) : bT SE (C11 Γ γ31 γ14 γ39 γ15 γ33) Λ2 J 11 0 [1, 1, 1, 0, 1, 0, 0, 1, 0, 0, 1, 0, 1, 1, 1, 1, 1, 1, 0] (aW [(1, .d (.int .i64 x1)), (2, .d (.int .i64 x2)), (3, .d (.sl aK.ks (List.map aK.enc x3))), (9, .ptr 1000000000 0), (10, .d (.int .i64 x10)), (11, .d (.int .i64 x11)), (12, .d (.int .i64 x12)), (13, .d (.int .i64 x13)), (14, .d (.int .i64 x14)), (17, .row 3017), (19, .d (.int .i64 x19)), (32, .d (.int .i64 x32)), (33, .d (.bool x33))] [⟨38, (List.map AV.d (aB.enc b0))⟩] [] [] [(3017, ⟨aC.ks, 49, 416, (List.map aC.enc w3017)⟩)]) =
 cond (decide (x19 < (lM aC.enc w3017 : Int))) (
 cond (iB x19 (lM aC.enc w3017 : Int)) (
  cond ((aR (cE aC.enc w3017 x19 0)) == 3) (
  cond (iB x19 (lM aC.enc w3017 : Int)) (
   cond (!(bM (cE aC.enc w3017 x19 2))) (
   cond (iB x19 (lM aC.enc w3017 : Int)) (
    cond (decide ((aR (cE aC.enc w3017 x19 10)) ≤ x11)) (
    (rB false)) (
    cond (iB x19 (lM aC.enc w3017 : Int)) (
    ag9 (C11 Γ γ31 γ14 γ39 γ15 γ33) Λ2 J x1 x2 (List.map aK.enc x3) x10 ((aR (cE aC.enc w3017 x19 10))) (w6 (x12 + 1)) x13 x14 (w6 (x19 + 1)) x32 x33 (aB.enc b0) (List.map aC.enc w3017)) none)) none) (
   ag9 (C11 Γ γ31 γ14 γ39 γ15 γ33) Λ2 J x1 x2 (List.map aK.enc x3) x10 x11 x12 x13 x14 (w6 (x19 + 1)) x32 x33 (aB.enc b0) (List.map aC.enc w3017))) none) (
  ag9 (C11 Γ γ31 γ14 γ39 γ15 γ33) Λ2 J x1 x2 (List.map aK.enc x3) x10 x11 x12 x13 x14 (w6 (x19 + 1)) x32 x33 (aB.enc b0) (List.map aC.enc w3017))) none) (
 aoZ (C11 Γ γ31 γ14 γ39 γ15 γ33) Λ2 J x1 x2 (List.map aK.enc x3) x10 x11 x12 x13 x14 x32 x33 (aB.enc b0)) := by kernel_rfl
theorem aCN (x1 x2 : Int) (x3 : List aK) (x10 x11 x12 x13 x14 x32 : Int) (x33 : Bool) (b0 : aB) : bT SE (C11 Γ γ31 γ14 γ39 γ15 γ33) Λ2 J 11 0 [1, 1, 1, 0, 1, 0, 0, 1, 0, 0, 0] (aW [(1, .d (.int .i64 x1)), (2, .d (.int .i64 x2)), (3, .d (.sl aK.ks (List.map aK.enc x3))), (9, .ptr 1000000000 0), (10, .d (.int .i64 x10)), (11, .d (.int .i64 x11)), (12, .d (.int .i64 x12)), (13, .d (.int .i64 x13)), (14, .d (.int .i64 x14)), (32, .d (.int .i64 x32)), (33, .d (.bool x33))] [⟨38, (List.map AV.d (aB.enc b0))⟩] [] [] []) =
 cond (iB x14 (lM aK.enc x3 : Int)) (
 cond (iB x14 (lM aK.enc x3 : Int)) (
  cond ((aR (cE aK.enc x3 x14 0)) == 0) (
  cond (iB x14 (lM aK.enc x3 : Int)) (
   cond (iB x14 (lM aK.enc x3 : Int)) (
   cond (decide ((aR (cE aK.enc x3 x14 2)) > 0)) (
    cond (iB x14 (lM aK.enc x3 : Int)) (
    cond (decide ((aR (cE aK.enc x3 x14 2)) ≤ 549755813888)) (
     cond (iB x14 (lM aK.enc x3 : Int)) (
     akQ (C11 Γ γ31 γ14 γ39 γ15 γ33) Λ2 J x1 x2 (List.map aK.enc x3) (w6 (x10 + 1)) x11 x12 ((w6 (x13 + (w6 (aR (cE aK.enc x3 x14 4)))))) x14 x32 x33 (aB.enc b0) [D.str ([116] : Str), D.str [], D.int .i64 (w6 (Int.tmod (IntKind.wrap .u64 (aR (cE aK.enc x3 x14 1))) 3)), D.bool false, D.int .i64 0, D.int .i64 (w6 ((w6 (x13 + (w6 (aR (cE aK.enc x3 x14 4))))) + (aR (cE aK.enc x3 x14 2)))), D.str [], D.int .i64 (w6 (x10 + 1)), D.sl aG.ks (List.map aG.enc [])]) none) (
    akQ (C11 Γ γ31 γ14 γ39 γ15 γ33) Λ2 J x1 x2 (List.map aK.enc x3) (w6 (x10 + 1)) x11 x12 ((w6 (x13 + (w6 (aR (cE aK.enc x3 x14 4)))))) x14 x32 x33 (aB.enc b0) [D.str ([116] : Str), D.str [], D.int .i64 (w6 (Int.tmod (IntKind.wrap .u64 (aR (cE aK.enc x3 x14 1))) 3)), D.bool false, D.int .i64 0, D.int .i64 0, D.str [], D.int .i64 (w6 (x10 + 1)), D.sl aG.ks (List.map aG.enc [])])) none) (
   akQ (C11 Γ γ31 γ14 γ39 γ15 γ33) Λ2 J x1 x2 (List.map aK.enc x3) (w6 (x10 + 1)) x11 x12 ((w6 (x13 + (w6 (aR (cE aK.enc x3 x14 4)))))) x14 x32 x33 (aB.enc b0) [D.str ([116] : Str), D.str [], D.int .i64 (w6 (Int.tmod (IntKind.wrap .u64 (aR (cE aK.enc x3 x14 1))) 3)), D.bool false, D.int .i64 0, D.int .i64 0, D.str [], D.int .i64 (w6 (x10 + 1)), D.sl aG.ks (List.map aG.enc [])])) none) none) (
  cond (iB x14 (lM aK.enc x3 : Int)) (
  γ39 [aB.av b0, .agg [.d (.int .i64 (aR (cE aK.enc x3 x14 0))), .d (.int .i64 (aR (cE aK.enc x3 x14 1))), .d (.int .i64 (aR (cE aK.enc x3 x14 2))), .d (.int .i64 (aR (cE aK.enc x3 x14 3))), .d (.int .u8 (aR (cE aK.enc x3 x14 4)))], .d (.int .i64 (w6 (x13 + (w6 (aR (cE aK.enc x3 x14 4))))))] [] [] fun r3 =>
  cond (!r3.2.2) (
   (rB false)) (
  ag9 (C11 Γ γ31 γ14 γ39 γ15 γ33) Λ2 J x1 x2 (List.map aK.enc x3) x10 x11 x12 ((w6 (x13 + (w6 (aR (cE aK.enc x3 x14 4)))))) x14 0 x32 x33 (aB.enc r3.1) (List.map aC.enc r3.2.1))) none)) none) none := by kernel_rfl
theorem aC2 (x1 x2 : Int) (x3 : List aK) (x10 x11 x12 x13 x14 : Int) (b0 : aB) : bT SE (C11 Γ γ31 γ14 γ39 γ15 γ33) Λ2 J 11 0 [1, 1, 1, 0, 1, 0] (aW [(1, .d (.int .i64 x1)), (2, .d (.int .i64 x2)), (3, .d (.sl aK.ks (List.map aK.enc x3))), (9, .ptr 1000000000 0), (10, .d (.int .i64 x10)), (11, .d (.int .i64 x11)), (12, .d (.int .i64 x12)), (13, .d (.int .i64 x13)), (14, .d (.int .i64 x14))] [⟨38, (List.map AV.d (aB.enc b0))⟩] [] [] []) =
 cond (decide (x14 < (lM aK.enc x3 : Int))) (
 cond (decide (x14 < 60)) (
  avk (C11 Γ γ31 γ14 γ39 γ15 γ33) Λ2 J x1 x2 (List.map aK.enc x3) x10 x11 x12 x13 x14 x14 (decide (x14 < 60)) (aB.enc b0)) (
 γ14 [] [] [] fun r1 =>
 (rB r1))) (
 γ14 [] [] [] fun r2 =>
 (rB r2)) := by kernel_rfl
end
abbrev X11 : aP := C11 gG (cT 31 cB) (cT 14 stringslite_HasPrefix_out) (cT 39 gN) (cT 15 cW) (cT 33 stringslite_IndexByte_out)
theorem aht : X11 = aQ gG := by unfold X11 C11; repeat rw [bB fun _ h => h]
abbrev ayQ := akh X11 (bP SE gG (SE.hl 11) (SE.hr 11)) (J0 SE X11)
abbrev aym := asI X11 (bP SE gG (SE.hl 11) (SE.hr 11)) (J0 SE X11)
abbrev azi := aoZ X11 (bP SE gG (SE.hl 11) (SE.hr 11)) (J0 SE X11)
abbrev az4 := akQ X11 (bP SE gG (SE.hl 11) (SE.hr 11)) (J0 SE X11)
abbrev axu := ag9 X11 (bP SE gG (SE.hl 11) (SE.hr 11)) (J0 SE X11)
abbrev aA9 := avk X11 (bP SE gG (SE.hl 11) (SE.hr 11)) (J0 SE X11)
abbrev af7 := arQ X11 (bP SE gG (SE.hl 11) (SE.hr 11)) (J0 SE X11)
theorem zL : ∀ (fu : Nat) (k4 : Int → Int → (List aK) → Int → Int → Int → Int → Int → aB → Option (Bool)) (hk4 : ∀ (x1 x2 : Int) (x3 : List aK) (x10 x11 x12 x13 x14 : Int) (b0 : aB), Le (Option.map stringslite_HasPrefix_out (k4 x1 x2 x3 x10 x11 x12 x13 x14 b0)) (af7 x1 x2 (List.map aK.enc x3) x10 x11 x12 x13 x14 (aB.enc b0))) (x1 x2 : Int) (x3 : List aK) (x10 x11 x12 x13 x14 x20 x32 : Int) (x33 : Bool) (x156 : List aD) (x157 x158 : Int) (x159 : Bool) (x162 : aB) (x163 : Int) (x164 : Bool) (b0 : aB), Le (Option.map stringslite_HasPrefix_out (c8 fu k4 x1 x2 x3 x10 x11 x12 x13 x14 x20 x32 x33 x156 x157 x158 x159 x162 x163 x164 b0)) (ayQ x1 x2 (List.map aK.enc x3) x10 x11 x12 x13 x14 x20 x32 x33 (List.map aD.enc x156) x157 x158 x159 (aB.enc x162) x163 x164 (aB.enc b0)) := by
 intro fu
 induction fu with
 | zero => intros; exact le_none
 | succ fu ih =>
  intro k4 hk4 x1 x2 x3 x10 x11 x12 x13 x14 x20 x32 x33 x156 x157 x158 x159 x162 x163 x164 b0
  refine Le.trans ?_ (le_of_eq ((aZ aht).trans (aAD ..)).symm)
  unfold c8
  refine lD (by simp only [EN]) ?_ ?_
  ·refine lG (by simp only [EN]) ?_
   refine lD (by simp only [EN]) ?_ ?_
   ·exact aJ rfl
   ·refine lC ?_ ?_
    ·refine lG (by simp only [EN]) ?_
     refine lG (by simp only [EN]) ?_
     refine lD (by simp only [EN]) ?_ ?_
     ·exact aJ rfl
     ·exact ih _ hk4 x1 x2 x3 x10 x11 x12 x13 x14 (w6 (x20 + 1)) x32 x33 x156 x157 x158 x159 x162 x163 x164 b0
    ·exact ih _ hk4 x1 x2 x3 x10 x11 x12 x13 x14 (w6 (x20 + 1)) x32 x33 x156 x157 x158 x159 x162 x163 x164 b0
  ·exact hk4 x1 x2 x3 x10 x11 x12 x13 (w6 (x14 + 1)) b0
theorem zI (k4 : Int → Int → (List aK) → Int → Int → Int → Int → Int → aB → Option (Bool)) (hk4 : ∀ (x1 x2 : Int) (x3 : List aK) (x10 x11 x12 x13 x14 : Int) (b0 : aB), Le (Option.map stringslite_HasPrefix_out (k4 x1 x2 x3 x10 x11 x12 x13 x14 b0)) (af7 x1 x2 (List.map aK.enc x3) x10 x11 x12 x13 x14 (aB.enc b0))) (x1 x2 : Int) (x3 : List aK) (x10 x11 x12 x13 x14 x32 : Int) (x33 : Bool) (x156 : List aD) (x157 x158 : Int) (x159 : Bool) (x162 : aB) (x163 : Int) (x164 : Bool) (b0 : aB) : Le (Option.map stringslite_HasPrefix_out (jT k4 x1 x2 x3 x10 x11 x12 x13 x14 x32 x33 x156 x157 x158 x159 x162 x163 x164 b0)) (aym x1 x2 (List.map aK.enc x3) x10 x11 x12 x13 x14 x32 x33 (List.map aD.enc x156) x157 x158 x159 (aB.enc x162) x163 x164 (aB.enc b0)) := by
 refine Le.trans ?_ (le_of_eq ((aZ aht).trans (awx ..)).symm)
 unfold jT
 exact zL fuel _ hk4 x1 x2 x3 x10 x11 x12 x13 x14 0 x32 x33 x156 x157 x158 x159 x162 x163 x164 b0
theorem rO (k4 : Int → Int → (List aK) → Int → Int → Int → Int → Int → aB → Option (Bool)) (hk4 : ∀ (x1 x2 : Int) (x3 : List aK) (x10 x11 x12 x13 x14 : Int) (b0 : aB), Le (Option.map stringslite_HasPrefix_out (k4 x1 x2 x3 x10 x11 x12 x13 x14 b0)) (af7 x1 x2 (List.map aK.enc x3) x10 x11 x12 x13 x14 (aB.enc b0))) (x1 x2 : Int) (x3 : List aK) (x10 x11 x12 x13 x14 x32 : Int) (x33 : Bool) (b0 : aB) : Le (Option.map stringslite_HasPrefix_out (dH k4 x1 x2 x3 x10 x11 x12 x13 x14 x32 x33 b0)) (azi x1 x2 (List.map aK.enc x3) x10 x11 x12 x13 x14 x32 x33 (aB.enc b0)) := by
 refine Le.trans ?_ (le_of_eq ((aZ aht).trans (aAn ..)).symm)
 unfold dH
 refine lD (by simp only [EN]) ?_ ?_
 ·exact aJ rfl
 ·refine lD (by simp only [EN]) ?_ ?_
  ·exact aJ rfl
  ·refine lQ eX stringslite_IndexByte_inj (nQ _) fun r5 _ => ?_
   refine lC ?_ ?_
   ·exact aJ rfl
   ·(try simp only [EN]); exact zI _ hk4 x1 x2 x3 x10 x11 x12 x13 x14 x32 x33 b0.Out.Items (List.length b0.Out.Items : Int) x12 (decide ((List.length b0.Out.Items : Int) > x12)) b0 r5 (r5 != 0) b0
theorem lJ (k4 : Int → Int → (List aK) → Int → Int → Int → Int → Int → aB → Option (Bool)) (hk4 : ∀ (x1 x2 : Int) (x3 : List aK) (x10 x11 x12 x13 x14 : Int) (b0 : aB), Le (Option.map stringslite_HasPrefix_out (k4 x1 x2 x3 x10 x11 x12 x13 x14 b0)) (af7 x1 x2 (List.map aK.enc x3) x10 x11 x12 x13 x14 (aB.enc b0))) (x1 x2 : Int) (x3 : List aK) (x10 x11 x12 x13 x14 x32 : Int) (x33 : Bool) (b0 : aB) (b1 : aA) : Le (Option.map stringslite_HasPrefix_out (dW k4 x1 x2 x3 x10 x11 x12 x13 x14 x32 x33 b0 b1)) (az4 x1 x2 (List.map aK.enc x3) x10 x11 x12 x13 x14 x32 x33 (aB.enc b0) (aA.enc b1)) := by
 refine Le.trans ?_ (le_of_eq ((aZ aht).trans (az8 ..)).symm)
 unfold dW
 refine lQ eX pF (uK _ _ _ _) fun r4 _ => ?_
 exact rO _ hk4 x1 x2 x3 x10 x11 x12 x13 x14 x32 x33 r4.1
theorem zK : ∀ (fu : Nat) (k4 : Int → Int → (List aK) → Int → Int → Int → Int → Int → aB → Option (Bool)) (hk4 : ∀ (x1 x2 : Int) (x3 : List aK) (x10 x11 x12 x13 x14 : Int) (b0 : aB), Le (Option.map stringslite_HasPrefix_out (k4 x1 x2 x3 x10 x11 x12 x13 x14 b0)) (af7 x1 x2 (List.map aK.enc x3) x10 x11 x12 x13 x14 (aB.enc b0))) (x1 x2 : Int) (x3 : List aK) (x10 x11 x12 x13 x14 x19 x32 : Int) (x33 : Bool) (b0 : aB) (w3017 : List aC), Le (Option.map stringslite_HasPrefix_out (cV fu k4 x1 x2 x3 x10 x11 x12 x13 x14 x19 x32 x33 b0 w3017)) (axu x1 x2 (List.map aK.enc x3) x10 x11 x12 x13 x14 x19 x32 x33 (aB.enc b0) (List.map aC.enc w3017)) := by
 intro fu
 induction fu with
 | zero => intros; exact le_none
 | succ fu ih =>
  intro k4 hk4 x1 x2 x3 x10 x11 x12 x13 x14 x19 x32 x33 b0 w3017
  refine Le.trans ?_ (le_of_eq ((aZ aht).trans (axd ..)).symm)
  unfold cV
  refine lD (by simp only [EN]) ?_ ?_
  ·refine lG (by simp only [EN]) ?_
   refine lD (by simp only [EN]) ?_ ?_
   ·refine lG (by simp only [EN]) ?_
    refine lD (by simp only [EN]) ?_ ?_
    ·refine lG (by simp only [EN]) ?_
     refine lD (by simp only [EN]) ?_ ?_
     ·exact aJ rfl
     ·refine lG (by simp only [EN]) ?_
      (try simp only [EN]); exact ih _ hk4 x1 x2 x3 x10 ((List.getD w3017 (Int.toNat x19) default).Message.Seq) (w6 (x12 + 1)) x13 x14 (w6 (x19 + 1)) x32 x33 b0 w3017
    ·exact ih _ hk4 x1 x2 x3 x10 x11 x12 x13 x14 (w6 (x19 + 1)) x32 x33 b0 w3017
   ·exact ih _ hk4 x1 x2 x3 x10 x11 x12 x13 x14 (w6 (x19 + 1)) x32 x33 b0 w3017
  ·exact rO _ hk4 x1 x2 x3 x10 x11 x12 x13 x14 x32 x33 b0
theorem aas (k4 : Int → Int → (List aK) → Int → Int → Int → Int → Int → aB → Option (Bool)) (hk4 : ∀ (x1 x2 : Int) (x3 : List aK) (x10 x11 x12 x13 x14 : Int) (b0 : aB), Le (Option.map stringslite_HasPrefix_out (k4 x1 x2 x3 x10 x11 x12 x13 x14 b0)) (af7 x1 x2 (List.map aK.enc x3) x10 x11 x12 x13 x14 (aB.enc b0))) (x1 x2 : Int) (x3 : List aK) (x10 x11 x12 x13 x14 x32 : Int) (x33 : Bool) (b0 : aB) : Le (Option.map stringslite_HasPrefix_out (j4 k4 x1 x2 x3 x10 x11 x12 x13 x14 x32 x33 b0)) (aA9 x1 x2 (List.map aK.enc x3) x10 x11 x12 x13 x14 x32 x33 (aB.enc b0)) := by
 refine Le.trans ?_ (le_of_eq ((aZ aht).trans (aCN ..)).symm)
 unfold j4
 refine lG (by simp only [EN]) ?_
 refine lG (by simp only [EN]) ?_
 refine lD (by simp only [EN]) ?_ ?_
 ·refine lG (by simp only [EN]) ?_
  refine lG (by simp only [EN]) ?_
  refine lD (by simp only [EN]) ?_ ?_
  ·refine lG (by simp only [EN]) ?_
   refine lD (by simp only [EN]) ?_ ?_
   ·refine lG (by simp only [EN]) ?_
    (try simp only [EN]); exact lJ _ hk4 x1 x2 x3 (w6 (x10 + 1)) x11 x12 (w6 (x13 + (w6 (List.getD x3 (Int.toNat x14) default).Later))) x14 x32 x33 b0 ((aA.mk ([116] : Str) [] (w6 (Int.tmod (IntKind.wrap .u64 (List.getD x3 (Int.toNat x14) default).Level) 3)) false 0 (w6 ((w6 (x13 + (w6 (List.getD x3 (Int.toNat x14) default).Later))) + (List.getD x3 (Int.toNat x14) default).Life)) [] (w6 (x10 + 1)) []))
   ·(try simp only [EN]); exact lJ _ hk4 x1 x2 x3 (w6 (x10 + 1)) x11 x12 (w6 (x13 + (w6 (List.getD x3 (Int.toNat x14) default).Later))) x14 x32 x33 b0 ((aA.mk ([116] : Str) [] (w6 (Int.tmod (IntKind.wrap .u64 (List.getD x3 (Int.toNat x14) default).Level) 3)) false 0 0 [] (w6 (x10 + 1)) []))
  ·(try simp only [EN]); exact lJ _ hk4 x1 x2 x3 (w6 (x10 + 1)) x11 x12 (w6 (x13 + (w6 (List.getD x3 (Int.toNat x14) default).Later))) x14 x32 x33 b0 ((aA.mk ([116] : Str) [] (w6 (Int.tmod (IntKind.wrap .u64 (List.getD x3 (Int.toNat x14) default).Level) 3)) false 0 0 [] (w6 (x10 + 1)) []))
 ·refine lG (by simp only [EN]) ?_
  refine lQ eX agX (by (try simp only [EN]); exact ah4 b0 (List.getD x3 (Int.toNat x14) default) (w6 (x13 + (w6 (List.getD x3 (Int.toNat x14) default).Later)))) fun r3 _ => ?_
  refine lC ?_ ?_
  ·exact aJ rfl
  ·(try simp only [EN]); exact zK fuel _ hk4 x1 x2 x3 x10 x11 x12 (w6 (x13 + (w6 (List.getD x3 (Int.toNat x14) default).Later))) x14 0 x32 x33 r3.1 r3.2.1
theorem aab : ∀ (fu : Nat) (x1 x2 : Int) (x3 : List aK) (x10 x11 x12 x13 x14 : Int) (b0 : aB), Le (Option.map stringslite_HasPrefix_out (eC fu x1 x2 x3 x10 x11 x12 x13 x14 b0)) (af7 x1 x2 (List.map aK.enc x3) x10 x11 x12 x13 x14 (aB.enc b0)) := by
 intro fu
 induction fu with
 | zero => intros; exact le_none
 | succ fu ih =>
  intro x1 x2 x3 x10 x11 x12 x13 x14 b0
  refine Le.trans ?_ (le_of_eq ((aZ aht).trans (aC2 ..)).symm)
  unfold eC
  refine lD (by simp only [EN]) ?_ ?_
  ·refine lC ?_ ?_
   ·exact aas _ (ih) x1 x2 x3 x10 x11 x12 x13 x14 x14 (decide (x14 < 60)) b0
   ·refine lQ eX stringslite_HasPrefix_inj (bY) fun r1 _ => ?_
    exact aJ rfl
  ·refine lQ eX stringslite_HasPrefix_inj (bY) fun r2 _ => ?_
   exact aJ rfl
theorem abq (p0 p1 p2 : Int) (p3 : List aK) : Le (Option.map stringslite_HasPrefix_out (lT p0 p1 p2 p3)) (bA SE 11 [.d (.int .u8 p0), .d (.int .i64 p1), .d (.int .i64 p2), .d (.sl aK.ks (List.map aK.enc p3))] [] []) := by
 refine aV aht rfl ?_
 refine Le.trans ?_ (le_of_eq (T11 ..).symm)
 unfold lT
 refine lQ eX gB (by (try simp only [EN]); exact aaT ((aC.mk 1 0 false (aA.mk [] [] 0 false 0 0 [] 0 []) ([99] : Str) [] false 0 9 (w6 (1 + (Int.tmod (w6 p0) 32))) (aT.mk false 0 (aA.mk [] [] 0 false 0 0 [] 0 [])) false 0 [] [] [])) 1) fun r0 _ => ?_
 exact aab fuel p1 p2 p3 0 0 0 0 0 r0
section
variable (Γ : Fun)  (Λ2 J : Lam)
def awY : aP := aQ Γ
end
abbrev aFW : aP := awY gG
section
variable (Γ : Fun)  (Λ2 J : Lam)
def ayx : aP := aQ Γ
end
abbrev aF8 : aP := ayx gG
def aj2 (C : aP) (Λ2 J : Lam) (a0 : Str) (a1 : Int) : Res := lab SE C Λ2 J 48 0 [1, 1, 0, 1, 0] (aW [(0, .d (.str a0)), (3, .d (.int .i64 a1))] [] [] [] [])
def avK (C : aP) (Λ2 J : Lam) (a0 : Str) : Res := lab SE C Λ2 J 48 0 [1, 1, 0, 0] (aW [(0, .d (.str a0))] [] [] [] [])
section
variable (Γ : Fun) (γ100 γ101 : Gm (Bool)) (Λ2 J : Lam)
def C48 : aP := aY (aY (aQ Γ) 100 stringslite_HasPrefix_out γ100) 101 stringslite_HasPrefix_out γ101
end
abbrev X48 : aP := C48 gG (cT 100 stringslite_HasPrefix_out) (cT 101 stringslite_HasPrefix_out)
abbrev aCY := aj2 X48 (bP SE gG (SE.hl 48) (SE.hr 48)) (J0 SE X48)
abbrev aDB := avK X48 (bP SE gG (SE.hl 48) (SE.hr 48)) (J0 SE X48)
def arI (C : aP) (Λ2 J : Lam) (a0 : Str) (a1 a2 : Int) : Res := lab SE C Λ2 J 99 0 [1, 0, 1, 0] (aW [(0, .d (.str a0)), (1, .d (.int .u8 a1)), (5, .d (.int .i64 a2))] [] [] [] [])
section
variable (Γ : Fun)  (Λ2 J : Lam)
def C99 : aP := aQ Γ
end
abbrev X99 : aP := C99 gG
abbrev aBf := arI X99 (bP SE gG (SE.hl 99) (SE.hr 99)) (J0 SE X99)
def aks (C : aP) (Λ2 J : Lam) (a0 : Str) (a1 a2 : Int) (a3 : List (List D)) : Res := lab SE C Λ2 J 150 0 [1, 1, 1, 0, 1, 0] (aW [(0, .d (.str a0)), (3, .row 3003), (4, .d (.int .i64 a1)), (5, .d (.int .i64 a2))] [] [] [] [(3003, ⟨[.str], 9, 16, a3⟩)])
section
variable (Γ : Fun)  (Λ2 J : Lam)
def alS : aP := aQ Γ
end
abbrev atw : aP := alS gG
abbrev ayR := aks atw (bP SE gG (SE.hl 150) (SE.hr 150)) (J0 SE atw)
section
variable (Γ : Fun) (γ99 : Gm (Bool)) (γ150 : Gm ((List Str))) (Λ2 J : Lam)
def C98 : aP := aY (aY (aQ Γ) 99 stringslite_HasPrefix_out γ99) 150 dO γ150
end
abbrev X98 : aP := C98 gG (cT 99 stringslite_HasPrefix_out) (cT 150 dO)
section
variable (Γ : Fun) (γ98 γ99 : Gm (Bool)) (Λ2 J : Lam)
def C47 : aP := aY (aY (aQ Γ) 98 stringslite_HasPrefix_out γ98) 99 stringslite_HasPrefix_out γ99
end
abbrev X47 : aP := C47 gG (cT 98 stringslite_HasPrefix_out) (cT 99 stringslite_HasPrefix_out)
def aac (C : aP) (Λ2 J : Lam) (a0 : Str) (a1 : Int) : Res := lab SE C Λ2 J 102 0 [1, 1, 0, 1, 0] (aW [(0, .d (.str a0)), (3, .d (.int .i64 a1))] [] [] [] [])
def ar6 (C : aP) (Λ2 J : Lam) (a0 : Str) : Res := lab SE C Λ2 J 102 0 [1, 1, 0, 0] (aW [(0, .d (.str a0))] [] [] [] [])
section
variable (Γ : Fun)  (Λ2 J : Lam)
def aa6 : aP := aQ Γ
end
abbrev anE : aP := aa6 gG
abbrev awB := aac anE (bP SE gG (SE.hl 102) (SE.hr 102)) (J0 SE anE)
abbrev aAy := ar6 anE (bP SE gG (SE.hl 102) (SE.hr 102)) (J0 SE anE)
def am3 (C : aP) (Λ2 J : Lam) (a0 : List (List D)) (a1 : Int) : Res := lab SE C Λ2 J 49 0 [1, 1, 0, 1, 0] (aW [(0, .d (.sl aG.ks a0)), (3, .d (.int .i64 a1))] [] [] [] [])
section
variable (Γ : Fun) (γ102 : Gm (Bool)) (Λ2 J : Lam)
def C49 : aP := aY (aQ Γ) 102 stringslite_HasPrefix_out γ102
end
abbrev X49 : aP := C49 gG (cT 102 stringslite_HasPrefix_out)
abbrev aDC := am3 X49 (bP SE gG (SE.hl 49) (SE.hr 49)) (J0 SE X49)
def aoi (C : aP) (Λ2 J : Lam) (a0 : List D) : Res := lab SE C Λ2 J 13 0 [1, 1, 1, 1, 1, 1, 0, 0] (aW [(1, .ptr 1000000000 0)] [⟨34, (List.map AV.d a0)⟩] [] [] [])
def avJ (C : aP) (Λ2 J : Lam) (a0 : List D) : Res := lab SE C Λ2 J 13 0 [1, 1, 1, 1, 1, 0, 0] (aW [(1, .ptr 1000000000 0)] [⟨34, (List.map AV.d a0)⟩] [] [] [])
def avH (C : aP) (Λ2 J : Lam) (a0 : List D) : Res := lab SE C Λ2 J 13 0 [1, 1, 1, 1, 0, 0] (aW [(1, .ptr 1000000000 0)] [⟨34, (List.map AV.d a0)⟩] [] [] [])
section
variable (Γ : Fun) (γ47 γ48 : Gm (Bool)) (γ49 : Gm (Int)) (Λ2 J : Lam)
def C13 : aP := aY (aY (aY (aQ Γ) 47 stringslite_HasPrefix_out γ47) 48 stringslite_HasPrefix_out γ48) 49 stringslite_IndexByte_out γ49
end
abbrev X13 : aP := C13 gG (cT 47 stringslite_HasPrefix_out) (cT 48 stringslite_HasPrefix_out) (cT 49 stringslite_IndexByte_out)
abbrev aw8 := aoi X13 (bP SE gG (SE.hl 13) (SE.hr 13)) (J0 SE X13)
abbrev aCJ := avJ X13 (bP SE gG (SE.hl 13) (SE.hr 13)) (J0 SE X13)
abbrev aCI := avH X13 (bP SE gG (SE.hl 13) (SE.hr 13)) (J0 SE X13)
def anO (C : aP) (Λ2 J : Lam) (a0 a1 : Int) (a2 : List D) : Res := lab SE C Λ2 J 148 0 [1, 0, 1, 0] (aW [(1, .d (.int .i64 a0)), (2, .ptr 1000000000 0), (5, .d (.int .i64 a1))] [⟨27, (List.map AV.d a2)⟩] [] [] [])
section
variable (Γ : Fun)  (Λ2 J : Lam)
def anA : aP := aQ Γ
end
abbrev atc : aP := anA gG
abbrev azI := anO atc (bP SE gG (SE.hl 148) (SE.hr 148)) (J0 SE atc)
section
variable (Γ : Fun)  (Λ2 J : Lam)
def C53 : aP := aQ Γ
end
abbrev X53 : aP := C53 gG
def aj3 (C : aP) (Λ2 J : Lam) (a0 a1 : Int) (a2 a3 : List D) (a4 : List (List D)) : Res := lab SE C Λ2 J 158 0 [1, 1, 0, 1, 0] (aW [(1, .d (.int .i64 a0)), (2, .ptr 1000000000 0), (4, .ptr 1000000001 0), (6, .row 3006), (7, .d (.int .i64 a1))] [⟨27, (List.map AV.d a2)⟩, ⟨27, (List.map AV.d a3)⟩] [] [] [(3006, ⟨[.int .i64], 3, 8, a4⟩)])
section
variable (Γ : Fun)  (Λ2 J : Lam)
def aly : aP := aQ Γ
end
abbrev auz : aP := aly gG
abbrev azY := aj3 auz (bP SE gG (SE.hl 158) (SE.hr 158)) (J0 SE auz)
section
variable (Γ : Fun) (γ158 : Gm (aN × Bool)) (Λ2 J : Lam)
def auT : aP := aY (aQ Γ) 158 fY γ158
end
abbrev ayi : aP := auT gG (cT 158 fY)
section
variable (Γ : Fun)  (Λ2 J : Lam)
def C88 : aP := aQ Γ
end
abbrev X88 : aP := C88 gG
section
variable (Γ : Fun)  (Λ2 J : Lam)
def C89 : aP := aQ Γ
end
abbrev X89 : aP := C89 gG
section
variable (Γ : Fun)  (Λ2 J : Lam)
def azG : aP := aQ Γ
end
abbrev aGi : aP := azG gG
def as4 (C : aP) (Λ2 J : Lam) (a0 : List (List D)) (a1 a2 : Int) (a3 : List (List D)) (a4 a5 a6 : Int) (a7 : Bool) (a8 : List (List D)) : Res := lab SE C Λ2 J 174 0 [1, 1, 1, 0, 0, 0, 1, 0, 0] (aW [(0, .d (.sl [.int .i64] a0)), (1, .d (.int .i64 a1)), (5, .row 3005), (6, .d (.int .i64 a2)), (12, .d (.sl [.int .i64] a3)), (13, .d (.int .i64 a4)), (15, .d (.int .i64 a5)), (16, .d (.int .i64 a6)), (17, .d (.bool a7))] [] [] [] [(3005, ⟨[.int .i64], 3, 8, a8⟩)])
def apc (C : aP) (Λ2 J : Lam) (a0 : List (List D)) (a1 a2 : Int) (a3 : List (List D)) : Res := lab SE C Λ2 J 174 0 [1, 1, 1, 1, 0] (aW [(0, .d (.sl [.int .i64] a0)), (1, .d (.int .i64 a1)), (5, .row 3005), (6, .d (.int .i64 a2))] [] [] [] [(3005, ⟨[.int .i64], 3, 8, a3⟩)])
def apl (C : aP) (Λ2 J : Lam) (a0 : List (List D)) (a1 a2 : Int) (a3 : List (List D)) : Res := lab SE C Λ2 J 174 0 [1, 1, 1, 0, 0] (aW [(0, .d (.sl [.int .i64] a0)), (1, .d (.int .i64 a1)), (5, .row 3005), (6, .d (.int .i64 a2))] [] [] [] [(3005, ⟨[.int .i64], 3, 8, a3⟩)])
section
variable (Γ : Fun)  (Λ2 J : Lam)
def ad8 : aP := aQ Γ
end
abbrev ajJ : aP := ad8 gG
abbrev axi := as4 ajJ (bP SE gG (SE.hl 174) (SE.hr 174)) (J0 SE ajJ)
abbrev azb := apc ajJ (bP SE gG (SE.hl 174) (SE.hr 174)) (J0 SE ajJ)
abbrev asR := apl ajJ (bP SE gG (SE.hl 174) (SE.hr 174)) (J0 SE ajJ)
def anP (C : aP) (Λ2 J : Lam) (a0 : Int) (a1 a2 : List D) : Res := lab SE C Λ2 J 145 0 [1, 1, 1, 1, 0] (aW [(1, .ptr 1000000000 0), (3, .ptr 1000000001 0), (5, .d (.int .i64 a0))] [⟨27, (List.map AV.d a1)⟩, ⟨27, (List.map AV.d a2)⟩] [] [] [])
def aoU (C : aP) (Λ2 J : Lam) (a0 a1 : Int) (a2 a3 : List D) : Res := lab SE C Λ2 J 145 0 [1, 1, 1, 0, 1, 0] (aW [(1, .ptr 1000000000 0), (3, .ptr 1000000001 0), (5, .d (.int .i64 a0)), (6, .d (.int .i64 a1))] [⟨27, (List.map AV.d a2)⟩, ⟨27, (List.map AV.d a3)⟩] [] [] [])
section
variable (Γ : Fun) (γ173 : Gm (Int)) (γ148 : Gm (Bool)) (γ174 : Gm ((List Int))) (Λ2 J : Lam)
def afY : aP := aY (aY (aY (aQ Γ) 173 stringslite_IndexByte_out γ173) 148 stringslite_HasPrefix_out γ148) 174 bI γ174
end
abbrev ali : aP := afY gG (cT 173 stringslite_IndexByte_out) (cT 148 stringslite_HasPrefix_out) (cT 174 bI)
abbrev aAm := anP ali (bP SE gG (SE.hl 145) (SE.hr 145)) (J0 SE ali)
abbrev azh := aoU ali (bP SE gG (SE.hl 145) (SE.hr 145)) (J0 SE ali)
section
variable (Γ : Fun)  (Λ2 J : Lam)
def axT : aP := aQ Γ
end
abbrev aEl : aP := axT gG
section
variable (Γ : Fun) (γ89 γ13 : Gm (Int)) (γ145 : Gm (Int × aN × Int)) (γ146 : Gm (aC)) (Λ2 J : Lam)
def C90 : aP := aY (aY (aY (aY (aQ Γ) 89 stringslite_IndexByte_out γ89) 13 stringslite_IndexByte_out γ13) 145 eZ γ145) 146 eK γ146
end
abbrev X90 : aP := C90 gG (cT 89 stringslite_IndexByte_out) (cT 13 stringslite_IndexByte_out) (cT 145 eZ) (cT 146 eK)
def akA (C : aP) (Λ2 J : Lam) (a0 : Int) (a1 a2 : List D) (a3 : List (List D)) : Res := lab SE C Λ2 J 35 0 [1, 1, 1, 0, 0] (aW [(1, .d (.int .i64 a0)), (2, .ptr 1000000000 0), (4, .ptr 1000000001 0), (6, .row 3006)] [⟨38, (List.map AV.d a1)⟩, ⟨38, (List.map AV.d a2)⟩] [] [] [(3006, ⟨aC.ks, 49, 416, a3⟩)])
section
variable (Γ : Fun) (γ88 : Gm (Bool)) (γ53 : Gm (aB)) (γ89 : Gm (Int)) (γ90 : Gm (aI × aC × Int)) (Λ2 J : Lam)
def C35 : aP := aY (aY (aY (aY (aQ Γ) 88 stringslite_HasPrefix_out γ88) 53 bR γ53) 89 stringslite_IndexByte_out γ89) 90 gS γ90
end
abbrev X35 : aP := C35 gG (cT 88 stringslite_HasPrefix_out) (cT 53 bR) (cT 89 stringslite_IndexByte_out) (cT 90 gS)
abbrev aCh := akA X35 (bP SE gG (SE.hl 35) (SE.hr 35)) (J0 SE X35)
section
variable (Γ : Fun)  (Λ2 J : Lam)
def C82 : aP := aQ Γ
end
abbrev X82 : aP := C82 gG
section
variable (Γ : Fun) (γ82 : Gm (aI)) (Λ2 J : Lam)
def C32 : aP := aY (aQ Γ) 82 bX γ82
end
abbrev X32 : aP := C32 gG (cT 82 bX)
end Te
end PX
