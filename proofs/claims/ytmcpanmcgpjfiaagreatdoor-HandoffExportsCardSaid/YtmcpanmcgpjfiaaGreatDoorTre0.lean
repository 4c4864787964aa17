import Derived.Test.YtmcpanmcgpjfiaaGreatDoorTab
set_option linter.unusedVariables false
set_option linter.unusedSimpArgs false
set_option maxRecDepth 100000
noncomputable section
namespace PX
open Go
open Md
namespace Te
abbrev cE {α : Type} (f : α → List D) (l : List α) (i : Int) (k : Nat) : D := cellAt (elemAt (List.map f l) (Int.toNat i)) k
abbrev lM {α : Type} (f : α → List D) (l : List α) : Nat := List.length (List.map f l)
abbrev iB (i n : Int) : Bool := decide (0 ≤ i) && decide (i < n)
abbrev w6 (x : Int) : Int := IntKind.wrap .i64 x
abbrev eI : Int → List D := encI .i64
abbrev rB (b : Bool) : Res := some (.ret [.d (.bool b)] [] [])
abbrev rI (n : Int) : Res := some (.ret [.d (.int .i64 n)] [] [])
theorem lQ {g : FuncId} {R S : Type} {out : R → Out} {e : S → Out} {x : Option R} {M : R → Option S} {a : List AV} {b : List Bx} {r : List Rw} {κ : R → Res} (hg : ∀ y, good g (out y)) (hi : ∀ y z, out y = out z → y = z) (h : Le (x.map out) (bF SE g a b r)) (hk : ∀ y, x = some y → Le ((M y).map e) (κ y)) : Le ((x.bind M).map e) (aio SE good g out a b r κ) := avE (good := good) hg hi h hk
section
variable (Γ : Fun)  (Λ2 J : Lam)
def C17 : aN := aR Γ
theorem T17 (p0 : aI) : bG SE (C17 Γ) Λ2 J 17 [aI.av p0] [] [] =
 cond (decide ((lM aC.enc p0.Queue : Int) ≤ 60)) (
 cond (decide ((lM aK.enc p0.Subs : Int) ≤ 60)) (
  cond (decide ((lM aE.enc p0.Out.Items : Int) ≤ 60)) (
  cond (decide ((lM eI p0.In.IDs : Int) ≤ 60)) (
   (rB (decide ((lM eI p0.Out.Pool.Used : Int) ≤ 60)))) (
  (rB false))) (
  (rB false))) (
 (rB false))) (
 (rB false)) := by kernel_rfl
end
abbrev X17 : aN := C17 gG
theorem aEE : X17 = aR gG := rfl
theorem aaI (p0 : aI) : Le (Option.map brokerlaw43_light_out (mW p0)) (bF SE 17 [aI.av p0] [] []) := by
 refine aV aEE rfl ?_
 refine Le.trans ?_ (le_of_eq (T17 ..).symm)
 unfold mW
 refine lD (by simp only [EN]) ?_ ?_
 ·refine lD (by simp only [EN]) ?_ ?_
  ·refine lD (by simp only [EN]) ?_ ?_
   ·refine lD (by simp only [EN]) ?_ ?_
    ·exact aJ (by first | rfl | simp only [EN, brokerlaw43_light_out] <;> rfl)
    ·exact aJ rfl
   ·exact aJ rfl
  ·exact aJ rfl
 ·exact aJ rfl
def apV (C : aN) (Λ2 J : Lam) (a0 a1 : Int) (a2 : Bool) (a3 : Str) (a4 : Nat) : Res := lab SE C Λ2 J 32 0 [1, 1, 0, 1, 0, 0, 1, 1, 0, 1, 1, 0] (aU [(3, .d (.int .i64 a0)), (4, .d (.int .i32 a1)), (5, .d (.bool a2)), (15, .it 4000)] [] [] [(4000, (a3, a4))] [])
def aj2 (C : aN) (Λ2 J : Lam) (a0 : Str) (a1 : Nat) : Res := lab SE C Λ2 J 32 0 [1, 1, 0, 1, 0] (aU [(15, .it 4000)] [] [] [(4000, (a0, a1))] [])
def au2 (C : aN) (Λ2 J : Lam) (a0 : Str) : Res := lab SE C Λ2 J 32 0 [1, 1, 0, 0] (aU [(0, .d (.str a0))] [] [] [] [])
section
variable (Γ : Fun)  (Λ2 J : Lam)
def C32 : aN := aR Γ
theorem T32 (p0 : Str) : bG SE (C32 Γ) Λ2 J 32 [.d (.str p0)] [] [] =
 cond (decide ((List.length p0 : Int) < 1)) (
 (rB false)) (
 cond (decide ((List.length p0 : Int) > 16)) (
 (rB false)) (
 au2 (C32 Γ) Λ2 J p0)) := by kernel_rfl
theorem aCS (x3 x4 : Int) (x5 : Bool) (s4000 : Str) (i4000 : Nat) : bS SE (C32 Γ) Λ2 J 32 0 [1, 1, 0, 1, 0, 0, 1, 1, 0, 1, 1, 0] (aU [(3, .d (.int .i64 x3)), (4, .d (.int .i32 x4)), (5, .d (.bool x5)), (15, .it 4000)] [] [] [(4000, (s4000, i4000))] []) =
 cond (!x5) (
 cond (x3 == 0) (
  (rB false)) (
 cond (x4 != 45) (
  cond (decide (x4 < 48)) (
  (rB false)) (
  cond (decide (x4 > 57)) (
  (rB false)) (
  aj2 (C32 Γ) Λ2 J s4000 i4000))) (
 aj2 (C32 Γ) Λ2 J s4000 i4000))) (
 aj2 (C32 Γ) Λ2 J s4000 i4000) := by kernel_rfl
theorem aAO (s4000 : Str) (i4000 : Nat) : bS SE (C32 Γ) Λ2 J 32 0 [1, 1, 0, 1, 0] (aU [(15, .it 4000)] [] [] [(4000, (s4000, i4000))] []) =
 cond (decide (i4000 < List.length s4000)) (
 cond (decide (((dec s4000 i4000).1 : Int) ≥ 97)) (
  apV (C32 Γ) Λ2 J (i4000 : Int) ((dec s4000 i4000).1 : Int) (decide (((dec s4000 i4000).1 : Int) ≤ 122)) s4000 (i4000 + (dec s4000 i4000).2)) (
 apV (C32 Γ) Λ2 J (i4000 : Int) ((dec s4000 i4000).1 : Int) false s4000 (i4000 + (dec s4000 i4000).2))) (
 (rB true)) := by kernel_rfl
theorem aC4 (x0 : Str) : bS SE (C32 Γ) Λ2 J 32 0 [1, 1, 0, 0] (aU [(0, .d (.str x0))] [] [] [] []) =
 aj2 (C32 Γ) Λ2 J x0 0 := by kernel_rfl
end
abbrev X32 : aN := C32 gG
theorem aqH : X32 = aR gG := rfl
abbrev aAw := apV X32 (bR SE gG (SE.hl 32) (SE.hr 32)) (J0 SE X32)
abbrev au3 := aj2 X32 (bR SE gG (SE.hl 32) (SE.hr 32)) (J0 SE X32)
abbrev aAX := au2 X32 (bR SE gG (SE.hl 32) (SE.hr 32)) (J0 SE X32)
theorem adE (k4 : Str → Nat → Option (Bool)) (hk4 : ∀ (s4000 : Str) (i4000 : Nat), Le (Option.map brokerlaw43_light_out (k4 s4000 i4000)) (au3 s4000 i4000)) (x3 x4 : Int) (x5 : Bool) (s4000 : Str) (i4000 : Nat) : Le (Option.map brokerlaw43_light_out (pE k4 x3 x4 x5 s4000 i4000)) (aAw x3 x4 x5 s4000 i4000) := by
 refine Le.trans ?_ (le_of_eq ((aX aqH).trans (aCS ..)).symm)
 unfold pE
 refine lC ?_ ?_
 ·refine lC ?_ ?_
  ·exact aJ rfl
  ·refine lC ?_ ?_
   ·refine lC ?_ ?_
    ·exact aJ rfl
    ·refine lC ?_ ?_
     ·exact aJ rfl
     ·exact hk4 s4000 i4000
   ·exact hk4 s4000 i4000
 ·exact hk4 s4000 i4000
theorem ajX : ∀ (fu : Nat) (s4000 : Str) (i4000 : Nat), Le (Option.map brokerlaw43_light_out (lH fu s4000 i4000)) (au3 s4000 i4000) := by
 intro fu
 induction fu with
 | zero => intros; exact le_none
 | succ fu ih =>
  intro s4000 i4000
  refine Le.trans ?_ (le_of_eq ((aX aqH).trans (aAO ..)).symm)
  unfold lH
  refine lC ?_ ?_
  ·refine lC ?_ ?_
   ·exact adE _ (ih) (i4000 : Int) ((dec s4000 i4000).1 : Int) (decide (((dec s4000 i4000).1 : Int) ≤ 122)) s4000 (i4000 + (dec s4000 i4000).2)
   ·exact adE _ (ih) (i4000 : Int) ((dec s4000 i4000).1 : Int) false s4000 (i4000 + (dec s4000 i4000).2)
  ·exact aJ rfl
theorem aju (x0 : Str) : Le (Option.map brokerlaw43_light_out (yV x0)) (aAX x0) := by
 refine Le.trans ?_ (le_of_eq ((aX aqH).trans (aC4 ..)).symm)
 unfold yV
 exact ajX fuel x0 0
theorem rX (p0 : Str) : Le (Option.map brokerlaw43_light_out (oD p0)) (bF SE 32 [.d (.str p0)] [] []) := by
 refine aV aqH rfl ?_
 refine Le.trans ?_ (le_of_eq (T32 ..).symm)
 unfold oD
 refine lC ?_ ?_
 ·exact aJ rfl
 ·refine lC ?_ ?_
  ·exact aJ rfl
  ·exact aju p0
section
variable (Γ : Fun)  (Λ2 J : Lam)
def C78 : aN := aR Γ
theorem T78 (p0 : aA) : bG SE (C78 Γ) Λ2 J 78 [aA.av p0] [] [] =
 (some (.ret [.d (.str p0.Client)] [] [])) := by kernel_rfl
end
abbrev X78 : aN := C78 gG
theorem aFA : X78 = aR gG := rfl
theorem aaY (p0 : aA) : Le (Option.map kG (nJ p0)) (bF SE 78 [aA.av p0] [] []) := by
 refine aV aFA rfl ?_
 refine Le.trans ?_ (le_of_eq (T78 ..).symm)
 unfold nJ
 exact aJ rfl
def arc (C : aN) (Λ2 J : Lam) (a0 : List (List D)) (a1 : Str) (a2 : Int) : Res := lab SE C Λ2 J 77 0 [1, 1, 1, 0] (aU [(0, .d (.sl aA.ks a0)), (1, .d (.str a1)), (2, .fn 78 [] []), (8, .d (.int .i64 a2))] [] [] [] [])
def aqn (C : aN) (Λ2 J : Lam) (a0 : List (List D)) (a1 : Str) (a2 : Int) : Res := lab SE C Λ2 J 77 0 [1, 1, 0, 0] (aU [(0, .d (.sl aA.ks a0)), (1, .d (.str a1)), (2, .fn 78 [] []), (8, .d (.int .i64 a2))] [] [] [] [])
section
variable (Γ : Fun) (γ78 : Gm (Str)) (Λ2 J : Lam)
def C77 : aN := bA (aR Γ) 78 kG γ78
theorem T77 (p0 : List aA) (p1 : Str) : bG SE (C77 Γ γ78) Λ2 J 77 [.d (.sl aA.ks (List.map aA.enc p0)), .d (.str p1), .fn 78 [] []] [] [] =
 aqn (C77 Γ γ78) Λ2 J (List.map aA.enc p0) p1 0 := by kernel_rfl
theorem aAF (x0 : List aA) (x1 : Str) (x8 : Int) : bS SE (C77 Γ γ78) Λ2 J 77 0 [1, 1, 1, 0] (aU [(0, .d (.sl aA.ks (List.map aA.enc x0))), (1, .d (.str x1)), (2, .fn 78 [] []), (8, .d (.int .i64 x8))] [] [] [] []) =
 cond (decide (x8 < (lM aA.enc x0 : Int))) (
 cond (iB x8 (lM aA.enc x0 : Int)) (
  γ78 [.agg [.d (.str (bL (cE aA.enc x0 x8 0))), .d (.int .i64 (aW (cE aA.enc x0 x8 1))), .d (.int .i64 (aW (cE aA.enc x0 x8 2)))]] [] [] fun r1 =>
  (some (.ret [.d (.int .i64 x8), .d (.bool (r1 == x1))] [] []))) none) (
 (some (.ret [.d (.int .i64 x8), .d (.bool false)] [] []))) := by kernel_rfl
theorem aCm (x0 : List aA) (x1 : Str) (x8 : Int) : bS SE (C77 Γ γ78) Λ2 J 77 0 [1, 1, 0, 0] (aU [(0, .d (.sl aA.ks (List.map aA.enc x0))), (1, .d (.str x1)), (2, .fn 78 [] []), (8, .d (.int .i64 x8))] [] [] [] []) =
 cond (decide (x8 < (lM aA.enc x0 : Int))) (
 cond (iB x8 (lM aA.enc x0 : Int)) (
  γ78 [.agg [.d (.str (bL (cE aA.enc x0 x8 0))), .d (.int .i64 (aW (cE aA.enc x0 x8 1))), .d (.int .i64 (aW (cE aA.enc x0 x8 2)))]] [] [] fun r0 =>
  cond (Op.bytesLess r0 x1) (
  aqn (C77 Γ γ78) Λ2 J (List.map aA.enc x0) x1 (w6 (x8 + 1))) (
  arc (C77 Γ γ78) Λ2 J (List.map aA.enc x0) x1 x8)) none) (
 arc (C77 Γ γ78) Λ2 J (List.map aA.enc x0) x1 x8) := by kernel_rfl
end
abbrev X77 : aN := C77 gG (cT 78 kG)
theorem asK : X77 = aR gG := by unfold X77 C77; rw [bD fun _ h => h]
abbrev aAi := arc X77 (bR SE gG (SE.hl 77) (SE.hr 77)) (J0 SE X77)
abbrev aBD := aqn X77 (bR SE gG (SE.hl 77) (SE.hr 77)) (J0 SE X77)
theorem tR (x0 : List aA) (x1 : Str) (x8 : Int) : Le (Option.map cF (jV x0 x1 x8)) (aAi (List.map aA.enc x0) x1 x8) := by
 refine Le.trans ?_ (le_of_eq ((aX asK).trans (aAF ..)).symm)
 unfold jV
 refine lD (by simp only [EN]) ?_ ?_
 ·refine lG (by simp only [EN]) ?_
  refine lQ eX aat (by (try simp only [EN]); exact aaY (List.getD x0 (Int.toNat x8) default)) fun r1 _ => ?_
  exact aJ rfl
 ·exact aJ rfl
theorem aa5 : ∀ (fu : Nat) (x0 : List aA) (x1 : Str) (x8 : Int), Le (Option.map cF (eO fu x0 x1 x8)) (aBD (List.map aA.enc x0) x1 x8) := by
 intro fu
 induction fu with
 | zero => intros; exact le_none
 | succ fu ih =>
  intro x0 x1 x8
  refine Le.trans ?_ (le_of_eq ((aX asK).trans (aCm ..)).symm)
  unfold eO
  refine lD (by simp only [EN]) ?_ ?_
  ·refine lG (by simp only [EN]) ?_
   refine lQ eX aat (by (try simp only [EN]); exact aaY (List.getD x0 (Int.toNat x8) default)) fun r0 _ => ?_
   refine lC ?_ ?_
   ·exact ih x0 x1 (w6 (x8 + 1))
   ·exact tR x0 x1 x8
  ·exact tR x0 x1 x8
theorem v5 (p0 : List aA) (p1 : Str) : Le (Option.map cF (kZ p0 p1)) (bF SE 77 [.d (.sl aA.ks (List.map aA.enc p0)), .d (.str p1), .fn 78 [] []] [] []) := by
 refine aV asK rfl ?_
 refine Le.trans ?_ (le_of_eq (T77 ..).symm)
 unfold kZ
 exact aa5 fuel p0 p1 0
section
variable (Γ : Fun)  (Λ2 J : Lam)
def C79 : aN := aR Γ
theorem T79 (p0 : List aA) : bG SE (C79 Γ) Λ2 J 79 [.d (.sl aA.ks (List.map aA.enc p0))] [] [] =
 cond (List.isEmpty (List.map aA.enc p0)) (
 ace (
  (some (.ret [.row 0] [] [⟨aA.ks, 24, 32, []⟩]))) (
  cond (decide ((lM aA.enc [] + lM aA.enc p0) * 32 ≤ 140737488355328)) (
  (some (.ret [.row 0] [] [⟨aA.ks, 24, 32, ((List.map aA.enc []) ++ (List.map aA.enc p0))⟩]))) none)) (
 cond (decide ((lM aA.enc [] + lM aA.enc p0) * 32 ≤ 140737488355328)) (
 (some (.ret [.row 0] [] [⟨aA.ks, 24, 32, ((List.map aA.enc []) ++ (List.map aA.enc p0))⟩]))) none) := by kernel_rfl
end
abbrev X79 : aN := C79 gG
theorem aFo : X79 = aR gG := rfl
theorem oT (p0 : List aA) : Le (Option.map aT (eN p0)) (bF SE 79 [.d (.sl aA.ks (List.map aA.enc p0))] [] []) := by
 refine aV aFo rfl ?_
 refine Le.trans ?_ (le_of_eq (T79 ..).symm)
 unfold eN
 refine lD (by simp only [EN]) ?_ ?_
 ·refine apB ?_ ?_
  ·exact aJ rfl
  ·refine lG (by simp only [EN]) ?_
   exact aJ rfl
 ·refine lG (by simp only [EN]) ?_
  exact aJ rfl
theorem nW (p0 : List aA) (p1 : Int) (p2 : List aA) : Le (Option.map aT (eH p0 p1 p2)) (bF SE 80 [.row 2000000000, .d (.int .i64 p1), .row 2000000001] [] [⟨aA.ks, 24, 32, (List.map aA.enc p0)⟩, ⟨aA.ks, 24, 32, (List.map aA.enc p2)⟩]) := asy (f := 80) (enc := aA.enc) rfl rfl p0 p1 p2
def akw (C : aN) (Λ2 J : Lam) (a0 : List (List D)) (a1 : Str) (a2 a3 : Int) (a4 : Bool) (a5 : List D) : Res := lab SE C Λ2 J 26 0 [1, 1, 1, 1, 1, 0] (aU [(0, .d (.sl aA.ks a0)), (1, .d (.str a1)), (2, .d (.int .i64 a2)), (7, .ptr 1000000000 0), (9, .d (.int .i64 a3)), (10, .d (.bool a4))] [⟨24, (List.map AV.d a5)⟩] [] [] [])
def au9 (C : aN) (Λ2 J : Lam) (a0 : List (List D)) (a1 : Str) (a2 : Int) (a3 : List D) : Res := lab SE C Λ2 J 26 0 [1, 1, 1, 0] (aU [(0, .d (.sl aA.ks a0)), (1, .d (.str a1)), (2, .d (.int .i64 a2)), (7, .ptr 1000000000 0)] [⟨24, (List.map AV.d a3)⟩] [] [] [])
section
variable (Γ : Fun) (γ32 : Gm (Bool)) (γ77 : Gm (Int × Bool)) (γ79 γ80 : Gm ((List aA))) (Λ2 J : Lam)
def C26 : aN := bA (bA (bA (bA (aR Γ) 32 brokerlaw43_light_out γ32) 77 cF γ77) 79 aT γ79) 80 aT γ80
theorem T26 (p0 : List aA) (p1 : Str) (p2 : Int) : bG SE (C26 Γ γ32 γ77 γ79 γ80) Λ2 J 26 [.d (.sl aA.ks (List.map aA.enc p0)), .d (.str p1), .d (.int .i64 p2)] [] [] =
 γ32 [.d (.str p1)] [] [] fun r0 =>
 cond (!r0) (
 (some (.ret [.row 0, aA.av (aA.mk [] 0 0), .d (.int .i64 11)] [] [⟨aA.ks, 24, 32, []⟩]))) (
 cond (decide (p2 < 0)) (
 (some (.ret [.row 0, aA.av (aA.mk [] 0 0), .d (.int .i64 1)] [] [⟨aA.ks, 24, 32, []⟩]))) (
 cond (decide (p2 ≥ 7)) (
 (some (.ret [.row 0, aA.av (aA.mk [] 0 0), .d (.int .i64 1)] [] [⟨aA.ks, 24, 32, []⟩]))) (
 au9 (C26 Γ γ32 γ77 γ79 γ80) Λ2 J (List.map aA.enc p0) p1 p2 (aA.enc (aA.mk [] 0 0))))) := by kernel_rfl
theorem aCy (x0 : List aA) (x1 : Str) (x2 x9 : Int) (x10 : Bool) (b0 : aA) : bS SE (C26 Γ γ32 γ77 γ79 γ80) Λ2 J 26 0 [1, 1, 1, 1, 1, 0] (aU [(0, .d (.sl aA.ks (List.map aA.enc x0))), (1, .d (.str x1)), (2, .d (.int .i64 x2)), (7, .ptr 1000000000 0), (9, .d (.int .i64 x9)), (10, .d (.bool x10))] [⟨24, (List.map AV.d (aA.enc b0))⟩] [] [] []) =
 γ79 [.d (.sl aA.ks (List.map aA.enc x0))] [] [] fun r2 =>
 cond (!x10) (
 γ80 [.row 2000000000, .d (.int .i64 x9), .row 2000000001] [] [⟨aA.ks, 24, 32, (List.map aA.enc r2)⟩, ⟨aA.ks, 24, 32, (List.map aA.enc [(aA.mk x1 x2 1)])⟩] fun r3 =>
 (some (.ret [.row 0, aA.av (aA.mk x1 x2 1), .d (.int .i64 0)] [] [⟨aA.ks, 24, 32, (List.map aA.enc r3)⟩]))) (
 cond (iB x9 (lM aA.enc x0 : Int)) (
 cond (iB x9 (lM aA.enc r2 : Int)) (
  (some (.ret [.row 0, .agg [.d (.str x1), .d (.int .i64 x2), .d (.int .i64 (w6 ((aW (cE aA.enc x0 x9 2)) + 1)))], .d (.int .i64 0)] [] [⟨aA.ks, 24, 32, (qD (List.map aA.enc r2) (Int.toNat x9) 0 [D.str x1, D.int .i64 x2, D.int .i64 (w6 ((aW (cE aA.enc x0 x9 2)) + 1))])⟩]))) none) none) := by kernel_rfl
theorem aAA (x0 : List aA) (x1 : Str) (x2 : Int) (b0 : aA) : bS SE (C26 Γ γ32 γ77 γ79 γ80) Λ2 J 26 0 [1, 1, 1, 0] (aU [(0, .d (.sl aA.ks (List.map aA.enc x0))), (1, .d (.str x1)), (2, .d (.int .i64 x2)), (7, .ptr 1000000000 0)] [⟨24, (List.map AV.d (aA.enc b0))⟩] [] [] []) =
 γ77 [.d (.sl aA.ks (List.map aA.enc x0)), .d (.str x1), .fn 78 [] []] [] [] fun r1 =>
 cond r1.2 (
 cond (iB r1.1 (lM aA.enc x0 : Int)) (
  cond (decide ((aW (cE aA.enc x0 r1.1 2)) ≥ 1099511627776)) (
  (some (.ret [.row 0, aA.av (aA.mk [] 0 0), .d (.int .i64 6)] [] [⟨aA.ks, 24, 32, []⟩]))) (
  cond (!r1.2) (
  cond (decide ((lM aA.enc x0 : Int) ≥ 32)) (
   (some (.ret [.row 0, aA.av (aA.mk [] 0 0), .d (.int .i64 6)] [] [⟨aA.ks, 24, 32, []⟩]))) (
  akw (C26 Γ γ32 γ77 γ79 γ80) Λ2 J (List.map aA.enc x0) x1 x2 r1.1 r1.2 (aA.enc b0))) (
  akw (C26 Γ γ32 γ77 γ79 γ80) Λ2 J (List.map aA.enc x0) x1 x2 r1.1 r1.2 (aA.enc b0)))) none) (
 cond (!r1.2) (
 cond (decide ((lM aA.enc x0 : Int) ≥ 32)) (
  (some (.ret [.row 0, aA.av (aA.mk [] 0 0), .d (.int .i64 6)] [] [⟨aA.ks, 24, 32, []⟩]))) (
 akw (C26 Γ γ32 γ77 γ79 γ80) Λ2 J (List.map aA.enc x0) x1 x2 r1.1 r1.2 (aA.enc b0))) (
 akw (C26 Γ γ32 γ77 γ79 γ80) Λ2 J (List.map aA.enc x0) x1 x2 r1.1 r1.2 (aA.enc b0))) := by kernel_rfl
end
abbrev X26 : aN := C26 gG (cT 32 brokerlaw43_light_out) (cT 77 cF) (cT 79 aT) (cT 80 aT)
theorem auz : X26 = aR gG := by unfold X26 C26; repeat rw [bD fun _ h => h]
abbrev aAx := akw X26 (bR SE gG (SE.hl 26) (SE.hr 26)) (J0 SE X26)
abbrev aB2 := au9 X26 (bR SE gG (SE.hl 26) (SE.hr 26)) (J0 SE X26)
theorem rP (x0 : List aA) (x1 : Str) (x2 x9 : Int) (x10 : Bool) (b0 : aA) : Le (Option.map cY (lK x0 x1 x2 x9 x10 b0)) (aAx (List.map aA.enc x0) x1 x2 x9 x10 (aA.enc b0)) := by
 refine Le.trans ?_ (le_of_eq ((aX auz).trans (aCy ..)).symm)
 unfold lK
 refine lQ eX bM (oT _) fun r2 _ => ?_
 refine lC ?_ ?_
 ·refine lQ eX bM (nW _ _ _) fun r3 _ => ?_
  exact aJ rfl
 ·refine lG (by simp only [EN]) ?_
  refine lG (by simp only [EN]) ?_
  exact aJ (by first | rfl | simp only [EN, cY] <;> rfl)
theorem agR (x0 : List aA) (x1 : Str) (x2 : Int) (b0 : aA) : Le (Option.map cY (uN x0 x1 x2 b0)) (aB2 (List.map aA.enc x0) x1 x2 (aA.enc b0)) := by
 refine Le.trans ?_ (le_of_eq ((aX auz).trans (aAA ..)).symm)
 unfold uN
 refine lQ eX pD (v5 _ _) fun r1 _ => ?_
 refine lC ?_ ?_
 ·refine lG (by simp only [EN]) ?_
  refine lD (by simp only [EN]) ?_ ?_
  ·exact aJ rfl
  ·refine lC ?_ ?_
   ·refine lD (by simp only [EN]) ?_ ?_
    ·exact aJ rfl
    ·exact rP x0 x1 x2 r1.1 r1.2 b0
   ·exact rP x0 x1 x2 r1.1 r1.2 b0
 ·refine lC ?_ ?_
  ·refine lD (by simp only [EN]) ?_ ?_
   ·exact aJ rfl
   ·exact rP x0 x1 x2 r1.1 r1.2 b0
  ·exact rP x0 x1 x2 r1.1 r1.2 b0
theorem uA (p0 : List aA) (p1 : Str) (p2 : Int) : Le (Option.map cY (m9 p0 p1 p2)) (bF SE 26 [.d (.sl aA.ks (List.map aA.enc p0)), .d (.str p1), .d (.int .i64 p2)] [] []) := by
 refine aV auz rfl ?_
 refine Le.trans ?_ (le_of_eq (T26 ..).symm)
 unfold m9
 refine lQ eX brokerlaw43_light_inj (rX _) fun r0 _ => ?_
 refine lC ?_ ?_
 ·exact aJ rfl
 ·refine lC ?_ ?_
  ·exact aJ rfl
  ·refine lC ?_ ?_
   ·exact aJ rfl
   ·exact agR p0 p1 p2 (aA.mk [] 0 0)
def arf (C : aN) (Λ2 J : Lam) (a0 : List (List D)) (a1 a2 : Int) (a3 : List D) : Res := lab SE C Λ2 J 83 0 [1, 0, 1, 0] (aU [(0, .d (.sl aA.ks a0)), (3, .ptr 1000000000 0), (7, .d (.int .i64 a1)), (8, .d (.int .i64 a2))] [⟨24, (List.map AV.d a3)⟩] [] [] [])
section
variable (Γ : Fun)  (Λ2 J : Lam)
def C83 : aN := aR Γ
theorem T83 (p0 : List aA) (p1 : aA) : bG SE (C83 Γ) Λ2 J 83 [.d (.sl aA.ks (List.map aA.enc p0)), aA.av p1] [] [] =
 arf (C83 Γ) Λ2 J (List.map aA.enc p0) (lM aA.enc p0 : Int) 0 (aA.enc p1) := by kernel_rfl
theorem aCu (x0 : List aA) (x7 x8 : Int) (b0 : aA) : bS SE (C83 Γ) Λ2 J 83 0 [1, 0, 1, 0] (aU [(0, .d (.sl aA.ks (List.map aA.enc x0))), (3, .ptr 1000000000 0), (7, .d (.int .i64 x7)), (8, .d (.int .i64 x8))] [⟨24, (List.map AV.d (aA.enc b0))⟩] [] [] []) =
 cond (decide (x8 < x7)) (
 cond (iB x8 (lM aA.enc x0 : Int)) (
  cond ((b0.Client == (bL (cE aA.enc x0 x8 0))) && ((b0.Node == (aW (cE aA.enc x0 x8 1))) && ((b0.Epoch == (aW (cE aA.enc x0 x8 2))) && true))) (
  (rI x8)) (
  arf (C83 Γ) Λ2 J (List.map aA.enc x0) x7 (w6 (x8 + 1)) (aA.enc b0))) none) (
 (rI (-1))) := by kernel_rfl
end
abbrev X83 : aN := C83 gG
theorem awR : X83 = aR gG := rfl
abbrev aA7 := arf X83 (bR SE gG (SE.hl 83) (SE.hr 83)) (J0 SE X83)
theorem vB : ∀ (fu : Nat) (x0 : List aA) (x7 x8 : Int) (b0 : aA), Le (Option.map aB (cW fu x0 x7 x8 b0)) (aA7 (List.map aA.enc x0) x7 x8 (aA.enc b0)) := by
 intro fu
 induction fu with
 | zero => intros; exact le_none
 | succ fu ih =>
  intro x0 x7 x8 b0
  refine Le.trans ?_ (le_of_eq ((aX awR).trans (aCu ..)).symm)
  unfold cW
  refine lC ?_ ?_
  ·refine lG (by simp only [EN]) ?_
   refine lD (by simp only [EN]) ?_ ?_
   ·exact aJ rfl
   ·exact ih x0 x7 (w6 (x8 + 1)) b0
  ·exact aJ rfl
theorem wY (p0 : List aA) (p1 : aA) : Le (Option.map aB (iL p0 p1)) (bF SE 83 [.d (.sl aA.ks (List.map aA.enc p0)), aA.av p1] [] []) := by
 refine aV awR rfl ?_
 refine Le.trans ?_ (le_of_eq (T83 ..).symm)
 unfold iL
 (try simp only [EN]); exact vB fuel p0 (List.length p0 : Int) 0 p1
section
variable (Γ : Fun) (γ83 : Gm (Int)) (Λ2 J : Lam)
def C31 : aN := bA (aR Γ) 83 aB γ83
theorem T31 (p0 : List aA) (p1 : aA) : bG SE (C31 Γ γ83) Λ2 J 31 [.d (.sl aA.ks (List.map aA.enc p0)), aA.av p1] [] [] =
 γ83 [.d (.sl aA.ks (List.map aA.enc p0)), aA.av p1] [] [] fun r0 =>
 (rB (decide (r0 ≥ 0))) := by kernel_rfl
end
abbrev X31 : aN := C31 gG (cT 83 aB)
theorem aFy : X31 = aR gG := by unfold X31 C31; rw [bD fun _ h => h]
theorem fU (p0 : List aA) (p1 : aA) : Le (Option.map brokerlaw43_light_out (cX p0 p1)) (bF SE 31 [.d (.sl aA.ks (List.map aA.enc p0)), aA.av p1] [] []) := by
 refine aV aFy rfl ?_
 refine Le.trans ?_ (le_of_eq (T31 ..).symm)
 unfold cX
 refine lQ eX aL (wY _ _) fun r0 _ => ?_
 exact aJ rfl
section
variable (Γ : Fun) (γ31 : Gm (Bool)) (Λ2 J : Lam)
def C15 : aN := bA (aR Γ) 31 brokerlaw43_light_out γ31
theorem T15 (p0 : List aA) (p1 : Str) (p2 p3 : Int) : bG SE (C15 Γ γ31) Λ2 J 15 [.d (.sl aA.ks (List.map aA.enc p0)), .d (.str p1), .d (.int .i64 p2), .d (.int .i64 p3)] [] [] =
 γ31 [.d (.sl aA.ks (List.map aA.enc p0)), aA.av (aA.mk p1 p2 p3)] [] [] fun r0 =>
 (rB r0) := by kernel_rfl
end
abbrev X15 : aN := C15 gG (cT 31 brokerlaw43_light_out)
theorem aEP : X15 = aR gG := by unfold X15 C15; rw [bD fun _ h => h]
theorem rE (p0 : List aA) (p1 : Str) (p2 p3 : Int) : Le (Option.map brokerlaw43_light_out (lB p0 p1 p2 p3)) (bF SE 15 [.d (.sl aA.ks (List.map aA.enc p0)), .d (.str p1), .d (.int .i64 p2), .d (.int .i64 p3)] [] []) := by
 refine aV aEP rfl ?_
 refine Le.trans ?_ (le_of_eq (T15 ..).symm)
 unfold lB
 refine lQ eX brokerlaw43_light_inj (fU _ _) fun r0 _ => ?_
 exact aJ rfl
def anb (C : aN) (Λ2 J : Lam) (a0 a1 : List (List D)) (a2 a3 : Int) : Res := lab SE C Λ2 J 13 0 [1, 1, 0, 1, 0] (aU [(0, .d (.sl aA.ks a0)), (8, .d (.sl aA.ks a1)), (9, .d (.int .i64 a2)), (10, .d (.int .i64 a3))] [] [] [] [])
section
variable (Γ : Fun) (γ32 : Gm (Bool)) (Λ2 J : Lam)
def C13 : aN := bA (aR Γ) 32 brokerlaw43_light_out γ32
theorem T13 (p0 : List aA) : bG SE (C13 Γ γ32) Λ2 J 13 [.d (.sl aA.ks (List.map aA.enc p0))] [] [] =
 cond (decide ((lM aA.enc p0 : Int) > 32)) (
 (rI 5)) (
 anb (C13 Γ γ32) Λ2 J (List.map aA.enc p0) (List.map aA.enc p0) (lM aA.enc p0 : Int) 0) := by kernel_rfl
theorem aBK (x0 x8 : List aA) (x9 x10 : Int) : bS SE (C13 Γ γ32) Λ2 J 13 0 [1, 1, 0, 1, 0] (aU [(0, .d (.sl aA.ks (List.map aA.enc x0))), (8, .d (.sl aA.ks (List.map aA.enc x8))), (9, .d (.int .i64 x9)), (10, .d (.int .i64 x10))] [] [] [] []) =
 cond (decide (x10 < x9)) (
 cond (iB x10 (lM aA.enc x8 : Int)) (
  γ32 [.d (.str (bL (cE aA.enc x8 x10 0)))] [] [] fun r0 =>
  cond (!r0) (
  (rI 11)) (
  cond (decide ((aW (cE aA.enc x8 x10 1)) < 0)) (
  (rI 1)) (
  cond (decide ((aW (cE aA.enc x8 x10 1)) ≥ 7)) (
  (rI 1)) (
  cond (decide ((aW (cE aA.enc x8 x10 2)) < 1)) (
  (rI 1)) (
  cond (decide ((aW (cE aA.enc x8 x10 2)) > 1099511627776)) (
  (rI 1)) (
  cond (decide (x10 > 0)) (
  cond (iB (w6 (x10 - 1)) (lM aA.enc x0 : Int)) (
   cond (Op.bytesLess (bL (cE aA.enc x8 x10 0)) (bL (cE aA.enc x0 (w6 (x10 - 1)) 0)) || (bL (cE aA.enc x8 x10 0)) == (bL (cE aA.enc x0 (w6 (x10 - 1)) 0))) (
   (rI 22)) (
   anb (C13 Γ γ32) Λ2 J (List.map aA.enc x0) (List.map aA.enc x8) x9 (w6 (x10 + 1)))) none) (
  anb (C13 Γ γ32) Λ2 J (List.map aA.enc x0) (List.map aA.enc x8) x9 (w6 (x10 + 1))))))))) none) (
 (rI 0)) := by kernel_rfl
end
abbrev X13 : aN := C13 gG (cT 32 brokerlaw43_light_out)
theorem axc : X13 = aR gG := by unfold X13 C13; rw [bD fun _ h => h]
abbrev aBq := anb X13 (bR SE gG (SE.hl 13) (SE.hr 13)) (J0 SE X13)
theorem ag4 : ∀ (fu : Nat) (x0 x8 : List aA) (x9 x10 : Int), Le (Option.map aB (kB fu x0 x8 x9 x10)) (aBq (List.map aA.enc x0) (List.map aA.enc x8) x9 x10) := by
 intro fu
 induction fu with
 | zero => intros; exact le_none
 | succ fu ih =>
  intro x0 x8 x9 x10
  refine Le.trans ?_ (le_of_eq ((aX axc).trans (aBK ..)).symm)
  unfold kB
  refine lC ?_ ?_
  ·refine lG (by simp only [EN]) ?_
   refine lQ eX brokerlaw43_light_inj (by (try simp only [EN]); exact rX ((List.getD x8 (Int.toNat x10) default).Client)) fun r0 _ => ?_
   refine lC ?_ ?_
   ·exact aJ rfl
   ·refine lD (by simp only [EN]) ?_ ?_
    ·exact aJ rfl
    ·refine lD (by simp only [EN]) ?_ ?_
     ·exact aJ rfl
     ·refine lD (by simp only [EN]) ?_ ?_
      ·exact aJ rfl
      ·refine lD (by simp only [EN]) ?_ ?_
       ·exact aJ rfl
       ·refine lC ?_ ?_
        ·refine lG (by simp only [EN]) ?_
         refine lD (by simp only [EN]) ?_ ?_
         ·exact aJ rfl
         ·exact ih x0 x8 x9 (w6 (x10 + 1))
        ·exact ih x0 x8 x9 (w6 (x10 + 1))
  ·exact aJ rfl
theorem ac1 (p0 : List aA) : Le (Option.map aB (sB p0)) (bF SE 13 [.d (.sl aA.ks (List.map aA.enc p0))] [] []) := by
 refine aV axc rfl ?_
 refine Le.trans ?_ (le_of_eq (T13 ..).symm)
 unfold sB
 refine lD (by simp only [EN]) ?_ ?_
 ·exact aJ rfl
 ·(try simp only [EN]); exact ag4 fuel p0 p0 (List.length p0 : Int) 0
def afJ (C : aN) (Λ2 J : Lam) (a0 : List (List D)) (a1 a2 : Int) (a3 : List (List D)) : Res := lab SE C Λ2 J 29 0 [1, 1, 0, 1, 0] (aU [(5, .row 3005), (12, .d (.sl aA.ks a0)), (13, .d (.int .i64 a1)), (14, .d (.int .i64 a2))] [] [] [] [(3005, ⟨aA.ks, 24, 32, a3⟩)])
section
variable (Γ : Fun) (γ79 : Gm ((List aA))) (γ77 : Gm (Int × Bool)) (γ80 : Gm ((List aA))) (Λ2 J : Lam)
def C29 : aN := bA (bA (bA (aR Γ) 79 aT γ79) 77 cF γ77) 80 aT γ80
theorem T29 (p0 p1 : List aA) : bG SE (C29 Γ γ79 γ77 γ80) Λ2 J 29 [.d (.sl aA.ks (List.map aA.enc p0)), .d (.sl aA.ks (List.map aA.enc p1))] [] [] =
 γ79 [.d (.sl aA.ks (List.map aA.enc p0))] [] [] fun r0 =>
 afJ (C29 Γ γ79 γ77 γ80) Λ2 J (List.map aA.enc p1) (lM aA.enc p1 : Int) 0 (List.map aA.enc r0) := by kernel_rfl
theorem aCl (x12 : List aA) (x13 x14 : Int) (w3005 : List aA) : bS SE (C29 Γ γ79 γ77 γ80) Λ2 J 29 0 [1, 1, 0, 1, 0] (aU [(5, .row 3005), (12, .d (.sl aA.ks (List.map aA.enc x12))), (13, .d (.int .i64 x13)), (14, .d (.int .i64 x14))] [] [] [] [(3005, ⟨aA.ks, 24, 32, (List.map aA.enc w3005)⟩)]) =
 cond (decide (x14 < x13)) (
 cond (iB x14 (lM aA.enc x12 : Int)) (
  γ77 [.d (.sl aA.ks (List.map aA.enc w3005)), .d (.str (bL (cE aA.enc x12 x14 0))), .fn 78 [] []] [] [] fun r1 =>
  cond (!r1.2) (
  γ80 [.row 2000000000, .d (.int .i64 r1.1), .row 2000000001] [] [⟨aA.ks, 24, 32, (List.map aA.enc w3005)⟩, ⟨aA.ks, 24, 32, [[D.str (bL (cE aA.enc x12 x14 0)), D.int .i64 (aW (cE aA.enc x12 x14 1)), D.int .i64 (aW (cE aA.enc x12 x14 2))]]⟩] fun r2 =>
  afJ (C29 Γ γ79 γ77 γ80) Λ2 J (List.map aA.enc x12) x13 (w6 (x14 + 1)) (List.map aA.enc r2)) (
  cond (iB r1.1 (lM aA.enc w3005 : Int)) (
  cond (decide ((aW (cE aA.enc x12 x14 2)) > (aW (cE aA.enc w3005 r1.1 2)))) (
   cond (iB r1.1 (lM aA.enc w3005 : Int)) (
   afJ (C29 Γ γ79 γ77 γ80) Λ2 J (List.map aA.enc x12) x13 (w6 (x14 + 1)) ((qD (List.map aA.enc w3005) (Int.toNat r1.1) 0 [D.str (bL (cE aA.enc x12 x14 0)), D.int .i64 (aW (cE aA.enc x12 x14 1)), D.int .i64 (aW (cE aA.enc x12 x14 2))]))) none) (
  cond (iB r1.1 (lM aA.enc w3005 : Int)) (
   cond ((aW (cE aA.enc x12 x14 2)) == (aW (cE aA.enc w3005 r1.1 2))) (
   cond (iB r1.1 (lM aA.enc w3005 : Int)) (
    cond (decide ((aW (cE aA.enc x12 x14 1)) < (aW (cE aA.enc w3005 r1.1 1)))) (
    cond (iB r1.1 (lM aA.enc w3005 : Int)) (
     afJ (C29 Γ γ79 γ77 γ80) Λ2 J (List.map aA.enc x12) x13 (w6 (x14 + 1)) ((qD (List.map aA.enc w3005) (Int.toNat r1.1) 0 [D.str (bL (cE aA.enc x12 x14 0)), D.int .i64 (aW (cE aA.enc x12 x14 1)), D.int .i64 (aW (cE aA.enc x12 x14 2))]))) none) (
    afJ (C29 Γ γ79 γ77 γ80) Λ2 J (List.map aA.enc x12) x13 (w6 (x14 + 1)) (List.map aA.enc w3005))) none) (
   afJ (C29 Γ γ79 γ77 γ80) Λ2 J (List.map aA.enc x12) x13 (w6 (x14 + 1)) (List.map aA.enc w3005))) none)) none)) none) (
 (some (.ret [.row 0] [] [⟨aA.ks, 24, 32, (List.map aA.enc w3005)⟩]))) := by kernel_rfl
end
abbrev X29 : aN := C29 gG (cT 79 aT) (cT 77 cF) (cT 80 aT)
theorem azp : X29 = aR gG := by unfold X29 C29; repeat rw [bD fun _ h => h]
abbrev aB9 := afJ X29 (bR SE gG (SE.hl 29) (SE.hr 29)) (J0 SE X29)
theorem agT : ∀ (fu : Nat) (x12 : List aA) (x13 x14 : Int) (w3005 : List aA), Le (Option.map aT (eY fu x12 x13 x14 w3005)) (aB9 (List.map aA.enc x12) x13 x14 (List.map aA.enc w3005)) := by
 intro fu
 induction fu with
 | zero => intros; exact le_none
 | succ fu ih =>
  intro x12 x13 x14 w3005
  refine Le.trans ?_ (le_of_eq ((aX azp).trans (aCl ..)).symm)
  unfold eY
  refine lC ?_ ?_
  ·refine lG (by simp only [EN]) ?_
   refine lQ eX pD (by (try simp only [EN]); exact v5 w3005 ((List.getD x12 (Int.toNat x14) default).Client)) fun r1 _ => ?_
   refine lC ?_ ?_
   ·refine lQ eX bM (by (try simp only [EN]); exact nW w3005 r1.1 [(List.getD x12 (Int.toNat x14) default)]) fun r2 _ => ?_
    exact ih x12 x13 (w6 (x14 + 1)) r2
   ·refine lG (by simp only [EN]) ?_
    refine lD (by simp only [EN]) ?_ ?_
    ·refine lG (by simp only [EN]) ?_
     (try simp only [EN]); exact ih x12 x13 (w6 (x14 + 1)) ((List.set w3005 (Int.toNat r1.1) (List.getD x12 (Int.toNat x14) default)))
    ·refine lG (by simp only [EN]) ?_
     refine lD (by simp only [EN]) ?_ ?_
     ·refine lG (by simp only [EN]) ?_
      refine lD (by simp only [EN]) ?_ ?_
      ·refine lG (by simp only [EN]) ?_
       (try simp only [EN]); exact ih x12 x13 (w6 (x14 + 1)) ((List.set w3005 (Int.toNat r1.1) (List.getD x12 (Int.toNat x14) default)))
      ·exact ih x12 x13 (w6 (x14 + 1)) w3005
     ·exact ih x12 x13 (w6 (x14 + 1)) w3005
  ·exact aJ rfl
theorem hJ (p0 p1 : List aA) : Le (Option.map aT (fW p0 p1)) (bF SE 29 [.d (.sl aA.ks (List.map aA.enc p0)), .d (.sl aA.ks (List.map aA.enc p1))] [] []) := by
 refine aV azp rfl ?_
 refine Le.trans ?_ (le_of_eq (T29 ..).symm)
 unfold fW
 refine lQ eX bM (oT _) fun r0 _ => ?_
 (try simp only [EN]); exact agT fuel p1 (List.length p1 : Int) 0 r0
section
variable (Γ : Fun)  (Λ2 J : Lam)
def azH : aN := aR Γ
theorem aDx (p0 : Int) : bG SE (azH Γ) Λ2 J 116 [.d (.int .i64 p0)] [] [] =
 cond (decide (p0 ≥ 0)) (
 (rB (decide (p0 ≤ 1099511627776)))) (
 (rB false)) := by kernel_rfl
end
abbrev aEt : aN := azH gG
theorem aCB : aEt = aR gG := rfl
theorem ad6 (p0 : Int) : Le (Option.map brokerlaw43_light_out (tT p0)) (bF SE 116 [.d (.int .i64 p0)] [] []) := by
 refine aV aCB rfl ?_
 refine Le.trans ?_ (le_of_eq (aDx ..).symm)
 unfold tT
 refine lC ?_ ?_
 ·exact aJ rfl
 ·exact aJ rfl
def ak5 (C : aN) (Λ2 J : Lam) (a0 : List D) : Res := lab SE C Λ2 J 86 0 [1, 1, 1, 0, 0] (aU [(1, .ptr 1000000000 0)] [⟨46, (List.map AV.d a0)⟩] [] [] [])
def aqi (C : aN) (Λ2 J : Lam) (a0 : List D) : Res := lab SE C Λ2 J 86 0 [1, 1, 0, 0] (aU [(1, .ptr 1000000000 0)] [⟨46, (List.map AV.d a0)⟩] [] [] [])
section
variable (Γ : Fun) (γ32 γ116 : Gm (Bool)) (Λ2 J : Lam)
def C86 : aN := bA (bA (aR Γ) 32 brokerlaw43_light_out γ32) 116 brokerlaw43_light_out γ116
theorem T86 (p0 : aI) : bG SE (C86 Γ γ32 γ116) Λ2 J 86 [aI.av p0] [] [] =
 γ32 [.d (.str p0.Client)] [] [] fun r0 =>
 cond (!r0) (
 (rI 11)) (
 cond (!(p0.User == ([] : Str))) (
 γ32 [.d (.str p0.User)] [] [] fun r1 =>
 cond (!r1) (
  (rI 11)) (
 aqi (C86 Γ γ32 γ116) Λ2 J (aI.enc p0))) (
 aqi (C86 Γ γ32 γ116) Λ2 J (aI.enc p0))) := by kernel_rfl
theorem aAn (b0 : aI) : bS SE (C86 Γ γ32 γ116) Λ2 J 86 0 [1, 1, 1, 0, 0] (aU [(1, .ptr 1000000000 0)] [⟨46, (List.map AV.d (aI.enc b0))⟩] [] [] []) =
 γ116 [.d (.int .i64 b0.Expiry)] [] [] fun r2 =>
 cond (!r2) (
 (rI 1)) (
 γ116 [.d (.int .i64 b0.Until)] [] [] fun r3 =>
 cond (!r3) (
 (rI 1)) (
 cond (decide (b0.Dropped < 0)) (
 (rI 1)) (
 cond (decide (b0.Dropped > 1099511627776)) (
 (rI 1)) (
 (rI 0))))) := by kernel_rfl
theorem aCG (b0 : aI) : bS SE (C86 Γ γ32 γ116) Λ2 J 86 0 [1, 1, 0, 0] (aU [(1, .ptr 1000000000 0)] [⟨46, (List.map AV.d (aI.enc b0))⟩] [] [] []) =
 cond (!b0.Online) (
 cond (b0.Conn != 0) (
  (rI 9)) (
 cond b0.Online (
  cond (b0.Until != 0) (
  (rI 9)) (
  ak5 (C86 Γ γ32 γ116) Λ2 J (aI.enc b0))) (
 ak5 (C86 Γ γ32 γ116) Λ2 J (aI.enc b0)))) (
 cond b0.Online (
 cond (b0.Until != 0) (
  (rI 9)) (
 ak5 (C86 Γ γ32 γ116) Λ2 J (aI.enc b0))) (
 ak5 (C86 Γ γ32 γ116) Λ2 J (aI.enc b0))) := by kernel_rfl
end
abbrev X86 : aN := C86 gG (cT 32 brokerlaw43_light_out) (cT 116 brokerlaw43_light_out)
theorem aun : X86 = aR gG := by unfold X86 C86; repeat rw [bD fun _ h => h]
abbrev aCY := ak5 X86 (bR SE gG (SE.hl 86) (SE.hr 86)) (J0 SE X86)
abbrev aBl := aqi X86 (bR SE gG (SE.hl 86) (SE.hr 86)) (J0 SE X86)
theorem nD (b0 : aI) : Le (Option.map aB (iV b0)) (aCY (aI.enc b0)) := by
 refine Le.trans ?_ (le_of_eq ((aX aun).trans (aAn ..)).symm)
 unfold iV
 refine lQ eX brokerlaw43_light_inj (ad6 _) fun r2 _ => ?_
 refine lC ?_ ?_
 ·exact aJ rfl
 ·refine lQ eX brokerlaw43_light_inj (ad6 _) fun r3 _ => ?_
  refine lC ?_ ?_
  ·exact aJ rfl
  ·refine lC ?_ ?_
   ·exact aJ rfl
   ·refine lC ?_ ?_
    ·exact aJ rfl
    ·exact aJ rfl
theorem xY (b0 : aI) : Le (Option.map aB (mM b0)) (aBl (aI.enc b0)) := by
 refine Le.trans ?_ (le_of_eq ((aX aun).trans (aCG ..)).symm)
 unfold mM
 refine lC ?_ ?_
 ·refine lC ?_ ?_
  ·exact aJ rfl
  ·refine lC ?_ ?_
   ·refine lC ?_ ?_
    ·exact aJ rfl
    ·exact nD b0
   ·exact nD b0
 ·refine lC ?_ ?_
  ·refine lC ?_ ?_
   ·exact aJ rfl
   ·exact nD b0
  ·exact nD b0
theorem afK (p0 : aI) : Le (Option.map aB (pV p0)) (bF SE 86 [aI.av p0] [] []) := by
 refine aV aun rfl ?_
 refine Le.trans ?_ (le_of_eq (T86 ..).symm)
 unfold pV
 refine lQ eX brokerlaw43_light_inj (rX _) fun r0 _ => ?_
 refine lC ?_ ?_
 ·exact aJ rfl
 ·refine lC ?_ ?_
  ·refine lQ eX brokerlaw43_light_inj (rX _) fun r1 _ => ?_
   refine lC ?_ ?_
   ·exact aJ rfl
   ·exact xY p0
  ·exact xY p0
section
variable (Γ : Fun)  (Λ2 J : Lam)
def awu : aN := aR Γ
theorem aEJ (p0 p1 : Str) : bG SE (awu Γ) Λ2 J 158 [.d (.str p0), .d (.str p1)] [] [] =
 cond (decide ((List.length p0 : Int) ≥ (List.length p1 : Int))) (
 cond (decide (0 ≤ (List.length p1 : Int)) && decide ((List.length p1 : Int) ≤ ((List.length p0) : Int))) (
  (rB ((c9 p0 none (some (List.length p1 : Int))) == p1))) none) (
 (rB false)) := by kernel_rfl
end
abbrev aDU : aN := awu gG
theorem aCK : aDU = aR gG := rfl
theorem wT (p0 p1 : Str) : Le (Option.map brokerlaw43_light_out (j0 p0 p1)) (bF SE 158 [.d (.str p0), .d (.str p1)] [] []) := by
 refine aV aCK rfl ?_
 refine Le.trans ?_ (le_of_eq (aEJ ..).symm)
 unfold j0
 refine lC ?_ ?_
 ·refine lF ?_
  exact aJ rfl
 ·exact aJ rfl
section
variable (Γ : Fun) (γ158 : Gm (Bool)) (Λ2 J : Lam)
def aue : aN := bA (aR Γ) 158 brokerlaw43_light_out γ158
theorem aDo (p0 p1 : Str) : bG SE (aue Γ γ158) Λ2 J 164 [.d (.str p0), .d (.str p1)] [] [] =
 γ158 [.d (.str p0), .d (.str p1)] [] [] fun r0 =>
 cond (!r0) (
 (some (.ret [.d (.str p0), .d (.bool false)] [] []))) (
 cond (decide (0 ≤ (List.length p1 : Int)) && decide ((List.length p1 : Int) ≤ ((List.length p0) : Int))) (
 (some (.ret [.d (.str (c9 p0 (some (List.length p1 : Int)) none)), .d (.bool true)] [] []))) none) := by kernel_rfl
end
abbrev azm : aN := aue gG (cT 158 brokerlaw43_light_out)
theorem aAP : azm = aR gG := by unfold azm aue; rw [bD fun _ h => h]
theorem adp (p0 p1 : Str) : Le (Option.map dO (o5 p0 p1)) (bF SE 164 [.d (.str p0), .d (.str p1)] [] []) := by
 refine aV aAP rfl ?_
 refine Le.trans ?_ (le_of_eq (aDo ..).symm)
 unfold o5
 refine lQ eX brokerlaw43_light_inj (wT _ _) fun r0 _ => ?_
 refine lC ?_ ?_
 ·exact aJ rfl
 ·refine lF ?_
  exact aJ rfl
section
variable (Γ : Fun) (γ164 : Gm (Str × Bool)) (Λ2 J : Lam)
def auA : aN := bA (aR Γ) 164 dO γ164
theorem aEn (p0 p1 : Str) : bG SE (auA Γ γ164) Λ2 J 154 [.d (.str p0), .d (.str p1)] [] [] =
 γ164 [.d (.str p0), .d (.str p1)] [] [] fun r0 =>
 (some (.ret [.d (.str r0.1), .d (.bool r0.2)] [] [])) := by kernel_rfl
end
abbrev ayH : aN := auA gG (cT 164 dO)
theorem aAU : ayH = aR gG := by unfold ayH auA; rw [bD fun _ h => h]
theorem agm (p0 p1 : Str) : Le (Option.map dO (pW p0 p1)) (bF SE 154 [.d (.str p0), .d (.str p1)] [] []) := by
 refine aV aAU rfl ?_
 refine Le.trans ?_ (le_of_eq (aEn ..).symm)
 unfold pW
 refine lQ eX v7 (adp _ _) fun r0 _ => ?_
 exact aJ rfl
section
variable (Γ : Fun)  (Λ2 J : Lam)
def axr : aN := aR Γ
theorem aEN (p0 : Str) (p1 : Int) : bG SE (axr Γ) Λ2 J 172 [.d (.str p0), .d (.int .u8 p1)] [] [] =
 (rI (Lib.indexByte p0 (UInt8.ofNat (Int.toNat p1)) : Int)) := by kernel_rfl
end
abbrev aEl : aN := axr gG
theorem aAy : aEl = aR gG := rfl
theorem adw (p0 : Str) (p1 : Int) : Le (Option.map aB (tM p0 p1)) (bF SE 172 [.d (.str p0), .d (.int .u8 p1)] [] []) := by
 refine aV aAy rfl ?_
 refine Le.trans ?_ (le_of_eq (aEN ..).symm)
 unfold tM
 exact aJ rfl
section
variable (Γ : Fun) (γ172 : Gm (Int)) (Λ2 J : Lam)
def atr : aN := bA (aR Γ) 172 aB γ172
theorem aFd (p0 p1 : Str) : bG SE (atr Γ γ172) Λ2 J 169 [.d (.str p0), .d (.str p1)] [] [] =
 cond ((List.length p1 : Int) == 0) (
 (rI 0)) (
 cond (p1 == p0) (
 (rI 0)) (
 cond ((List.length p1 : Int) == 1) (
 cond (decide (0 ≤ 0) && decide (0 < (List.length p1 : Int))) (
  γ172 [.d (.str p0), .d (.int .u8 (UInt8.toNat (List.getD p1 (Int.toNat 0) 0) : Int))] [] [] fun r0 =>
  (rI r0)) none) (
 cond (decide ((List.length p1 : Int) ≥ (List.length p0 : Int))) (
 (rI (-1))) none))) := by kernel_rfl
end
abbrev axj : aN := atr gG (cT 172 aB)
theorem aCX : axj = aR gG := by unfold axj atr; rw [bD fun _ h => h]
theorem aaQ (p0 p1 : Str) : Le (Option.map aB (kN p0 p1)) (bF SE 169 [.d (.str p0), .d (.str p1)] [] []) := by
 refine aV aCX rfl ?_
 refine Le.trans ?_ (le_of_eq (aFd ..).symm)
 unfold kN
 refine lC ?_ ?_
 ·exact aJ rfl
 ·refine lC ?_ ?_
  ·exact aJ rfl
  ·refine lC ?_ ?_
   ·refine lF ?_
    refine lQ eX aL (adw _ _) fun r0 _ => ?_
    exact aJ rfl
   ·refine lF ?_
    exact aJ rfl
section
variable (Γ : Fun) (γ169 : Gm (Int)) (Λ2 J : Lam)
def atb : aN := bA (aR Γ) 169 aB γ169
theorem aEd (p0 p1 : Str) : bG SE (atb Γ γ169) Λ2 J 165 [.d (.str p0), .d (.str p1)] [] [] =
 γ169 [.d (.str p0), .d (.str p1)] [] [] fun r0 =>
 cond (decide (r0 ≥ 0)) (
 cond (decide (0 ≤ r0) && decide (r0 ≤ ((List.length p0) : Int))) (
  cond (decide (0 ≤ (w6 (r0 + (List.length p1 : Int)))) && decide ((w6 (r0 + (List.length p1 : Int))) ≤ ((List.length p0) : Int))) (
  (some (.ret [.d (.str (c9 p0 none (some r0))), .d (.str (c9 p0 (some (w6 (r0 + (List.length p1 : Int)))) none)), .d (.bool true)] [] []))) none) none) (
 (some (.ret [.d (.str p0), .d (.str []), .d (.bool false)] [] []))) := by kernel_rfl
end
abbrev axO : aN := atb gG (cT 169 aB)
theorem aBN : axO = aR gG := by unfold axO atb; rw [bD fun _ h => h]
theorem ahe (p0 p1 : Str) : Le (Option.map cB (vV p0 p1)) (bF SE 165 [.d (.str p0), .d (.str p1)] [] []) := by
 refine aV aBN rfl ?_
 refine Le.trans ?_ (le_of_eq (aEd ..).symm)
 unfold vV
 refine lQ eX aL (aaQ _ _) fun r0 _ => ?_
 refine lC ?_ ?_
 ·refine lF ?_
  refine lF ?_
  exact aJ rfl
 ·exact aJ rfl
section
variable (Γ : Fun) (γ165 : Gm (Str × Str × Bool)) (Λ2 J : Lam)
def atl : aN := bA (aR Γ) 165 cB γ165
theorem aEb (p0 p1 : Str) : bG SE (atl Γ γ165) Λ2 J 155 [.d (.str p0), .d (.str p1)] [] [] =
 γ165 [.d (.str p0), .d (.str p1)] [] [] fun r0 =>
 (some (.ret [.d (.str r0.1), .d (.str r0.2.1), .d (.bool r0.2.2)] [] [])) := by kernel_rfl
end
abbrev ax8 : aN := atl gG (cT 165 cB)
theorem aAk : ax8 = aR gG := by unfold ax8 atl; rw [bD fun _ h => h]
theorem alU (p0 p1 : Str) : Le (Option.map cB (yJ p0 p1)) (bF SE 155 [.d (.str p0), .d (.str p1)] [] []) := by
 refine aV aAk rfl ?_
 refine Le.trans ?_ (le_of_eq (aEb ..).symm)
 unfold yJ
 refine lQ eX nG (ahe _ _) fun r0 _ => ?_
 exact aJ rfl
def akK (C : aN) (Λ2 J : Lam) (a0 : Int) (a1 : Str) (a2 : Nat) : Res := lab SE C Λ2 J 156 0 [1, 1, 1, 0, 1, 0] (aU [(3, .d (.int .i64 a0)), (15, .it 4000)] [] [] [(4000, (a1, a2))] [])
def asF (C : aN) (Λ2 J : Lam) (a0 : Str) : Res := lab SE C Λ2 J 156 0 [1, 1, 0] (aU [(0, .d (.str a0))] [] [] [] [])
section
variable (Γ : Fun)  (Λ2 J : Lam)
def ahv : aN := aR Γ
theorem aEV (p0 : Str) : bG SE (ahv Γ) Λ2 J 156 [.d (.str p0)] [] [] =
 cond (decide ((List.length p0 : Int) < 1)) (
 (rB false)) (
 cond (decide ((List.length p0 : Int) > 64)) (
 (rB false)) (
 asF (ahv Γ) Λ2 J p0)) := by kernel_rfl
theorem ay0 (x3 : Int) (s4000 : Str) (i4000 : Nat) : bS SE (ahv Γ) Λ2 J 156 0 [1, 1, 1, 0, 1, 0] (aU [(3, .d (.int .i64 x3)), (15, .it 4000)] [] [] [(4000, (s4000, i4000))] []) =
 cond (decide (i4000 < List.length s4000)) (
 cond (((dec s4000 i4000).1 : Int) == 0) (
  (rB false)) (
 cond (((dec s4000 i4000).1 : Int) == 47) (
  akK (ahv Γ) Λ2 J (w6 (x3 + 1)) s4000 (i4000 + (dec s4000 i4000).2)) (
 akK (ahv Γ) Λ2 J x3 s4000 (i4000 + (dec s4000 i4000).2)))) (
 (rB (decide (x3 ≤ 8)))) := by kernel_rfl
theorem ay1 (x0 : Str) : bS SE (ahv Γ) Λ2 J 156 0 [1, 1, 0] (aU [(0, .d (.str x0))] [] [] [] []) =
 akK (ahv Γ) Λ2 J 1 x0 0 := by kernel_rfl
end
abbrev aol : aN := ahv gG
theorem apU : aol = aR gG := rfl
abbrev awE := akK aol (bR SE gG (SE.hl 156) (SE.hr 156)) (J0 SE aol)
abbrev ayX := asF aol (bR SE gG (SE.hl 156) (SE.hr 156)) (J0 SE aol)
theorem aiO : ∀ (fu : Nat) (x3 : Int) (s4000 : Str) (i4000 : Nat), Le (Option.map brokerlaw43_light_out (kE fu x3 s4000 i4000)) (awE x3 s4000 i4000) := by
 intro fu
 induction fu with
 | zero => intros; exact le_none
 | succ fu ih =>
  intro x3 s4000 i4000
  refine Le.trans ?_ (le_of_eq ((aX apU).trans (ay0 ..)).symm)
  unfold kE
  refine lC ?_ ?_
  ·refine lC ?_ ?_
   ·exact aJ rfl
   ·refine lC ?_ ?_
    ·exact ih (w6 (x3 + 1)) s4000 (i4000 + (dec s4000 i4000).2)
    ·exact ih x3 s4000 (i4000 + (dec s4000 i4000).2)
  ·exact aJ rfl
theorem aiR (x0 : Str) : Le (Option.map brokerlaw43_light_out (xT x0)) (ayX x0) := by
 refine Le.trans ?_ (le_of_eq ((aX apU).trans (ay1 ..)).symm)
 unfold xT
 exact aiO fuel 1 x0 0
theorem afC (p0 : Str) : Le (Option.map brokerlaw43_light_out (vN p0)) (bF SE 156 [.d (.str p0)] [] []) := by
 refine aV apU rfl ?_
 refine Le.trans ?_ (le_of_eq (aEV ..).symm)
 unfold vN
 refine lC ?_ ?_
 ·exact aJ rfl
 ·refine lC ?_ ?_
  ·exact aJ rfl
  ·exact aiR p0
section
variable (Γ : Fun) (γ169 : Gm (Int)) (Λ2 J : Lam)
def atQ : aN := bA (aR Γ) 169 aB γ169
theorem aEA (p0 p1 : Str) : bG SE (atQ Γ γ169) Λ2 J 178 [.d (.str p0), .d (.str p1)] [] [] =
 γ169 [.d (.str p0), .d (.str p1)] [] [] fun r0 =>
 (rI r0) := by kernel_rfl
end
abbrev azV : aN := atQ gG (cT 169 aB)
theorem aCJ : azV = aR gG := by unfold azV atQ; rw [bD fun _ h => h]
theorem ac8 (p0 p1 : Str) : Le (Option.map aB (m6 p0 p1)) (bF SE 178 [.d (.str p0), .d (.str p1)] [] []) := by
 refine aV aCJ rfl ?_
 refine Le.trans ?_ (le_of_eq (aEA ..).symm)
 unfold m6
 refine lQ eX aL (aaQ _ _) fun r0 _ => ?_
 exact aJ rfl
def aoD (C : aN) (Λ2 J : Lam) (a0 a1 : Str) (a2 : Int) : Res := lab SE C Λ2 J 177 0 [1, 1, 1, 1, 0] (aU [(0, .d (.str a0)), (1, .d (.str a1)), (5, .d (.int .i64 a2))] [] [] [] [])
section
variable (Γ : Fun) (γ178 : Gm (Int)) (Λ2 J : Lam)
def alD : aN := bA (aR Γ) 178 aB γ178
theorem aDF (p0 p1 : Str) : bG SE (alD Γ γ178) Λ2 J 177 [.d (.str p0), .d (.str p1)] [] [] =
 cond ((List.length p1 : Int) == 0) (
 none) (
 cond ((List.length p1 : Int) == 1) (
 cond (decide (0 ≤ 0) && decide (0 < (List.length p1 : Int))) (
  (rI (Lib.countByte p0 (UInt8.ofNat (Int.toNat (UInt8.toNat (List.getD p1 (Int.toNat 0) 0) : Int))) : Int))) none) (
 aoD (alD Γ γ178) Λ2 J p0 p1 0)) := by kernel_rfl
theorem azj (x0 x1 : Str) (x5 : Int) : bS SE (alD Γ γ178) Λ2 J 177 0 [1, 1, 1, 1, 0] (aU [(0, .d (.str x0)), (1, .d (.str x1)), (5, .d (.int .i64 x5))] [] [] [] []) =
 γ178 [.d (.str x0), .d (.str x1)] [] [] fun r0 =>
 cond (r0 == (-1)) (
 (rI x5)) (
 cond (decide (0 ≤ (w6 (r0 + (List.length x1 : Int)))) && decide ((w6 (r0 + (List.length x1 : Int))) ≤ ((List.length x0) : Int))) (
 aoD (alD Γ γ178) Λ2 J (c9 x0 (some (w6 (r0 + (List.length x1 : Int)))) none) x1 (w6 (x5 + 1))) none) := by kernel_rfl
end
abbrev aqm : aN := alD gG (cT 178 aB)
theorem au1 : aqm = aR gG := by unfold aqm alD; rw [bD fun _ h => h]
abbrev axA := aoD aqm (bR SE gG (SE.hl 177) (SE.hr 177)) (J0 SE aqm)
theorem agZ : ∀ (fu : Nat) (x0 x1 : Str) (x5 : Int), Le (Option.map aB (uB fu x0 x1 x5)) (axA x0 x1 x5) := by
 intro fu
 induction fu with
 | zero => intros; exact le_none
 | succ fu ih =>
  intro x0 x1 x5
  refine Le.trans ?_ (le_of_eq ((aX au1).trans (azj ..)).symm)
  unfold uB
  refine lQ eX aL (ac8 _ _) fun r0 _ => ?_
  refine lC ?_ ?_
  ·exact aJ rfl
  ·refine lF ?_
   exact ih (c9 x0 (some (w6 (r0 + (List.length x1 : Int)))) none) x1 (w6 (x5 + 1))
theorem ajU (p0 p1 : Str) : Le (Option.map aB (uW p0 p1)) (bF SE 177 [.d (.str p0), .d (.str p1)] [] []) := by
 refine aV au1 rfl ?_
 refine Le.trans ?_ (le_of_eq (aDF ..).symm)
 unfold uW
 refine lC ?_ ?_
 ·exact le_none
 ·refine lC ?_ ?_
  ·refine lF ?_
   exact aJ rfl
  ·exact agZ fuel p0 p1 0
def alQ (C : aN) (Λ2 J : Lam) (a0 : Str) (a1 : Int) (a2 : List (List D)) : Res := lab SE C Λ2 J 170 0 [1, 1, 1, 1, 1, 1, 1, 1, 1, 0] (aU [(0, .d (.str a0)), (9, .row 3009), (10, .d (.int .i64 a1))] [] [] [] [(3009, ⟨[.str], 9, 16, a2⟩)])
def alC (C : aN) (Λ2 J : Lam) (a0 a1 : Str) (a2 a3 a4 : Int) (a5 : List (List D)) : Res := lab SE C Λ2 J 170 0 [1, 1, 1, 1, 1, 1, 1, 1, 0, 0] (aU [(0, .d (.str a0)), (1, .d (.str a1)), (2, .d (.int .i64 a2)), (3, .d (.int .i64 a3)), (9, .row 3009), (10, .d (.int .i64 a4))] [] [] [] [(3009, ⟨[.str], 9, 16, a5⟩)])
def aoW (C : aN) (Λ2 J : Lam) (a0 a1 : Str) (a2 a3 : Int) : Res := lab SE C Λ2 J 170 0 [1, 1, 1, 1, 0] (aU [(0, .d (.str a0)), (1, .d (.str a1)), (2, .d (.int .i64 a2)), (3, .d (.int .i64 a3))] [] [] [] [])
section
variable (Γ : Fun) (γ177 γ178 : Gm (Int)) (Λ2 J : Lam)
def ab5 : aN := bA (bA (aR Γ) 177 aB γ177) 178 aB γ178
theorem aDD (p0 p1 : Str) (p2 p3 : Int) : bG SE (ab5 Γ γ177 γ178) Λ2 J 170 [.d (.str p0), .d (.str p1), .d (.int .i64 p2), .d (.int .i64 p3)] [] [] =
 cond (p3 == 0) (
 (some (.ret [.d (.sl [.str] (List.map cL []))] [] []))) (
 cond (p1 == ([] : Str)) (
 none) (
 cond (decide (p3 < 0)) (
 γ177 [.d (.str p0), .d (.str p1)] [] [] fun r0 =>
 aoW (ab5 Γ γ177 γ178) Λ2 J p0 p1 p2 (w6 (r0 + 1))) (
 aoW (ab5 Γ γ177 γ178) Λ2 J p0 p1 p2 p3))) := by kernel_rfl
theorem avW (x0 : Str) (x10 : Int) (w3009 : List Str) : bS SE (ab5 Γ γ177 γ178) Λ2 J 170 0 [1, 1, 1, 1, 1, 1, 1, 1, 1, 0] (aU [(0, .d (.str x0)), (9, .row 3009), (10, .d (.int .i64 x10))] [] [] [] [(3009, ⟨[.str], 9, 16, (List.map cL w3009)⟩)]) =
 cond (iB x10 (lM cL w3009 : Int)) (
 cond (decide (0 ≤ (w6 (x10 + 1))) && decide ((w6 (x10 + 1)) ≤ ((List.length (qD (List.map cL w3009) (Int.toNat x10) 0 [D.str x0])) : Int))) (
  (some (.ret [.d (.sl [.str] (List.take ((Int.toNat (w6 (x10 + 1))) - 0) (List.drop 0 (qD (List.map cL w3009) (Int.toNat x10) 0 [D.str x0]))))] [] []))) none) none := by kernel_rfl
theorem avF (x0 x1 : Str) (x2 x3 x10 : Int) (w3009 : List Str) : bS SE (ab5 Γ γ177 γ178) Λ2 J 170 0 [1, 1, 1, 1, 1, 1, 1, 1, 0, 0] (aU [(0, .d (.str x0)), (1, .d (.str x1)), (2, .d (.int .i64 x2)), (3, .d (.int .i64 x3)), (9, .row 3009), (10, .d (.int .i64 x10))] [] [] [] [(3009, ⟨[.str], 9, 16, (List.map cL w3009)⟩)]) =
 cond (decide (x10 < x3)) (
 γ178 [.d (.str x0), .d (.str x1)] [] [] fun r1 =>
 cond (decide (r1 < 0)) (
  alQ (ab5 Γ γ177 γ178) Λ2 J x0 x10 (List.map cL w3009)) (
 cond (decide (0 ≤ (w6 (r1 + x2))) && decide ((w6 (r1 + x2)) ≤ ((List.length x0) : Int))) (
  cond (iB x10 (lM cL w3009 : Int)) (
  cond (decide (0 ≤ (w6 (r1 + (List.length x1 : Int)))) && decide ((w6 (r1 + (List.length x1 : Int))) ≤ ((List.length x0) : Int))) (
   alC (ab5 Γ γ177 γ178) Λ2 J (c9 x0 (some (w6 (r1 + (List.length x1 : Int)))) none) x1 x2 x3 (w6 (x10 + 1)) ((qD (List.map cL w3009) (Int.toNat x10) 0 [D.str (c9 x0 none (some (w6 (r1 + x2))))]))) none) none) none)) (
 alQ (ab5 Γ γ177 γ178) Λ2 J x0 x10 (List.map cL w3009)) := by kernel_rfl
theorem axz (x0 x1 : Str) (x2 x3 : Int) : bS SE (ab5 Γ γ177 γ178) Λ2 J 170 0 [1, 1, 1, 1, 0] (aU [(0, .d (.str x0)), (1, .d (.str x1)), (2, .d (.int .i64 x2)), (3, .d (.int .i64 x3))] [] [] [] []) =
 cond (decide (0 ≤ (if (w6 ((List.length x0 : Int) + 1)) < x3 then (w6 ((List.length x0 : Int) + 1)) else x3)) && decide ((if (w6 ((List.length x0 : Int) + 1)) < x3 then (w6 ((List.length x0 : Int) + 1)) else x3) ≤ (if (w6 ((List.length x0 : Int) + 1)) < x3 then (w6 ((List.length x0 : Int) + 1)) else x3)) && decide ((if (w6 ((List.length x0 : Int) + 1)) < x3 then (w6 ((List.length x0 : Int) + 1)) else x3) * 16 ≤ 281474976710656)) (
 alC (ab5 Γ γ177 γ178) Λ2 J x0 x1 x2 ((w6 ((if (w6 ((List.length x0 : Int) + 1)) < x3 then (w6 ((List.length x0 : Int) + 1)) else x3) - 1))) 0 ((List.replicate (Int.toNat (if (w6 ((List.length x0 : Int) + 1)) < x3 then (w6 ((List.length x0 : Int) + 1)) else x3)) [D.str []]))) none := by kernel_rfl
end
abbrev ahb : aN := ab5 gG (cT 177 aB) (cT 178 aB)
theorem ana : ahb = aR gG := by unfold ahb ab5; repeat rw [bD fun _ h => h]
abbrev avG := alQ ahb (bR SE gG (SE.hl 170) (SE.hr 170)) (J0 SE ahb)
abbrev avS := alC ahb (bR SE gG (SE.hl 170) (SE.hr 170)) (J0 SE ahb)
abbrev ax4 := aoW ahb (bR SE gG (SE.hl 170) (SE.hr 170)) (J0 SE ahb)
theorem xU (x0 : Str) (x10 : Int) (w3009 : List Str) : Le (Option.map cJ (mR x0 x10 w3009)) (avG x0 x10 (List.map cL w3009)) := by
 refine Le.trans ?_ (le_of_eq ((aX ana).trans (avW ..)).symm)
 unfold mR
 refine lG (by simp only [EN]) ?_
 refine lG (by simp only [EN]) ?_
 exact aJ (by first | rfl | simp only [EN, cJ] <;> rfl)
theorem adS : ∀ (fu : Nat) (x0 x1 : Str) (x2 x3 x10 : Int) (w3009 : List Str), Le (Option.map cJ (iY fu x0 x1 x2 x3 x10 w3009)) (avS x0 x1 x2 x3 x10 (List.map cL w3009)) := by
 intro fu
 induction fu with
 | zero => intros; exact le_none
 | succ fu ih =>
  intro x0 x1 x2 x3 x10 w3009
  refine Le.trans ?_ (le_of_eq ((aX ana).trans (avF ..)).symm)
  unfold iY
  refine lC ?_ ?_
  ·refine lQ eX aL (ac8 _ _) fun r1 _ => ?_
   refine lC ?_ ?_
   ·exact xU x0 x10 w3009
   ·refine lF ?_
    refine lG (by simp only [EN]) ?_
    refine lF ?_
    (try simp only [EN]); exact ih (c9 x0 (some (w6 (r1 + (List.length x1 : Int)))) none) x1 x2 x3 (w6 (x10 + 1)) ((List.set w3009 (Int.toNat x10) (c9 x0 none (some (w6 (r1 + x2))))))
  ·exact xU x0 x10 w3009
theorem yR (x0 x1 : Str) (x2 x3 : Int) : Le (Option.map cJ (nI x0 x1 x2 x3)) (ax4 x0 x1 x2 x3) := by
 refine Le.trans ?_ (le_of_eq ((aX ana).trans (axz ..)).symm)
 unfold nI
 refine lF ?_
 (try simp only [EN]); exact adS fuel x0 x1 x2 ((w6 ((if (w6 ((List.length x0 : Int) + 1)) < x3 then (w6 ((List.length x0 : Int) + 1)) else x3) - 1))) 0 ((List.replicate (Int.toNat (if (w6 ((List.length x0 : Int) + 1)) < x3 then (w6 ((List.length x0 : Int) + 1)) else x3)) (default : Str)))
theorem agP (p0 p1 : Str) (p2 p3 : Int) : Le (Option.map cJ (uF p0 p1 p2 p3)) (bF SE 170 [.d (.str p0), .d (.str p1), .d (.int .i64 p2), .d (.int .i64 p3)] [] []) := by
 refine aV ana rfl ?_
 refine Le.trans ?_ (le_of_eq (aDD ..).symm)
 unfold uF
 refine lC ?_ ?_
 ·exact aJ rfl
 ·refine lC ?_ ?_
  ·exact le_none
  ·refine lC ?_ ?_
   ·refine lQ eX aL (ajU _ _) fun r0 _ => ?_
    exact yR p0 p1 p2 (w6 (r0 + 1))
   ·exact yR p0 p1 p2 p3
section
variable (Γ : Fun) (γ170 : Gm ((List Str))) (Λ2 J : Lam)
def atj : aN := bA (aR Γ) 170 cJ γ170
theorem aFb (p0 p1 : Str) : bG SE (atj Γ γ170) Λ2 J 166 [.d (.str p0), .d (.str p1)] [] [] =
 γ170 [.d (.str p0), .d (.str p1), .d (.int .i64 0), .d (.int .i64 (-1))] [] [] fun r0 =>
 (some (.ret [.d (.sl [.str] (List.map cL r0))] [] [])) := by kernel_rfl
end
abbrev awU : aN := atj gG (cT 170 cJ)
theorem aAW : awU = aR gG := by unfold awU atj; rw [bD fun _ h => h]
theorem ajF (p0 p1 : Str) : Le (Option.map cJ (uZ p0 p1)) (bF SE 166 [.d (.str p0), .d (.str p1)] [] []) := by
 refine aV aAW rfl ?_
 refine Le.trans ?_ (le_of_eq (aFb ..).symm)
 unfold uZ
 refine lQ eX uP (agP _ _ _ _) fun r0 _ => ?_
 exact aJ rfl
section
variable (Γ : Fun) (γ166 : Gm ((List Str))) (Λ2 J : Lam)
def as4 : aN := bA (aR Γ) 166 cJ γ166
theorem aE6 (p0 : Str) : bG SE (as4 Γ γ166) Λ2 J 157 [.d (.str p0)] [] [] =
 γ166 [.d (.str p0), .d (.str ([47] : Str))] [] [] fun r0 =>
 (some (.ret [.d (.sl [.str] (List.map cL r0))] [] [])) := by kernel_rfl
end
abbrev awM : aN := as4 gG (cT 166 cJ)
theorem aAY : awM = aR gG := by unfold awM as4; rw [bD fun _ h => h]
theorem ak0 (p0 : Str) : Le (Option.map cJ (xG p0)) (bF SE 157 [.d (.str p0)] [] []) := by
 refine aV aAY rfl ?_
 refine Le.trans ?_ (le_of_eq (aE6 ..).symm)
 unfold xG
 refine lQ eX uP (ajF _ _) fun r0 _ => ?_
 exact aJ rfl
def aeX (C : aN) (Λ2 J : Lam) (a0 : List (List D)) (a1 : Bool) (a2 : Int) (a3 : Str) (a4 : List (List D)) (a5 a6 : Int) (a7 : Str) (a8 : Nat) : Res := lab SE C Λ2 J 141 0 [1, 0, 1, 1, 1, 1, 0, 1, 0, 0, 1, 1, 0, 0, 1, 1, 0] (aU [(3, .d (.sl [.str] a0)), (4, .d (.bool a1)), (5, .d (.int .i64 a2)), (6, .d (.str a3)), (15, .d (.sl [.str] a4)), (16, .d (.int .i64 a5)), (17, .d (.int .i64 a6)), (23, .it 4000)] [] [] [(4000, (a7, a8))] [])
def anS (C : aN) (Λ2 J : Lam) (a0 : List (List D)) (a1 : Bool) (a2 : List (List D)) (a3 a4 : Int) : Res := lab SE C Λ2 J 141 0 [1, 0, 1, 1, 1, 1, 0, 1, 0] (aU [(3, .d (.sl [.str] a0)), (4, .d (.bool a1)), (15, .d (.sl [.str] a2)), (16, .d (.int .i64 a3)), (17, .d (.int .i64 a4))] [] [] [] [])
section
variable (Γ : Fun) (γ156 : Gm (Bool)) (γ157 : Gm ((List Str))) (Λ2 J : Lam)
def ab2 : aN := bA (bA (aR Γ) 156 brokerlaw43_light_out γ156) 157 cJ γ157
theorem aFa (p0 : Str) : bG SE (ab2 Γ γ156 γ157) Λ2 J 141 [.d (.str p0)] [] [] =
 γ156 [.d (.str p0)] [] [] fun r0 =>
 cond (!r0) (
 (rB false)) (
 γ157 [.d (.str p0)] [] [] fun r1 =>
 anS (ab2 Γ γ156 γ157) Λ2 J (List.map cL r1) true (List.map cL r1) (lM cL r1 : Int) 0) := by kernel_rfl
theorem aym (x3 : List Str) (x4 : Bool) (x5 : Int) (x6 : Str) (x15 : List Str) (x16 x17 : Int) (s4000 : Str) (i4000 : Nat) : bS SE (ab2 Γ γ156 γ157) Λ2 J 141 0 [1, 0, 1, 1, 1, 1, 0, 1, 0, 0, 1, 1, 0, 0, 1, 1, 0] (aU [(3, .d (.sl [.str] (List.map cL x3))), (4, .d (.bool x4)), (5, .d (.int .i64 x5)), (6, .d (.str x6)), (15, .d (.sl [.str] (List.map cL x15))), (16, .d (.int .i64 x16)), (17, .d (.int .i64 x17)), (23, .it 4000)] [] [] [(4000, (s4000, i4000))] []) =
 cond (decide (i4000 < List.length s4000)) (
 cond (((dec s4000 i4000).1 : Int) == 43) (
  cond (!((List.length x6 : Int) == 1)) (
  (rB false)) (
  cond (((dec s4000 i4000).1 : Int) == 35) (
  cond (!((List.length x6 : Int) == 1)) (
   (rB false)) (
  cond (decide (x5 < (w6 ((lM cL x3 : Int) - 1)))) (
   (rB false)) (
  aeX (ab2 Γ γ156 γ157) Λ2 J (List.map cL x3) x4 x5 x6 (List.map cL x15) x16 x17 s4000 (i4000 + (dec s4000 i4000).2)))) (
  aeX (ab2 Γ γ156 γ157) Λ2 J (List.map cL x3) x4 x5 x6 (List.map cL x15) x16 x17 s4000 (i4000 + (dec s4000 i4000).2)))) (
 cond (((dec s4000 i4000).1 : Int) == 35) (
  cond (!((List.length x6 : Int) == 1)) (
  (rB false)) (
  cond (decide (x5 < (w6 ((lM cL x3 : Int) - 1)))) (
  (rB false)) (
  aeX (ab2 Γ γ156 γ157) Λ2 J (List.map cL x3) x4 x5 x6 (List.map cL x15) x16 x17 s4000 (i4000 + (dec s4000 i4000).2)))) (
 aeX (ab2 Γ γ156 γ157) Λ2 J (List.map cL x3) x4 x5 x6 (List.map cL x15) x16 x17 s4000 (i4000 + (dec s4000 i4000).2)))) (
 anS (ab2 Γ γ156 γ157) Λ2 J (List.map cL x3) x4 (List.map cL x15) x16 (w6 (x17 + 1))) := by kernel_rfl
theorem ay5 (x3 : List Str) (x4 : Bool) (x15 : List Str) (x16 x17 : Int) : bS SE (ab2 Γ γ156 γ157) Λ2 J 141 0 [1, 0, 1, 1, 1, 1, 0, 1, 0] (aU [(3, .d (.sl [.str] (List.map cL x3))), (4, .d (.bool x4)), (15, .d (.sl [.str] (List.map cL x15))), (16, .d (.int .i64 x16)), (17, .d (.int .i64 x17))] [] [] [] []) =
 cond (decide (x17 < x16)) (
 cond (iB x17 (lM cL x15 : Int)) (
  aeX (ab2 Γ γ156 γ157) Λ2 J (List.map cL x3) x4 x17 ((bL (cE cL x15 x17 0))) (List.map cL x15) x16 x17 ((bL (cE cL x15 x17 0))) 0) none) (
 (rB x4)) := by kernel_rfl
end
abbrev alh : aN := ab2 gG (cT 156 brokerlaw43_light_out) (cT 157 cJ)
theorem aq6 : alh = aR gG := by unfold alh ab2; repeat rw [bD fun _ h => h]
abbrev azT := aeX alh (bR SE gG (SE.hl 141) (SE.hr 141)) (J0 SE alh)
abbrev arV := anS alh (bR SE gG (SE.hl 141) (SE.hr 141)) (J0 SE alh)
theorem aia : ∀ (fu : Nat) (k6 : (List Str) → Bool → (List Str) → Int → Int → Option (Bool)) (hk6 : ∀ (x3 : List Str) (x4 : Bool) (x15 : List Str) (x16 x17 : Int), Le (Option.map brokerlaw43_light_out (k6 x3 x4 x15 x16 x17)) (arV (List.map cL x3) x4 (List.map cL x15) x16 x17)) (x3 : List Str) (x4 : Bool) (x5 : Int) (x6 : Str) (x15 : List Str) (x16 x17 : Int) (s4000 : Str) (i4000 : Nat), Le (Option.map brokerlaw43_light_out (gX fu k6 x3 x4 x5 x6 x15 x16 x17 s4000 i4000)) (azT (List.map cL x3) x4 x5 x6 (List.map cL x15) x16 x17 s4000 i4000) := by
 intro fu
 induction fu with
 | zero => intros; exact le_none
 | succ fu ih =>
  intro k6 hk6 x3 x4 x5 x6 x15 x16 x17 s4000 i4000
  refine Le.trans ?_ (le_of_eq ((aX aq6).trans (aym ..)).symm)
  unfold gX
  refine lC ?_ ?_
  ·refine lC ?_ ?_
   ·refine lC ?_ ?_
    ·exact aJ rfl
    ·refine lC ?_ ?_
     ·refine lC ?_ ?_
      ·exact aJ rfl
      ·refine lD (by simp only [EN]) ?_ ?_
       ·exact aJ rfl
       ·exact ih _ hk6 x3 x4 x5 x6 x15 x16 x17 s4000 (i4000 + (dec s4000 i4000).2)
     ·exact ih _ hk6 x3 x4 x5 x6 x15 x16 x17 s4000 (i4000 + (dec s4000 i4000).2)
   ·refine lC ?_ ?_
    ·refine lC ?_ ?_
     ·exact aJ rfl
     ·refine lD (by simp only [EN]) ?_ ?_
      ·exact aJ rfl
      ·exact ih _ hk6 x3 x4 x5 x6 x15 x16 x17 s4000 (i4000 + (dec s4000 i4000).2)
    ·exact ih _ hk6 x3 x4 x5 x6 x15 x16 x17 s4000 (i4000 + (dec s4000 i4000).2)
  ·exact hk6 x3 x4 x15 x16 (w6 (x17 + 1))
theorem ahK : ∀ (fu : Nat) (x3 : List Str) (x4 : Bool) (x15 : List Str) (x16 x17 : Int), Le (Option.map brokerlaw43_light_out (mO fu x3 x4 x15 x16 x17)) (arV (List.map cL x3) x4 (List.map cL x15) x16 x17) := by
 intro fu
 induction fu with
 | zero => intros; exact le_none
 | succ fu ih =>
  intro x3 x4 x15 x16 x17
  refine Le.trans ?_ (le_of_eq ((aX aq6).trans (ay5 ..)).symm)
  unfold mO
  refine lC ?_ ?_
  ·refine lG (by simp only [EN]) ?_
   (try simp only [EN]); exact aia fuel _ (ih) x3 x4 x17 (List.getD x15 (Int.toNat x17) default) x15 x16 x17 (List.getD x15 (Int.toNat x17) default) 0
  ·exact aJ rfl
theorem ad5 (p0 : Str) : Le (Option.map brokerlaw43_light_out (tV p0)) (bF SE 141 [.d (.str p0)] [] []) := by
 refine aV aq6 rfl ?_
 refine Le.trans ?_ (le_of_eq (aFa ..).symm)
 unfold tV
 refine lQ eX brokerlaw43_light_inj (afC _) fun r0 _ => ?_
 refine lC ?_ ?_
 ·exact aJ rfl
 ·refine lQ eX uP (ak0 _) fun r1 _ => ?_
  (try simp only [EN]); exact ahK fuel r1 true r1 (List.length r1 : Int) 0
section
variable (Γ : Fun) (γ158 : Gm (Bool)) (Λ2 J : Lam)
def aug : aN := bA (aR Γ) 158 brokerlaw43_light_out γ158
theorem aD9 (p0 p1 : Str) : bG SE (aug Γ γ158) Λ2 J 142 [.d (.str p0), .d (.str p1)] [] [] =
 γ158 [.d (.str p0), .d (.str p1)] [] [] fun r0 =>
 (rB r0) := by kernel_rfl
end
abbrev awO : aN := aug gG (cT 158 brokerlaw43_light_out)
theorem aAl : awO = aR gG := by unfold awO aug; rw [bD fun _ h => h]
theorem aaO (p0 p1 : Str) : Le (Option.map brokerlaw43_light_out (mU p0 p1)) (bF SE 142 [.d (.str p0), .d (.str p1)] [] []) := by
 refine aV aAl rfl ?_
 refine Le.trans ?_ (le_of_eq (aD9 ..).symm)
 unfold mU
 refine lQ eX brokerlaw43_light_inj (wT _ _) fun r0 _ => ?_
 exact aJ rfl
section
variable (Γ : Fun) (γ154 : Gm (Str × Bool)) (γ155 : Gm (Str × Str × Bool)) (γ32 γ141 γ142 : Gm (Bool)) (Λ2 J : Lam)
def as6 : aN := bA (bA (bA (bA (bA (aR Γ) 154 dO γ154) 155 cB γ155) 32 brokerlaw43_light_out γ32) 141 brokerlaw43_light_out γ141) 142 brokerlaw43_light_out γ142
theorem aDO (p0 : Str) : bG SE (as6 Γ γ154 γ155 γ32 γ141 γ142) Λ2 J 139 [.d (.str p0)] [] [] =
 γ154 [.d (.str p0), .d (.str ([36, 115, 104, 97, 114, 101, 47] : Str))] [] [] fun r0 =>
 cond (!r0.2) (
 (some (.ret [.d (.str []), .d (.str []), .d (.bool false)] [] []))) (
 γ155 [.d (.str r0.1), .d (.str ([47] : Str))] [] [] fun r1 =>
 cond (!r1.2.2) (
 (some (.ret [.d (.str []), .d (.str []), .d (.bool false)] [] []))) (
 γ32 [.d (.str r1.1)] [] [] fun r2 =>
 cond (!r2) (
 (some (.ret [.d (.str []), .d (.str []), .d (.bool false)] [] []))) (
 γ141 [.d (.str r1.2.1)] [] [] fun r3 =>
 cond (!r3) (
 (some (.ret [.d (.str []), .d (.str []), .d (.bool false)] [] []))) (
 γ142 [.d (.str r1.2.1), .d (.str ([36, 115, 104, 97, 114, 101, 47] : Str))] [] [] fun r4 =>
 cond r4 (
 (some (.ret [.d (.str []), .d (.str []), .d (.bool false)] [] []))) (
 (some (.ret [.d (.str r1.1), .d (.str r1.2.1), .d (.bool true)] [] []))))))) := by kernel_rfl
end
abbrev ayI : aN := as6 gG (cT 154 dO) (cT 155 cB) (cT 32 brokerlaw43_light_out) (cT 141 brokerlaw43_light_out) (cT 142 brokerlaw43_light_out)
theorem aCI : ayI = aR gG := by unfold ayI as6; repeat rw [bD fun _ h => h]
theorem aj3 (p0 : Str) : Le (Option.map cB (xF p0)) (bF SE 139 [.d (.str p0)] [] []) := by
 refine aV aCI rfl ?_
 refine Le.trans ?_ (le_of_eq (aDO ..).symm)
 unfold xF
 refine lQ eX v7 (agm _ _) fun r0 _ => ?_
 refine lC ?_ ?_
 ·exact aJ rfl
 ·refine lQ eX nG (alU _ _) fun r1 _ => ?_
  refine lC ?_ ?_
  ·exact aJ rfl
  ·refine lQ eX brokerlaw43_light_inj (rX _) fun r2 _ => ?_
   refine lC ?_ ?_
   ·exact aJ rfl
   ·refine lQ eX brokerlaw43_light_inj (ad5 _) fun r3 _ => ?_
    refine lC ?_ ?_
    ·exact aJ rfl
    ·refine lQ eX brokerlaw43_light_inj (aaO _ _) fun r4 _ => ?_
     refine lC ?_ ?_
     ·exact aJ rfl
     ·exact aJ rfl
section
variable (Γ : Fun) (γ141 γ142 : Gm (Bool)) (Λ2 J : Lam)
def asO : aN := bA (bA (aR Γ) 141 brokerlaw43_light_out γ141) 142 brokerlaw43_light_out γ142
theorem aEh (p0 : aK) : bG SE (asO Γ γ141 γ142) Λ2 J 140 [.ptr 2000000000 0] [⟨72, (aK.avs p0)⟩] [] =
 γ141 [.d (.str p0.Filter)] [] [] fun r0 =>
 cond r0 (
 γ142 [.d (.str p0.Filter), .d (.str ([36, 115, 104, 97, 114, 101, 47] : Str))] [] [] fun r1 =>
 (some (.ret [.d (.bool (!r1))] [⟨72, (aK.avs p0)⟩] []))) (
 (some (.ret [.d (.bool false)] [⟨72, (aK.avs p0)⟩] []))) := by kernel_rfl
end
abbrev ayF : aN := asO gG (cT 141 brokerlaw43_light_out) (cT 142 brokerlaw43_light_out)
theorem aCh : ayF = aR gG := by unfold ayF asO; repeat rw [bD fun _ h => h]
theorem aeY (p0 : aK) : Le (Option.map jF (sH p0)) (bF SE 140 [.ptr 2000000000 0] [⟨72, (aK.avs p0)⟩] []) := by
 refine aV aCh rfl ?_
 refine Le.trans ?_ (le_of_eq (aEh ..).symm)
 unfold sH
 refine lQ eX brokerlaw43_light_inj (ad5 _) fun r0 _ => ?_
 refine lC ?_ ?_
 ·refine lQ eX brokerlaw43_light_inj (aaO _ _) fun r1 _ => ?_
  exact aJ rfl
 ·exact aJ rfl
section
variable (Γ : Fun) (γ139 : Gm (Str × Str × Bool)) (γ140 : Gm (Bool × aK)) (Λ2 J : Lam)
def asH : aN := bA (bA (aR Γ) 139 cB γ139) 140 jF γ140
theorem aDm (p0 : aK) : bG SE (asH Γ γ139 γ140) Λ2 J 117 [aK.av p0] [] [] =
 γ139 [.d (.str p0.Filter)] [] [] fun r0 =>
 cond (!r0.2.2) (
 γ140 [.ptr 2000000000 0] [⟨72, (aK.avs p0)⟩] [] fun r1 =>
 cond (!r1.1) (
  (rI 13)) (
 cond (decide (r1.2.Level < 0)) (
  (rI 14)) (
 cond (decide (r1.2.Level > 2)) (
  (rI 14)) (
 cond r1.2.NoLocal (
  cond r0.2.2 (
  (rI 28)) (
  (rI 0))) (
 (rI 0)))))) (
 cond (decide (p0.Level < 0)) (
 (rI 14)) (
 cond (decide (p0.Level > 2)) (
 (rI 14)) (
 cond p0.NoLocal (
 cond r0.2.2 (
  (rI 28)) (
 (rI 0))) (
 (rI 0))))) := by kernel_rfl
end
abbrev azf : aN := asH gG (cT 139 cB) (cT 140 jF)
theorem aA0 : azf = aR gG := by unfold azf asH; repeat rw [bD fun _ h => h]
theorem ag0 (p0 : aK) : Le (Option.map aB (qT p0)) (bF SE 117 [aK.av p0] [] []) := by
 refine aV aA0 rfl ?_
 refine Le.trans ?_ (le_of_eq (aDm ..).symm)
 unfold qT
 refine lQ eX nG (aj3 _) fun r0 _ => ?_
 refine lC ?_ ?_
 ·refine lQ eX aeM (aeY _) fun r1 _ => ?_
  refine lC ?_ ?_
  ·exact aJ rfl
  ·refine lC ?_ ?_
   ·exact aJ rfl
   ·refine lC ?_ ?_
    ·exact aJ rfl
    ·refine lC ?_ ?_
     ·refine lC ?_ ?_
      ·exact aJ rfl
      ·exact aJ rfl
     ·exact aJ rfl
 ·refine lC ?_ ?_
  ·exact aJ rfl
  ·refine lC ?_ ?_
   ·exact aJ rfl
   ·refine lC ?_ ?_
    ·refine lC ?_ ?_
     ·exact aJ rfl
     ·exact aJ rfl
    ·exact aJ rfl
def aoh (C : aN) (Λ2 J : Lam) (a0 : Str) (a1 : Nat) : Res := lab SE C Λ2 J 143 0 [1, 1, 0, 1, 0] (aU [(9, .it 4000)] [] [] [(4000, (a0, a1))] [])
section
variable (Γ : Fun) (γ156 : Gm (Bool)) (Λ2 J : Lam)
def alJ : aN := bA (aR Γ) 156 brokerlaw43_light_out γ156
theorem aFf (p0 : Str) : bG SE (alJ Γ γ156) Λ2 J 143 [.d (.str p0)] [] [] =
 γ156 [.d (.str p0)] [] [] fun r0 =>
 cond (!r0) (
 (rB false)) (
 aoh (alJ Γ γ156) Λ2 J p0 0) := by kernel_rfl
theorem axy (s4000 : Str) (i4000 : Nat) : bS SE (alJ Γ γ156) Λ2 J 143 0 [1, 1, 0, 1, 0] (aU [(9, .it 4000)] [] [] [(4000, (s4000, i4000))] []) =
 cond (decide (i4000 < List.length s4000)) (
 cond (((dec s4000 i4000).1 : Int) == 43) (
  (rB false)) (
 cond (((dec s4000 i4000).1 : Int) == 35) (
  (rB false)) (
 aoh (alJ Γ γ156) Λ2 J s4000 (i4000 + (dec s4000 i4000).2)))) (
 (rB true)) := by kernel_rfl
end
abbrev ap5 : aN := alJ gG (cT 156 brokerlaw43_light_out)
theorem avq : ap5 = aR gG := by unfold ap5 alJ; rw [bD fun _ h => h]
abbrev axn := aoh ap5 (bR SE gG (SE.hl 143) (SE.hr 143)) (J0 SE ap5)
theorem aiT : ∀ (fu : Nat) (s4000 : Str) (i4000 : Nat), Le (Option.map brokerlaw43_light_out (lW fu s4000 i4000)) (axn s4000 i4000) := by
 intro fu
 induction fu with
 | zero => intros; exact le_none
 | succ fu ih =>
  intro s4000 i4000
  refine Le.trans ?_ (le_of_eq ((aX avq).trans (axy ..)).symm)
  unfold lW
  refine lC ?_ ?_
  ·refine lC ?_ ?_
   ·exact aJ rfl
   ·refine lC ?_ ?_
    ·exact aJ rfl
    ·exact ih s4000 (i4000 + (dec s4000 i4000).2)
  ·exact aJ rfl
theorem alj (p0 : Str) : Le (Option.map brokerlaw43_light_out (yM p0)) (bF SE 143 [.d (.str p0)] [] []) := by
 refine aV avq rfl ?_
 refine Le.trans ?_ (le_of_eq (aFf ..).symm)
 unfold yM
 refine lQ eX brokerlaw43_light_inj (afC _) fun r0 _ => ?_
 refine lC ?_ ?_
 ·exact aJ rfl
 ·exact aiT fuel p0 0
section
variable (Γ : Fun)  (Λ2 J : Lam)
def axa : aN := aR Γ
theorem aDu (p0 p1 : Int) : bG SE (axa Γ) Λ2 J 128 [.d (.int .i64 p0), .d (.int .i64 p1)] [] [] =
 cond (decide (p0 ≥ 0)) (
 (rB (decide (p0 ≤ p1)))) (
 (rB false)) := by kernel_rfl
end
abbrev aE8 : aN := axa gG
theorem aAq : aE8 = aR gG := rfl
theorem sA (p0 p1 : Int) : Le (Option.map brokerlaw43_light_out (oB p0 p1)) (bF SE 128 [.d (.int .i64 p0), .d (.int .i64 p1)] [] []) := by
 refine aV aAq rfl ?_
 refine Le.trans ?_ (le_of_eq (aDu ..).symm)
 unfold oB
 refine lC ?_ ?_
 ·exact aJ rfl
 ·exact aJ rfl
def aas (C : aN) (Λ2 J : Lam) (a0 : Str) (a1 : Int) : Res := lab SE C Λ2 J 159 0 [1, 1, 0, 1, 0] (aU [(0, .d (.str a0)), (3, .d (.int .i64 a1))] [] [] [] [])
def ar6 (C : aN) (Λ2 J : Lam) (a0 : Str) : Res := lab SE C Λ2 J 159 0 [1, 1, 0, 0] (aU [(0, .d (.str a0))] [] [] [] [])
section
variable (Γ : Fun)  (Λ2 J : Lam)
def aa9 : aN := aR Γ
theorem aDE (p0 : Str) : bG SE (aa9 Γ) Λ2 J 159 [.d (.str p0)] [] [] =
 cond (decide ((List.length p0 : Int) < 1)) (
 (rB false)) (
 cond (decide ((List.length p0 : Int) > 16)) (
 (rB false)) (
 ar6 (aa9 Γ) Λ2 J p0)) := by kernel_rfl
theorem azG (x0 : Str) (x3 : Int) : bS SE (aa9 Γ) Λ2 J 159 0 [1, 1, 0, 1, 0] (aU [(0, .d (.str x0)), (3, .d (.int .i64 x3))] [] [] [] []) =
 cond (decide (x3 < (List.length x0 : Int))) (
 cond (iB x3 (List.length x0 : Int)) (
  cond (decide ((UInt8.toNat (List.getD x0 (Int.toNat x3) 0) : Int) < 97)) (
  cond (decide ((UInt8.toNat (List.getD x0 (Int.toNat x3) 0) : Int) < 48)) (
   cond ((UInt8.toNat (List.getD x0 (Int.toNat x3) 0) : Int) != 45) (
   (rB false)) (
   aas (aa9 Γ) Λ2 J x0 (w6 (x3 + 1)))) (
  cond (decide ((UInt8.toNat (List.getD x0 (Int.toNat x3) 0) : Int) > 57)) (
   cond ((UInt8.toNat (List.getD x0 (Int.toNat x3) 0) : Int) != 45) (
   (rB false)) (
   aas (aa9 Γ) Λ2 J x0 (w6 (x3 + 1)))) (
  aas (aa9 Γ) Λ2 J x0 (w6 (x3 + 1))))) (
  cond (decide ((UInt8.toNat (List.getD x0 (Int.toNat x3) 0) : Int) > 122)) (
  cond (decide ((UInt8.toNat (List.getD x0 (Int.toNat x3) 0) : Int) < 48)) (
   cond ((UInt8.toNat (List.getD x0 (Int.toNat x3) 0) : Int) != 45) (
   (rB false)) (
   aas (aa9 Γ) Λ2 J x0 (w6 (x3 + 1)))) (
  cond (decide ((UInt8.toNat (List.getD x0 (Int.toNat x3) 0) : Int) > 57)) (
   cond ((UInt8.toNat (List.getD x0 (Int.toNat x3) 0) : Int) != 45) (
   (rB false)) (
   aas (aa9 Γ) Λ2 J x0 (w6 (x3 + 1)))) (
  aas (aa9 Γ) Λ2 J x0 (w6 (x3 + 1))))) (
  aas (aa9 Γ) Λ2 J x0 (w6 (x3 + 1))))) none) (
 (rB true)) := by kernel_rfl
theorem axT (x0 : Str) : bS SE (aa9 Γ) Λ2 J 159 0 [1, 1, 0, 0] (aU [(0, .d (.str x0))] [] [] [] []) =
 aas (aa9 Γ) Λ2 J x0 0 := by kernel_rfl
end
abbrev aoO : aN := aa9 gG
theorem aq8 : aoO = aR gG := rfl
abbrev axf := aas aoO (bR SE gG (SE.hl 159) (SE.hr 159)) (J0 SE aoO)
abbrev azD := ar6 aoO (bR SE gG (SE.hl 159) (SE.hr 159)) (J0 SE aoO)
theorem aiJ : ∀ (fu : Nat) (x0 : Str) (x3 : Int), Le (Option.map brokerlaw43_light_out (fR fu x0 x3)) (axf x0 x3) := by
 intro fu
 induction fu with
 | zero => intros; exact le_none
 | succ fu ih =>
  intro x0 x3
  refine Le.trans ?_ (le_of_eq ((aX aq8).trans (azG ..)).symm)
  unfold fR
  refine lC ?_ ?_
  ·refine lF ?_
   refine lC ?_ ?_
   ·refine lC ?_ ?_
    ·refine lC ?_ ?_
     ·exact aJ rfl
     ·exact ih x0 (w6 (x3 + 1))
    ·refine lC ?_ ?_
     ·refine lC ?_ ?_
      ·exact aJ rfl
      ·exact ih x0 (w6 (x3 + 1))
     ·exact ih x0 (w6 (x3 + 1))
   ·refine lC ?_ ?_
    ·refine lC ?_ ?_
     ·refine lC ?_ ?_
      ·exact aJ rfl
      ·exact ih x0 (w6 (x3 + 1))
     ·refine lC ?_ ?_
      ·refine lC ?_ ?_
       ·exact aJ rfl
       ·exact ih x0 (w6 (x3 + 1))
      ·exact ih x0 (w6 (x3 + 1))
    ·exact ih x0 (w6 (x3 + 1))
  ·exact aJ rfl
theorem aiQ (x0 : Str) : Le (Option.map brokerlaw43_light_out (xH x0)) (azD x0) := by
 refine Le.trans ?_ (le_of_eq ((aX aq8).trans (axT ..)).symm)
 unfold xH
 exact aiJ fuel x0 0
theorem alE (p0 : Str) : Le (Option.map brokerlaw43_light_out (yT p0)) (bF SE 159 [.d (.str p0)] [] []) := by
 refine aV aq8 rfl ?_
 refine Le.trans ?_ (le_of_eq (aDE ..).symm)
 unfold yT
 refine lC ?_ ?_
 ·exact aJ rfl
 ·refine lC ?_ ?_
  ·exact aJ rfl
  ·exact aiQ p0
def akF (C : aN) (Λ2 J : Lam) (a0 a1 : List (List D)) (a2 a3 : Int) : Res := lab SE C Λ2 J 144 0 [1, 1, 0, 1, 0] (aU [(0, .d (.sl aG.ks a0)), (8, .d (.sl aG.ks a1)), (9, .d (.int .i64 a2)), (10, .d (.int .i64 a3))] [] [] [] [])
section
variable (Γ : Fun) (γ159 : Gm (Bool)) (Λ2 J : Lam)
def ajL : aN := bA (aR Γ) 159 brokerlaw43_light_out γ159
theorem aFn (p0 : List aG) : bG SE (ajL Γ γ159) Λ2 J 144 [.d (.sl aG.ks (List.map aG.enc p0))] [] [] =
 cond (decide ((lM aG.enc p0 : Int) > 8)) (
 (rI 5)) (
 akF (ajL Γ γ159) Λ2 J (List.map aG.enc p0) (List.map aG.enc p0) (lM aG.enc p0 : Int) 0) := by kernel_rfl
theorem axE (x0 x8 : List aG) (x9 x10 : Int) : bS SE (ajL Γ γ159) Λ2 J 144 0 [1, 1, 0, 1, 0] (aU [(0, .d (.sl aG.ks (List.map aG.enc x0))), (8, .d (.sl aG.ks (List.map aG.enc x8))), (9, .d (.int .i64 x9)), (10, .d (.int .i64 x10))] [] [] [] []) =
 cond (decide (x10 < x9)) (
 cond (iB x10 (lM aG.enc x8 : Int)) (
  γ159 [.d (.str (bL (cE aG.enc x8 x10 0)))] [] [] fun r0 =>
  cond (!r0) (
  (rI 16)) (
  cond (decide ((List.length (bL (cE aG.enc x8 x10 1)) : Int) > 160)) (
  (rI 5)) (
  cond (decide (x10 > 0)) (
  cond (iB (w6 (x10 - 1)) (lM aG.enc x0 : Int)) (
   cond (Op.bytesLess (bL (cE aG.enc x8 x10 0)) (bL (cE aG.enc x0 (w6 (x10 - 1)) 0)) || (bL (cE aG.enc x8 x10 0)) == (bL (cE aG.enc x0 (w6 (x10 - 1)) 0))) (
   (rI 16)) (
   akF (ajL Γ γ159) Λ2 J (List.map aG.enc x0) (List.map aG.enc x8) x9 (w6 (x10 + 1)))) none) (
  akF (ajL Γ γ159) Λ2 J (List.map aG.enc x0) (List.map aG.enc x8) x9 (w6 (x10 + 1)))))) none) (
 (rI 0)) := by kernel_rfl
end
abbrev aqs : aN := ajL gG (cT 159 brokerlaw43_light_out)
theorem avx : aqs = aR gG := by unfold aqs ajL; rw [bD fun _ h => h]
abbrev ax6 := akF aqs (bR SE gG (SE.hl 144) (SE.hr 144)) (J0 SE aqs)
theorem agX : ∀ (fu : Nat) (x0 x8 : List aG) (x9 x10 : Int), Le (Option.map aB (j8 fu x0 x8 x9 x10)) (ax6 (List.map aG.enc x0) (List.map aG.enc x8) x9 x10) := by
 intro fu
 induction fu with
 | zero => intros; exact le_none
 | succ fu ih =>
  intro x0 x8 x9 x10
  refine Le.trans ?_ (le_of_eq ((aX avx).trans (axE ..)).symm)
  unfold j8
  refine lC ?_ ?_
  ·refine lG (by simp only [EN]) ?_
   refine lQ eX brokerlaw43_light_inj (by (try simp only [EN]); exact alE ((List.getD x8 (Int.toNat x10) default).Key)) fun r0 _ => ?_
   refine lC ?_ ?_
   ·exact aJ rfl
   ·refine lD (by simp only [EN]) ?_ ?_
    ·exact aJ rfl
    ·refine lC ?_ ?_
     ·refine lG (by simp only [EN]) ?_
      refine lD (by simp only [EN]) ?_ ?_
      ·exact aJ rfl
      ·exact ih x0 x8 x9 (w6 (x10 + 1))
     ·exact ih x0 x8 x9 (w6 (x10 + 1))
  ·exact aJ rfl
theorem adm (p0 : List aG) : Le (Option.map aB (sC p0)) (bF SE 144 [.d (.sl aG.ks (List.map aG.enc p0))] [] []) := by
 refine aV avx rfl ?_
 refine Le.trans ?_ (le_of_eq (aFn ..).symm)
 unfold sC
 refine lD (by simp only [EN]) ?_ ?_
 ·exact aJ rfl
 ·(try simp only [EN]); exact agX fuel p0 p0 (List.length p0 : Int) 0
section
variable (Γ : Fun) (γ143 γ128 γ32 : Gm (Bool)) (γ144 : Gm (Int)) (Λ2 J : Lam)
def asL : aN := bA (bA (bA (bA (aR Γ) 143 brokerlaw43_light_out γ143) 128 brokerlaw43_light_out γ128) 32 brokerlaw43_light_out γ32) 144 aB γ144
theorem aEj (p0 : aC) : bG SE (asL Γ γ143 γ128 γ32 γ144) Λ2 J 118 [aC.av p0] [] [] =
 γ143 [.d (.str p0.Topic)] [] [] fun r0 =>
 cond (!r0) (
 (rI 12)) (
 cond (decide ((List.length p0.Payload : Int) > 256)) (
 (rI 5)) (
 γ128 [.d (.int .i64 p0.Level), .d (.int .i64 2)] [] [] fun r1 =>
 cond (!r1) (
 (rI 14)) (
 γ128 [.d (.int .i64 p0.Priority), .d (.int .i64 9)] [] [] fun r2 =>
 cond (!r2) (
 (rI 1)) (
 γ128 [.d (.int .i64 p0.Expires), .d (.int .i64 1099511627776)] [] [] fun r3 =>
 cond (!r3) (
 (rI 1)) (
 cond (!(p0.From == ([] : Str))) (
 γ32 [.d (.str p0.From)] [] [] fun r4 =>
 cond (!r4) (
  (rI 11)) (
 γ128 [.d (.int .i64 p0.Seq), .d (.int .i64 1099511627776)] [] [] fun r5 =>
 cond (!r5) (
  (rI 1)) (
 γ144 [.d (.sl aG.ks (List.map aG.enc p0.Props))] [] [] fun r6 =>
 (rI r6)))) (
 γ128 [.d (.int .i64 p0.Seq), .d (.int .i64 1099511627776)] [] [] fun r7 =>
 cond (!r7) (
 (rI 1)) (
 γ144 [.d (.sl aG.ks (List.map aG.enc p0.Props))] [] [] fun r8 =>
 (rI r8)))))))) := by kernel_rfl
end
abbrev axt : aN := asL gG (cT 143 brokerlaw43_light_out) (cT 128 brokerlaw43_light_out) (cT 32 brokerlaw43_light_out) (cT 144 aB)
theorem aBM : axt = aR gG := by unfold axt asL; repeat rw [bD fun _ h => h]
theorem uS (p0 : aC) : Le (Option.map aB (m7 p0)) (bF SE 118 [aC.av p0] [] []) := by
 refine aV aBM rfl ?_
 refine Le.trans ?_ (le_of_eq (aEj ..).symm)
 unfold m7
 refine lQ eX brokerlaw43_light_inj (alj _) fun r0 _ => ?_
 refine lC ?_ ?_
 ·exact aJ rfl
 ·refine lC ?_ ?_
  ·exact aJ rfl
  ·refine lQ eX brokerlaw43_light_inj (sA _ _) fun r1 _ => ?_
   refine lC ?_ ?_
   ·exact aJ rfl
   ·refine lQ eX brokerlaw43_light_inj (sA _ _) fun r2 _ => ?_
    refine lC ?_ ?_
    ·exact aJ rfl
    ·refine lQ eX brokerlaw43_light_inj (sA _ _) fun r3 _ => ?_
     refine lC ?_ ?_
     ·exact aJ rfl
     ·refine lC ?_ ?_
      ·refine lQ eX brokerlaw43_light_inj (rX _) fun r4 _ => ?_
       refine lC ?_ ?_
       ·exact aJ rfl
       ·refine lQ eX brokerlaw43_light_inj (sA _ _) fun r5 _ => ?_
        refine lC ?_ ?_
        ·exact aJ rfl
        ·refine lQ eX aL (adm _) fun r6 _ => ?_
         exact aJ rfl
      ·refine lQ eX brokerlaw43_light_inj (sA _ _) fun r7 _ => ?_
       refine lC ?_ ?_
       ·exact aJ rfl
       ·refine lQ eX aL (adm _) fun r8 _ => ?_
        exact aJ rfl
def aoM (C : aN) (Λ2 J : Lam) (a0 : List (List D)) (a1 a2 : Int) : Res := lab SE C Λ2 J 87 0 [1, 1, 1, 1, 0, 1, 0] (aU [(46, .d (.sl aC.ks a0)), (47, .d (.int .i64 a1)), (48, .d (.int .i64 a2))] [] [] [] [])
def ane (C : aN) (Λ2 J : Lam) (a0 : List (List D)) (a1 a2 : Int) (a3 : List D) : Res := lab SE C Λ2 J 87 0 [1, 1, 0, 1, 0] (aU [(1, .ptr 1000000000 0), (14, .d (.sl aK.ks a0)), (15, .d (.int .i64 a1)), (16, .d (.int .i64 a2))] [⟨46, (List.map AV.d a3)⟩] [] [] [])
section
variable (Γ : Fun) (γ117 γ118 : Gm (Int)) (Λ2 J : Lam)
def C87 : aN := bA (bA (aR Γ) 117 aB γ117) 118 aB γ118
theorem T87 (p0 : aI) : bG SE (C87 Γ γ117 γ118) Λ2 J 87 [aI.av p0] [] [] =
 cond (decide ((lM aK.enc p0.Subs : Int) > 32)) (
 (rI 5)) (
 ane (C87 Γ γ117 γ118) Λ2 J (List.map aK.enc p0.Subs) (lM aK.enc p0.Subs : Int) 0 (aI.enc p0)) := by kernel_rfl
theorem ax9 (x46 : List aC) (x47 x48 : Int) : bS SE (C87 Γ γ117 γ118) Λ2 J 87 0 [1, 1, 1, 1, 0, 1, 0] (aU [(46, .d (.sl aC.ks (List.map aC.enc x46))), (47, .d (.int .i64 x47)), (48, .d (.int .i64 x48))] [] [] [] []) =
 cond (decide (x48 < x47)) (
 cond (iB x48 (lM aC.enc x46 : Int)) (
  γ118 [.agg [.d (.str (bL (cE aC.enc x46 x48 0))), .d (.str (bL (cE aC.enc x46 x48 1))), .d (.int .i64 (aW (cE aC.enc x46 x48 2))), .d (.bool (dL (cE aC.enc x46 x48 3))), .d (.int .i64 (aW (cE aC.enc x46 x48 4))), .d (.int .i64 (aW (cE aC.enc x46 x48 5))), .d (.str (bL (cE aC.enc x46 x48 6))), .d (.int .i64 (aW (cE aC.enc x46 x48 7))), .d (.sl aG.ks (dSl (cE aC.enc x46 x48 8)))]] [] [] fun r1 =>
  cond (r1 != 0) (
  (rI r1)) (
  aoM (C87 Γ γ117 γ118) Λ2 J (List.map aC.enc x46) x47 (w6 (x48 + 1)))) none) (
 (rI 0)) := by kernel_rfl
theorem aBc (x14 : List aK) (x15 x16 : Int) (b0 : aI) : bS SE (C87 Γ γ117 γ118) Λ2 J 87 0 [1, 1, 0, 1, 0] (aU [(1, .ptr 1000000000 0), (14, .d (.sl aK.ks (List.map aK.enc x14))), (15, .d (.int .i64 x15)), (16, .d (.int .i64 x16))] [⟨46, (List.map AV.d (aI.enc b0))⟩] [] [] []) =
 cond (decide (x16 < x15)) (
 cond (iB x16 (lM aK.enc x14 : Int)) (
  γ117 [.agg [.d (.str (bL (cE aK.enc x14 x16 0))), .d (.int .i64 (aW (cE aK.enc x14 x16 1))), .d (.bool (dL (cE aK.enc x14 x16 2)))]] [] [] fun r0 =>
  cond (r0 != 0) (
  (rI r0)) (
  cond (decide (x16 > 0)) (
  cond (iB (w6 (x16 - 1)) (lM aK.enc b0.Subs : Int)) (
   cond (Op.bytesLess (bL (cE aK.enc x14 x16 0)) (bL (cE aK.enc b0.Subs (w6 (x16 - 1)) 0)) || (bL (cE aK.enc x14 x16 0)) == (bL (cE aK.enc b0.Subs (w6 (x16 - 1)) 0))) (
   (rI 22)) (
   ane (C87 Γ γ117 γ118) Λ2 J (List.map aK.enc x14) x15 (w6 (x16 + 1)) (aI.enc b0))) none) (
  ane (C87 Γ γ117 γ118) Λ2 J (List.map aK.enc x14) x15 (w6 (x16 + 1)) (aI.enc b0)))) none) (
 cond (decide ((lM aC.enc b0.Queue : Int) > 256)) (
 (rI 5)) (
 aoM (C87 Γ γ117 γ118) Λ2 J (List.map aC.enc b0.Queue) (lM aC.enc b0.Queue : Int) 0)) := by kernel_rfl
end
abbrev X87 : aN := C87 gG (cT 117 aB) (cT 118 aB)
theorem atp : X87 = aR gG := by unfold X87 C87; repeat rw [bD fun _ h => h]
abbrev awX := aoM X87 (bR SE gG (SE.hl 87) (SE.hr 87)) (J0 SE X87)
abbrev aCe := ane X87 (bR SE gG (SE.hl 87) (SE.hr 87)) (J0 SE X87)
theorem ach : ∀ (fu : Nat) (x46 : List aC) (x47 x48 : Int), Le (Option.map aB (fL fu x46 x47 x48)) (awX (List.map aC.enc x46) x47 x48) := by
 intro fu
 induction fu with
 | zero => intros; exact le_none
 | succ fu ih =>
  intro x46 x47 x48
  refine Le.trans ?_ (le_of_eq ((aX atp).trans (ax9 ..)).symm)
  unfold fL
  refine lC ?_ ?_
  ·refine lG (by simp only [EN]) ?_
   refine lQ eX aL (by (try simp only [EN]); exact uS (List.getD x46 (Int.toNat x48) default)) fun r1 _ => ?_
   refine lC ?_ ?_
   ·exact aJ rfl
   ·exact ih x46 x47 (w6 (x48 + 1))
  ·exact aJ rfl
theorem ada : ∀ (fu : Nat) (x14 : List aK) (x15 x16 : Int) (b0 : aI), Le (Option.map aB (gL fu x14 x15 x16 b0)) (aCe (List.map aK.enc x14) x15 x16 (aI.enc b0)) := by
 intro fu
 induction fu with
 | zero => intros; exact le_none
 | succ fu ih =>
  intro x14 x15 x16 b0
  refine Le.trans ?_ (le_of_eq ((aX atp).trans (aBc ..)).symm)
  unfold gL
  refine lC ?_ ?_
  ·refine lG (by simp only [EN]) ?_
   refine lQ eX aL (by (try simp only [EN]); exact ag0 (List.getD x14 (Int.toNat x16) default)) fun r0 _ => ?_
   refine lC ?_ ?_
   ·exact aJ rfl
   ·refine lC ?_ ?_
    ·refine lG (by simp only [EN]) ?_
     refine lD (by simp only [EN]) ?_ ?_
     ·exact aJ rfl
     ·exact ih x14 x15 (w6 (x16 + 1)) b0
    ·exact ih x14 x15 (w6 (x16 + 1)) b0
  ·refine lD (by simp only [EN]) ?_ ?_
   ·exact aJ rfl
   ·(try simp only [EN]); exact ach fuel b0.Queue (List.length b0.Queue : Int) 0
theorem afl (p0 : aI) : Le (Option.map aB (oV p0)) (bF SE 87 [aI.av p0] [] []) := by
 refine aV atp rfl ?_
 refine Le.trans ?_ (le_of_eq (T87 ..).symm)
 unfold oV
 refine lD (by simp only [EN]) ?_ ?_
 ·exact aJ rfl
 ·(try simp only [EN]); exact ada fuel p0.Subs (List.length p0.Subs : Int) 0 p0
def aom (C : aN) (Λ2 J : Lam) (a0 : Int) (a1 : List (List D)) (a2 a3 : Int) (a4 : List D) : Res := lab SE C Λ2 J 119 0 [1, 1, 1, 0, 1, 0] (aU [(1, .ptr 1000000000 0), (3, .d (.int .i64 a0)), (11, .d (.sl [.int .i64] a1)), (12, .d (.int .i64 a2)), (13, .d (.int .i64 a3))] [⟨35, (List.map AV.d a4)⟩] [] [] [])
section
variable (Γ : Fun)  (Λ2 J : Lam)
def an6 : aN := aR Γ
theorem aE4 (p0 : bE) : bG SE (an6 Γ) Λ2 J 119 [bE.av p0] [] [] =
 cond (decide ((lM eI p0.Used : Int) > 32)) (
 (rI 5)) (
 aom (an6 Γ) Λ2 J 0 (List.map eI p0.Used) (lM eI p0.Used : Int) 0 (bE.enc p0)) := by kernel_rfl
theorem az3 (x3 : Int) (x11 : List Int) (x12 x13 : Int) (b0 : bE) : bS SE (an6 Γ) Λ2 J 119 0 [1, 1, 1, 0, 1, 0] (aU [(1, .ptr 1000000000 0), (3, .d (.int .i64 x3)), (11, .d (.sl [.int .i64] (List.map eI x11))), (12, .d (.int .i64 x12)), (13, .d (.int .i64 x13))] [⟨35, (List.map AV.d (bE.enc b0))⟩] [] [] []) =
 cond (decide (x13 < x12)) (
 cond (iB x13 (lM eI x11 : Int)) (
  cond (decide ((aW (cE eI x11 x13 0)) ≤ x3)) (
  (rI 15)) (
  cond (decide ((aW (cE eI x11 x13 0)) > 65535)) (
  (rI 15)) (
  aom (an6 Γ) Λ2 J ((aW (cE eI x11 x13 0))) (List.map eI x11) x12 (w6 (x13 + 1)) (bE.enc b0)))) none) (
 cond (decide (b0.Last < 0)) (
 (rI 1)) (
 cond (decide (b0.Last > 65535)) (
 (rI 1)) (
 (rI 0)))) := by kernel_rfl
end
abbrev auK : aN := an6 gG
theorem auQ : auK = aR gG := rfl
abbrev ayh := aom auK (bR SE gG (SE.hl 119) (SE.hr 119)) (J0 SE auK)
theorem aiS : ∀ (fu : Nat) (x3 : Int) (x11 : List Int) (x12 x13 : Int) (b0 : bE), Le (Option.map aB (nN fu x3 x11 x12 x13 b0)) (ayh x3 (List.map eI x11) x12 x13 (bE.enc b0)) := by
 intro fu
 induction fu with
 | zero => intros; exact le_none
 | succ fu ih =>
  intro x3 x11 x12 x13 b0
  refine Le.trans ?_ (le_of_eq ((aX auQ).trans (az3 ..)).symm)
  unfold nN
  refine lC ?_ ?_
  ·refine lG (by simp only [EN]) ?_
   refine lD (by simp only [EN]) ?_ ?_
   ·exact aJ rfl
   ·refine lD (by simp only [EN]) ?_ ?_
    ·exact aJ rfl
    ·(try simp only [EN]); exact ih (List.getD x11 (Int.toNat x13) default) x11 x12 (w6 (x13 + 1)) b0
  ·refine lC ?_ ?_
   ·exact aJ rfl
   ·refine lC ?_ ?_
    ·exact aJ rfl
    ·exact aJ rfl
theorem alL (p0 : bE) : Le (Option.map aB (yE p0)) (bF SE 119 [bE.av p0] [] []) := by
 refine aV auQ rfl ?_
 refine Le.trans ?_ (le_of_eq (aE4 ..).symm)
 unfold yE
 refine lD (by simp only [EN]) ?_ ?_
 ·exact aJ rfl
 ·(try simp only [EN]); exact aiS fuel 0 p0.Used (List.length p0.Used : Int) 0 p0
section
variable (Γ : Fun)  (Λ2 J : Lam)
def axq : aN := aR Γ
theorem aE9 (p0 : Int) : bG SE (axq Γ) Λ2 J 171 [.d (.int .i64 p0)] [] [] =
 (rB (p0 != p0)) := by kernel_rfl
end
abbrev aFl : aN := axq gG
theorem aAa : aFl = aR gG := rfl
theorem ab9 (p0 : Int) : Le (Option.map brokerlaw43_light_out (tJ p0)) (bF SE 171 [.d (.int .i64 p0)] [] []) := by
 refine aV aAa rfl ?_
 refine Le.trans ?_ (le_of_eq (aE9 ..).symm)
 unfold tJ
 exact aJ rfl
section
variable (Γ : Fun) (γ171 : Gm (Bool)) (Λ2 J : Lam)
def asI : aN := bA (aR Γ) 171 brokerlaw43_light_out γ171
theorem aFs (p0 p1 : Int) : bG SE (asI Γ γ171) Λ2 J 167 [.d (.int .i64 p0), .d (.int .i64 p1)] [] [] =
 γ171 [.d (.int .i64 p0)] [] [] fun r0 =>
 cond r0 (
 γ171 [.d (.int .i64 p1)] [] [] fun r1 =>
 cond (!r1) (
  (rB true)) (
 (rB (decide (p0 < p1))))) (
 (rB (decide (p0 < p1)))) := by kernel_rfl
end
abbrev ax5 : aN := asI gG (cT 171 brokerlaw43_light_out)
theorem aC3 : ax5 = aR gG := by unfold ax5 asI; rw [bD fun _ h => h]
theorem ajV (p0 p1 : Int) : Le (Option.map brokerlaw43_light_out (vI p0 p1)) (bF SE 167 [.d (.int .i64 p0), .d (.int .i64 p1)] [] []) := by
 refine aV aC3 rfl ?_
 refine Le.trans ?_ (le_of_eq (aFs ..).symm)
 unfold vI
 refine lQ eX brokerlaw43_light_inj (ab9 _) fun r0 _ => ?_
 refine lC ?_ ?_
 ·refine lQ eX brokerlaw43_light_inj (ab9 _) fun r1 _ => ?_
  refine lC ?_ ?_
  ·exact aJ rfl
  ·exact aJ rfl
 ·exact aJ rfl
section
variable (Γ : Fun)  (Λ2 J : Lam)
def aze : aN := aR Γ
theorem aEa (p0 : Int) : bG SE (aze Γ) Λ2 J 168 [.d (.int .i64 p0)] [] [] =
 (rB (p0 != p0)) := by kernel_rfl
end
abbrev aDL : aN := aze gG
theorem az8 : aDL = aR gG := rfl
theorem aav (p0 : Int) : Le (Option.map brokerlaw43_light_out (mY p0)) (bF SE 168 [.d (.int .i64 p0)] [] []) := by
 refine aV az8 rfl ?_
 refine Le.trans ?_ (le_of_eq (aEa ..).symm)
 unfold mY
 exact aJ rfl
def akz (C : aN) (Λ2 J : Lam) (a0 : List (List D)) (a1 a2 a3 a4 : Int) : Res := lab SE C Λ2 J 160 0 [1, 1, 1, 0, 0] (aU [(0, .d (.sl [.int .i64] a0)), (1, .d (.int .i64 a1)), (6, .d (.int .i64 a2)), (7, .d (.int .i64 a3)), (8, .d (.int .i64 a4))] [] [] [] [])
section
variable (Γ : Fun) (γ167 γ168 : Gm (Bool)) (Λ2 J : Lam)
def ajO : aN := bA (bA (aR Γ) 167 brokerlaw43_light_out γ167) 168 brokerlaw43_light_out γ168
theorem aEC (p0 : List Int) (p1 : Int) : bG SE (ajO Γ γ167 γ168) Λ2 J 160 [.d (.sl [.int .i64] (List.map eI p0)), .d (.int .i64 p1)] [] [] =
 akz (ajO Γ γ167 γ168) Λ2 J (List.map eI p0) p1 (lM eI p0 : Int) 0 (lM eI p0 : Int) := by kernel_rfl
theorem azq (x0 : List Int) (x1 x6 x7 x8 : Int) : bS SE (ajO Γ γ167 γ168) Λ2 J 160 0 [1, 1, 1, 0, 0] (aU [(0, .d (.sl [.int .i64] (List.map eI x0))), (1, .d (.int .i64 x1)), (6, .d (.int .i64 x6)), (7, .d (.int .i64 x7)), (8, .d (.int .i64 x8))] [] [] [] []) =
 cond (decide (x7 < x8)) (
 cond (iB (w6 (shr .u64 (IntKind.wrap .u64 (w6 (x7 + x8))) 1)) (lM eI x0 : Int)) (
  γ167 [.d (.int .i64 (aW (cE eI x0 (w6 (shr .u64 (IntKind.wrap .u64 (w6 (x7 + x8))) 1)) 0))), .d (.int .i64 x1)] [] [] fun r0 =>
  cond r0 (
  akz (ajO Γ γ167 γ168) Λ2 J (List.map eI x0) x1 x6 (w6 ((w6 (shr .u64 (IntKind.wrap .u64 (w6 (x7 + x8))) 1)) + 1)) x8) (
  akz (ajO Γ γ167 γ168) Λ2 J (List.map eI x0) x1 x6 x7 (w6 (shr .u64 (IntKind.wrap .u64 (w6 (x7 + x8))) 1)))) none) (
 cond (decide (x7 < x6)) (
 cond (iB x7 (lM eI x0 : Int)) (
  cond ((aW (cE eI x0 x7 0)) == x1) (
  (some (.ret [.d (.int .i64 x7), .d (.bool true)] [] []))) (
  cond (iB x7 (lM eI x0 : Int)) (
  γ168 [.d (.int .i64 (aW (cE eI x0 x7 0)))] [] [] fun r1 =>
  cond r1 (
   γ168 [.d (.int .i64 x1)] [] [] fun r2 =>
   (some (.ret [.d (.int .i64 x7), .d (.bool r2)] [] []))) (
  (some (.ret [.d (.int .i64 x7), .d (.bool false)] [] [])))) none)) none) (
 (some (.ret [.d (.int .i64 x7), .d (.bool false)] [] [])))) := by kernel_rfl
end
abbrev aqx : aN := ajO gG (cT 167 brokerlaw43_light_out) (cT 168 brokerlaw43_light_out)
theorem avt : aqx = aR gG := by unfold aqx ajO; repeat rw [bD fun _ h => h]
abbrev azb := akz aqx (bR SE gG (SE.hl 160) (SE.hr 160)) (J0 SE aqx)
theorem wW : ∀ (fu : Nat) (x0 : List Int) (x1 x6 x7 x8 : Int), Le (Option.map cF (cV fu x0 x1 x6 x7 x8)) (azb (List.map eI x0) x1 x6 x7 x8) := by
 intro fu
 induction fu with
 | zero => intros; exact le_none
 | succ fu ih =>
  intro x0 x1 x6 x7 x8
  refine Le.trans ?_ (le_of_eq ((aX avt).trans (azq ..)).symm)
  unfold cV
  refine lC ?_ ?_
  ·refine lG (by simp only [EN]) ?_
   refine lQ eX brokerlaw43_light_inj (by (try simp only [EN]); exact ajV (List.getD x0 (Int.toNat (w6 (shr .u64 (IntKind.wrap .u64 (w6 (x7 + x8))) 1))) default) x1) fun r0 _ => ?_
   refine lC ?_ ?_
   ·exact ih x0 x1 x6 (w6 ((w6 (shr .u64 (IntKind.wrap .u64 (w6 (x7 + x8))) 1)) + 1)) x8
   ·exact ih x0 x1 x6 x7 (w6 (shr .u64 (IntKind.wrap .u64 (w6 (x7 + x8))) 1))
  ·refine lC ?_ ?_
   ·refine lG (by simp only [EN]) ?_
    refine lD (by simp only [EN]) ?_ ?_
    ·exact aJ rfl
    ·refine lG (by simp only [EN]) ?_
     refine lQ eX brokerlaw43_light_inj (by (try simp only [EN]); exact aav (List.getD x0 (Int.toNat x7) default)) fun r1 _ => ?_
     refine lC ?_ ?_
     ·refine lQ eX brokerlaw43_light_inj (aav _) fun r2 _ => ?_
      exact aJ rfl
     ·exact aJ rfl
   ·exact aJ rfl
theorem yN (p0 : List Int) (p1 : Int) : Le (Option.map cF (gY p0 p1)) (bF SE 160 [.d (.sl [.int .i64] (List.map eI p0)), .d (.int .i64 p1)] [] []) := by
 refine aV avt rfl ?_
 refine Le.trans ?_ (le_of_eq (aEC ..).symm)
 unfold gY
 (try simp only [EN]); exact wW fuel p0 p1 (List.length p0 : Int) 0 (List.length p0 : Int)
section
variable (Γ : Fun) (γ160 : Gm (Int × Bool)) (Λ2 J : Lam)
def atX : aN := bA (aR Γ) 160 cF γ160
theorem aEO (p0 : bE) (p1 : Int) : bG SE (atX Γ γ160) Λ2 J 145 [bE.av p0, .d (.int .i64 p1)] [] [] =
 γ160 [.d (.sl [.int .i64] (List.map eI p0.Used)), .d (.int .i64 p1)] [] [] fun r0 =>
 (rB r0.2) := by kernel_rfl
end
abbrev ax2 : aN := atX gG (cT 160 cF)
theorem aBh : ax2 = aR gG := by unfold ax2 atX; rw [bD fun _ h => h]
theorem aoE (p0 : bE) (p1 : Int) : Le (Option.map brokerlaw43_light_out (abU p0 p1)) (bF SE 145 [bE.av p0, .d (.int .i64 p1)] [] []) := by
 refine aV aBh rfl ?_
 refine Le.trans ?_ (le_of_eq (aEO ..).symm)
 unfold abU
 refine lQ eX pD (yN _ _) fun r0 _ => ?_
 exact aJ rfl
section
variable (Γ : Fun)  (Λ2 J : Lam)
def ay7 : aN := aR Γ
theorem aE2 (p0 : aE) (p1 : Int) : bG SE (ay7 Γ) Λ2 J 162 [aE.av p0, .ptr 2000000000 0] [⟨3, [.d (.int .i64 p1)]⟩] [] =
 (some (.ret [.d (.bool (p0.ID == p1))] [⟨3, [.d (.int .i64 p1)]⟩] [])) := by kernel_rfl
end
abbrev aFj : aN := ay7 gG
theorem aAb : aFj = aR gG := rfl
theorem aie (p0 : aE) (p1 : Int) : Le (Option.map kS (v8 p0 p1)) (bF SE 162 [aE.av p0, .ptr 2000000000 0] [⟨3, [.d (.int .i64 p1)]⟩] []) := by
 refine aV aAb rfl ?_
 refine Le.trans ?_ (le_of_eq (aE2 ..).symm)
 unfold v8
 exact aJ rfl
def aoK (C : aN) (Λ2 J : Lam) (a0 : List (List D)) (a1 a2 a3 : Int) : Res := lab SE C Λ2 J 161 1 [1, 0, 1, 0] (aU [(0, .d (.sl aE.ks a0)), (1, .fn 162 [] [.ptr 2000000000 0]), (7, .d (.int .i64 a1)), (8, .d (.int .i64 a2))] [] [⟨3, [.d (.int .i64 a3)]⟩] [] [])
section
variable (Γ : Fun) (γ162 : Gm (Bool × Int)) (Λ2 J : Lam)
def alo : aN := bA (aR Γ) 162 kS γ162
theorem aDs (p0 : List aE) (p1_0 : Int) : bG SE (alo Γ γ162) Λ2 J 161 [.d (.sl aE.ks (List.map aE.enc p0)), .fn 162 [] [.ptr 2000000000 0]] [⟨3, [.d (.int .i64 p1_0)]⟩] [] =
 aoK (alo Γ γ162) Λ2 J (List.map aE.enc p0) (lM aE.enc p0 : Int) 0 p1_0 := by kernel_rfl
theorem axN (x0 : List aE) (x7 x8 q0_0 : Int) : bS SE (alo Γ γ162) Λ2 J 161 1 [1, 0, 1, 0] (aU [(0, .d (.sl aE.ks (List.map aE.enc x0))), (1, .fn 162 [] [.ptr 2000000000 0]), (7, .d (.int .i64 x7)), (8, .d (.int .i64 x8))] [] [⟨3, [.d (.int .i64 q0_0)]⟩] [] []) =
 cond (decide (x8 < x7)) (
 cond (iB x8 (lM aE.enc x0 : Int)) (
  γ162 [.agg [.d (.int .i64 (aW (cE aE.enc x0 x8 0))), .d (.int .i64 (aW (cE aE.enc x0 x8 1))), .d (.str (bL (cE aE.enc x0 x8 2))), .d (.str (bL (cE aE.enc x0 x8 3))), .d (.int .i64 (aW (cE aE.enc x0 x8 4))), .d (.bool (dL (cE aE.enc x0 x8 5))), .d (.int .i64 (aW (cE aE.enc x0 x8 6))), .d (.int .i64 (aW (cE aE.enc x0 x8 7))), .d (.str (bL (cE aE.enc x0 x8 8))), .d (.int .i64 (aW (cE aE.enc x0 x8 9))), .d (.sl aG.ks (dSl (cE aE.enc x0 x8 10)))], .ptr 2000000000 0] [⟨3, [.d (.int .i64 q0_0)]⟩] [] fun r0 =>
  cond r0.1 (
  (some (.ret [.d (.int .i64 x8)] [⟨3, [.d (.int .i64 r0.2)]⟩] []))) (
  aoK (alo Γ γ162) Λ2 J (List.map aE.enc x0) x7 (w6 (x8 + 1)) r0.2)) none) (
 (some (.ret [.d (.int .i64 (-1))] [⟨3, [.d (.int .i64 q0_0)]⟩] []))) := by kernel_rfl
end
abbrev ap9 : aN := alo gG (cT 162 kS)
theorem auR : ap9 = aR gG := by unfold ap9 alo; rw [bD fun _ h => h]
abbrev ayP := aoK ap9 (bR SE gG (SE.hl 161) (SE.hr 161)) (J0 SE ap9)
theorem rT : ∀ (fu : Nat) (x0 : List aE) (x7 x8 q0_0 : Int), Le (Option.map cP (cR fu x0 x7 x8 q0_0)) (ayP (List.map aE.enc x0) x7 x8 q0_0) := by
 intro fu
 induction fu with
 | zero => intros; exact le_none
 | succ fu ih =>
  intro x0 x7 x8 q0_0
  refine Le.trans ?_ (le_of_eq ((aX auR).trans (axN ..)).symm)
  unfold cR
  refine lC ?_ ?_
  ·refine lG (by simp only [EN]) ?_
   refine lQ eX ag6 (by (try simp only [EN]); exact aie (List.getD x0 (Int.toNat x8) default) q0_0) fun r0 _ => ?_
   refine lC ?_ ?_
   ·exact aJ rfl
   ·exact ih x0 x7 (w6 (x8 + 1)) r0.2
  ·exact aJ rfl
theorem sW (p0 : List aE) (p1_0 : Int) : Le (Option.map cP (fC p0 p1_0)) (bF SE 161 [.d (.sl aE.ks (List.map aE.enc p0)), .fn 162 [] [.ptr 2000000000 0]] [⟨3, [.d (.int .i64 p1_0)]⟩] []) := by
 refine aV auR rfl ?_
 refine Le.trans ?_ (le_of_eq (aDs ..).symm)
 unfold fC
 (try simp only [EN]); exact rT fuel p0 (List.length p0 : Int) 0 p1_0
section
variable (Γ : Fun) (γ161 : Gm (Int × Int)) (Λ2 J : Lam)
def atf : aN := bA (aR Γ) 161 cP γ161
theorem aFB (p0 : List aE) (p1 : Int) : bG SE (atf Γ γ161) Λ2 J 146 [.d (.sl aE.ks (List.map aE.enc p0)), .d (.int .i64 p1)] [] [] =
 γ161 [.d (.sl aE.ks (List.map aE.enc p0)), .fn 162 [] [.ptr 2000000000 0]] [⟨3, [.d (.int .i64 p1)]⟩] [] fun r0 =>
 (rI r0.1) := by kernel_rfl
end
abbrev awN : aN := atf gG (cT 161 cP)
theorem aAV : awN = aR gG := by unfold awN atf; rw [bD fun _ h => h]
theorem ajS (p0 : List aE) (p1 : Int) : Le (Option.map aB (vF p0 p1)) (bF SE 146 [.d (.sl aE.ks (List.map aE.enc p0)), .d (.int .i64 p1)] [] []) := by
 refine aV aAV rfl ?_
 refine Le.trans ?_ (le_of_eq (aFB ..).symm)
 unfold vF
 refine lQ eX sE (sW _ _) fun r0 _ => ?_
 exact aJ rfl
def ar7 (C : aN) (Λ2 J : Lam) (a0 : List D) : Res := lab SE C Λ2 J 120 0 [1, 1, 1, 0, 0] (aU [(5, .ptr 1000000000 0)] [⟨78, (List.map AV.d a0)⟩] [] [] [])
section
variable (Γ : Fun) (γ145 : Gm (Bool)) (γ146 γ118 : Gm (Int)) (Λ2 J : Lam)
def aoI : aN := bA (bA (bA (aR Γ) 145 brokerlaw43_light_out γ145) 146 aB γ146) 118 aB γ118
theorem aDV (p0 : aM) (p1 : Int) : bG SE (aoI Γ γ145 γ146 γ118) Λ2 J 120 [aM.av p0, .d (.int .i64 p1)] [] [] =
 cond (iB p1 (lM aE.enc p0.Items : Int)) (
 γ145 [bE.av p0.Pool, .d (.int .i64 (aW (cE aE.enc p0.Items p1 0)))] [] [] fun r0 =>
 cond (!r0) (
  (rI 15)) (
 cond (decide (0 ≤ p1) && decide (p1 ≤ ((lM aE.enc p0.Items) : Int))) (
  γ146 [.d (.sl aE.ks (c9 (List.map aE.enc p0.Items) none (some p1))), .d (.int .i64 (aW (cE aE.enc p0.Items p1 0)))] [] [] fun r1 =>
  cond (decide (r1 ≥ 0)) (
  (rI 15)) (
  ar7 (aoI Γ γ145 γ146 γ118) Λ2 J [D.int .i64 (aW (cE aE.enc p0.Items p1 0)), D.int .i64 (aW (cE aE.enc p0.Items p1 1)), D.str (bL (cE aE.enc p0.Items p1 2)), D.str (bL (cE aE.enc p0.Items p1 3)), D.int .i64 (aW (cE aE.enc p0.Items p1 4)), D.bool (dL (cE aE.enc p0.Items p1 5)), D.int .i64 (aW (cE aE.enc p0.Items p1 6)), D.int .i64 (aW (cE aE.enc p0.Items p1 7)), D.str (bL (cE aE.enc p0.Items p1 8)), D.int .i64 (aW (cE aE.enc p0.Items p1 9)), D.sl aG.ks (dSl (cE aE.enc p0.Items p1 10))])) none)) none := by kernel_rfl
theorem awZ (b0 : aE) : bS SE (aoI Γ γ145 γ146 γ118) Λ2 J 120 0 [1, 1, 1, 0, 0] (aU [(5, .ptr 1000000000 0)] [⟨78, (List.map AV.d (aE.enc b0))⟩] [] [] []) =
 γ118 [aC.av b0.Message] [] [] fun r2 =>
 cond (r2 != 0) (
 (rI r2)) (
 cond (b0.Message.Level == 0) (
 (rI 14)) (
 cond (b0.State != 1) (
 cond (b0.State != 2) (
  (rI 9)) (
 cond (b0.Message.Level == 1) (
  (rI 9)) (
 (rI 0)))) (
 (rI 0)))) := by kernel_rfl
end
abbrev ap7 : aN := aoI gG (cT 145 brokerlaw43_light_out) (cT 146 aB) (cT 118 aB)
theorem avf : ap7 = aR gG := by unfold ap7 aoI; repeat rw [bD fun _ h => h]
abbrev ayo := ar7 ap7 (bR SE gG (SE.hl 120) (SE.hr 120)) (J0 SE ap7)
theorem adB (b0 : aE) : Le (Option.map aB (o7 b0)) (ayo (aE.enc b0)) := by
 refine Le.trans ?_ (le_of_eq ((aX avf).trans (awZ ..)).symm)
 unfold o7
 refine lQ eX aL (uS _) fun r2 _ => ?_
 refine lC ?_ ?_
 ·exact aJ rfl
 ·refine lC ?_ ?_
  ·exact aJ rfl
  ·refine lC ?_ ?_
   ·refine lC ?_ ?_
    ·exact aJ rfl
    ·refine lC ?_ ?_
     ·exact aJ rfl
     ·exact aJ rfl
   ·exact aJ rfl
theorem afF (p0 : aM) (p1 : Int) : Le (Option.map aB (oW p0 p1)) (bF SE 120 [aM.av p0, .d (.int .i64 p1)] [] []) := by
 refine aV avf rfl ?_
 refine Le.trans ?_ (le_of_eq (aDV ..).symm)
 unfold oW
 refine lG (by simp only [EN]) ?_
 refine lQ eX brokerlaw43_light_inj (by (try simp only [EN]); exact aoE p0.Pool ((List.getD p0.Items (Int.toNat p1) default).ID)) fun r0 _ => ?_
 refine lC ?_ ?_
 ·exact aJ rfl
 ·refine lG (by simp only [EN]) ?_
  refine lQ eX aL (by (try simp only [EN]); exact ajS (c9 p0.Items none (some p1)) ((List.getD p0.Items (Int.toNat p1) default).ID)) fun r1 _ => ?_
  refine lC ?_ ?_
  ·exact aJ rfl
  ·(try simp only [EN]); exact adB (List.getD p0.Items (Int.toNat p1) default)
def aqQ (C : aN) (Λ2 J : Lam) (a0 a1 : Int) (a2 : List D) : Res := lab SE C Λ2 J 88 0 [1, 1, 1, 1, 0, 1, 0] (aU [(1, .ptr 1000000000 0), (26, .d (.int .i64 a0)), (27, .d (.int .i64 a1))] [⟨37, (List.map AV.d a2)⟩] [] [] [])
def au6 (C : aN) (Λ2 J : Lam) (a0 : List D) : Res := lab SE C Λ2 J 88 0 [1, 1, 0, 0] (aU [(1, .ptr 1000000000 0)] [⟨37, (List.map AV.d a0)⟩] [] [] [])
section
variable (Γ : Fun) (γ119 γ120 : Gm (Int)) (Λ2 J : Lam)
def C88 : aN := bA (bA (aR Γ) 119 aB γ119) 120 aB γ120
theorem T88 (p0 : aM) : bG SE (C88 Γ γ119 γ120) Λ2 J 88 [aM.av p0] [] [] =
 cond (decide (p0.Limit < 0)) (
 (rI 1)) (
 cond (decide (p0.Limit > 32)) (
 (rI 1)) (
 au6 (C88 Γ γ119 γ120) Λ2 J (aM.enc p0))) := by kernel_rfl
theorem aC0 (x26 x27 : Int) (b0 : aM) : bS SE (C88 Γ γ119 γ120) Λ2 J 88 0 [1, 1, 1, 1, 0, 1, 0] (aU [(1, .ptr 1000000000 0), (26, .d (.int .i64 x26)), (27, .d (.int .i64 x27))] [⟨37, (List.map AV.d (aM.enc b0))⟩] [] [] []) =
 cond (decide (x27 < x26)) (
 γ120 [aM.av b0, .d (.int .i64 x27)] [] [] fun r1 =>
 cond (r1 != 0) (
  (rI r1)) (
 aqQ (C88 Γ γ119 γ120) Λ2 J x26 (w6 (x27 + 1)) (aM.enc b0))) (
 cond (decide ((lM aE.enc b0.Items : Int) < (lM eI b0.Pool.Used : Int))) (
 (rI 15)) (
 (rI 0))) := by kernel_rfl
theorem aBj (b0 : aM) : bS SE (C88 Γ γ119 γ120) Λ2 J 88 0 [1, 1, 0, 0] (aU [(1, .ptr 1000000000 0)] [⟨37, (List.map AV.d (aM.enc b0))⟩] [] [] []) =
 γ119 [bE.av b0.Pool] [] [] fun r0 =>
 cond (r0 != 0) (
 (rI r0)) (
 cond (decide ((lM aE.enc b0.Items : Int) > 32)) (
 (rI 5)) (
 aqQ (C88 Γ γ119 γ120) Λ2 J (lM aE.enc b0.Items : Int) 0 (aM.enc b0))) := by kernel_rfl
end
abbrev X88 : aN := C88 gG (cT 119 aB) (cT 120 aB)
theorem ate : X88 = aR gG := by unfold X88 C88; repeat rw [bD fun _ h => h]
abbrev aCx := aqQ X88 (bR SE gG (SE.hl 88) (SE.hr 88)) (J0 SE X88)
abbrev aCj := au6 X88 (bR SE gG (SE.hl 88) (SE.hr 88)) (J0 SE X88)
theorem agk : ∀ (fu : Nat) (x26 x27 : Int) (b0 : aM), Le (Option.map aB (kL fu x26 x27 b0)) (aCx x26 x27 (aM.enc b0)) := by
 intro fu
 induction fu with
 | zero => intros; exact le_none
 | succ fu ih =>
  intro x26 x27 b0
  refine Le.trans ?_ (le_of_eq ((aX ate).trans (aC0 ..)).symm)
  unfold kL
  refine lC ?_ ?_
  ·refine lQ eX aL (afF _ _) fun r1 _ => ?_
   refine lC ?_ ?_
   ·exact aJ rfl
   ·exact ih x26 (w6 (x27 + 1)) b0
  ·refine lD (by simp only [EN]) ?_ ?_
   ·exact aJ rfl
   ·exact aJ rfl
theorem afW (b0 : aM) : Le (Option.map aB (tE b0)) (aCj (aM.enc b0)) := by
 refine Le.trans ?_ (le_of_eq ((aX ate).trans (aBj ..)).symm)
 unfold tE
 refine lQ eX aL (alL _) fun r0 _ => ?_
 refine lC ?_ ?_
 ·exact aJ rfl
 ·refine lD (by simp only [EN]) ?_ ?_
  ·exact aJ rfl
  ·(try simp only [EN]); exact agk fuel (List.length b0.Items : Int) 0 b0
theorem aiU (p0 : aM) : Le (Option.map aB (tL p0)) (bF SE 88 [aM.av p0] [] []) := by
 refine aV ate rfl ?_
 refine Le.trans ?_ (le_of_eq (T88 ..).symm)
 unfold tL
 refine lC ?_ ?_
 ·exact aJ rfl
 ·refine lC ?_ ?_
  ·exact aJ rfl
  ·exact afW p0
def aqD (C : aN) (Λ2 J : Lam) (a0 : Int) (a1 : List (List D)) (a2 a3 : Int) : Res := lab SE C Λ2 J 89 0 [1, 1, 1, 0, 1, 0] (aU [(3, .d (.int .i64 a0)), (11, .d (.sl [.int .i64] a1)), (12, .d (.int .i64 a2)), (13, .d (.int .i64 a3))] [] [] [] [])
section
variable (Γ : Fun)  (Λ2 J : Lam)
def C89 : aN := aR Γ
theorem T89 (p0 : bN) : bG SE (C89 Γ) Λ2 J 89 [bN.av p0] [] [] =
 cond (decide ((lM eI p0.IDs : Int) > 32)) (
 (rI 5)) (
 aqD (C89 Γ) Λ2 J 0 (List.map eI p0.IDs) (lM eI p0.IDs : Int) 0) := by kernel_rfl
theorem aA9 (x3 : Int) (x11 : List Int) (x12 x13 : Int) : bS SE (C89 Γ) Λ2 J 89 0 [1, 1, 1, 0, 1, 0] (aU [(3, .d (.int .i64 x3)), (11, .d (.sl [.int .i64] (List.map eI x11))), (12, .d (.int .i64 x12)), (13, .d (.int .i64 x13))] [] [] [] []) =
 cond (decide (x13 < x12)) (
 cond (iB x13 (lM eI x11 : Int)) (
  cond (decide ((aW (cE eI x11 x13 0)) ≤ x3)) (
  (rI 15)) (
  cond (decide ((aW (cE eI x11 x13 0)) > 65535)) (
  (rI 15)) (
  aqD (C89 Γ) Λ2 J ((aW (cE eI x11 x13 0))) (List.map eI x11) x12 (w6 (x13 + 1))))) none) (
 (rI 0)) := by kernel_rfl
end
abbrev X89 : aN := C89 gG
theorem azO : X89 = aR gG := rfl
abbrev aBt := aqD X89 (bR SE gG (SE.hl 89) (SE.hr 89)) (J0 SE X89)
theorem agS : ∀ (fu : Nat) (x3 : Int) (x11 : List Int) (x12 x13 : Int), Le (Option.map aB (lL fu x3 x11 x12 x13)) (aBt x3 (List.map eI x11) x12 x13) := by
 intro fu
 induction fu with
 | zero => intros; exact le_none
 | succ fu ih =>
  intro x3 x11 x12 x13
  refine Le.trans ?_ (le_of_eq ((aX azO).trans (aA9 ..)).symm)
  unfold lL
  refine lC ?_ ?_
  ·refine lG (by simp only [EN]) ?_
   refine lD (by simp only [EN]) ?_ ?_
   ·exact aJ rfl
   ·refine lD (by simp only [EN]) ?_ ?_
    ·exact aJ rfl
    ·(try simp only [EN]); exact ih (List.getD x11 (Int.toNat x13) default) x11 x12 (w6 (x13 + 1))
  ·exact aJ rfl
theorem ajP (p0 : bN) : Le (Option.map aB (rY p0)) (bF SE 89 [bN.av p0] [] []) := by
 refine aV azO rfl ?_
 refine Le.trans ?_ (le_of_eq (T89 ..).symm)
 unfold rY
 refine lD (by simp only [EN]) ?_ ?_
 ·exact aJ rfl
 ·(try simp only [EN]); exact agS fuel 0 p0.IDs (List.length p0.IDs : Int) 0
def anu (C : aN) (Λ2 J : Lam) (a0 : List (List D)) (a1 a2 : Int) (a3 : List D) : Res := lab SE C Λ2 J 121 0 [1, 1, 0, 1, 0] (aU [(3, .ptr 1000000000 0), (71, .d (.sl aG.ks a0)), (72, .d (.int .i64 a1)), (73, .d (.int .i64 a2))] [⟨42, (List.map AV.d a3)⟩] [] [] [])
def arW (C : aN) (Λ2 J : Lam) (a0 a1 : List D) : Res := lab SE C Λ2 J 121 0 [1, 1, 0, 0] (aU [(2, .ptr 1000000000 0), (3, .ptr 1000000001 0)] [⟨42, (List.map AV.d a0)⟩, ⟨42, (List.map AV.d a1)⟩] [] [] [])
section
variable (Γ : Fun)  (Λ2 J : Lam)
def ajz : aN := aR Γ
theorem aDB (p0 p1 : aC) : bG SE (ajz Γ) Λ2 J 121 [aC.av p0, aC.av p1] [] [] =
 cond (!(p0.Topic == p1.Topic)) (
 (rB false)) (
 cond (!(p0.Payload == p1.Payload)) (
 (rB false)) (
 cond (p0.Level != p1.Level) (
 (rB false)) (
 cond (p0.Retain != p1.Retain) (
 (rB false)) (
 cond (p0.Priority != p1.Priority) (
 (rB false)) (
 cond (p0.Expires != p1.Expires) (
 (rB false)) (
 cond (!(p0.From == p1.From)) (
 (rB false)) (
 cond (p0.Seq != p1.Seq) (
 (rB false)) (
 cond ((lM aG.enc p0.Props : Int) != (lM aG.enc p1.Props : Int)) (
 (rB false)) (
 arW (ajz Γ) Λ2 J (aC.enc p0) (aC.enc p1)))))))))) := by kernel_rfl
theorem azQ (x71 : List aG) (x72 x73 : Int) (b0 : aC) : bS SE (ajz Γ) Λ2 J 121 0 [1, 1, 0, 1, 0] (aU [(3, .ptr 1000000000 0), (71, .d (.sl aG.ks (List.map aG.enc x71))), (72, .d (.int .i64 x72)), (73, .d (.int .i64 x73))] [⟨42, (List.map AV.d (aC.enc b0))⟩] [] [] []) =
 cond (decide (x73 < x72)) (
 cond (iB x73 (lM aG.enc x71 : Int)) (
  cond (iB x73 (lM aG.enc b0.Props : Int)) (
  cond (!(((bL (cE aG.enc x71 x73 0)) == (bL (cE aG.enc b0.Props x73 0))) && (((bL (cE aG.enc x71 x73 1)) == (bL (cE aG.enc b0.Props x73 1))) && true))) (
   (rB false)) (
  anu (ajz Γ) Λ2 J (List.map aG.enc x71) x72 (w6 (x73 + 1)) (aC.enc b0))) none) none) (
 (rB true)) := by kernel_rfl
theorem ayy (b0 b1 : aC) : bS SE (ajz Γ) Λ2 J 121 0 [1, 1, 0, 0] (aU [(2, .ptr 1000000000 0), (3, .ptr 1000000001 0)] [⟨42, (List.map AV.d (aC.enc b0))⟩, ⟨42, (List.map AV.d (aC.enc b1))⟩] [] [] []) =
 anu (ajz Γ) Λ2 J (List.map aG.enc b0.Props) (lM aG.enc b0.Props : Int) 0 (aC.enc b1) := by kernel_rfl
end
abbrev anx : aN := ajz gG
theorem ard : anx = aR gG := rfl
abbrev azc := anu anx (bR SE gG (SE.hl 121) (SE.hr 121)) (J0 SE anx)
abbrev axV := arW anx (bR SE gG (SE.hl 121) (SE.hr 121)) (J0 SE anx)
theorem ahL : ∀ (fu : Nat) (x71 : List aG) (x72 x73 : Int) (b0 : aC), Le (Option.map brokerlaw43_light_out (mL fu x71 x72 x73 b0)) (azc (List.map aG.enc x71) x72 x73 (aC.enc b0)) := by
 intro fu
 induction fu with
 | zero => intros; exact le_none
 | succ fu ih =>
  intro x71 x72 x73 b0
  refine Le.trans ?_ (le_of_eq ((aX ard).trans (azQ ..)).symm)
  unfold mL
  refine lC ?_ ?_
  ·refine lG (by simp only [EN]) ?_
   refine lG (by simp only [EN]) ?_
   refine lD (by simp only [EN]) ?_ ?_
   ·exact aJ rfl
   ·exact ih x71 x72 (w6 (x73 + 1)) b0
  ·exact aJ rfl
theorem ahF (b0 b1 : aC) : Le (Option.map brokerlaw43_light_out (wD b0 b1)) (axV (aC.enc b0) (aC.enc b1)) := by
 refine Le.trans ?_ (le_of_eq ((aX ard).trans (ayy ..)).symm)
 unfold wD
 (try simp only [EN]); exact ahL fuel b0.Props (List.length b0.Props : Int) 0 b1
theorem ako (p0 p1 : aC) : Le (Option.map brokerlaw43_light_out (w4 p0 p1)) (bF SE 121 [aC.av p0, aC.av p1] [] []) := by
 refine aV ard rfl ?_
 refine Le.trans ?_ (le_of_eq (aDB ..).symm)
 unfold w4
 refine lC ?_ ?_
 ·exact aJ rfl
 ·refine lC ?_ ?_
  ·exact aJ rfl
  ·refine lC ?_ ?_
   ·exact aJ rfl
   ·refine lC ?_ ?_
    ·exact aJ rfl
    ·refine lC ?_ ?_
     ·exact aJ rfl
     ·refine lC ?_ ?_
      ·exact aJ rfl
      ·refine lC ?_ ?_
       ·exact aJ rfl
       ·refine lC ?_ ?_
        ·exact aJ rfl
        ·refine lD (by simp only [EN]) ?_ ?_
         ·exact aJ rfl
         ·exact ahF p0 p1
section
variable (Γ : Fun) (γ121 : Gm (Bool)) (γ118 : Gm (Int)) (Λ2 J : Lam)
def C90 : aN := bA (bA (aR Γ) 121 brokerlaw43_light_out γ121) 118 aB γ118
theorem T90 (p0 : bO) : bG SE (C90 Γ γ121 γ118) Λ2 J 90 [bO.av p0] [] [] =
 cond (!p0.Set) (
 cond (p0.Delay != 0) (
  (rI 28)) (
 γ121 [aC.av p0.Message, .agg [.d (.str []), .d (.str []), .d (.int .i64 0), .d (.bool false), .d (.int .i64 0), .d (.int .i64 0), .d (.str []), .d (.int .i64 0), .d (.sl aG.ks (List.map aG.enc []))]] [] [] fun r0 =>
 cond (!r0) (
  (rI 28)) (
 (rI 0)))) (
 cond (decide (p0.Delay < 0)) (
 (rI 1)) (
 cond (decide (p0.Delay > 1099511627776)) (
 (rI 1)) (
 γ118 [aC.av p0.Message] [] [] fun r1 =>
 (rI r1)))) := by kernel_rfl
end
abbrev X90 : aN := C90 gG (cT 121 brokerlaw43_light_out) (cT 118 aB)
theorem aE5 : X90 = aR gG := by unfold X90 C90; repeat rw [bD fun _ h => h]
theorem amO (p0 : bO) : Le (Option.map aB (aai p0)) (bF SE 90 [bO.av p0] [] []) := by
 refine aV aE5 rfl ?_
 refine Le.trans ?_ (le_of_eq (T90 ..).symm)
 unfold aai
 refine lC ?_ ?_
 ·refine lC ?_ ?_
  ·exact aJ rfl
  ·refine lQ eX brokerlaw43_light_inj (by (try simp only [EN]); exact ako p0.Message ((aC.mk [] [] 0 false 0 0 [] 0 []))) fun r0 _ => ?_
   refine lC ?_ ?_
   ·exact aJ rfl
   ·exact aJ rfl
 ·refine lC ?_ ?_
  ·exact aJ rfl
  ·refine lC ?_ ?_
   ·exact aJ rfl
   ·refine lQ eX aL (uS _) fun r1 _ => ?_
    exact aJ rfl
end Te
end PX
