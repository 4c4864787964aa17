import Derived.Test.YtmcpanmcgpjfiaaGreatDoorTab
set_option linter.unusedVariables false
set_option linter.unusedSimpArgs false
set_option maxRecDepth 100000
noncomputable section
namespace PX
open Go
open Md
namespace Te
abbrev cE {α : Type} (f : α → List D) (l : List α) (i : Int) (k : Nat) : D := cellAt (elemAt (List.map f l) (Int.toNat i)) k
abbrev lM {α : Type} (f : α → List D) (l : List α) : Nat := List.length (List.map f l)
abbrev iB (i n : Int) : Bool := decide (0 ≤ i) && decide (i < n)
abbrev w6 (x : Int) : Int := IntKind.wrap .i64 x
abbrev eI : Int → List D := encI .i64
abbrev rB (b : Bool) : Res := some (.ret [.d (.bool b)] [] [])
abbrev rI (n : Int) : Res := some (.ret [.d (.int .i64 n)] [] [])
theorem lQ {g : FuncId} {R S : Type} {out : R → Out} {e : S → Out} {x : Option R} {M : R → Option S} {a : List AV} {b : List Bx} {r : List Rw} {κ : R → Res} (hg : ∀ y, good g (out y)) (hi : ∀ y z, out y = out z → y = z) (h : Le (x.map out) (bF SE g a b r)) (hk : ∀ y, x = some y → Le ((M y).map e) (κ y)) : Le ((x.bind M).map e) (ajK SE good g out a b r κ) := ax0 (good := good) hg hi h hk
section
variable (Γ : Fun)  (Λ2 J : Lam)
def C17 : aP := aR Γ
theorem T17 (p0 : aI) : bG SE (C17 Γ) Λ2 J 17 [aI.av p0] [] [] =
 cond (decide ((lM aC.enc p0.Queue : Int) ≤ 60)) (
 cond (decide ((lM aK.enc p0.Subs : Int) ≤ 60)) (
  cond (decide ((lM aE.enc p0.Out.Items : Int) ≤ 60)) (
  cond (decide ((lM eI p0.In.IDs : Int) ≤ 60)) (
   (rB (decide ((lM eI p0.Out.Pool.Used : Int) ≤ 60)))) (
  (rB false))) (
  (rB false))) (
 (rB false))) (
 (rB false)) := by kernel_rfl
end
abbrev X17 : aP := C17 gG
theorem aGR : X17 = aR gG := rfl
theorem abx (p0 : aI) : Le (Option.map brokerlaw43_light_out (oS p0)) (bF SE 17 [aI.av p0] [] []) := by
 refine aW aGR rfl ?_
 refine Le.trans ?_ (le_of_eq (T17 ..).symm)
 unfold oS
 refine lD (by simp only [EN]) ?_ ?_
 ·refine lD (by simp only [EN]) ?_ ?_
  ·refine lD (by simp only [EN]) ?_ ?_
   ·refine lD (by simp only [EN]) ?_ ?_
    ·exact aJ (by first | rfl | simp only [EN, brokerlaw43_light_out] <;> rfl)
    ·exact aJ rfl
   ·exact aJ rfl
  ·exact aJ rfl
 ·exact aJ rfl
def as7 (C : aP) (Λ2 J : Lam) (a0 a1 : Int) (a2 : Bool) (a3 : Str) (a4 : Nat) : Res := lab SE C Λ2 J 32 0 [1, 1, 0, 1, 0, 0, 1, 1, 0, 1, 1, 0] (aV [(3, .d (.int .i64 a0)), (4, .d (.int .i32 a1)), (5, .d (.bool a2)), (15, .it 4000)] [] [] [(4000, (a3, a4))] [])
def al4 (C : aP) (Λ2 J : Lam) (a0 : Str) (a1 : Nat) : Res := lab SE C Λ2 J 32 0 [1, 1, 0, 1, 0] (aV [(15, .it 4000)] [] [] [(4000, (a0, a1))] [])
def axt (C : aP) (Λ2 J : Lam) (a0 : Str) : Res := lab SE C Λ2 J 32 0 [1, 1, 0, 0] (aV [(0, .d (.str a0))] [] [] [] [])
section
variable (Γ : Fun)  (Λ2 J : Lam)
def C32 : aP := aR Γ
theorem T32 (p0 : Str) : bG SE (C32 Γ) Λ2 J 32 [.d (.str p0)] [] [] =
 cond (decide ((List.length p0 : Int) < 1)) (
 (rB false)) (
 cond (decide ((List.length p0 : Int) > 16)) (
 (rB false)) (
 axt (C32 Γ) Λ2 J p0)) := by kernel_rfl
theorem aCG (x3 x4 : Int) (x5 : Bool) (s4000 : Str) (i4000 : Nat) : bW SE (C32 Γ) Λ2 J 32 0 [1, 1, 0, 1, 0, 0, 1, 1, 0, 1, 1, 0] (aV [(3, .d (.int .i64 x3)), (4, .d (.int .i32 x4)), (5, .d (.bool x5)), (15, .it 4000)] [] [] [(4000, (s4000, i4000))] []) =
 cond (!x5) (
 cond (x3 == 0) (
  (rB false)) (
 cond (x4 != 45) (
  cond (decide (x4 < 48)) (
  (rB false)) (
  cond (decide (x4 > 57)) (
  (rB false)) (
  al4 (C32 Γ) Λ2 J s4000 i4000))) (
 al4 (C32 Γ) Λ2 J s4000 i4000))) (
 al4 (C32 Γ) Λ2 J s4000 i4000) := by kernel_rfl
theorem aDe (s4000 : Str) (i4000 : Nat) : bW SE (C32 Γ) Λ2 J 32 0 [1, 1, 0, 1, 0] (aV [(15, .it 4000)] [] [] [(4000, (s4000, i4000))] []) =
 cond (decide (i4000 < List.length s4000)) (
 cond (decide (((dec s4000 i4000).1 : Int) ≥ 97)) (
  as7 (C32 Γ) Λ2 J (i4000 : Int) ((dec s4000 i4000).1 : Int) (decide (((dec s4000 i4000).1 : Int) ≤ 122)) s4000 (i4000 + (dec s4000 i4000).2)) (
 as7 (C32 Γ) Λ2 J (i4000 : Int) ((dec s4000 i4000).1 : Int) false s4000 (i4000 + (dec s4000 i4000).2))) (
 (rB true)) := by kernel_rfl
theorem aDT (x0 : Str) : bW SE (C32 Γ) Λ2 J 32 0 [1, 1, 0, 0] (aV [(0, .d (.str x0))] [] [] [] []) =
 al4 (C32 Γ) Λ2 J x0 0 := by kernel_rfl
end
abbrev X32 : aP := C32 gG
theorem asf : X32 = aR gG := rfl
abbrev aE2 := as7 X32 (bV SE gG (SE.hl 32) (SE.hr 32)) (J0 SE X32)
abbrev axu := al4 X32 (bV SE gG (SE.hl 32) (SE.hr 32)) (J0 SE X32)
abbrev aEO := axt X32 (bV SE gG (SE.hl 32) (SE.hr 32)) (J0 SE X32)
theorem aeK (k4 : Str → Nat → Option (Bool)) (hk4 : ∀ (s4000 : Str) (i4000 : Nat), Le (Option.map brokerlaw43_light_out (k4 s4000 i4000)) (axu s4000 i4000)) (x3 x4 : Int) (x5 : Bool) (s4000 : Str) (i4000 : Nat) : Le (Option.map brokerlaw43_light_out (qZ k4 x3 x4 x5 s4000 i4000)) (aE2 x3 x4 x5 s4000 i4000) := by
 refine Le.trans ?_ (le_of_eq ((aZ asf).trans (aCG ..)).symm)
 unfold qZ
 refine lC ?_ ?_
 ·refine lC ?_ ?_
  ·exact aJ rfl
  ·refine lC ?_ ?_
   ·refine lC ?_ ?_
    ·exact aJ rfl
    ·refine lC ?_ ?_
     ·exact aJ rfl
     ·exact hk4 s4000 i4000
   ·exact hk4 s4000 i4000
 ·exact hk4 s4000 i4000
theorem akK : ∀ (fu : Nat) (s4000 : Str) (i4000 : Nat), Le (Option.map brokerlaw43_light_out (mZ fu s4000 i4000)) (axu s4000 i4000) := by
 intro fu
 induction fu with
 | zero => intros; exact le_none
 | succ fu ih =>
  intro s4000 i4000
  refine Le.trans ?_ (le_of_eq ((aZ asf).trans (aDe ..)).symm)
  unfold mZ
  refine lC ?_ ?_
  ·refine lC ?_ ?_
   ·exact aeK _ (ih) (i4000 : Int) ((dec s4000 i4000).1 : Int) (decide (((dec s4000 i4000).1 : Int) ≤ 122)) s4000 (i4000 + (dec s4000 i4000).2)
   ·exact aeK _ (ih) (i4000 : Int) ((dec s4000 i4000).1 : Int) false s4000 (i4000 + (dec s4000 i4000).2)
  ·exact aJ rfl
theorem ak0 (x0 : Str) : Le (Option.map brokerlaw43_light_out (aaz x0)) (aEO x0) := by
 refine Le.trans ?_ (le_of_eq ((aZ asf).trans (aDT ..)).symm)
 unfold aaz
 exact akK fuel x0 0
theorem tW (p0 : Str) : Le (Option.map brokerlaw43_light_out (m5 p0)) (bF SE 32 [.d (.str p0)] [] []) := by
 refine aW asf rfl ?_
 refine Le.trans ?_ (le_of_eq (T32 ..).symm)
 unfold m5
 refine lC ?_ ?_
 ·exact aJ rfl
 ·refine lC ?_ ?_
  ·exact aJ rfl
  ·exact ak0 p0
section
variable (Γ : Fun)  (Λ2 J : Lam)
def C78 : aP := aR Γ
theorem T78 (p0 : aA) : bG SE (C78 Γ) Λ2 J 78 [aA.av p0] [] [] =
 (some (.ret [.d (.str p0.Client)] [] [])) := by kernel_rfl
end
abbrev X78 : aP := C78 gG
theorem aHM : X78 = aR gG := rfl
theorem abS (p0 : aA) : Le (Option.map mD (wL p0)) (bF SE 78 [aA.av p0] [] []) := by
 refine aW aHM rfl ?_
 refine Le.trans ?_ (le_of_eq (T78 ..).symm)
 unfold wL
 exact aJ rfl
def asF (C : aP) (Λ2 J : Lam) (a0 : List (List D)) (a1 : Str) (a2 : Int) : Res := lab SE C Λ2 J 77 0 [1, 1, 1, 0] (aV [(0, .d (.sl aA.ks a0)), (1, .d (.str a1)), (2, .fn 78 [] []), (8, .d (.int .i64 a2))] [] [] [] [])
def atd (C : aP) (Λ2 J : Lam) (a0 : List (List D)) (a1 : Str) (a2 : Int) : Res := lab SE C Λ2 J 77 0 [1, 1, 0, 0] (aV [(0, .d (.sl aA.ks a0)), (1, .d (.str a1)), (2, .fn 78 [] []), (8, .d (.int .i64 a2))] [] [] [] [])
section
variable (Γ : Fun) (γ78 : Gm (Str)) (Λ2 J : Lam)
def C77 : aP := bB (aR Γ) 78 mD γ78
theorem T77 (p0 : List aA) (p1 : Str) : bG SE (C77 Γ γ78) Λ2 J 77 [.d (.sl aA.ks (List.map aA.enc p0)), .d (.str p1), .fn 78 [] []] [] [] =
 atd (C77 Γ γ78) Λ2 J (List.map aA.enc p0) p1 0 := by kernel_rfl
theorem aC4 (x0 : List aA) (x1 : Str) (x8 : Int) : bW SE (C77 Γ γ78) Λ2 J 77 0 [1, 1, 1, 0] (aV [(0, .d (.sl aA.ks (List.map aA.enc x0))), (1, .d (.str x1)), (2, .fn 78 [] []), (8, .d (.int .i64 x8))] [] [] [] []) =
 cond (decide (x8 < (lM aA.enc x0 : Int))) (
 cond (iB x8 (lM aA.enc x0 : Int)) (
  γ78 [.agg [.d (.str (bL (cE aA.enc x0 x8 0))), .d (.int .i64 (aX (cE aA.enc x0 x8 1))), .d (.int .i64 (aX (cE aA.enc x0 x8 2)))]] [] [] fun r1 =>
  (some (.ret [.d (.int .i64 x8), .d (.bool (r1 == x1))] [] []))) none) (
 (some (.ret [.d (.int .i64 x8), .d (.bool false)] [] []))) := by kernel_rfl
theorem aFt (x0 : List aA) (x1 : Str) (x8 : Int) : bW SE (C77 Γ γ78) Λ2 J 77 0 [1, 1, 0, 0] (aV [(0, .d (.sl aA.ks (List.map aA.enc x0))), (1, .d (.str x1)), (2, .fn 78 [] []), (8, .d (.int .i64 x8))] [] [] [] []) =
 cond (decide (x8 < (lM aA.enc x0 : Int))) (
 cond (iB x8 (lM aA.enc x0 : Int)) (
  γ78 [.agg [.d (.str (bL (cE aA.enc x0 x8 0))), .d (.int .i64 (aX (cE aA.enc x0 x8 1))), .d (.int .i64 (aX (cE aA.enc x0 x8 2)))]] [] [] fun r0 =>
  cond (Op.bytesLess r0 x1) (
  atd (C77 Γ γ78) Λ2 J (List.map aA.enc x0) x1 (w6 (x8 + 1))) (
  asF (C77 Γ γ78) Λ2 J (List.map aA.enc x0) x1 x8)) none) (
 asF (C77 Γ γ78) Λ2 J (List.map aA.enc x0) x1 x8) := by kernel_rfl
end
abbrev X77 : aP := C77 gG (cT 78 mD)
theorem av9 : X77 = aR gG := by unfold X77 C77; rw [bD fun _ h => h]
abbrev aCR := asF X77 (bV SE gG (SE.hl 77) (SE.hr 77)) (J0 SE X77)
abbrev aCZ := atd X77 (bV SE gG (SE.hl 77) (SE.hr 77)) (J0 SE X77)
theorem vH (x0 : List aA) (x1 : Str) (x8 : Int) : Le (Option.map cM (nU x0 x1 x8)) (aCR (List.map aA.enc x0) x1 x8) := by
 refine Le.trans ?_ (le_of_eq ((aZ av9).trans (aC4 ..)).symm)
 unfold nU
 refine lD (by simp only [EN]) ?_ ?_
 ·refine lG (by simp only [EN]) ?_
  refine lQ eX abh (by (try simp only [EN]); exact abS (List.getD x0 (Int.toNat x8) default)) fun r1 _ => ?_
  exact aJ rfl
 ·exact aJ rfl
theorem ab5 : ∀ (fu : Nat) (x0 : List aA) (x1 : Str) (x8 : Int), Le (Option.map cM (nT fu x0 x1 x8)) (aCZ (List.map aA.enc x0) x1 x8) := by
 intro fu
 induction fu with
 | zero => intros; exact le_none
 | succ fu ih =>
  intro x0 x1 x8
  refine Le.trans ?_ (le_of_eq ((aZ av9).trans (aFt ..)).symm)
  unfold nT
  refine lD (by simp only [EN]) ?_ ?_
  ·refine lG (by simp only [EN]) ?_
   refine lQ eX abh (by (try simp only [EN]); exact abS (List.getD x0 (Int.toNat x8) default)) fun r0 _ => ?_
   refine lC ?_ ?_
   ·exact ih x0 x1 (w6 (x8 + 1))
   ·exact vH x0 x1 x8
  ·exact vH x0 x1 x8
theorem xO (p0 : List aA) (p1 : Str) : Le (Option.map cM (pP p0 p1)) (bF SE 77 [.d (.sl aA.ks (List.map aA.enc p0)), .d (.str p1), .fn 78 [] []] [] []) := by
 refine aW av9 rfl ?_
 refine Le.trans ?_ (le_of_eq (T77 ..).symm)
 unfold pP
 exact ab5 fuel p0 p1 0
section
variable (Γ : Fun)  (Λ2 J : Lam)
def C79 : aP := aR Γ
theorem T79 (p0 : List aA) : bG SE (C79 Γ) Λ2 J 79 [.d (.sl aA.ks (List.map aA.enc p0))] [] [] =
 cond (List.isEmpty (List.map aA.enc p0)) (
 adj (
  (some (.ret [.row 0] [] [⟨aA.ks, 24, 32, []⟩]))) (
  cond (decide ((lM aA.enc [] + lM aA.enc p0) * 32 ≤ 140737488355328)) (
  (some (.ret [.row 0] [] [⟨aA.ks, 24, 32, ((List.map aA.enc []) ++ (List.map aA.enc p0))⟩]))) none)) (
 cond (decide ((lM aA.enc [] + lM aA.enc p0) * 32 ≤ 140737488355328)) (
 (some (.ret [.row 0] [] [⟨aA.ks, 24, 32, ((List.map aA.enc []) ++ (List.map aA.enc p0))⟩]))) none) := by kernel_rfl
end
abbrev X79 : aP := C79 gG
theorem aFS : X79 = aR gG := rfl
theorem p8 (p0 : List aA) : Le (Option.map aU (jR p0)) (bF SE 79 [.d (.sl aA.ks (List.map aA.enc p0))] [] []) := by
 refine aW aFS rfl ?_
 refine Le.trans ?_ (le_of_eq (T79 ..).symm)
 unfold jR
 refine lD (by simp only [EN]) ?_ ?_
 ·refine arj ?_ ?_
  ·exact aJ rfl
  ·refine lG (by simp only [EN]) ?_
   exact aJ rfl
 ·refine lG (by simp only [EN]) ?_
  exact aJ rfl
theorem pO (p0 : List aA) (p1 : Int) (p2 : List aA) : Le (Option.map aU (mH p0 p1 p2)) (bF SE 80 [.row 2000000000, .d (.int .i64 p1), .row 2000000001] [] [⟨aA.ks, 24, 32, (List.map aA.enc p0)⟩, ⟨aA.ks, 24, 32, (List.map aA.enc p2)⟩]) := auo (f := 80) (enc := aA.enc) rfl rfl p0 p1 p2
def alP (C : aP) (Λ2 J : Lam) (a0 : List (List D)) (a1 : Str) (a2 a3 : Int) (a4 : Bool) (a5 : List D) : Res := lab SE C Λ2 J 26 0 [1, 1, 1, 1, 1, 0] (aV [(0, .d (.sl aA.ks a0)), (1, .d (.str a1)), (2, .d (.int .i64 a2)), (7, .ptr 1000000000 0), (9, .d (.int .i64 a3)), (10, .d (.bool a4))] [⟨24, (List.map AV.d a5)⟩] [] [] [])
def axz (C : aP) (Λ2 J : Lam) (a0 : List (List D)) (a1 : Str) (a2 : Int) (a3 : List D) : Res := lab SE C Λ2 J 26 0 [1, 1, 1, 0] (aV [(0, .d (.sl aA.ks a0)), (1, .d (.str a1)), (2, .d (.int .i64 a2)), (7, .ptr 1000000000 0)] [⟨24, (List.map AV.d a3)⟩] [] [] [])
section
variable (Γ : Fun) (γ32 : Gm (Bool)) (γ77 : Gm (Int × Bool)) (γ79 γ80 : Gm ((List aA))) (Λ2 J : Lam)
def C26 : aP := bB (bB (bB (bB (aR Γ) 32 brokerlaw43_light_out γ32) 77 cM γ77) 79 aU γ79) 80 aU γ80
theorem T26 (p0 : List aA) (p1 : Str) (p2 : Int) : bG SE (C26 Γ γ32 γ77 γ79 γ80) Λ2 J 26 [.d (.sl aA.ks (List.map aA.enc p0)), .d (.str p1), .d (.int .i64 p2)] [] [] =
 γ32 [.d (.str p1)] [] [] fun r0 =>
 cond (!r0) (
 (some (.ret [.row 0, aA.av (aA.mk [] 0 0), .d (.int .i64 11)] [] [⟨aA.ks, 24, 32, []⟩]))) (
 cond (decide (p2 < 0)) (
 (some (.ret [.row 0, aA.av (aA.mk [] 0 0), .d (.int .i64 1)] [] [⟨aA.ks, 24, 32, []⟩]))) (
 cond (decide (p2 ≥ 7)) (
 (some (.ret [.row 0, aA.av (aA.mk [] 0 0), .d (.int .i64 1)] [] [⟨aA.ks, 24, 32, []⟩]))) (
 axz (C26 Γ γ32 γ77 γ79 γ80) Λ2 J (List.map aA.enc p0) p1 p2 (aA.enc (aA.mk [] 0 0))))) := by kernel_rfl
theorem aEv (x0 : List aA) (x1 : Str) (x2 x9 : Int) (x10 : Bool) (b0 : aA) : bW SE (C26 Γ γ32 γ77 γ79 γ80) Λ2 J 26 0 [1, 1, 1, 1, 1, 0] (aV [(0, .d (.sl aA.ks (List.map aA.enc x0))), (1, .d (.str x1)), (2, .d (.int .i64 x2)), (7, .ptr 1000000000 0), (9, .d (.int .i64 x9)), (10, .d (.bool x10))] [⟨24, (List.map AV.d (aA.enc b0))⟩] [] [] []) =
 γ79 [.d (.sl aA.ks (List.map aA.enc x0))] [] [] fun r2 =>
 cond (!x10) (
 γ80 [.row 2000000000, .d (.int .i64 x9), .row 2000000001] [] [⟨aA.ks, 24, 32, (List.map aA.enc r2)⟩, ⟨aA.ks, 24, 32, (List.map aA.enc [(aA.mk x1 x2 1)])⟩] fun r3 =>
 (some (.ret [.row 0, aA.av (aA.mk x1 x2 1), .d (.int .i64 0)] [] [⟨aA.ks, 24, 32, (List.map aA.enc r3)⟩]))) (
 cond (iB x9 (lM aA.enc x0 : Int)) (
 cond (iB x9 (lM aA.enc r2 : Int)) (
  (some (.ret [.row 0, .agg [.d (.str x1), .d (.int .i64 x2), .d (.int .i64 (w6 ((aX (cE aA.enc x0 x9 2)) + 1)))], .d (.int .i64 0)] [] [⟨aA.ks, 24, 32, (rY (List.map aA.enc r2) (Int.toNat x9) 0 [D.str x1, D.int .i64 x2, D.int .i64 (w6 ((aX (cE aA.enc x0 x9 2)) + 1))])⟩]))) none) none) := by kernel_rfl
theorem aDo (x0 : List aA) (x1 : Str) (x2 : Int) (b0 : aA) : bW SE (C26 Γ γ32 γ77 γ79 γ80) Λ2 J 26 0 [1, 1, 1, 0] (aV [(0, .d (.sl aA.ks (List.map aA.enc x0))), (1, .d (.str x1)), (2, .d (.int .i64 x2)), (7, .ptr 1000000000 0)] [⟨24, (List.map AV.d (aA.enc b0))⟩] [] [] []) =
 γ77 [.d (.sl aA.ks (List.map aA.enc x0)), .d (.str x1), .fn 78 [] []] [] [] fun r1 =>
 cond r1.2 (
 cond (iB r1.1 (lM aA.enc x0 : Int)) (
  cond (decide ((aX (cE aA.enc x0 r1.1 2)) ≥ 1099511627776)) (
  (some (.ret [.row 0, aA.av (aA.mk [] 0 0), .d (.int .i64 6)] [] [⟨aA.ks, 24, 32, []⟩]))) (
  cond (!r1.2) (
  cond (decide ((lM aA.enc x0 : Int) ≥ 32)) (
   (some (.ret [.row 0, aA.av (aA.mk [] 0 0), .d (.int .i64 6)] [] [⟨aA.ks, 24, 32, []⟩]))) (
  alP (C26 Γ γ32 γ77 γ79 γ80) Λ2 J (List.map aA.enc x0) x1 x2 r1.1 r1.2 (aA.enc b0))) (
  alP (C26 Γ γ32 γ77 γ79 γ80) Λ2 J (List.map aA.enc x0) x1 x2 r1.1 r1.2 (aA.enc b0)))) none) (
 cond (!r1.2) (
 cond (decide ((lM aA.enc x0 : Int) ≥ 32)) (
  (some (.ret [.row 0, aA.av (aA.mk [] 0 0), .d (.int .i64 6)] [] [⟨aA.ks, 24, 32, []⟩]))) (
 alP (C26 Γ γ32 γ77 γ79 γ80) Λ2 J (List.map aA.enc x0) x1 x2 r1.1 r1.2 (aA.enc b0))) (
 alP (C26 Γ γ32 γ77 γ79 γ80) Λ2 J (List.map aA.enc x0) x1 x2 r1.1 r1.2 (aA.enc b0))) := by kernel_rfl
end
abbrev X26 : aP := C26 gG (cT 32 brokerlaw43_light_out) (cT 77 cM) (cT 79 aU) (cT 80 aU)
theorem avy : X26 = aR gG := by unfold X26 C26; repeat rw [bD fun _ h => h]
abbrev aFs := alP X26 (bV SE gG (SE.hl 26) (SE.hr 26)) (J0 SE X26)
abbrev aDQ := axz X26 (bV SE gG (SE.hl 26) (SE.hr 26)) (J0 SE X26)
theorem tJ (x0 : List aA) (x1 : Str) (x2 x9 : Int) (x10 : Bool) (b0 : aA) : Le (Option.map dJ (pE x0 x1 x2 x9 x10 b0)) (aFs (List.map aA.enc x0) x1 x2 x9 x10 (aA.enc b0)) := by
 refine Le.trans ?_ (le_of_eq ((aZ avy).trans (aEv ..)).symm)
 unfold pE
 refine lQ eX bN (p8 _) fun r2 _ => ?_
 refine lC ?_ ?_
 ·refine lQ eX bN (pO _ _ _) fun r3 _ => ?_
  exact aJ rfl
 ·refine lG (by simp only [EN]) ?_
  refine lG (by simp only [EN]) ?_
  exact aJ (by first | rfl | simp only [EN, dJ] <;> rfl)
theorem ah0 (x0 : List aA) (x1 : Str) (x2 : Int) (b0 : aA) : Le (Option.map dJ (aaE x0 x1 x2 b0)) (aDQ (List.map aA.enc x0) x1 x2 (aA.enc b0)) := by
 refine Le.trans ?_ (le_of_eq ((aZ avy).trans (aDo ..)).symm)
 unfold aaE
 refine lQ eX qX (xO _ _) fun r1 _ => ?_
 refine lC ?_ ?_
 ·refine lG (by simp only [EN]) ?_
  refine lD (by simp only [EN]) ?_ ?_
  ·exact aJ rfl
  ·refine lC ?_ ?_
   ·refine lD (by simp only [EN]) ?_ ?_
    ·exact aJ rfl
    ·exact tJ x0 x1 x2 r1.1 r1.2 b0
   ·exact tJ x0 x1 x2 r1.1 r1.2 b0
 ·refine lC ?_ ?_
  ·refine lD (by simp only [EN]) ?_ ?_
   ·exact aJ rfl
   ·exact tJ x0 x1 x2 r1.1 r1.2 b0
  ·exact tJ x0 x1 x2 r1.1 r1.2 b0
theorem v7 (p0 : List aA) (p1 : Str) (p2 : Int) : Le (Option.map dJ (tV p0 p1 p2)) (bF SE 26 [.d (.sl aA.ks (List.map aA.enc p0)), .d (.str p1), .d (.int .i64 p2)] [] []) := by
 refine aW avy rfl ?_
 refine Le.trans ?_ (le_of_eq (T26 ..).symm)
 unfold tV
 refine lQ eX brokerlaw43_light_inj (tW _) fun r0 _ => ?_
 refine lC ?_ ?_
 ·exact aJ rfl
 ·refine lC ?_ ?_
  ·exact aJ rfl
  ·refine lC ?_ ?_
   ·exact aJ rfl
   ·exact ah0 p0 p1 p2 (aA.mk [] 0 0)
def ar0 (C : aP) (Λ2 J : Lam) (a0 : List (List D)) (a1 a2 : Int) (a3 : List D) : Res := lab SE C Λ2 J 83 0 [1, 0, 1, 0] (aV [(0, .d (.sl aA.ks a0)), (3, .ptr 1000000000 0), (7, .d (.int .i64 a1)), (8, .d (.int .i64 a2))] [⟨24, (List.map AV.d a3)⟩] [] [] [])
section
variable (Γ : Fun)  (Λ2 J : Lam)
def C83 : aP := aR Γ
theorem T83 (p0 : List aA) (p1 : aA) : bG SE (C83 Γ) Λ2 J 83 [.d (.sl aA.ks (List.map aA.enc p0)), aA.av p1] [] [] =
 ar0 (C83 Γ) Λ2 J (List.map aA.enc p0) (lM aA.enc p0 : Int) 0 (aA.enc p1) := by kernel_rfl
theorem aE3 (x0 : List aA) (x7 x8 : Int) (b0 : aA) : bW SE (C83 Γ) Λ2 J 83 0 [1, 0, 1, 0] (aV [(0, .d (.sl aA.ks (List.map aA.enc x0))), (3, .ptr 1000000000 0), (7, .d (.int .i64 x7)), (8, .d (.int .i64 x8))] [⟨24, (List.map AV.d (aA.enc b0))⟩] [] [] []) =
 cond (decide (x8 < x7)) (
 cond (iB x8 (lM aA.enc x0 : Int)) (
  cond ((b0.Client == (bL (cE aA.enc x0 x8 0))) && ((b0.Node == (aX (cE aA.enc x0 x8 1))) && ((b0.Epoch == (aX (cE aA.enc x0 x8 2))) && true))) (
  (rI x8)) (
  ar0 (C83 Γ) Λ2 J (List.map aA.enc x0) x7 (w6 (x8 + 1)) (aA.enc b0))) none) (
 (rI (-1))) := by kernel_rfl
end
abbrev X83 : aP := C83 gG
theorem azp : X83 = aR gG := rfl
abbrev aDY := ar0 X83 (bV SE gG (SE.hl 83) (SE.hr 83)) (J0 SE X83)
theorem wZ : ∀ (fu : Nat) (x0 : List aA) (x7 x8 : Int) (b0 : aA), Le (Option.map aB (dI fu x0 x7 x8 b0)) (aDY (List.map aA.enc x0) x7 x8 (aA.enc b0)) := by
 intro fu
 induction fu with
 | zero => intros; exact le_none
 | succ fu ih =>
  intro x0 x7 x8 b0
  refine Le.trans ?_ (le_of_eq ((aZ azp).trans (aE3 ..)).symm)
  unfold dI
  refine lC ?_ ?_
  ·refine lG (by simp only [EN]) ?_
   refine lD (by simp only [EN]) ?_ ?_
   ·exact aJ rfl
   ·exact ih x0 x7 (w6 (x8 + 1)) b0
  ·exact aJ rfl
theorem y0 (p0 : List aA) (p1 : aA) : Le (Option.map aB (jN p0 p1)) (bF SE 83 [.d (.sl aA.ks (List.map aA.enc p0)), aA.av p1] [] []) := by
 refine aW azp rfl ?_
 refine Le.trans ?_ (le_of_eq (T83 ..).symm)
 unfold jN
 (try simp only [EN]); exact wZ fuel p0 (List.length p0 : Int) 0 p1
section
variable (Γ : Fun) (γ83 : Gm (Int)) (Λ2 J : Lam)
def C31 : aP := bB (aR Γ) 83 aB γ83
theorem T31 (p0 : List aA) (p1 : aA) : bG SE (C31 Γ γ83) Λ2 J 31 [.d (.sl aA.ks (List.map aA.enc p0)), aA.av p1] [] [] =
 γ83 [.d (.sl aA.ks (List.map aA.enc p0)), aA.av p1] [] [] fun r0 =>
 (rB (decide (r0 ≥ 0))) := by kernel_rfl
end
abbrev X31 : aP := C31 gG (cT 83 aB)
theorem aHg : X31 = aR gG := by unfold X31 C31; rw [bD fun _ h => h]
theorem gL (p0 : List aA) (p1 : aA) : Le (Option.map brokerlaw43_light_out (dH p0 p1)) (bF SE 31 [.d (.sl aA.ks (List.map aA.enc p0)), aA.av p1] [] []) := by
 refine aW aHg rfl ?_
 refine Le.trans ?_ (le_of_eq (T31 ..).symm)
 unfold dH
 refine lQ eX aM (y0 _ _) fun r0 _ => ?_
 exact aJ rfl
section
variable (Γ : Fun) (γ31 : Gm (Bool)) (Λ2 J : Lam)
def C15 : aP := bB (aR Γ) 31 brokerlaw43_light_out γ31
theorem T15 (p0 : List aA) (p1 : Str) (p2 p3 : Int) : bG SE (C15 Γ γ31) Λ2 J 15 [.d (.sl aA.ks (List.map aA.enc p0)), .d (.str p1), .d (.int .i64 p2), .d (.int .i64 p3)] [] [] =
 γ31 [.d (.sl aA.ks (List.map aA.enc p0)), aA.av (aA.mk p1 p2 p3)] [] [] fun r0 =>
 (rB r0) := by kernel_rfl
end
abbrev X15 : aP := C15 gG (cT 31 brokerlaw43_light_out)
theorem aF8 : X15 = aR gG := by unfold X15 C15; rw [bD fun _ h => h]
theorem sZ (p0 : List aA) (p1 : Str) (p2 p3 : Int) : Le (Option.map brokerlaw43_light_out (m7 p0 p1 p2 p3)) (bF SE 15 [.d (.sl aA.ks (List.map aA.enc p0)), .d (.str p1), .d (.int .i64 p2), .d (.int .i64 p3)] [] []) := by
 refine aW aF8 rfl ?_
 refine Le.trans ?_ (le_of_eq (T15 ..).symm)
 unfold m7
 refine lQ eX brokerlaw43_light_inj (gL _ _) fun r0 _ => ?_
 exact aJ rfl
def aoR (C : aP) (Λ2 J : Lam) (a0 a1 : List (List D)) (a2 a3 : Int) : Res := lab SE C Λ2 J 13 0 [1, 1, 0, 1, 0] (aV [(0, .d (.sl aA.ks a0)), (8, .d (.sl aA.ks a1)), (9, .d (.int .i64 a2)), (10, .d (.int .i64 a3))] [] [] [] [])
section
variable (Γ : Fun) (γ32 : Gm (Bool)) (Λ2 J : Lam)
def C13 : aP := bB (aR Γ) 32 brokerlaw43_light_out γ32
theorem T13 (p0 : List aA) : bG SE (C13 Γ γ32) Λ2 J 13 [.d (.sl aA.ks (List.map aA.enc p0))] [] [] =
 cond (decide ((lM aA.enc p0 : Int) > 32)) (
 (rI 5)) (
 aoR (C13 Γ γ32) Λ2 J (List.map aA.enc p0) (List.map aA.enc p0) (lM aA.enc p0 : Int) 0) := by kernel_rfl
theorem aDW (x0 x8 : List aA) (x9 x10 : Int) : bW SE (C13 Γ γ32) Λ2 J 13 0 [1, 1, 0, 1, 0] (aV [(0, .d (.sl aA.ks (List.map aA.enc x0))), (8, .d (.sl aA.ks (List.map aA.enc x8))), (9, .d (.int .i64 x9)), (10, .d (.int .i64 x10))] [] [] [] []) =
 cond (decide (x10 < x9)) (
 cond (iB x10 (lM aA.enc x8 : Int)) (
  γ32 [.d (.str (bL (cE aA.enc x8 x10 0)))] [] [] fun r0 =>
  cond (!r0) (
  (rI 11)) (
  cond (decide ((aX (cE aA.enc x8 x10 1)) < 0)) (
  (rI 1)) (
  cond (decide ((aX (cE aA.enc x8 x10 1)) ≥ 7)) (
  (rI 1)) (
  cond (decide ((aX (cE aA.enc x8 x10 2)) < 1)) (
  (rI 1)) (
  cond (decide ((aX (cE aA.enc x8 x10 2)) > 1099511627776)) (
  (rI 1)) (
  cond (decide (x10 > 0)) (
  cond (iB (w6 (x10 - 1)) (lM aA.enc x0 : Int)) (
   cond (Op.bytesLess (bL (cE aA.enc x8 x10 0)) (bL (cE aA.enc x0 (w6 (x10 - 1)) 0)) || (bL (cE aA.enc x8 x10 0)) == (bL (cE aA.enc x0 (w6 (x10 - 1)) 0))) (
   (rI 22)) (
   aoR (C13 Γ γ32) Λ2 J (List.map aA.enc x0) (List.map aA.enc x8) x9 (w6 (x10 + 1)))) none) (
  aoR (C13 Γ γ32) Λ2 J (List.map aA.enc x0) (List.map aA.enc x8) x9 (w6 (x10 + 1))))))))) none) (
 (rI 0)) := by kernel_rfl
end
abbrev X13 : aP := C13 gG (cT 32 brokerlaw43_light_out)
theorem aBf : X13 = aR gG := by unfold X13 C13; rw [bD fun _ h => h]
abbrev aEV := aoR X13 (bV SE gG (SE.hl 13) (SE.hr 13)) (J0 SE X13)
theorem ah7 : ∀ (fu : Nat) (x0 x8 : List aA) (x9 x10 : Int), Le (Option.map aB (kZ fu x0 x8 x9 x10)) (aEV (List.map aA.enc x0) (List.map aA.enc x8) x9 x10) := by
 intro fu
 induction fu with
 | zero => intros; exact le_none
 | succ fu ih =>
  intro x0 x8 x9 x10
  refine Le.trans ?_ (le_of_eq ((aZ aBf).trans (aDW ..)).symm)
  unfold kZ
  refine lC ?_ ?_
  ·refine lG (by simp only [EN]) ?_
   refine lQ eX brokerlaw43_light_inj (by (try simp only [EN]); exact tW ((List.getD x8 (Int.toNat x10) default).Client)) fun r0 _ => ?_
   refine lC ?_ ?_
   ·exact aJ rfl
   ·refine lD (by simp only [EN]) ?_ ?_
    ·exact aJ rfl
    ·refine lD (by simp only [EN]) ?_ ?_
     ·exact aJ rfl
     ·refine lD (by simp only [EN]) ?_ ?_
      ·exact aJ rfl
      ·refine lD (by simp only [EN]) ?_ ?_
       ·exact aJ rfl
       ·refine lC ?_ ?_
        ·refine lG (by simp only [EN]) ?_
         refine lD (by simp only [EN]) ?_ ?_
         ·exact aJ rfl
         ·exact ih x0 x8 x9 (w6 (x10 + 1))
        ·exact ih x0 x8 x9 (w6 (x10 + 1))
  ·exact aJ rfl
theorem ad8 (p0 : List aA) : Le (Option.map aB (tU p0)) (bF SE 13 [.d (.sl aA.ks (List.map aA.enc p0))] [] []) := by
 refine aW aBf rfl ?_
 refine Le.trans ?_ (le_of_eq (T13 ..).symm)
 unfold tU
 refine lD (by simp only [EN]) ?_ ?_
 ·exact aJ rfl
 ·(try simp only [EN]); exact ah7 fuel p0 p0 (List.length p0 : Int) 0
def ag8 (C : aP) (Λ2 J : Lam) (a0 : List (List D)) (a1 a2 : Int) (a3 : List (List D)) : Res := lab SE C Λ2 J 29 0 [1, 1, 0, 1, 0] (aV [(5, .row 3005), (12, .d (.sl aA.ks a0)), (13, .d (.int .i64 a1)), (14, .d (.int .i64 a2))] [] [] [] [(3005, ⟨aA.ks, 24, 32, a3⟩)])
section
variable (Γ : Fun) (γ79 : Gm ((List aA))) (γ77 : Gm (Int × Bool)) (γ80 : Gm ((List aA))) (Λ2 J : Lam)
def C29 : aP := bB (bB (bB (aR Γ) 79 aU γ79) 77 cM γ77) 80 aU γ80
theorem T29 (p0 p1 : List aA) : bG SE (C29 Γ γ79 γ77 γ80) Λ2 J 29 [.d (.sl aA.ks (List.map aA.enc p0)), .d (.sl aA.ks (List.map aA.enc p1))] [] [] =
 γ79 [.d (.sl aA.ks (List.map aA.enc p0))] [] [] fun r0 =>
 ag8 (C29 Γ γ79 γ77 γ80) Λ2 J (List.map aA.enc p1) (lM aA.enc p1 : Int) 0 (List.map aA.enc r0) := by kernel_rfl
theorem aDK (x12 : List aA) (x13 x14 : Int) (w3005 : List aA) : bW SE (C29 Γ γ79 γ77 γ80) Λ2 J 29 0 [1, 1, 0, 1, 0] (aV [(5, .row 3005), (12, .d (.sl aA.ks (List.map aA.enc x12))), (13, .d (.int .i64 x13)), (14, .d (.int .i64 x14))] [] [] [] [(3005, ⟨aA.ks, 24, 32, (List.map aA.enc w3005)⟩)]) =
 cond (decide (x14 < x13)) (
 cond (iB x14 (lM aA.enc x12 : Int)) (
  γ77 [.d (.sl aA.ks (List.map aA.enc w3005)), .d (.str (bL (cE aA.enc x12 x14 0))), .fn 78 [] []] [] [] fun r1 =>
  cond (!r1.2) (
  γ80 [.row 2000000000, .d (.int .i64 r1.1), .row 2000000001] [] [⟨aA.ks, 24, 32, (List.map aA.enc w3005)⟩, ⟨aA.ks, 24, 32, [[D.str (bL (cE aA.enc x12 x14 0)), D.int .i64 (aX (cE aA.enc x12 x14 1)), D.int .i64 (aX (cE aA.enc x12 x14 2))]]⟩] fun r2 =>
  ag8 (C29 Γ γ79 γ77 γ80) Λ2 J (List.map aA.enc x12) x13 (w6 (x14 + 1)) (List.map aA.enc r2)) (
  cond (iB r1.1 (lM aA.enc w3005 : Int)) (
  cond (decide ((aX (cE aA.enc x12 x14 2)) > (aX (cE aA.enc w3005 r1.1 2)))) (
   cond (iB r1.1 (lM aA.enc w3005 : Int)) (
   ag8 (C29 Γ γ79 γ77 γ80) Λ2 J (List.map aA.enc x12) x13 (w6 (x14 + 1)) ((rY (List.map aA.enc w3005) (Int.toNat r1.1) 0 [D.str (bL (cE aA.enc x12 x14 0)), D.int .i64 (aX (cE aA.enc x12 x14 1)), D.int .i64 (aX (cE aA.enc x12 x14 2))]))) none) (
  cond (iB r1.1 (lM aA.enc w3005 : Int)) (
   cond ((aX (cE aA.enc x12 x14 2)) == (aX (cE aA.enc w3005 r1.1 2))) (
   cond (iB r1.1 (lM aA.enc w3005 : Int)) (
    cond (decide ((aX (cE aA.enc x12 x14 1)) < (aX (cE aA.enc w3005 r1.1 1)))) (
    cond (iB r1.1 (lM aA.enc w3005 : Int)) (
     ag8 (C29 Γ γ79 γ77 γ80) Λ2 J (List.map aA.enc x12) x13 (w6 (x14 + 1)) ((rY (List.map aA.enc w3005) (Int.toNat r1.1) 0 [D.str (bL (cE aA.enc x12 x14 0)), D.int .i64 (aX (cE aA.enc x12 x14 1)), D.int .i64 (aX (cE aA.enc x12 x14 2))]))) none) (
    ag8 (C29 Γ γ79 γ77 γ80) Λ2 J (List.map aA.enc x12) x13 (w6 (x14 + 1)) (List.map aA.enc w3005))) none) (
   ag8 (C29 Γ γ79 γ77 γ80) Λ2 J (List.map aA.enc x12) x13 (w6 (x14 + 1)) (List.map aA.enc w3005))) none)) none)) none) (
 (some (.ret [.row 0] [] [⟨aA.ks, 24, 32, (List.map aA.enc w3005)⟩]))) := by kernel_rfl
end
abbrev X29 : aP := C29 gG (cT 79 aU) (cT 77 cM) (cT 80 aU)
theorem aAF : X29 = aR gG := by unfold X29 C29; repeat rw [bD fun _ h => h]
abbrev aFi := ag8 X29 (bV SE gG (SE.hl 29) (SE.hr 29)) (J0 SE X29)
theorem ah6 : ∀ (fu : Nat) (x12 : List aA) (x13 x14 : Int) (w3005 : List aA), Le (Option.map aU (lJ fu x12 x13 x14 w3005)) (aFi (List.map aA.enc x12) x13 x14 (List.map aA.enc w3005)) := by
 intro fu
 induction fu with
 | zero => intros; exact le_none
 | succ fu ih =>
  intro x12 x13 x14 w3005
  refine Le.trans ?_ (le_of_eq ((aZ aAF).trans (aDK ..)).symm)
  unfold lJ
  refine lC ?_ ?_
  ·refine lG (by simp only [EN]) ?_
   refine lQ eX qX (by (try simp only [EN]); exact xO w3005 ((List.getD x12 (Int.toNat x14) default).Client)) fun r1 _ => ?_
   refine lC ?_ ?_
   ·refine lQ eX bN (by (try simp only [EN]); exact pO w3005 r1.1 [(List.getD x12 (Int.toNat x14) default)]) fun r2 _ => ?_
    exact ih x12 x13 (w6 (x14 + 1)) r2
   ·refine lG (by simp only [EN]) ?_
    refine lD (by simp only [EN]) ?_ ?_
    ·refine lG (by simp only [EN]) ?_
     (try simp only [EN]); exact ih x12 x13 (w6 (x14 + 1)) ((List.set w3005 (Int.toNat r1.1) (List.getD x12 (Int.toNat x14) default)))
    ·refine lG (by simp only [EN]) ?_
     refine lD (by simp only [EN]) ?_ ?_
     ·refine lG (by simp only [EN]) ?_
      refine lD (by simp only [EN]) ?_ ?_
      ·refine lG (by simp only [EN]) ?_
       (try simp only [EN]); exact ih x12 x13 (w6 (x14 + 1)) ((List.set w3005 (Int.toNat r1.1) (List.getD x12 (Int.toNat x14) default)))
      ·exact ih x12 x13 (w6 (x14 + 1)) w3005
     ·exact ih x12 x13 (w6 (x14 + 1)) w3005
  ·exact aJ rfl
theorem iM (p0 p1 : List aA) : Le (Option.map aU (jD p0 p1)) (bF SE 29 [.d (.sl aA.ks (List.map aA.enc p0)), .d (.sl aA.ks (List.map aA.enc p1))] [] []) := by
 refine aW aAF rfl ?_
 refine Le.trans ?_ (le_of_eq (T29 ..).symm)
 unfold jD
 refine lQ eX bN (p8 _) fun r0 _ => ?_
 (try simp only [EN]); exact ah6 fuel p1 (List.length p1 : Int) 0 r0
section
variable (Γ : Fun)  (Λ2 J : Lam)
def az3 : aP := aR Γ
theorem aHb (p0 : Int) : bG SE (az3 Γ) Λ2 J 116 [.d (.int .i64 p0)] [] [] =
 cond (decide (p0 ≥ 0)) (
 (rB (decide (p0 ≤ 1099511627776)))) (
 (rB false)) := by kernel_rfl
end
abbrev aHe : aP := az3 gG
theorem aCV : aHe = aR gG := rfl
theorem afc (p0 : Int) : Le (Option.map brokerlaw43_light_out (vQ p0)) (bF SE 116 [.d (.int .i64 p0)] [] []) := by
 refine aW aCV rfl ?_
 refine Le.trans ?_ (le_of_eq (aHb ..).symm)
 unfold vQ
 refine lC ?_ ?_
 ·exact aJ rfl
 ·exact aJ rfl
def al6 (C : aP) (Λ2 J : Lam) (a0 : List D) : Res := lab SE C Λ2 J 86 0 [1, 1, 1, 0, 0] (aV [(1, .ptr 1000000000 0)] [⟨46, (List.map AV.d a0)⟩] [] [] [])
def arX (C : aP) (Λ2 J : Lam) (a0 : List D) : Res := lab SE C Λ2 J 86 0 [1, 1, 0, 0] (aV [(1, .ptr 1000000000 0)] [⟨46, (List.map AV.d a0)⟩] [] [] [])
section
variable (Γ : Fun) (γ32 γ116 : Gm (Bool)) (Λ2 J : Lam)
def C86 : aP := bB (bB (aR Γ) 32 brokerlaw43_light_out γ32) 116 brokerlaw43_light_out γ116
theorem T86 (p0 : aI) : bG SE (C86 Γ γ32 γ116) Λ2 J 86 [aI.av p0] [] [] =
 γ32 [.d (.str p0.Client)] [] [] fun r0 =>
 cond (!r0) (
 (rI 11)) (
 cond (!(p0.User == ([] : Str))) (
 γ32 [.d (.str p0.User)] [] [] fun r1 =>
 cond (!r1) (
  (rI 11)) (
 arX (C86 Γ γ32 γ116) Λ2 J (aI.enc p0))) (
 arX (C86 Γ γ32 γ116) Λ2 J (aI.enc p0))) := by kernel_rfl
theorem aEq (b0 : aI) : bW SE (C86 Γ γ32 γ116) Λ2 J 86 0 [1, 1, 1, 0, 0] (aV [(1, .ptr 1000000000 0)] [⟨46, (List.map AV.d (aI.enc b0))⟩] [] [] []) =
 γ116 [.d (.int .i64 b0.Expiry)] [] [] fun r2 =>
 cond (!r2) (
 (rI 1)) (
 γ116 [.d (.int .i64 b0.Until)] [] [] fun r3 =>
 cond (!r3) (
 (rI 1)) (
 cond (decide (b0.Dropped < 0)) (
 (rI 1)) (
 cond (decide (b0.Dropped > 1099511627776)) (
 (rI 1)) (
 (rI 0))))) := by kernel_rfl
theorem aFj (b0 : aI) : bW SE (C86 Γ γ32 γ116) Λ2 J 86 0 [1, 1, 0, 0] (aV [(1, .ptr 1000000000 0)] [⟨46, (List.map AV.d (aI.enc b0))⟩] [] [] []) =
 cond (!b0.Online) (
 cond (b0.Conn != 0) (
  (rI 9)) (
 cond b0.Online (
  cond (b0.Until != 0) (
  (rI 9)) (
  al6 (C86 Γ γ32 γ116) Λ2 J (aI.enc b0))) (
 al6 (C86 Γ γ32 γ116) Λ2 J (aI.enc b0)))) (
 cond b0.Online (
 cond (b0.Until != 0) (
  (rI 9)) (
 al6 (C86 Γ γ32 γ116) Λ2 J (aI.enc b0))) (
 al6 (C86 Γ γ32 γ116) Λ2 J (aI.enc b0))) := by kernel_rfl
end
abbrev X86 : aP := C86 gG (cT 32 brokerlaw43_light_out) (cT 116 brokerlaw43_light_out)
theorem avN : X86 = aR gG := by unfold X86 C86; repeat rw [bD fun _ h => h]
abbrev aFa := al6 X86 (bV SE gG (SE.hl 86) (SE.hr 86)) (J0 SE X86)
abbrev aCw := arX X86 (bV SE gG (SE.hl 86) (SE.hr 86)) (J0 SE X86)
theorem o0 (b0 : aI) : Le (Option.map aB (jY b0)) (aFa (aI.enc b0)) := by
 refine Le.trans ?_ (le_of_eq ((aZ avN).trans (aEq ..)).symm)
 unfold jY
 refine lQ eX brokerlaw43_light_inj (afc _) fun r2 _ => ?_
 refine lC ?_ ?_
 ·exact aJ rfl
 ·refine lQ eX brokerlaw43_light_inj (afc _) fun r3 _ => ?_
  refine lC ?_ ?_
  ·exact aJ rfl
  ·refine lC ?_ ?_
   ·exact aJ rfl
   ·refine lC ?_ ?_
    ·exact aJ rfl
    ·exact aJ rfl
theorem zW (b0 : aI) : Le (Option.map aB (oI b0)) (aCw (aI.enc b0)) := by
 refine Le.trans ?_ (le_of_eq ((aZ avN).trans (aFj ..)).symm)
 unfold oI
 refine lC ?_ ?_
 ·refine lC ?_ ?_
  ·exact aJ rfl
  ·refine lC ?_ ?_
   ·refine lC ?_ ?_
    ·exact aJ rfl
    ·exact o0 b0
   ·exact o0 b0
 ·refine lC ?_ ?_
  ·refine lC ?_ ?_
   ·exact aJ rfl
   ·exact o0 b0
  ·exact o0 b0
theorem aha (p0 : aI) : Le (Option.map aB (rJ p0)) (bF SE 86 [aI.av p0] [] []) := by
 refine aW avN rfl ?_
 refine Le.trans ?_ (le_of_eq (T86 ..).symm)
 unfold rJ
 refine lQ eX brokerlaw43_light_inj (tW _) fun r0 _ => ?_
 refine lC ?_ ?_
 ·exact aJ rfl
 ·refine lC ?_ ?_
  ·refine lQ eX brokerlaw43_light_inj (tW _) fun r1 _ => ?_
   refine lC ?_ ?_
   ·exact aJ rfl
   ·exact zW p0
  ·exact zW p0
section
variable (Γ : Fun)  (Λ2 J : Lam)
def ay7 : aP := aR Γ
theorem aGp (p0 p1 : Str) : bG SE (ay7 Γ) Λ2 J 158 [.d (.str p0), .d (.str p1)] [] [] =
 cond (decide ((List.length p0 : Int) ≥ (List.length p1 : Int))) (
 cond (decide (0 ≤ (List.length p1 : Int)) && decide ((List.length p1 : Int) ≤ ((List.length p0) : Int))) (
  (rB ((dB p0 none (some (List.length p1 : Int))) == p1))) none) (
 (rB false)) := by kernel_rfl
end
abbrev aFY : aP := ay7 gG
theorem aCx : aFY = aR gG := rfl
theorem yD (p0 p1 : Str) : Le (Option.map brokerlaw43_light_out (kS p0 p1)) (bF SE 158 [.d (.str p0), .d (.str p1)] [] []) := by
 refine aW aCx rfl ?_
 refine Le.trans ?_ (le_of_eq (aGp ..).symm)
 unfold kS
 refine lC ?_ ?_
 ·refine lF ?_
  exact aJ rfl
 ·exact aJ rfl
section
variable (Γ : Fun) (γ158 : Gm (Bool)) (Λ2 J : Lam)
def avV : aP := bB (aR Γ) 158 brokerlaw43_light_out γ158
theorem aF0 (p0 p1 : Str) : bG SE (avV Γ γ158) Λ2 J 164 [.d (.str p0), .d (.str p1)] [] [] =
 γ158 [.d (.str p0), .d (.str p1)] [] [] fun r0 =>
 cond (!r0) (
 (some (.ret [.d (.str p0), .d (.bool false)] [] []))) (
 cond (decide (0 ≤ (List.length p1 : Int)) && decide ((List.length p1 : Int) ≤ ((List.length p0) : Int))) (
 (some (.ret [.d (.str (dB p0 (some (List.length p1 : Int)) none)), .d (.bool true)] [] []))) none) := by kernel_rfl
end
abbrev azQ : aP := avV gG (cT 158 brokerlaw43_light_out)
theorem aDX : azQ = aR gG := by unfold azQ avV; rw [bD fun _ h => h]
theorem ad1 (p0 p1 : Str) : Le (Option.map dX (qM p0 p1)) (bF SE 164 [.d (.str p0), .d (.str p1)] [] []) := by
 refine aW aDX rfl ?_
 refine Le.trans ?_ (le_of_eq (aF0 ..).symm)
 unfold qM
 refine lQ eX brokerlaw43_light_inj (yD _ _) fun r0 _ => ?_
 refine lC ?_ ?_
 ·exact aJ rfl
 ·refine lF ?_
  exact aJ rfl
section
variable (Γ : Fun) (γ164 : Gm (Str × Bool)) (Λ2 J : Lam)
def aww : aP := bB (aR Γ) 164 dX γ164
theorem aFU (p0 p1 : Str) : bG SE (aww Γ γ164) Λ2 J 154 [.d (.str p0), .d (.str p1)] [] [] =
 γ164 [.d (.str p0), .d (.str p1)] [] [] fun r0 =>
 (some (.ret [.d (.str r0.1), .d (.bool r0.2)] [] [])) := by kernel_rfl
end
abbrev aAs : aP := aww gG (cT 164 dX)
theorem aE6 : aAs = aR gG := by unfold aAs aww; rw [bD fun _ h => h]
theorem ahv (p0 p1 : Str) : Le (Option.map dX (rK p0 p1)) (bF SE 154 [.d (.str p0), .d (.str p1)] [] []) := by
 refine aW aE6 rfl ?_
 refine Le.trans ?_ (le_of_eq (aFU ..).symm)
 unfold rK
 refine lQ eX xV (ad1 _ _) fun r0 _ => ?_
 exact aJ rfl
section
variable (Γ : Fun)  (Λ2 J : Lam)
def aBM : aP := aR Γ
theorem aFG (p0 : Str) (p1 : Int) : bG SE (aBM Γ) Λ2 J 172 [.d (.str p0), .d (.int .u8 p1)] [] [] =
 (rI (Lib.indexByte p0 (UInt8.ofNat (Int.toNat p1)) : Int)) := by kernel_rfl
end
abbrev aFJ : aP := aBM gG
theorem aDJ : aFJ = aR gG := rfl
theorem aei (p0 : Str) (p1 : Int) : Le (Option.map aB (vS p0 p1)) (bF SE 172 [.d (.str p0), .d (.int .u8 p1)] [] []) := by
 refine aW aDJ rfl ?_
 refine Le.trans ?_ (le_of_eq (aFG ..).symm)
 unfold vS
 exact aJ rfl
section
variable (Γ : Fun) (γ172 : Gm (Int)) (Λ2 J : Lam)
def aw7 : aP := bB (aR Γ) 172 aB γ172
theorem aGw (p0 p1 : Str) : bG SE (aw7 Γ γ172) Λ2 J 169 [.d (.str p0), .d (.str p1)] [] [] =
 cond ((List.length p1 : Int) == 0) (
 (rI 0)) (
 cond (p1 == p0) (
 (rI 0)) (
 cond ((List.length p1 : Int) == 1) (
 cond (decide (0 ≤ 0) && decide (0 < (List.length p1 : Int))) (
  γ172 [.d (.str p0), .d (.int .u8 (UInt8.toNat (List.getD p1 (Int.toNat 0) 0) : Int))] [] [] fun r0 =>
  (rI r0)) none) (
 cond (decide ((List.length p1 : Int) ≥ (List.length p0 : Int))) (
 (rI (-1))) none))) := by kernel_rfl
end
abbrev aAZ : aP := aw7 gG (cT 172 aB)
theorem aD4 : aAZ = aR gG := by unfold aAZ aw7; rw [bD fun _ h => h]
theorem aby (p0 p1 : Str) : Le (Option.map aB (mM p0 p1)) (bF SE 169 [.d (.str p0), .d (.str p1)] [] []) := by
 refine aW aD4 rfl ?_
 refine Le.trans ?_ (le_of_eq (aGw ..).symm)
 unfold mM
 refine lC ?_ ?_
 ·exact aJ rfl
 ·refine lC ?_ ?_
  ·exact aJ rfl
  ·refine lC ?_ ?_
   ·refine lF ?_
    refine lQ eX aM (aei _ _) fun r0 _ => ?_
    exact aJ rfl
   ·refine lF ?_
    exact aJ rfl
section
variable (Γ : Fun) (γ169 : Gm (Int)) (Λ2 J : Lam)
def avk : aP := bB (aR Γ) 169 aB γ169
theorem aGT (p0 p1 : Str) : bG SE (avk Γ γ169) Λ2 J 165 [.d (.str p0), .d (.str p1)] [] [] =
 γ169 [.d (.str p0), .d (.str p1)] [] [] fun r0 =>
 cond (decide (r0 ≥ 0)) (
 cond (decide (0 ≤ r0) && decide (r0 ≤ ((List.length p0) : Int))) (
  cond (decide (0 ≤ (w6 (r0 + (List.length p1 : Int)))) && decide ((w6 (r0 + (List.length p1 : Int))) ≤ ((List.length p0) : Int))) (
  (some (.ret [.d (.str (dB p0 none (some r0))), .d (.str (dB p0 (some (w6 (r0 + (List.length p1 : Int)))) none)), .d (.bool true)] [] []))) none) none) (
 (some (.ret [.d (.str p0), .d (.str []), .d (.bool false)] [] []))) := by kernel_rfl
end
abbrev aAc : aP := avk gG (cT 169 aB)
theorem aE5 : aAc = aR gG := by unfold aAc avk; rw [bD fun _ h => h]
theorem ajD (p0 p1 : Str) : Le (Option.map cH (xM p0 p1)) (bF SE 165 [.d (.str p0), .d (.str p1)] [] []) := by
 refine aW aE5 rfl ?_
 refine Le.trans ?_ (le_of_eq (aGT ..).symm)
 unfold xM
 refine lQ eX aM (aby _ _) fun r0 _ => ?_
 refine lC ?_ ?_
 ·refine lF ?_
  refine lF ?_
  exact aJ rfl
 ·exact aJ rfl
section
variable (Γ : Fun) (γ165 : Gm (Str × Str × Bool)) (Λ2 J : Lam)
def av8 : aP := bB (aR Γ) 165 cH γ165
theorem aHw (p0 p1 : Str) : bG SE (av8 Γ γ165) Λ2 J 155 [.d (.str p0), .d (.str p1)] [] [] =
 γ165 [.d (.str p0), .d (.str p1)] [] [] fun r0 =>
 (some (.ret [.d (.str r0.1), .d (.str r0.2.1), .d (.bool r0.2.2)] [] [])) := by kernel_rfl
end
abbrev azz : aP := av8 gG (cT 165 cH)
theorem aCy : azz = aR gG := by unfold azz av8; rw [bD fun _ h => h]
theorem ang (p0 p1 : Str) : Le (Option.map cH (aaf p0 p1)) (bF SE 155 [.d (.str p0), .d (.str p1)] [] []) := by
 refine aW aCy rfl ?_
 refine Le.trans ?_ (le_of_eq (aHw ..).symm)
 unfold aaf
 refine lQ eX o7 (ajD _ _) fun r0 _ => ?_
 exact aJ rfl
def amo (C : aP) (Λ2 J : Lam) (a0 : Int) (a1 : Str) (a2 : Nat) : Res := lab SE C Λ2 J 156 0 [1, 1, 1, 0, 1, 0] (aV [(3, .d (.int .i64 a0)), (15, .it 4000)] [] [] [(4000, (a1, a2))] [])
def auv (C : aP) (Λ2 J : Lam) (a0 : Str) : Res := lab SE C Λ2 J 156 0 [1, 1, 0] (aV [(0, .d (.str a0))] [] [] [] [])
section
variable (Γ : Fun)  (Λ2 J : Lam)
def aju : aP := aR Γ
theorem aGf (p0 : Str) : bG SE (aju Γ) Λ2 J 156 [.d (.str p0)] [] [] =
 cond (decide ((List.length p0 : Int) < 1)) (
 (rB false)) (
 cond (decide ((List.length p0 : Int) > 64)) (
 (rB false)) (
 auv (aju Γ) Λ2 J p0)) := by kernel_rfl
theorem aBK (x3 : Int) (s4000 : Str) (i4000 : Nat) : bW SE (aju Γ) Λ2 J 156 0 [1, 1, 1, 0, 1, 0] (aV [(3, .d (.int .i64 x3)), (15, .it 4000)] [] [] [(4000, (s4000, i4000))] []) =
 cond (decide (i4000 < List.length s4000)) (
 cond (((dec s4000 i4000).1 : Int) == 0) (
  (rB false)) (
 cond (((dec s4000 i4000).1 : Int) == 47) (
  amo (aju Γ) Λ2 J (w6 (x3 + 1)) s4000 (i4000 + (dec s4000 i4000).2)) (
 amo (aju Γ) Λ2 J x3 s4000 (i4000 + (dec s4000 i4000).2)))) (
 (rB (decide (x3 ≤ 8)))) := by kernel_rfl
theorem ay5 (x0 : Str) : bW SE (aju Γ) Λ2 J 156 0 [1, 1, 0] (aV [(0, .d (.str x0))] [] [] [] []) =
 amo (aju Γ) Λ2 J 1 x0 0 := by kernel_rfl
end
abbrev apE : aP := aju gG
theorem asM : apE = aR gG := rfl
abbrev aAL := amo apE (bV SE gG (SE.hl 156) (SE.hr 156)) (J0 SE apE)
abbrev aAr := auv apE (bV SE gG (SE.hl 156) (SE.hr 156)) (J0 SE apE)
theorem aj1 : ∀ (fu : Nat) (x3 : Int) (s4000 : Str) (i4000 : Nat), Le (Option.map brokerlaw43_light_out (mF fu x3 s4000 i4000)) (aAL x3 s4000 i4000) := by
 intro fu
 induction fu with
 | zero => intros; exact le_none
 | succ fu ih =>
  intro x3 s4000 i4000
  refine Le.trans ?_ (le_of_eq ((aZ asM).trans (aBK ..)).symm)
  unfold mF
  refine lC ?_ ?_
  ·refine lC ?_ ?_
   ·exact aJ rfl
   ·refine lC ?_ ?_
    ·exact ih (w6 (x3 + 1)) s4000 (i4000 + (dec s4000 i4000).2)
    ·exact ih x3 s4000 (i4000 + (dec s4000 i4000).2)
  ·exact aJ rfl
theorem aj6 (x0 : Str) : Le (Option.map brokerlaw43_light_out (zD x0)) (aAr x0) := by
 refine Le.trans ?_ (le_of_eq ((aZ asM).trans (ay5 ..)).symm)
 unfold zD
 exact aj1 fuel 1 x0 0
theorem agk (p0 : Str) : Le (Option.map brokerlaw43_light_out (xD p0)) (bF SE 156 [.d (.str p0)] [] []) := by
 refine aW asM rfl ?_
 refine Le.trans ?_ (le_of_eq (aGf ..).symm)
 unfold xD
 refine lC ?_ ?_
 ·exact aJ rfl
 ·refine lC ?_ ?_
  ·exact aJ rfl
  ·exact aj6 p0
section
variable (Γ : Fun) (γ169 : Gm (Int)) (Λ2 J : Lam)
def avA : aP := bB (aR Γ) 169 aB γ169
theorem aHF (p0 p1 : Str) : bG SE (avA Γ γ169) Λ2 J 178 [.d (.str p0), .d (.str p1)] [] [] =
 γ169 [.d (.str p0), .d (.str p1)] [] [] fun r0 =>
 (rI r0) := by kernel_rfl
end
abbrev azq : aP := avA gG (cT 169 aB)
theorem aDG : azq = aR gG := by unfold azq avA; rw [bD fun _ h => h]
theorem aex (p0 p1 : Str) : Le (Option.map aB (oX p0 p1)) (bF SE 178 [.d (.str p0), .d (.str p1)] [] []) := by
 refine aW aDG rfl ?_
 refine Le.trans ?_ (le_of_eq (aHF ..).symm)
 unfold oX
 refine lQ eX aM (aby _ _) fun r0 _ => ?_
 exact aJ rfl
def ap0 (C : aP) (Λ2 J : Lam) (a0 a1 : Str) (a2 : Int) : Res := lab SE C Λ2 J 177 0 [1, 1, 1, 1, 0] (aV [(0, .d (.str a0)), (1, .d (.str a1)), (5, .d (.int .i64 a2))] [] [] [] [])
section
variable (Γ : Fun) (γ178 : Gm (Int)) (Λ2 J : Lam)
def amW : aP := bB (aR Γ) 178 aB γ178
theorem aHN (p0 p1 : Str) : bG SE (amW Γ γ178) Λ2 J 177 [.d (.str p0), .d (.str p1)] [] [] =
 cond ((List.length p1 : Int) == 0) (
 none) (
 cond ((List.length p1 : Int) == 1) (
 cond (decide (0 ≤ 0) && decide (0 < (List.length p1 : Int))) (
  (rI (Lib.countByte p0 (UInt8.ofNat (Int.toNat (UInt8.toNat (List.getD p1 (Int.toNat 0) 0) : Int))) : Int))) none) (
 ap0 (amW Γ γ178) Λ2 J p0 p1 0)) := by kernel_rfl
theorem aBX (x0 x1 : Str) (x5 : Int) : bW SE (amW Γ γ178) Λ2 J 177 0 [1, 1, 1, 1, 0] (aV [(0, .d (.str x0)), (1, .d (.str x1)), (5, .d (.int .i64 x5))] [] [] [] []) =
 γ178 [.d (.str x0), .d (.str x1)] [] [] fun r0 =>
 cond (r0 == (-1)) (
 (rI x5)) (
 cond (decide (0 ≤ (w6 (r0 + (List.length x1 : Int)))) && decide ((w6 (r0 + (List.length x1 : Int))) ≤ ((List.length x0) : Int))) (
 ap0 (amW Γ γ178) Λ2 J (dB x0 (some (w6 (r0 + (List.length x1 : Int)))) none) x1 (w6 (x5 + 1))) none) := by kernel_rfl
end
abbrev atg : aP := amW gG (cT 178 aB)
theorem axm : atg = aR gG := by unfold atg amW; rw [bD fun _ h => h]
abbrev azu := ap0 atg (bV SE gG (SE.hl 177) (SE.hr 177)) (J0 SE atg)
theorem aib : ∀ (fu : Nat) (x0 x1 : Str) (x5 : Int), Le (Option.map aB (wP fu x0 x1 x5)) (azu x0 x1 x5) := by
 intro fu
 induction fu with
 | zero => intros; exact le_none
 | succ fu ih =>
  intro x0 x1 x5
  refine Le.trans ?_ (le_of_eq ((aZ axm).trans (aBX ..)).symm)
  unfold wP
  refine lQ eX aM (aex _ _) fun r0 _ => ?_
  refine lC ?_ ?_
  ·exact aJ rfl
  ·refine lF ?_
   exact ih (dB x0 (some (w6 (r0 + (List.length x1 : Int)))) none) x1 (w6 (x5 + 1))
theorem ak8 (p0 p1 : Str) : Le (Option.map aB (wQ p0 p1)) (bF SE 177 [.d (.str p0), .d (.str p1)] [] []) := by
 refine aW axm rfl ?_
 refine Le.trans ?_ (le_of_eq (aHN ..).symm)
 unfold wQ
 refine lC ?_ ?_
 ·exact le_none
 ·refine lC ?_ ?_
  ·refine lF ?_
   exact aJ rfl
  ·exact aib fuel p0 p1 0
def amS (C : aP) (Λ2 J : Lam) (a0 : Str) (a1 : Int) (a2 : List (List D)) : Res := lab SE C Λ2 J 170 0 [1, 1, 1, 1, 1, 1, 1, 1, 1, 0] (aV [(0, .d (.str a0)), (9, .row 3009), (10, .d (.int .i64 a1))] [] [] [] [(3009, ⟨[.str], 9, 16, a2⟩)])
def ane (C : aP) (Λ2 J : Lam) (a0 a1 : Str) (a2 a3 a4 : Int) (a5 : List (List D)) : Res := lab SE C Λ2 J 170 0 [1, 1, 1, 1, 1, 1, 1, 1, 0, 0] (aV [(0, .d (.str a0)), (1, .d (.str a1)), (2, .d (.int .i64 a2)), (3, .d (.int .i64 a3)), (9, .row 3009), (10, .d (.int .i64 a4))] [] [] [] [(3009, ⟨[.str], 9, 16, a5⟩)])
def apn (C : aP) (Λ2 J : Lam) (a0 a1 : Str) (a2 a3 : Int) : Res := lab SE C Λ2 J 170 0 [1, 1, 1, 1, 0] (aV [(0, .d (.str a0)), (1, .d (.str a1)), (2, .d (.int .i64 a2)), (3, .d (.int .i64 a3))] [] [] [] [])
section
variable (Γ : Fun) (γ177 γ178 : Gm (Int)) (Λ2 J : Lam)
def ac7 : aP := bB (bB (aR Γ) 177 aB γ177) 178 aB γ178
theorem aGM (p0 p1 : Str) (p2 p3 : Int) : bG SE (ac7 Γ γ177 γ178) Λ2 J 170 [.d (.str p0), .d (.str p1), .d (.int .i64 p2), .d (.int .i64 p3)] [] [] =
 cond (p3 == 0) (
 (some (.ret [.d (.sl [.str] (List.map cU []))] [] []))) (
 cond (p1 == ([] : Str)) (
 none) (
 cond (decide (p3 < 0)) (
 γ177 [.d (.str p0), .d (.str p1)] [] [] fun r0 =>
 apn (ac7 Γ γ177 γ178) Λ2 J p0 p1 p2 (w6 (r0 + 1))) (
 apn (ac7 Γ γ177 γ178) Λ2 J p0 p1 p2 p3))) := by kernel_rfl
theorem axX (x0 : Str) (x10 : Int) (w3009 : List Str) : bW SE (ac7 Γ γ177 γ178) Λ2 J 170 0 [1, 1, 1, 1, 1, 1, 1, 1, 1, 0] (aV [(0, .d (.str x0)), (9, .row 3009), (10, .d (.int .i64 x10))] [] [] [] [(3009, ⟨[.str], 9, 16, (List.map cU w3009)⟩)]) =
 cond (iB x10 (lM cU w3009 : Int)) (
 cond (decide (0 ≤ (w6 (x10 + 1))) && decide ((w6 (x10 + 1)) ≤ ((List.length (rY (List.map cU w3009) (Int.toNat x10) 0 [D.str x0])) : Int))) (
  (some (.ret [.d (.sl [.str] (List.take ((Int.toNat (w6 (x10 + 1))) - 0) (List.drop 0 (rY (List.map cU w3009) (Int.toNat x10) 0 [D.str x0]))))] [] []))) none) none := by kernel_rfl
theorem ayq (x0 x1 : Str) (x2 x3 x10 : Int) (w3009 : List Str) : bW SE (ac7 Γ γ177 γ178) Λ2 J 170 0 [1, 1, 1, 1, 1, 1, 1, 1, 0, 0] (aV [(0, .d (.str x0)), (1, .d (.str x1)), (2, .d (.int .i64 x2)), (3, .d (.int .i64 x3)), (9, .row 3009), (10, .d (.int .i64 x10))] [] [] [] [(3009, ⟨[.str], 9, 16, (List.map cU w3009)⟩)]) =
 cond (decide (x10 < x3)) (
 γ178 [.d (.str x0), .d (.str x1)] [] [] fun r1 =>
 cond (decide (r1 < 0)) (
  amS (ac7 Γ γ177 γ178) Λ2 J x0 x10 (List.map cU w3009)) (
 cond (decide (0 ≤ (w6 (r1 + x2))) && decide ((w6 (r1 + x2)) ≤ ((List.length x0) : Int))) (
  cond (iB x10 (lM cU w3009 : Int)) (
  cond (decide (0 ≤ (w6 (r1 + (List.length x1 : Int)))) && decide ((w6 (r1 + (List.length x1 : Int))) ≤ ((List.length x0) : Int))) (
   ane (ac7 Γ γ177 γ178) Λ2 J (dB x0 (some (w6 (r1 + (List.length x1 : Int)))) none) x1 x2 x3 (w6 (x10 + 1)) ((rY (List.map cU w3009) (Int.toNat x10) 0 [D.str (dB x0 none (some (w6 (r1 + x2))))]))) none) none) none)) (
 amS (ac7 Γ γ177 γ178) Λ2 J x0 x10 (List.map cU w3009)) := by kernel_rfl
theorem ay4 (x0 x1 : Str) (x2 x3 : Int) : bW SE (ac7 Γ γ177 γ178) Λ2 J 170 0 [1, 1, 1, 1, 0] (aV [(0, .d (.str x0)), (1, .d (.str x1)), (2, .d (.int .i64 x2)), (3, .d (.int .i64 x3))] [] [] [] []) =
 cond (decide (0 ≤ (if (w6 ((List.length x0 : Int) + 1)) < x3 then (w6 ((List.length x0 : Int) + 1)) else x3)) && decide ((if (w6 ((List.length x0 : Int) + 1)) < x3 then (w6 ((List.length x0 : Int) + 1)) else x3) ≤ (if (w6 ((List.length x0 : Int) + 1)) < x3 then (w6 ((List.length x0 : Int) + 1)) else x3)) && decide ((if (w6 ((List.length x0 : Int) + 1)) < x3 then (w6 ((List.length x0 : Int) + 1)) else x3) * 16 ≤ 281474976710656)) (
 ane (ac7 Γ γ177 γ178) Λ2 J x0 x1 x2 ((w6 ((if (w6 ((List.length x0 : Int) + 1)) < x3 then (w6 ((List.length x0 : Int) + 1)) else x3) - 1))) 0 ((List.replicate (Int.toNat (if (w6 ((List.length x0 : Int) + 1)) < x3 then (w6 ((List.length x0 : Int) + 1)) else x3)) [D.str []]))) none := by kernel_rfl
end
abbrev aiY : aP := ac7 gG (cT 177 aB) (cT 178 aB)
theorem aoD : aiY = aR gG := by unfold aiY ac7; repeat rw [bD fun _ h => h]
abbrev ayp := amS aiY (bV SE gG (SE.hl 170) (SE.hr 170)) (J0 SE aiY)
abbrev axW := ane aiY (bV SE gG (SE.hl 170) (SE.hr 170)) (J0 SE aiY)
abbrev aCd := apn aiY (bV SE gG (SE.hl 170) (SE.hr 170)) (J0 SE aiY)
theorem zT (x0 : Str) (x10 : Int) (w3009 : List Str) : Le (Option.map cR (nW x0 x10 w3009)) (ayp x0 x10 (List.map cU w3009)) := by
 refine Le.trans ?_ (le_of_eq ((aZ aoD).trans (axX ..)).symm)
 unfold nW
 refine lG (by simp only [EN]) ?_
 refine lG (by simp only [EN]) ?_
 exact aJ (by first | rfl | simp only [EN, cR] <;> rfl)
theorem aeT : ∀ (fu : Nat) (x0 x1 : Str) (x2 x3 x10 : Int) (w3009 : List Str), Le (Option.map cR (j0 fu x0 x1 x2 x3 x10 w3009)) (axW x0 x1 x2 x3 x10 (List.map cU w3009)) := by
 intro fu
 induction fu with
 | zero => intros; exact le_none
 | succ fu ih =>
  intro x0 x1 x2 x3 x10 w3009
  refine Le.trans ?_ (le_of_eq ((aZ aoD).trans (ayq ..)).symm)
  unfold j0
  refine lC ?_ ?_
  ·refine lQ eX aM (aex _ _) fun r1 _ => ?_
   refine lC ?_ ?_
   ·exact zT x0 x10 w3009
   ·refine lF ?_
    refine lG (by simp only [EN]) ?_
    refine lF ?_
    (try simp only [EN]); exact ih (dB x0 (some (w6 (r1 + (List.length x1 : Int)))) none) x1 x2 x3 (w6 (x10 + 1)) ((List.set w3009 (Int.toNat x10) (dB x0 none (some (w6 (r1 + x2))))))
  ·exact zT x0 x10 w3009
theorem aaq (x0 x1 : Str) (x2 x3 : Int) : Le (Option.map cR (o5 x0 x1 x2 x3)) (aCd x0 x1 x2 x3) := by
 refine Le.trans ?_ (le_of_eq ((aZ aoD).trans (ay4 ..)).symm)
 unfold o5
 refine lF ?_
 (try simp only [EN]); exact aeT fuel x0 x1 x2 ((w6 ((if (w6 ((List.length x0 : Int) + 1)) < x3 then (w6 ((List.length x0 : Int) + 1)) else x3) - 1))) 0 ((List.replicate (Int.toNat (if (w6 ((List.length x0 : Int) + 1)) < x3 then (w6 ((List.length x0 : Int) + 1)) else x3)) (default : Str)))
theorem aim (p0 p1 : Str) (p2 p3 : Int) : Le (Option.map cR (wF p0 p1 p2 p3)) (bF SE 170 [.d (.str p0), .d (.str p1), .d (.int .i64 p2), .d (.int .i64 p3)] [] []) := by
 refine aW aoD rfl ?_
 refine Le.trans ?_ (le_of_eq (aGM ..).symm)
 unfold wF
 refine lC ?_ ?_
 ·exact aJ rfl
 ·refine lC ?_ ?_
  ·exact le_none
  ·refine lC ?_ ?_
   ·refine lQ eX aM (ak8 _ _) fun r0 _ => ?_
    exact aaq p0 p1 p2 (w6 (r0 + 1))
   ·exact aaq p0 p1 p2 p3
section
variable (Γ : Fun) (γ170 : Gm ((List Str))) (Λ2 J : Lam)
def avJ : aP := bB (aR Γ) 170 cR γ170
theorem aH2 (p0 p1 : Str) : bG SE (avJ Γ γ170) Λ2 J 166 [.d (.str p0), .d (.str p1)] [] [] =
 γ170 [.d (.str p0), .d (.str p1), .d (.int .i64 0), .d (.int .i64 (-1))] [] [] fun r0 =>
 (some (.ret [.d (.sl [.str] (List.map cU r0))] [] [])) := by kernel_rfl
end
abbrev azC : aP := avJ gG (cT 170 cR)
theorem aER : azC = aR gG := by unfold azC avJ; rw [bD fun _ h => h]
theorem akB (p0 p1 : Str) : Le (Option.map cR (w5 p0 p1)) (bF SE 166 [.d (.str p0), .d (.str p1)] [] []) := by
 refine aW aER rfl ?_
 refine Le.trans ?_ (le_of_eq (aH2 ..).symm)
 unfold w5
 refine lQ eX wK (aim _ _ _ _) fun r0 _ => ?_
 exact aJ rfl
section
variable (Γ : Fun) (γ166 : Gm ((List Str))) (Λ2 J : Lam)
def avY : aP := bB (aR Γ) 166 cR γ166
theorem aGd (p0 : Str) : bG SE (avY Γ γ166) Λ2 J 157 [.d (.str p0)] [] [] =
 γ166 [.d (.str p0), .d (.str ([47] : Str))] [] [] fun r0 =>
 (some (.ret [.d (.sl [.str] (List.map cU r0))] [] [])) := by kernel_rfl
end
abbrev azO : aP := avY gG (cT 166 cR)
theorem aFo : azO = aR gG := by unfold azO avY; rw [bD fun _ h => h]
theorem alq (p0 : Str) : Le (Option.map cR (yN p0)) (bF SE 157 [.d (.str p0)] [] []) := by
 refine aW aFo rfl ?_
 refine Le.trans ?_ (le_of_eq (aGd ..).symm)
 unfold yN
 refine lQ eX wK (akB _ _) fun r0 _ => ?_
 exact aJ rfl
def agu (C : aP) (Λ2 J : Lam) (a0 : List (List D)) (a1 : Bool) (a2 : Int) (a3 : Str) (a4 : List (List D)) (a5 a6 : Int) (a7 : Str) (a8 : Nat) : Res := lab SE C Λ2 J 141 0 [1, 0, 1, 1, 1, 1, 0, 1, 0, 0, 1, 1, 0, 0, 1, 1, 0] (aV [(3, .d (.sl [.str] a0)), (4, .d (.bool a1)), (5, .d (.int .i64 a2)), (6, .d (.str a3)), (15, .d (.sl [.str] a4)), (16, .d (.int .i64 a5)), (17, .d (.int .i64 a6)), (23, .it 4000)] [] [] [(4000, (a7, a8))] [])
def apF (C : aP) (Λ2 J : Lam) (a0 : List (List D)) (a1 : Bool) (a2 : List (List D)) (a3 a4 : Int) : Res := lab SE C Λ2 J 141 0 [1, 0, 1, 1, 1, 1, 0, 1, 0] (aV [(3, .d (.sl [.str] a0)), (4, .d (.bool a1)), (15, .d (.sl [.str] a2)), (16, .d (.int .i64 a3)), (17, .d (.int .i64 a4))] [] [] [] [])
section
variable (Γ : Fun) (γ156 : Gm (Bool)) (γ157 : Gm ((List Str))) (Λ2 J : Lam)
def ade : aP := bB (bB (aR Γ) 156 brokerlaw43_light_out γ156) 157 cR γ157
theorem aF6 (p0 : Str) : bG SE (ade Γ γ156 γ157) Λ2 J 141 [.d (.str p0)] [] [] =
 γ156 [.d (.str p0)] [] [] fun r0 =>
 cond (!r0) (
 (rB false)) (
 γ157 [.d (.str p0)] [] [] fun r1 =>
 apF (ade Γ γ156 γ157) Λ2 J (List.map cU r1) true (List.map cU r1) (lM cU r1 : Int) 0) := by kernel_rfl
theorem azl (x3 : List Str) (x4 : Bool) (x5 : Int) (x6 : Str) (x15 : List Str) (x16 x17 : Int) (s4000 : Str) (i4000 : Nat) : bW SE (ade Γ γ156 γ157) Λ2 J 141 0 [1, 0, 1, 1, 1, 1, 0, 1, 0, 0, 1, 1, 0, 0, 1, 1, 0] (aV [(3, .d (.sl [.str] (List.map cU x3))), (4, .d (.bool x4)), (5, .d (.int .i64 x5)), (6, .d (.str x6)), (15, .d (.sl [.str] (List.map cU x15))), (16, .d (.int .i64 x16)), (17, .d (.int .i64 x17)), (23, .it 4000)] [] [] [(4000, (s4000, i4000))] []) =
 cond (decide (i4000 < List.length s4000)) (
 cond (((dec s4000 i4000).1 : Int) == 43) (
  cond (!((List.length x6 : Int) == 1)) (
  (rB false)) (
  cond (((dec s4000 i4000).1 : Int) == 35) (
  cond (!((List.length x6 : Int) == 1)) (
   (rB false)) (
  cond (decide (x5 < (w6 ((lM cU x3 : Int) - 1)))) (
   (rB false)) (
  agu (ade Γ γ156 γ157) Λ2 J (List.map cU x3) x4 x5 x6 (List.map cU x15) x16 x17 s4000 (i4000 + (dec s4000 i4000).2)))) (
  agu (ade Γ γ156 γ157) Λ2 J (List.map cU x3) x4 x5 x6 (List.map cU x15) x16 x17 s4000 (i4000 + (dec s4000 i4000).2)))) (
 cond (((dec s4000 i4000).1 : Int) == 35) (
  cond (!((List.length x6 : Int) == 1)) (
  (rB false)) (
  cond (decide (x5 < (w6 ((lM cU x3 : Int) - 1)))) (
  (rB false)) (
  agu (ade Γ γ156 γ157) Λ2 J (List.map cU x3) x4 x5 x6 (List.map cU x15) x16 x17 s4000 (i4000 + (dec s4000 i4000).2)))) (
 agu (ade Γ γ156 γ157) Λ2 J (List.map cU x3) x4 x5 x6 (List.map cU x15) x16 x17 s4000 (i4000 + (dec s4000 i4000).2)))) (
 apF (ade Γ γ156 γ157) Λ2 J (List.map cU x3) x4 (List.map cU x15) x16 (w6 (x17 + 1))) := by kernel_rfl
theorem aBw (x3 : List Str) (x4 : Bool) (x15 : List Str) (x16 x17 : Int) : bW SE (ade Γ γ156 γ157) Λ2 J 141 0 [1, 0, 1, 1, 1, 1, 0, 1, 0] (aV [(3, .d (.sl [.str] (List.map cU x3))), (4, .d (.bool x4)), (15, .d (.sl [.str] (List.map cU x15))), (16, .d (.int .i64 x16)), (17, .d (.int .i64 x17))] [] [] [] []) =
 cond (decide (x17 < x16)) (
 cond (iB x17 (lM cU x15 : Int)) (
  agu (ade Γ γ156 γ157) Λ2 J (List.map cU x3) x4 x17 ((bL (cE cU x15 x17 0))) (List.map cU x15) x16 x17 ((bL (cE cU x15 x17 0))) 0) none) (
 (rB x4)) := by kernel_rfl
end
abbrev amL : aP := ade gG (cT 156 brokerlaw43_light_out) (cT 157 cR)
theorem asc : amL = aR gG := by unfold amL ade; repeat rw [bD fun _ h => h]
abbrev ayZ := agu amL (bV SE gG (SE.hl 141) (SE.hr 141)) (J0 SE amL)
abbrev aur := apF amL (bV SE gG (SE.hl 141) (SE.hr 141)) (J0 SE amL)
theorem ajn : ∀ (fu : Nat) (k6 : (List Str) → Bool → (List Str) → Int → Int → Option (Bool)) (hk6 : ∀ (x3 : List Str) (x4 : Bool) (x15 : List Str) (x16 x17 : Int), Le (Option.map brokerlaw43_light_out (k6 x3 x4 x15 x16 x17)) (aur (List.map cU x3) x4 (List.map cU x15) x16 x17)) (x3 : List Str) (x4 : Bool) (x5 : Int) (x6 : Str) (x15 : List Str) (x16 x17 : Int) (s4000 : Str) (i4000 : Nat), Le (Option.map brokerlaw43_light_out (iA fu k6 x3 x4 x5 x6 x15 x16 x17 s4000 i4000)) (ayZ (List.map cU x3) x4 x5 x6 (List.map cU x15) x16 x17 s4000 i4000) := by
 intro fu
 induction fu with
 | zero => intros; exact le_none
 | succ fu ih =>
  intro k6 hk6 x3 x4 x5 x6 x15 x16 x17 s4000 i4000
  refine Le.trans ?_ (le_of_eq ((aZ asc).trans (azl ..)).symm)
  unfold iA
  refine lC ?_ ?_
  ·refine lC ?_ ?_
   ·refine lC ?_ ?_
    ·exact aJ rfl
    ·refine lC ?_ ?_
     ·refine lC ?_ ?_
      ·exact aJ rfl
      ·refine lD (by simp only [EN]) ?_ ?_
       ·exact aJ rfl
       ·exact ih _ hk6 x3 x4 x5 x6 x15 x16 x17 s4000 (i4000 + (dec s4000 i4000).2)
     ·exact ih _ hk6 x3 x4 x5 x6 x15 x16 x17 s4000 (i4000 + (dec s4000 i4000).2)
   ·refine lC ?_ ?_
    ·refine lC ?_ ?_
     ·exact aJ rfl
     ·refine lD (by simp only [EN]) ?_ ?_
      ·exact aJ rfl
      ·exact ih _ hk6 x3 x4 x5 x6 x15 x16 x17 s4000 (i4000 + (dec s4000 i4000).2)
    ·exact ih _ hk6 x3 x4 x5 x6 x15 x16 x17 s4000 (i4000 + (dec s4000 i4000).2)
  ·exact hk6 x3 x4 x15 x16 (w6 (x17 + 1))
theorem aiG : ∀ (fu : Nat) (x3 : List Str) (x4 : Bool) (x15 : List Str) (x16 x17 : Int), Le (Option.map brokerlaw43_light_out (nZ fu x3 x4 x15 x16 x17)) (aur (List.map cU x3) x4 (List.map cU x15) x16 x17) := by
 intro fu
 induction fu with
 | zero => intros; exact le_none
 | succ fu ih =>
  intro x3 x4 x15 x16 x17
  refine Le.trans ?_ (le_of_eq ((aZ asc).trans (aBw ..)).symm)
  unfold nZ
  refine lC ?_ ?_
  ·refine lG (by simp only [EN]) ?_
   (try simp only [EN]); exact ajn fuel _ (ih) x3 x4 x17 (List.getD x15 (Int.toNat x17) default) x15 x16 x17 (List.getD x15 (Int.toNat x17) default) 0
  ·exact aJ rfl
theorem afp (p0 : Str) : Le (Option.map brokerlaw43_light_out (vG p0)) (bF SE 141 [.d (.str p0)] [] []) := by
 refine aW asc rfl ?_
 refine Le.trans ?_ (le_of_eq (aF6 ..).symm)
 unfold vG
 refine lQ eX brokerlaw43_light_inj (agk _) fun r0 _ => ?_
 refine lC ?_ ?_
 ·exact aJ rfl
 ·refine lQ eX wK (alq _) fun r1 _ => ?_
  (try simp only [EN]); exact aiG fuel r1 true r1 (List.length r1 : Int) 0
section
variable (Γ : Fun) (γ158 : Gm (Bool)) (Λ2 J : Lam)
def avz : aP := bB (aR Γ) 158 brokerlaw43_light_out γ158
theorem aHv (p0 p1 : Str) : bG SE (avz Γ γ158) Λ2 J 142 [.d (.str p0), .d (.str p1)] [] [] =
 γ158 [.d (.str p0), .d (.str p1)] [] [] fun r0 =>
 (rB r0) := by kernel_rfl
end
abbrev aCg : aP := avz gG (cT 158 brokerlaw43_light_out)
theorem aES : aCg = aR gG := by unfold aCg avz; rw [bD fun _ h => h]
theorem abr (p0 p1 : Str) : Le (Option.map brokerlaw43_light_out (oR p0 p1)) (bF SE 142 [.d (.str p0), .d (.str p1)] [] []) := by
 refine aW aES rfl ?_
 refine Le.trans ?_ (le_of_eq (aHv ..).symm)
 unfold oR
 refine lQ eX brokerlaw43_light_inj (yD _ _) fun r0 _ => ?_
 exact aJ rfl
section
variable (Γ : Fun) (γ154 : Gm (Str × Bool)) (γ155 : Gm (Str × Str × Bool)) (γ32 γ141 γ142 : Gm (Bool)) (Λ2 J : Lam)
def awa : aP := bB (bB (bB (bB (bB (aR Γ) 154 dX γ154) 155 cH γ155) 32 brokerlaw43_light_out γ32) 141 brokerlaw43_light_out γ141) 142 brokerlaw43_light_out γ142
theorem aFL (p0 : Str) : bG SE (awa Γ γ154 γ155 γ32 γ141 γ142) Λ2 J 139 [.d (.str p0)] [] [] =
 γ154 [.d (.str p0), .d (.str ([36, 115, 104, 97, 114, 101, 47] : Str))] [] [] fun r0 =>
 cond (!r0.2) (
 (some (.ret [.d (.str []), .d (.str []), .d (.bool false)] [] []))) (
 γ155 [.d (.str r0.1), .d (.str ([47] : Str))] [] [] fun r1 =>
 cond (!r1.2.2) (
 (some (.ret [.d (.str []), .d (.str []), .d (.bool false)] [] []))) (
 γ32 [.d (.str r1.1)] [] [] fun r2 =>
 cond (!r2) (
 (some (.ret [.d (.str []), .d (.str []), .d (.bool false)] [] []))) (
 γ141 [.d (.str r1.2.1)] [] [] fun r3 =>
 cond (!r3) (
 (some (.ret [.d (.str []), .d (.str []), .d (.bool false)] [] []))) (
 γ142 [.d (.str r1.2.1), .d (.str ([36, 115, 104, 97, 114, 101, 47] : Str))] [] [] fun r4 =>
 cond r4 (
 (some (.ret [.d (.str []), .d (.str []), .d (.bool false)] [] []))) (
 (some (.ret [.d (.str r1.1), .d (.str r1.2.1), .d (.bool true)] [] []))))))) := by kernel_rfl
end
abbrev aBi : aP := awa gG (cT 154 dX) (cT 155 cH) (cT 32 brokerlaw43_light_out) (cT 141 brokerlaw43_light_out) (cT 142 brokerlaw43_light_out)
theorem aDm : aBi = aR gG := by unfold aBi awa; repeat rw [bD fun _ h => h]
theorem alI (p0 : Str) : Le (Option.map cH (y8 p0)) (bF SE 139 [.d (.str p0)] [] []) := by
 refine aW aDm rfl ?_
 refine Le.trans ?_ (le_of_eq (aFL ..).symm)
 unfold y8
 refine lQ eX xV (ahv _ _) fun r0 _ => ?_
 refine lC ?_ ?_
 ·exact aJ rfl
 ·refine lQ eX o7 (ang _ _) fun r1 _ => ?_
  refine lC ?_ ?_
  ·exact aJ rfl
  ·refine lQ eX brokerlaw43_light_inj (tW _) fun r2 _ => ?_
   refine lC ?_ ?_
   ·exact aJ rfl
   ·refine lQ eX brokerlaw43_light_inj (afp _) fun r3 _ => ?_
    refine lC ?_ ?_
    ·exact aJ rfl
    ·refine lQ eX brokerlaw43_light_inj (abr _ _) fun r4 _ => ?_
     refine lC ?_ ?_
     ·exact aJ rfl
     ·exact aJ rfl
section
variable (Γ : Fun) (γ141 γ142 : Gm (Bool)) (Λ2 J : Lam)
def awJ : aP := bB (bB (aR Γ) 141 brokerlaw43_light_out γ141) 142 brokerlaw43_light_out γ142
theorem aGO (p0 : aK) : bG SE (awJ Γ γ141 γ142) Λ2 J 140 [.ptr 2000000000 0] [⟨72, (aK.avs p0)⟩] [] =
 γ141 [.d (.str p0.Filter)] [] [] fun r0 =>
 cond r0 (
 γ142 [.d (.str p0.Filter), .d (.str ([36, 115, 104, 97, 114, 101, 47] : Str))] [] [] fun r1 =>
 (some (.ret [.d (.bool (!r1))] [⟨72, (aK.avs p0)⟩] []))) (
 (some (.ret [.d (.bool false)] [⟨72, (aK.avs p0)⟩] []))) := by kernel_rfl
end
abbrev aBL : aP := awJ gG (cT 141 brokerlaw43_light_out) (cT 142 brokerlaw43_light_out)
theorem aC9 : aBL = aR gG := by unfold aBL awJ; repeat rw [bD fun _ h => h]
theorem agj (p0 : aK) : Le (Option.map j8 (uG p0)) (bF SE 140 [.ptr 2000000000 0] [⟨72, (aK.avs p0)⟩] []) := by
 refine aW aC9 rfl ?_
 refine Le.trans ?_ (le_of_eq (aGO ..).symm)
 unfold uG
 refine lQ eX brokerlaw43_light_inj (afp _) fun r0 _ => ?_
 refine lC ?_ ?_
 ·refine lQ eX brokerlaw43_light_inj (abr _ _) fun r1 _ => ?_
  exact aJ rfl
 ·exact aJ rfl
section
variable (Γ : Fun) (γ139 : Gm (Str × Str × Bool)) (γ140 : Gm (Bool × aK)) (Λ2 J : Lam)
def avh : aP := bB (bB (aR Γ) 139 cH γ139) 140 j8 γ140
theorem aGy (p0 : aK) : bG SE (avh Γ γ139 γ140) Λ2 J 117 [aK.av p0] [] [] =
 γ139 [.d (.str p0.Filter)] [] [] fun r0 =>
 cond (!r0.2.2) (
 γ140 [.ptr 2000000000 0] [⟨72, (aK.avs p0)⟩] [] fun r1 =>
 cond (!r1.1) (
  (rI 13)) (
 cond (decide (r1.2.Level < 0)) (
  (rI 14)) (
 cond (decide (r1.2.Level > 2)) (
  (rI 14)) (
 cond r1.2.NoLocal (
  cond r0.2.2 (
  (rI 28)) (
  (rI 0))) (
 (rI 0)))))) (
 cond (decide (p0.Level < 0)) (
 (rI 14)) (
 cond (decide (p0.Level > 2)) (
 (rI 14)) (
 cond p0.NoLocal (
 cond r0.2.2 (
  (rI 28)) (
 (rI 0))) (
 (rI 0))))) := by kernel_rfl
end
abbrev aAS : aP := avh gG (cT 139 cH) (cT 140 j8)
theorem aEt : aAS = aR gG := by unfold aAS avh; repeat rw [bD fun _ h => h]
theorem ah2 (p0 : aK) : Le (Option.map aB (sQ p0)) (bF SE 117 [aK.av p0] [] []) := by
 refine aW aEt rfl ?_
 refine Le.trans ?_ (le_of_eq (aGy ..).symm)
 unfold sQ
 refine lQ eX o7 (alI _) fun r0 _ => ?_
 refine lC ?_ ?_
 ·refine lQ eX afU (agj _) fun r1 _ => ?_
  refine lC ?_ ?_
  ·exact aJ rfl
  ·refine lC ?_ ?_
   ·exact aJ rfl
   ·refine lC ?_ ?_
    ·exact aJ rfl
    ·refine lC ?_ ?_
     ·refine lC ?_ ?_
      ·exact aJ rfl
      ·exact aJ rfl
     ·exact aJ rfl
 ·refine lC ?_ ?_
  ·exact aJ rfl
  ·refine lC ?_ ?_
   ·exact aJ rfl
   ·refine lC ?_ ?_
    ·refine lC ?_ ?_
     ·exact aJ rfl
     ·exact aJ rfl
    ·exact aJ rfl
def ap7 (C : aP) (Λ2 J : Lam) (a0 : Str) (a1 : Nat) : Res := lab SE C Λ2 J 143 0 [1, 1, 0, 1, 0] (aV [(9, .it 4000)] [] [] [(4000, (a0, a1))] [])
section
variable (Γ : Fun) (γ156 : Gm (Bool)) (Λ2 J : Lam)
def amC : aP := bB (aR Γ) 156 brokerlaw43_light_out γ156
theorem aGL (p0 : Str) : bG SE (amC Γ γ156) Λ2 J 143 [.d (.str p0)] [] [] =
 γ156 [.d (.str p0)] [] [] fun r0 =>
 cond (!r0) (
 (rB false)) (
 ap7 (amC Γ γ156) Λ2 J p0 0) := by kernel_rfl
theorem aBb (s4000 : Str) (i4000 : Nat) : bW SE (amC Γ γ156) Λ2 J 143 0 [1, 1, 0, 1, 0] (aV [(9, .it 4000)] [] [] [(4000, (s4000, i4000))] []) =
 cond (decide (i4000 < List.length s4000)) (
 cond (((dec s4000 i4000).1 : Int) == 43) (
  (rB false)) (
 cond (((dec s4000 i4000).1 : Int) == 35) (
  (rB false)) (
 ap7 (amC Γ γ156) Λ2 J s4000 (i4000 + (dec s4000 i4000).2)))) (
 (rB true)) := by kernel_rfl
end
abbrev atb : aP := amC gG (cT 156 brokerlaw43_light_out)
theorem axD : atb = aR gG := by unfold atb amC; rw [bD fun _ h => h]
abbrev azG := ap7 atb (bV SE gG (SE.hl 143) (SE.hr 143)) (J0 SE atb)
theorem aj5 : ∀ (fu : Nat) (s4000 : Str) (i4000 : Nat), Le (Option.map brokerlaw43_light_out (nN fu s4000 i4000)) (azG s4000 i4000) := by
 intro fu
 induction fu with
 | zero => intros; exact le_none
 | succ fu ih =>
  intro s4000 i4000
  refine Le.trans ?_ (le_of_eq ((aZ axD).trans (aBb ..)).symm)
  unfold nN
  refine lC ?_ ?_
  ·refine lC ?_ ?_
   ·exact aJ rfl
   ·refine lC ?_ ?_
    ·exact aJ rfl
    ·exact ih s4000 (i4000 + (dec s4000 i4000).2)
  ·exact aJ rfl
theorem ana (p0 : Str) : Le (Option.map brokerlaw43_light_out (aan p0)) (bF SE 143 [.d (.str p0)] [] []) := by
 refine aW axD rfl ?_
 refine Le.trans ?_ (le_of_eq (aGL ..).symm)
 unfold aan
 refine lQ eX brokerlaw43_light_inj (agk _) fun r0 _ => ?_
 refine lC ?_ ?_
 ·exact aJ rfl
 ·exact aj5 fuel p0 0
section
variable (Γ : Fun)  (Λ2 J : Lam)
def az7 : aP := aR Γ
theorem aHr (p0 p1 : Int) : bG SE (az7 Γ) Λ2 J 128 [.d (.int .i64 p0), .d (.int .i64 p1)] [] [] =
 cond (decide (p0 ≥ 0)) (
 (rB (decide (p0 ≤ p1)))) (
 (rB false)) := by kernel_rfl
end
abbrev aHK : aP := az7 gG
theorem aDb : aHK = aR gG := rfl
theorem tX (p0 p1 : Int) : Le (Option.map brokerlaw43_light_out (lY p0 p1)) (bF SE 128 [.d (.int .i64 p0), .d (.int .i64 p1)] [] []) := by
 refine aW aDb rfl ?_
 refine Le.trans ?_ (le_of_eq (aHr ..).symm)
 unfold lY
 refine lC ?_ ?_
 ·exact aJ rfl
 ·exact aJ rfl
def abn (C : aP) (Λ2 J : Lam) (a0 : Str) (a1 : Int) : Res := lab SE C Λ2 J 159 0 [1, 1, 0, 1, 0] (aV [(0, .d (.str a0)), (3, .d (.int .i64 a1))] [] [] [] [])
def atP (C : aP) (Λ2 J : Lam) (a0 : Str) : Res := lab SE C Λ2 J 159 0 [1, 1, 0, 0] (aV [(0, .d (.str a0))] [] [] [] [])
section
variable (Γ : Fun)  (Λ2 J : Lam)
def ab4 : aP := aR Γ
theorem aHx (p0 : Str) : bG SE (ab4 Γ) Λ2 J 159 [.d (.str p0)] [] [] =
 cond (decide ((List.length p0 : Int) < 1)) (
 (rB false)) (
 cond (decide ((List.length p0 : Int) > 16)) (
 (rB false)) (
 atP (ab4 Γ) Λ2 J p0)) := by kernel_rfl
theorem aCm (x0 : Str) (x3 : Int) : bW SE (ab4 Γ) Λ2 J 159 0 [1, 1, 0, 1, 0] (aV [(0, .d (.str x0)), (3, .d (.int .i64 x3))] [] [] [] []) =
 cond (decide (x3 < (List.length x0 : Int))) (
 cond (iB x3 (List.length x0 : Int)) (
  cond (decide ((UInt8.toNat (List.getD x0 (Int.toNat x3) 0) : Int) < 97)) (
  cond (decide ((UInt8.toNat (List.getD x0 (Int.toNat x3) 0) : Int) < 48)) (
   cond ((UInt8.toNat (List.getD x0 (Int.toNat x3) 0) : Int) != 45) (
   (rB false)) (
   abn (ab4 Γ) Λ2 J x0 (w6 (x3 + 1)))) (
  cond (decide ((UInt8.toNat (List.getD x0 (Int.toNat x3) 0) : Int) > 57)) (
   cond ((UInt8.toNat (List.getD x0 (Int.toNat x3) 0) : Int) != 45) (
   (rB false)) (
   abn (ab4 Γ) Λ2 J x0 (w6 (x3 + 1)))) (
  abn (ab4 Γ) Λ2 J x0 (w6 (x3 + 1))))) (
  cond (decide ((UInt8.toNat (List.getD x0 (Int.toNat x3) 0) : Int) > 122)) (
  cond (decide ((UInt8.toNat (List.getD x0 (Int.toNat x3) 0) : Int) < 48)) (
   cond ((UInt8.toNat (List.getD x0 (Int.toNat x3) 0) : Int) != 45) (
   (rB false)) (
   abn (ab4 Γ) Λ2 J x0 (w6 (x3 + 1)))) (
  cond (decide ((UInt8.toNat (List.getD x0 (Int.toNat x3) 0) : Int) > 57)) (
   cond ((UInt8.toNat (List.getD x0 (Int.toNat x3) 0) : Int) != 45) (
   (rB false)) (
   abn (ab4 Γ) Λ2 J x0 (w6 (x3 + 1)))) (
  abn (ab4 Γ) Λ2 J x0 (w6 (x3 + 1))))) (
  abn (ab4 Γ) Λ2 J x0 (w6 (x3 + 1))))) none) (
 (rB true)) := by kernel_rfl
theorem aBR (x0 : Str) : bW SE (ab4 Γ) Λ2 J 159 0 [1, 1, 0, 0] (aV [(0, .d (.str x0))] [] [] [] []) =
 abn (ab4 Γ) Λ2 J x0 0 := by kernel_rfl
end
abbrev apM : aP := ab4 gG
theorem arR : apM = aR gG := rfl
abbrev ay0 := abn apM (bV SE gG (SE.hl 159) (SE.hr 159)) (J0 SE apM)
abbrev azm := atP apM (bV SE gG (SE.hl 159) (SE.hr 159)) (J0 SE apM)
theorem aj2 : ∀ (fu : Nat) (x0 : Str) (x3 : Int), Le (Option.map brokerlaw43_light_out (gI fu x0 x3)) (ay0 x0 x3) := by
 intro fu
 induction fu with
 | zero => intros; exact le_none
 | succ fu ih =>
  intro x0 x3
  refine Le.trans ?_ (le_of_eq ((aZ arR).trans (aCm ..)).symm)
  unfold gI
  refine lC ?_ ?_
  ·refine lF ?_
   refine lC ?_ ?_
   ·refine lC ?_ ?_
    ·refine lC ?_ ?_
     ·exact aJ rfl
     ·exact ih x0 (w6 (x3 + 1))
    ·refine lC ?_ ?_
     ·refine lC ?_ ?_
      ·exact aJ rfl
      ·exact ih x0 (w6 (x3 + 1))
     ·exact ih x0 (w6 (x3 + 1))
   ·refine lC ?_ ?_
    ·refine lC ?_ ?_
     ·refine lC ?_ ?_
      ·exact aJ rfl
      ·exact ih x0 (w6 (x3 + 1))
     ·refine lC ?_ ?_
      ·refine lC ?_ ?_
       ·exact aJ rfl
       ·exact ih x0 (w6 (x3 + 1))
      ·exact ih x0 (w6 (x3 + 1))
    ·exact ih x0 (w6 (x3 + 1))
  ·exact aJ rfl
theorem aj3 (x0 : Str) : Le (Option.map brokerlaw43_light_out (zE x0)) (azm x0) := by
 refine Le.trans ?_ (le_of_eq ((aZ arR).trans (aBR ..)).symm)
 unfold zE
 exact aj2 fuel x0 0
theorem amF (p0 : Str) : Le (Option.map brokerlaw43_light_out (aar p0)) (bF SE 159 [.d (.str p0)] [] []) := by
 refine aW arR rfl ?_
 refine Le.trans ?_ (le_of_eq (aHx ..).symm)
 unfold aar
 refine lC ?_ ?_
 ·exact aJ rfl
 ·refine lC ?_ ?_
  ·exact aJ rfl
  ·exact aj3 p0
def ali (C : aP) (Λ2 J : Lam) (a0 a1 : List (List D)) (a2 a3 : Int) : Res := lab SE C Λ2 J 144 0 [1, 1, 0, 1, 0] (aV [(0, .d (.sl aG.ks a0)), (8, .d (.sl aG.ks a1)), (9, .d (.int .i64 a2)), (10, .d (.int .i64 a3))] [] [] [] [])
section
variable (Γ : Fun) (γ159 : Gm (Bool)) (Λ2 J : Lam)
def ak6 : aP := bB (aR Γ) 159 brokerlaw43_light_out γ159
theorem aHR (p0 : List aG) : bG SE (ak6 Γ γ159) Λ2 J 144 [.d (.sl aG.ks (List.map aG.enc p0))] [] [] =
 cond (decide ((lM aG.enc p0 : Int) > 8)) (
 (rI 5)) (
 ali (ak6 Γ γ159) Λ2 J (List.map aG.enc p0) (List.map aG.enc p0) (lM aG.enc p0 : Int) 0) := by kernel_rfl
theorem aA7 (x0 x8 : List aG) (x9 x10 : Int) : bW SE (ak6 Γ γ159) Λ2 J 144 0 [1, 1, 0, 1, 0] (aV [(0, .d (.sl aG.ks (List.map aG.enc x0))), (8, .d (.sl aG.ks (List.map aG.enc x8))), (9, .d (.int .i64 x9)), (10, .d (.int .i64 x10))] [] [] [] []) =
 cond (decide (x10 < x9)) (
 cond (iB x10 (lM aG.enc x8 : Int)) (
  γ159 [.d (.str (bL (cE aG.enc x8 x10 0)))] [] [] fun r0 =>
  cond (!r0) (
  (rI 16)) (
  cond (decide ((List.length (bL (cE aG.enc x8 x10 1)) : Int) > 160)) (
  (rI 5)) (
  cond (decide (x10 > 0)) (
  cond (iB (w6 (x10 - 1)) (lM aG.enc x0 : Int)) (
   cond (Op.bytesLess (bL (cE aG.enc x8 x10 0)) (bL (cE aG.enc x0 (w6 (x10 - 1)) 0)) || (bL (cE aG.enc x8 x10 0)) == (bL (cE aG.enc x0 (w6 (x10 - 1)) 0))) (
   (rI 16)) (
   ali (ak6 Γ γ159) Λ2 J (List.map aG.enc x0) (List.map aG.enc x8) x9 (w6 (x10 + 1)))) none) (
  ali (ak6 Γ γ159) Λ2 J (List.map aG.enc x0) (List.map aG.enc x8) x9 (w6 (x10 + 1)))))) none) (
 (rI 0)) := by kernel_rfl
end
abbrev ar8 : aP := ak6 gG (cT 159 brokerlaw43_light_out)
theorem axl : ar8 = aR gG := by unfold ar8 ak6; rw [bD fun _ h => h]
abbrev azd := ali ar8 (bV SE gG (SE.hl 144) (SE.hr 144)) (J0 SE ar8)
theorem aih : ∀ (fu : Nat) (x0 x8 : List aG) (x9 x10 : Int), Le (Option.map aB (kY fu x0 x8 x9 x10)) (azd (List.map aG.enc x0) (List.map aG.enc x8) x9 x10) := by
 intro fu
 induction fu with
 | zero => intros; exact le_none
 | succ fu ih =>
  intro x0 x8 x9 x10
  refine Le.trans ?_ (le_of_eq ((aZ axl).trans (aA7 ..)).symm)
  unfold kY
  refine lC ?_ ?_
  ·refine lG (by simp only [EN]) ?_
   refine lQ eX brokerlaw43_light_inj (by (try simp only [EN]); exact amF ((List.getD x8 (Int.toNat x10) default).Key)) fun r0 _ => ?_
   refine lC ?_ ?_
   ·exact aJ rfl
   ·refine lD (by simp only [EN]) ?_ ?_
    ·exact aJ rfl
    ·refine lC ?_ ?_
     ·refine lG (by simp only [EN]) ?_
      refine lD (by simp only [EN]) ?_ ?_
      ·exact aJ rfl
      ·exact ih x0 x8 x9 (w6 (x10 + 1))
     ·exact ih x0 x8 x9 (w6 (x10 + 1))
  ·exact aJ rfl
theorem aeI (p0 : List aG) : Le (Option.map aB (tS p0)) (bF SE 144 [.d (.sl aG.ks (List.map aG.enc p0))] [] []) := by
 refine aW axl rfl ?_
 refine Le.trans ?_ (le_of_eq (aHR ..).symm)
 unfold tS
 refine lD (by simp only [EN]) ?_ ?_
 ·exact aJ rfl
 ·(try simp only [EN]); exact aih fuel p0 p0 (List.length p0 : Int) 0
section
variable (Γ : Fun) (γ143 γ128 γ32 : Gm (Bool)) (γ144 : Gm (Int)) (Λ2 J : Lam)
def awl : aP := bB (bB (bB (bB (aR Γ) 143 brokerlaw43_light_out γ143) 128 brokerlaw43_light_out γ128) 32 brokerlaw43_light_out γ32) 144 aB γ144
theorem aF5 (p0 : aC) : bG SE (awl Γ γ143 γ128 γ32 γ144) Λ2 J 118 [aC.av p0] [] [] =
 γ143 [.d (.str p0.Topic)] [] [] fun r0 =>
 cond (!r0) (
 (rI 12)) (
 cond (decide ((List.length p0.Payload : Int) > 256)) (
 (rI 5)) (
 γ128 [.d (.int .i64 p0.Level), .d (.int .i64 2)] [] [] fun r1 =>
 cond (!r1) (
 (rI 14)) (
 γ128 [.d (.int .i64 p0.Priority), .d (.int .i64 9)] [] [] fun r2 =>
 cond (!r2) (
 (rI 1)) (
 γ128 [.d (.int .i64 p0.Expires), .d (.int .i64 1099511627776)] [] [] fun r3 =>
 cond (!r3) (
 (rI 1)) (
 cond (!(p0.From == ([] : Str))) (
 γ32 [.d (.str p0.From)] [] [] fun r4 =>
 cond (!r4) (
  (rI 11)) (
 γ128 [.d (.int .i64 p0.Seq), .d (.int .i64 1099511627776)] [] [] fun r5 =>
 cond (!r5) (
  (rI 1)) (
 γ144 [.d (.sl aG.ks (List.map aG.enc p0.Props))] [] [] fun r6 =>
 (rI r6)))) (
 γ128 [.d (.int .i64 p0.Seq), .d (.int .i64 1099511627776)] [] [] fun r7 =>
 cond (!r7) (
 (rI 1)) (
 γ144 [.d (.sl aG.ks (List.map aG.enc p0.Props))] [] [] fun r8 =>
 (rI r8)))))))) := by kernel_rfl
end
abbrev aBk : aP := awl gG (cT 143 brokerlaw43_light_out) (cT 128 brokerlaw43_light_out) (cT 32 brokerlaw43_light_out) (cT 144 aB)
theorem aDl : aBk = aR gG := by unfold aBk awl; repeat rw [bD fun _ h => h]
theorem wJ (p0 : aC) : Le (Option.map aB (lU p0)) (bF SE 118 [aC.av p0] [] []) := by
 refine aW aDl rfl ?_
 refine Le.trans ?_ (le_of_eq (aF5 ..).symm)
 unfold lU
 refine lQ eX brokerlaw43_light_inj (ana _) fun r0 _ => ?_
 refine lC ?_ ?_
 ·exact aJ rfl
 ·refine lC ?_ ?_
  ·exact aJ rfl
  ·refine lQ eX brokerlaw43_light_inj (tX _ _) fun r1 _ => ?_
   refine lC ?_ ?_
   ·exact aJ rfl
   ·refine lQ eX brokerlaw43_light_inj (tX _ _) fun r2 _ => ?_
    refine lC ?_ ?_
    ·exact aJ rfl
    ·refine lQ eX brokerlaw43_light_inj (tX _ _) fun r3 _ => ?_
     refine lC ?_ ?_
     ·exact aJ rfl
     ·refine lC ?_ ?_
      ·refine lQ eX brokerlaw43_light_inj (tW _) fun r4 _ => ?_
       refine lC ?_ ?_
       ·exact aJ rfl
       ·refine lQ eX brokerlaw43_light_inj (tX _ _) fun r5 _ => ?_
        refine lC ?_ ?_
        ·exact aJ rfl
        ·refine lQ eX aM (aeI _) fun r6 _ => ?_
         exact aJ rfl
      ·refine lQ eX brokerlaw43_light_inj (tX _ _) fun r7 _ => ?_
       refine lC ?_ ?_
       ·exact aJ rfl
       ·refine lQ eX aM (aeI _) fun r8 _ => ?_
        exact aJ rfl
def apb (C : aP) (Λ2 J : Lam) (a0 : List (List D)) (a1 a2 : Int) : Res := lab SE C Λ2 J 87 0 [1, 1, 1, 1, 0, 1, 0] (aV [(46, .d (.sl aC.ks a0)), (47, .d (.int .i64 a1)), (48, .d (.int .i64 a2))] [] [] [] [])
def aoQ (C : aP) (Λ2 J : Lam) (a0 : List (List D)) (a1 a2 : Int) (a3 : List D) : Res := lab SE C Λ2 J 87 0 [1, 1, 0, 1, 0] (aV [(1, .ptr 1000000000 0), (14, .d (.sl aK.ks a0)), (15, .d (.int .i64 a1)), (16, .d (.int .i64 a2))] [⟨46, (List.map AV.d a3)⟩] [] [] [])
section
variable (Γ : Fun) (γ117 γ118 : Gm (Int)) (Λ2 J : Lam)
def C87 : aP := bB (bB (aR Γ) 117 aB γ117) 118 aB γ118
theorem T87 (p0 : aI) : bG SE (C87 Γ γ117 γ118) Λ2 J 87 [aI.av p0] [] [] =
 cond (decide ((lM aK.enc p0.Subs : Int) > 32)) (
 (rI 5)) (
 aoQ (C87 Γ γ117 γ118) Λ2 J (List.map aK.enc p0.Subs) (lM aK.enc p0.Subs : Int) 0 (aI.enc p0)) := by kernel_rfl
theorem aBC (x46 : List aC) (x47 x48 : Int) : bW SE (C87 Γ γ117 γ118) Λ2 J 87 0 [1, 1, 1, 1, 0, 1, 0] (aV [(46, .d (.sl aC.ks (List.map aC.enc x46))), (47, .d (.int .i64 x47)), (48, .d (.int .i64 x48))] [] [] [] []) =
 cond (decide (x48 < x47)) (
 cond (iB x48 (lM aC.enc x46 : Int)) (
  γ118 [.agg [.d (.str (bL (cE aC.enc x46 x48 0))), .d (.str (bL (cE aC.enc x46 x48 1))), .d (.int .i64 (aX (cE aC.enc x46 x48 2))), .d (.bool (dU (cE aC.enc x46 x48 3))), .d (.int .i64 (aX (cE aC.enc x46 x48 4))), .d (.int .i64 (aX (cE aC.enc x46 x48 5))), .d (.str (bL (cE aC.enc x46 x48 6))), .d (.int .i64 (aX (cE aC.enc x46 x48 7))), .d (.sl aG.ks (dSl (cE aC.enc x46 x48 8)))]] [] [] fun r1 =>
  cond (r1 != 0) (
  (rI r1)) (
  apb (C87 Γ γ117 γ118) Λ2 J (List.map aC.enc x46) x47 (w6 (x48 + 1)))) none) (
 (rI 0)) := by kernel_rfl
theorem aEb (x14 : List aK) (x15 x16 : Int) (b0 : aI) : bW SE (C87 Γ γ117 γ118) Λ2 J 87 0 [1, 1, 0, 1, 0] (aV [(1, .ptr 1000000000 0), (14, .d (.sl aK.ks (List.map aK.enc x14))), (15, .d (.int .i64 x15)), (16, .d (.int .i64 x16))] [⟨46, (List.map AV.d (aI.enc b0))⟩] [] [] []) =
 cond (decide (x16 < x15)) (
 cond (iB x16 (lM aK.enc x14 : Int)) (
  γ117 [.agg [.d (.str (bL (cE aK.enc x14 x16 0))), .d (.int .i64 (aX (cE aK.enc x14 x16 1))), .d (.bool (dU (cE aK.enc x14 x16 2)))]] [] [] fun r0 =>
  cond (r0 != 0) (
  (rI r0)) (
  cond (decide (x16 > 0)) (
  cond (iB (w6 (x16 - 1)) (lM aK.enc b0.Subs : Int)) (
   cond (Op.bytesLess (bL (cE aK.enc x14 x16 0)) (bL (cE aK.enc b0.Subs (w6 (x16 - 1)) 0)) || (bL (cE aK.enc x14 x16 0)) == (bL (cE aK.enc b0.Subs (w6 (x16 - 1)) 0))) (
   (rI 22)) (
   aoQ (C87 Γ γ117 γ118) Λ2 J (List.map aK.enc x14) x15 (w6 (x16 + 1)) (aI.enc b0))) none) (
  aoQ (C87 Γ γ117 γ118) Λ2 J (List.map aK.enc x14) x15 (w6 (x16 + 1)) (aI.enc b0)))) none) (
 cond (decide ((lM aC.enc b0.Queue : Int) > 256)) (
 (rI 5)) (
 apb (C87 Γ γ117 γ118) Λ2 J (List.map aC.enc b0.Queue) (lM aC.enc b0.Queue : Int) 0)) := by kernel_rfl
end
abbrev X87 : aP := C87 gG (cT 117 aB) (cT 118 aB)
theorem av4 : X87 = aR gG := by unfold X87 C87; repeat rw [bD fun _ h => h]
abbrev aAV := apb X87 (bV SE gG (SE.hl 87) (SE.hr 87)) (J0 SE X87)
abbrev aCz := aoQ X87 (bV SE gG (SE.hl 87) (SE.hr 87)) (J0 SE X87)
theorem adE : ∀ (fu : Nat) (x46 : List aC) (x47 x48 : Int), Le (Option.map aB (gA fu x46 x47 x48)) (aAV (List.map aC.enc x46) x47 x48) := by
 intro fu
 induction fu with
 | zero => intros; exact le_none
 | succ fu ih =>
  intro x46 x47 x48
  refine Le.trans ?_ (le_of_eq ((aZ av4).trans (aBC ..)).symm)
  unfold gA
  refine lC ?_ ?_
  ·refine lG (by simp only [EN]) ?_
   refine lQ eX aM (by (try simp only [EN]); exact wJ (List.getD x46 (Int.toNat x48) default)) fun r1 _ => ?_
   refine lC ?_ ?_
   ·exact aJ rfl
   ·exact ih x46 x47 (w6 (x48 + 1))
  ·exact aJ rfl
theorem aeE : ∀ (fu : Nat) (x14 : List aK) (x15 x16 : Int) (b0 : aI), Le (Option.map aB (gZ fu x14 x15 x16 b0)) (aCz (List.map aK.enc x14) x15 x16 (aI.enc b0)) := by
 intro fu
 induction fu with
 | zero => intros; exact le_none
 | succ fu ih =>
  intro x14 x15 x16 b0
  refine Le.trans ?_ (le_of_eq ((aZ av4).trans (aEb ..)).symm)
  unfold gZ
  refine lC ?_ ?_
  ·refine lG (by simp only [EN]) ?_
   refine lQ eX aM (by (try simp only [EN]); exact ah2 (List.getD x14 (Int.toNat x16) default)) fun r0 _ => ?_
   refine lC ?_ ?_
   ·exact aJ rfl
   ·refine lC ?_ ?_
    ·refine lG (by simp only [EN]) ?_
     refine lD (by simp only [EN]) ?_ ?_
     ·exact aJ rfl
     ·exact ih x14 x15 (w6 (x16 + 1)) b0
    ·exact ih x14 x15 (w6 (x16 + 1)) b0
  ·refine lD (by simp only [EN]) ?_ ?_
   ·exact aJ rfl
   ·(try simp only [EN]); exact adE fuel b0.Queue (List.length b0.Queue : Int) 0
theorem agH (p0 : aI) : Le (Option.map aB (qB p0)) (bF SE 87 [aI.av p0] [] []) := by
 refine aW av4 rfl ?_
 refine Le.trans ?_ (le_of_eq (T87 ..).symm)
 unfold qB
 refine lD (by simp only [EN]) ?_ ?_
 ·exact aJ rfl
 ·(try simp only [EN]); exact aeE fuel p0.Subs (List.length p0.Subs : Int) 0 p0
def aqc (C : aP) (Λ2 J : Lam) (a0 : Int) (a1 : List (List D)) (a2 a3 : Int) (a4 : List D) : Res := lab SE C Λ2 J 119 0 [1, 1, 1, 0, 1, 0] (aV [(1, .ptr 1000000000 0), (3, .d (.int .i64 a0)), (11, .d (.sl [.int .i64] a1)), (12, .d (.int .i64 a2)), (13, .d (.int .i64 a3))] [⟨35, (List.map AV.d a4)⟩] [] [] [])
section
variable (Γ : Fun)  (Λ2 J : Lam)
def apB : aP := aR Γ
theorem aGb (p0 : bE) : bG SE (apB Γ) Λ2 J 119 [bE.av p0] [] [] =
 cond (decide ((lM eI p0.Used : Int) > 32)) (
 (rI 5)) (
 aqc (apB Γ) Λ2 J 0 (List.map eI p0.Used) (lM eI p0.Used : Int) 0 (bE.enc p0)) := by kernel_rfl
theorem azi (x3 : Int) (x11 : List Int) (x12 x13 : Int) (b0 : bE) : bW SE (apB Γ) Λ2 J 119 0 [1, 1, 1, 0, 1, 0] (aV [(1, .ptr 1000000000 0), (3, .d (.int .i64 x3)), (11, .d (.sl [.int .i64] (List.map eI x11))), (12, .d (.int .i64 x12)), (13, .d (.int .i64 x13))] [⟨35, (List.map AV.d (bE.enc b0))⟩] [] [] []) =
 cond (decide (x13 < x12)) (
 cond (iB x13 (lM eI x11 : Int)) (
  cond (decide ((aX (cE eI x11 x13 0)) ≤ x3)) (
  (rI 15)) (
  cond (decide ((aX (cE eI x11 x13 0)) > 65535)) (
  (rI 15)) (
  aqc (apB Γ) Λ2 J ((aX (cE eI x11 x13 0))) (List.map eI x11) x12 (w6 (x13 + 1)) (bE.enc b0)))) none) (
 cond (decide (b0.Last < 0)) (
 (rI 1)) (
 cond (decide (b0.Last > 65535)) (
 (rI 1)) (
 (rI 0)))) := by kernel_rfl
end
abbrev awK : aP := apB gG
theorem axP : awK = aR gG := rfl
abbrev azT := aqc awK (bV SE gG (SE.hl 119) (SE.hr 119)) (J0 SE awK)
theorem aj7 : ∀ (fu : Nat) (x3 : Int) (x11 : List Int) (x12 x13 : Int) (b0 : bE), Le (Option.map aB (pM fu x3 x11 x12 x13 b0)) (azT x3 (List.map eI x11) x12 x13 (bE.enc b0)) := by
 intro fu
 induction fu with
 | zero => intros; exact le_none
 | succ fu ih =>
  intro x3 x11 x12 x13 b0
  refine Le.trans ?_ (le_of_eq ((aZ axP).trans (azi ..)).symm)
  unfold pM
  refine lC ?_ ?_
  ·refine lG (by simp only [EN]) ?_
   refine lD (by simp only [EN]) ?_ ?_
   ·exact aJ rfl
   ·refine lD (by simp only [EN]) ?_ ?_
    ·exact aJ rfl
    ·(try simp only [EN]); exact ih (List.getD x11 (Int.toNat x13) default) x11 x12 (w6 (x13 + 1)) b0
  ·refine lC ?_ ?_
   ·exact aJ rfl
   ·refine lC ?_ ?_
    ·exact aJ rfl
    ·exact aJ rfl
theorem anm (p0 : bE) : Le (Option.map aB (aap p0)) (bF SE 119 [bE.av p0] [] []) := by
 refine aW axP rfl ?_
 refine Le.trans ?_ (le_of_eq (aGb ..).symm)
 unfold aap
 refine lD (by simp only [EN]) ?_ ?_
 ·exact aJ rfl
 ·(try simp only [EN]); exact aj7 fuel 0 p0.Used (List.length p0.Used : Int) 0 p0
section
variable (Γ : Fun)  (Λ2 J : Lam)
def aB7 : aP := aR Γ
theorem aHH (p0 : Int) : bG SE (aB7 Γ) Λ2 J 171 [.d (.int .i64 p0)] [] [] =
 (rB (p0 != p0)) := by kernel_rfl
end
abbrev aGn : aP := aB7 gG
theorem aFh : aGn = aR gG := rfl
theorem adf (p0 : Int) : Le (Option.map brokerlaw43_light_out (vO p0)) (bF SE 171 [.d (.int .i64 p0)] [] []) := by
 refine aW aFh rfl ?_
 refine Le.trans ?_ (le_of_eq (aHH ..).symm)
 unfold vO
 exact aJ rfl
section
variable (Γ : Fun) (γ171 : Gm (Bool)) (Λ2 J : Lam)
def avu : aP := bB (aR Γ) 171 brokerlaw43_light_out γ171
theorem aHV (p0 p1 : Int) : bG SE (avu Γ γ171) Λ2 J 167 [.d (.int .i64 p0), .d (.int .i64 p1)] [] [] =
 γ171 [.d (.int .i64 p0)] [] [] fun r0 =>
 cond r0 (
 γ171 [.d (.int .i64 p1)] [] [] fun r1 =>
 cond (!r1) (
  (rB true)) (
 (rB (decide (p0 < p1))))) (
 (rB (decide (p0 < p1)))) := by kernel_rfl
end
abbrev aAT : aP := avu gG (cT 171 brokerlaw43_light_out)
theorem aDa : aAT = aR gG := by unfold aAT avu; rw [bD fun _ h => h]
theorem ak4 (p0 p1 : Int) : Le (Option.map brokerlaw43_light_out (w8 p0 p1)) (bF SE 167 [.d (.int .i64 p0), .d (.int .i64 p1)] [] []) := by
 refine aW aDa rfl ?_
 refine Le.trans ?_ (le_of_eq (aHV ..).symm)
 unfold w8
 refine lQ eX brokerlaw43_light_inj (adf _) fun r0 _ => ?_
 refine lC ?_ ?_
 ·refine lQ eX brokerlaw43_light_inj (adf _) fun r1 _ => ?_
  refine lC ?_ ?_
  ·exact aJ rfl
  ·exact aJ rfl
 ·exact aJ rfl
section
variable (Γ : Fun)  (Λ2 J : Lam)
def aBI : aP := aR Γ
theorem aFX (p0 : Int) : bG SE (aBI Γ) Λ2 J 168 [.d (.int .i64 p0)] [] [] =
 (rB (p0 != p0)) := by kernel_rfl
end
abbrev aGG : aP := aBI gG
theorem aEI : aGG = aR gG := rfl
theorem abg (p0 : Int) : Le (Option.map brokerlaw43_light_out (oO p0)) (bF SE 168 [.d (.int .i64 p0)] [] []) := by
 refine aW aEI rfl ?_
 refine Le.trans ?_ (le_of_eq (aFX ..).symm)
 unfold oO
 exact aJ rfl
def alM (C : aP) (Λ2 J : Lam) (a0 : List (List D)) (a1 a2 a3 a4 : Int) : Res := lab SE C Λ2 J 160 0 [1, 1, 1, 0, 0] (aV [(0, .d (.sl [.int .i64] a0)), (1, .d (.int .i64 a1)), (6, .d (.int .i64 a2)), (7, .d (.int .i64 a3)), (8, .d (.int .i64 a4))] [] [] [] [])
section
variable (Γ : Fun) (γ167 γ168 : Gm (Bool)) (Λ2 J : Lam)
def akY : aP := bB (bB (aR Γ) 167 brokerlaw43_light_out γ167) 168 brokerlaw43_light_out γ168
theorem aGr (p0 : List Int) (p1 : Int) : bG SE (akY Γ γ167 γ168) Λ2 J 160 [.d (.sl [.int .i64] (List.map eI p0)), .d (.int .i64 p1)] [] [] =
 alM (akY Γ γ167 γ168) Λ2 J (List.map eI p0) p1 (lM eI p0 : Int) 0 (lM eI p0 : Int) := by kernel_rfl
theorem aBg (x0 : List Int) (x1 x6 x7 x8 : Int) : bW SE (akY Γ γ167 γ168) Λ2 J 160 0 [1, 1, 1, 0, 0] (aV [(0, .d (.sl [.int .i64] (List.map eI x0))), (1, .d (.int .i64 x1)), (6, .d (.int .i64 x6)), (7, .d (.int .i64 x7)), (8, .d (.int .i64 x8))] [] [] [] []) =
 cond (decide (x7 < x8)) (
 cond (iB (w6 (shr .u64 (IntKind.wrap .u64 (w6 (x7 + x8))) 1)) (lM eI x0 : Int)) (
  γ167 [.d (.int .i64 (aX (cE eI x0 (w6 (shr .u64 (IntKind.wrap .u64 (w6 (x7 + x8))) 1)) 0))), .d (.int .i64 x1)] [] [] fun r0 =>
  cond r0 (
  alM (akY Γ γ167 γ168) Λ2 J (List.map eI x0) x1 x6 (w6 ((w6 (shr .u64 (IntKind.wrap .u64 (w6 (x7 + x8))) 1)) + 1)) x8) (
  alM (akY Γ γ167 γ168) Λ2 J (List.map eI x0) x1 x6 x7 (w6 (shr .u64 (IntKind.wrap .u64 (w6 (x7 + x8))) 1)))) none) (
 cond (decide (x7 < x6)) (
 cond (iB x7 (lM eI x0 : Int)) (
  cond ((aX (cE eI x0 x7 0)) == x1) (
  (some (.ret [.d (.int .i64 x7), .d (.bool true)] [] []))) (
  cond (iB x7 (lM eI x0 : Int)) (
  γ168 [.d (.int .i64 (aX (cE eI x0 x7 0)))] [] [] fun r1 =>
  cond r1 (
   γ168 [.d (.int .i64 x1)] [] [] fun r2 =>
   (some (.ret [.d (.int .i64 x7), .d (.bool r2)] [] []))) (
  (some (.ret [.d (.int .i64 x7), .d (.bool false)] [] [])))) none)) none) (
 (some (.ret [.d (.int .i64 x7), .d (.bool false)] [] [])))) := by kernel_rfl
end
abbrev asH : aP := akY gG (cT 167 brokerlaw43_light_out) (cT 168 brokerlaw43_light_out)
theorem axc : asH = aR gG := by unfold asH akY; repeat rw [bD fun _ h => h]
abbrev aBs := alM asH (bV SE gG (SE.hl 160) (SE.hr 160)) (J0 SE asH)
theorem zC : ∀ (fu : Nat) (x0 : List Int) (x1 x6 x7 x8 : Int), Le (Option.map cM (dE fu x0 x1 x6 x7 x8)) (aBs (List.map eI x0) x1 x6 x7 x8) := by
 intro fu
 induction fu with
 | zero => intros; exact le_none
 | succ fu ih =>
  intro x0 x1 x6 x7 x8
  refine Le.trans ?_ (le_of_eq ((aZ axc).trans (aBg ..)).symm)
  unfold dE
  refine lC ?_ ?_
  ·refine lG (by simp only [EN]) ?_
   refine lQ eX brokerlaw43_light_inj (by (try simp only [EN]); exact ak4 (List.getD x0 (Int.toNat (w6 (shr .u64 (IntKind.wrap .u64 (w6 (x7 + x8))) 1))) default) x1) fun r0 _ => ?_
   refine lC ?_ ?_
   ·exact ih x0 x1 x6 (w6 ((w6 (shr .u64 (IntKind.wrap .u64 (w6 (x7 + x8))) 1)) + 1)) x8
   ·exact ih x0 x1 x6 x7 (w6 (shr .u64 (IntKind.wrap .u64 (w6 (x7 + x8))) 1))
  ·refine lC ?_ ?_
   ·refine lG (by simp only [EN]) ?_
    refine lD (by simp only [EN]) ?_ ?_
    ·exact aJ rfl
    ·refine lG (by simp only [EN]) ?_
     refine lQ eX brokerlaw43_light_inj (by (try simp only [EN]); exact abg (List.getD x0 (Int.toNat x7) default)) fun r1 _ => ?_
     refine lC ?_ ?_
     ·refine lQ eX brokerlaw43_light_inj (abg _) fun r2 _ => ?_
      exact aJ rfl
     ·exact aJ rfl
   ·exact aJ rfl
theorem aal (p0 : List Int) (p1 : Int) : Le (Option.map cM (iD p0 p1)) (bF SE 160 [.d (.sl [.int .i64] (List.map eI p0)), .d (.int .i64 p1)] [] []) := by
 refine aW axc rfl ?_
 refine Le.trans ?_ (le_of_eq (aGr ..).symm)
 unfold iD
 (try simp only [EN]); exact zC fuel p0 p1 (List.length p0 : Int) 0 (List.length p0 : Int)
section
variable (Γ : Fun) (γ160 : Gm (Int × Bool)) (Λ2 J : Lam)
def aws : aP := bB (aR Γ) 160 cM γ160
theorem aGB (p0 : bE) (p1 : Int) : bG SE (aws Γ γ160) Λ2 J 145 [bE.av p0, .d (.int .i64 p1)] [] [] =
 γ160 [.d (.sl [.int .i64] (List.map eI p0.Used)), .d (.int .i64 p1)] [] [] fun r0 =>
 (rB r0.2) := by kernel_rfl
end
abbrev aAM : aP := aws gG (cT 160 cM)
theorem aEe : aAM = aR gG := by unfold aAM aws; rw [bD fun _ h => h]
theorem apY (p0 : bE) (p1 : Int) : Le (Option.map brokerlaw43_light_out (acP p0 p1)) (bF SE 145 [bE.av p0, .d (.int .i64 p1)] [] []) := by
 refine aW aEe rfl ?_
 refine Le.trans ?_ (le_of_eq (aGB ..).symm)
 unfold acP
 refine lQ eX qX (aal _ _) fun r0 _ => ?_
 exact aJ rfl
section
variable (Γ : Fun)  (Λ2 J : Lam)
def aBY : aP := aR Γ
theorem aGJ (p0 : aE) (p1 : Int) : bG SE (aBY Γ) Λ2 J 162 [aE.av p0, .ptr 2000000000 0] [⟨3, [.d (.int .i64 p1)]⟩] [] =
 (some (.ret [.d (.bool (p0.ID == p1))] [⟨3, [.d (.int .i64 p1)]⟩] [])) := by kernel_rfl
end
abbrev aHT : aP := aBY gG
theorem aDq : aHT = aR gG := rfl
theorem ajj (p0 : aE) (p1 : Int) : Le (Option.map mR (xH p0 p1)) (bF SE 162 [aE.av p0, .ptr 2000000000 0] [⟨3, [.d (.int .i64 p1)]⟩] []) := by
 refine aW aDq rfl ?_
 refine Le.trans ?_ (le_of_eq (aGJ ..).symm)
 unfold xH
 exact aJ rfl
def apr (C : aP) (Λ2 J : Lam) (a0 : List (List D)) (a1 a2 a3 : Int) : Res := lab SE C Λ2 J 161 1 [1, 0, 1, 0] (aV [(0, .d (.sl aE.ks a0)), (1, .fn 162 [] [.ptr 2000000000 0]), (7, .d (.int .i64 a1)), (8, .d (.int .i64 a2))] [] [⟨3, [.d (.int .i64 a3)]⟩] [] [])
section
variable (Γ : Fun) (γ162 : Gm (Bool × Int)) (Λ2 J : Lam)
def anv : aP := bB (aR Γ) 162 mR γ162
theorem aHz (p0 : List aE) (p1_0 : Int) : bG SE (anv Γ γ162) Λ2 J 161 [.d (.sl aE.ks (List.map aE.enc p0)), .fn 162 [] [.ptr 2000000000 0]] [⟨3, [.d (.int .i64 p1_0)]⟩] [] =
 apr (anv Γ γ162) Λ2 J (List.map aE.enc p0) (lM aE.enc p0 : Int) 0 p1_0 := by kernel_rfl
theorem aCn (x0 : List aE) (x7 x8 q0_0 : Int) : bW SE (anv Γ γ162) Λ2 J 161 1 [1, 0, 1, 0] (aV [(0, .d (.sl aE.ks (List.map aE.enc x0))), (1, .fn 162 [] [.ptr 2000000000 0]), (7, .d (.int .i64 x7)), (8, .d (.int .i64 x8))] [] [⟨3, [.d (.int .i64 q0_0)]⟩] [] []) =
 cond (decide (x8 < x7)) (
 cond (iB x8 (lM aE.enc x0 : Int)) (
  γ162 [.agg [.d (.int .i64 (aX (cE aE.enc x0 x8 0))), .d (.int .i64 (aX (cE aE.enc x0 x8 1))), .d (.str (bL (cE aE.enc x0 x8 2))), .d (.str (bL (cE aE.enc x0 x8 3))), .d (.int .i64 (aX (cE aE.enc x0 x8 4))), .d (.bool (dU (cE aE.enc x0 x8 5))), .d (.int .i64 (aX (cE aE.enc x0 x8 6))), .d (.int .i64 (aX (cE aE.enc x0 x8 7))), .d (.str (bL (cE aE.enc x0 x8 8))), .d (.int .i64 (aX (cE aE.enc x0 x8 9))), .d (.sl aG.ks (dSl (cE aE.enc x0 x8 10)))], .ptr 2000000000 0] [⟨3, [.d (.int .i64 q0_0)]⟩] [] fun r0 =>
  cond r0.1 (
  (some (.ret [.d (.int .i64 x8)] [⟨3, [.d (.int .i64 r0.2)]⟩] []))) (
  apr (anv Γ γ162) Λ2 J (List.map aE.enc x0) x7 (w6 (x8 + 1)) r0.2)) none) (
 (some (.ret [.d (.int .i64 (-1))] [⟨3, [.d (.int .i64 q0_0)]⟩] []))) := by kernel_rfl
end
abbrev arV : aP := anv gG (cT 162 mR)
theorem axp : arV = aR gG := by unfold arV anv; rw [bD fun _ h => h]
abbrev ayU := apr arV (bV SE gG (SE.hl 161) (SE.hr 161)) (J0 SE arV)
theorem tP : ∀ (fu : Nat) (x0 : List aE) (x7 x8 q0_0 : Int), Le (Option.map cZ (c8 fu x0 x7 x8 q0_0)) (ayU (List.map aE.enc x0) x7 x8 q0_0) := by
 intro fu
 induction fu with
 | zero => intros; exact le_none
 | succ fu ih =>
  intro x0 x7 x8 q0_0
  refine Le.trans ?_ (le_of_eq ((aZ axp).trans (aCn ..)).symm)
  unfold c8
  refine lC ?_ ?_
  ·refine lG (by simp only [EN]) ?_
   refine lQ eX aia (by (try simp only [EN]); exact ajj (List.getD x0 (Int.toNat x8) default) q0_0) fun r0 _ => ?_
   refine lC ?_ ?_
   ·exact aJ rfl
   ·exact ih x0 x7 (w6 (x8 + 1)) r0.2
  ·exact aJ rfl
theorem uW (p0 : List aE) (p1_0 : Int) : Le (Option.map cZ (fT p0 p1_0)) (bF SE 161 [.d (.sl aE.ks (List.map aE.enc p0)), .fn 162 [] [.ptr 2000000000 0]] [⟨3, [.d (.int .i64 p1_0)]⟩] []) := by
 refine aW axp rfl ?_
 refine Le.trans ?_ (le_of_eq (aHz ..).symm)
 unfold fT
 (try simp only [EN]); exact tP fuel p0 (List.length p0 : Int) 0 p1_0
section
variable (Γ : Fun) (γ161 : Gm (Int × Int)) (Λ2 J : Lam)
def aw2 : aP := bB (aR Γ) 161 cZ γ161
theorem aG9 (p0 : List aE) (p1 : Int) : bG SE (aw2 Γ γ161) Λ2 J 146 [.d (.sl aE.ks (List.map aE.enc p0)), .d (.int .i64 p1)] [] [] =
 γ161 [.d (.sl aE.ks (List.map aE.enc p0)), .fn 162 [] [.ptr 2000000000 0]] [⟨3, [.d (.int .i64 p1)]⟩] [] fun r0 =>
 (rI r0.1) := by kernel_rfl
end
abbrev azB : aP := aw2 gG (cT 161 cZ)
theorem aD2 : azB = aR gG := by unfold azB aw2; rw [bD fun _ h => h]
theorem akS (p0 : List aE) (p1 : Int) : Le (Option.map aB (wY p0 p1)) (bF SE 146 [.d (.sl aE.ks (List.map aE.enc p0)), .d (.int .i64 p1)] [] []) := by
 refine aW aD2 rfl ?_
 refine Le.trans ?_ (le_of_eq (aG9 ..).symm)
 unfold wY
 refine lQ eX uJ (uW _ _) fun r0 _ => ?_
 exact aJ rfl
def at3 (C : aP) (Λ2 J : Lam) (a0 : List D) : Res := lab SE C Λ2 J 120 0 [1, 1, 1, 0, 0] (aV [(5, .ptr 1000000000 0)] [⟨78, (List.map AV.d a0)⟩] [] [] [])
section
variable (Γ : Fun) (γ145 : Gm (Bool)) (γ146 γ118 : Gm (Int)) (Λ2 J : Lam)
def api : aP := bB (bB (bB (aR Γ) 145 brokerlaw43_light_out γ145) 146 aB γ146) 118 aB γ118
theorem aHj (p0 : aO) (p1 : Int) : bG SE (api Γ γ145 γ146 γ118) Λ2 J 120 [aO.av p0, .d (.int .i64 p1)] [] [] =
 cond (iB p1 (lM aE.enc p0.Items : Int)) (
 γ145 [bE.av p0.Pool, .d (.int .i64 (aX (cE aE.enc p0.Items p1 0)))] [] [] fun r0 =>
 cond (!r0) (
  (rI 15)) (
 cond (decide (0 ≤ p1) && decide (p1 ≤ ((lM aE.enc p0.Items) : Int))) (
  γ146 [.d (.sl aE.ks (dB (List.map aE.enc p0.Items) none (some p1))), .d (.int .i64 (aX (cE aE.enc p0.Items p1 0)))] [] [] fun r1 =>
  cond (decide (r1 ≥ 0)) (
  (rI 15)) (
  at3 (api Γ γ145 γ146 γ118) Λ2 J [D.int .i64 (aX (cE aE.enc p0.Items p1 0)), D.int .i64 (aX (cE aE.enc p0.Items p1 1)), D.str (bL (cE aE.enc p0.Items p1 2)), D.str (bL (cE aE.enc p0.Items p1 3)), D.int .i64 (aX (cE aE.enc p0.Items p1 4)), D.bool (dU (cE aE.enc p0.Items p1 5)), D.int .i64 (aX (cE aE.enc p0.Items p1 6)), D.int .i64 (aX (cE aE.enc p0.Items p1 7)), D.str (bL (cE aE.enc p0.Items p1 8)), D.int .i64 (aX (cE aE.enc p0.Items p1 9)), D.sl aG.ks (dSl (cE aE.enc p0.Items p1 10))])) none)) none := by kernel_rfl
theorem aA4 (b0 : aE) : bW SE (api Γ γ145 γ146 γ118) Λ2 J 120 0 [1, 1, 1, 0, 0] (aV [(5, .ptr 1000000000 0)] [⟨78, (List.map AV.d (aE.enc b0))⟩] [] [] []) =
 γ118 [aC.av b0.Message] [] [] fun r2 =>
 cond (r2 != 0) (
 (rI r2)) (
 cond (b0.Message.Level == 0) (
 (rI 14)) (
 cond (b0.State != 1) (
 cond (b0.State != 2) (
  (rI 9)) (
 cond (b0.Message.Level == 1) (
  (rI 9)) (
 (rI 0)))) (
 (rI 0)))) := by kernel_rfl
end
abbrev arM : aP := api gG (cT 145 brokerlaw43_light_out) (cT 146 aB) (cT 118 aB)
theorem axn : arM = aR gG := by unfold arM api; repeat rw [bD fun _ h => h]
abbrev aAj := at3 arM (bV SE gG (SE.hl 120) (SE.hr 120)) (J0 SE arM)
theorem aet (b0 : aE) : Le (Option.map aB (qO b0)) (aAj (aE.enc b0)) := by
 refine Le.trans ?_ (le_of_eq ((aZ axn).trans (aA4 ..)).symm)
 unfold qO
 refine lQ eX aM (wJ _) fun r2 _ => ?_
 refine lC ?_ ?_
 ·exact aJ rfl
 ·refine lC ?_ ?_
  ·exact aJ rfl
  ·refine lC ?_ ?_
   ·refine lC ?_ ?_
    ·exact aJ rfl
    ·refine lC ?_ ?_
     ·exact aJ rfl
     ·exact aJ rfl
   ·exact aJ rfl
theorem agb (p0 : aO) (p1 : Int) : Le (Option.map aB (pZ p0 p1)) (bF SE 120 [aO.av p0, .d (.int .i64 p1)] [] []) := by
 refine aW axn rfl ?_
 refine Le.trans ?_ (le_of_eq (aHj ..).symm)
 unfold pZ
 refine lG (by simp only [EN]) ?_
 refine lQ eX brokerlaw43_light_inj (by (try simp only [EN]); exact apY p0.Pool ((List.getD p0.Items (Int.toNat p1) default).ID)) fun r0 _ => ?_
 refine lC ?_ ?_
 ·exact aJ rfl
 ·refine lG (by simp only [EN]) ?_
  refine lQ eX aM (by (try simp only [EN]); exact akS (dB p0.Items none (some p1)) ((List.getD p0.Items (Int.toNat p1) default).ID)) fun r1 _ => ?_
  refine lC ?_ ?_
  ·exact aJ rfl
  ·(try simp only [EN]); exact aet (List.getD p0.Items (Int.toNat p1) default)
def asa (C : aP) (Λ2 J : Lam) (a0 a1 : Int) (a2 : List D) : Res := lab SE C Λ2 J 88 0 [1, 1, 1, 1, 0, 1, 0] (aV [(1, .ptr 1000000000 0), (26, .d (.int .i64 a0)), (27, .d (.int .i64 a1))] [⟨37, (List.map AV.d a2)⟩] [] [] [])
def axf (C : aP) (Λ2 J : Lam) (a0 : List D) : Res := lab SE C Λ2 J 88 0 [1, 1, 0, 0] (aV [(1, .ptr 1000000000 0)] [⟨37, (List.map AV.d a0)⟩] [] [] [])
section
variable (Γ : Fun) (γ119 γ120 : Gm (Int)) (Λ2 J : Lam)
def C88 : aP := bB (bB (aR Γ) 119 aB γ119) 120 aB γ120
theorem T88 (p0 : aO) : bG SE (C88 Γ γ119 γ120) Λ2 J 88 [aO.av p0] [] [] =
 cond (decide (p0.Limit < 0)) (
 (rI 1)) (
 cond (decide (p0.Limit > 32)) (
 (rI 1)) (
 axf (C88 Γ γ119 γ120) Λ2 J (aO.enc p0))) := by kernel_rfl
theorem aCF (x26 x27 : Int) (b0 : aO) : bW SE (C88 Γ γ119 γ120) Λ2 J 88 0 [1, 1, 1, 1, 0, 1, 0] (aV [(1, .ptr 1000000000 0), (26, .d (.int .i64 x26)), (27, .d (.int .i64 x27))] [⟨37, (List.map AV.d (aO.enc b0))⟩] [] [] []) =
 cond (decide (x27 < x26)) (
 γ120 [aO.av b0, .d (.int .i64 x27)] [] [] fun r1 =>
 cond (r1 != 0) (
  (rI r1)) (
 asa (C88 Γ γ119 γ120) Λ2 J x26 (w6 (x27 + 1)) (aO.enc b0))) (
 cond (decide ((lM aE.enc b0.Items : Int) < (lM eI b0.Pool.Used : Int))) (
 (rI 15)) (
 (rI 0))) := by kernel_rfl
theorem aEy (b0 : aO) : bW SE (C88 Γ γ119 γ120) Λ2 J 88 0 [1, 1, 0, 0] (aV [(1, .ptr 1000000000 0)] [⟨37, (List.map AV.d (aO.enc b0))⟩] [] [] []) =
 γ119 [bE.av b0.Pool] [] [] fun r0 =>
 cond (r0 != 0) (
 (rI r0)) (
 cond (decide ((lM aE.enc b0.Items : Int) > 32)) (
 (rI 5)) (
 asa (C88 Γ γ119 γ120) Λ2 J (lM aE.enc b0.Items : Int) 0 (aO.enc b0))) := by kernel_rfl
end
abbrev X88 : aP := C88 gG (cT 119 aB) (cT 120 aB)
theorem awg : X88 = aR gG := by unfold X88 C88; repeat rw [bD fun _ h => h]
abbrev aCK := asa X88 (bV SE gG (SE.hl 88) (SE.hr 88)) (J0 SE X88)
abbrev aDU := axf X88 (bV SE gG (SE.hl 88) (SE.hr 88)) (J0 SE X88)
theorem ahg : ∀ (fu : Nat) (x26 x27 : Int) (b0 : aO), Le (Option.map aB (mL fu x26 x27 b0)) (aCK x26 x27 (aO.enc b0)) := by
 intro fu
 induction fu with
 | zero => intros; exact le_none
 | succ fu ih =>
  intro x26 x27 b0
  refine Le.trans ?_ (le_of_eq ((aZ awg).trans (aCF ..)).symm)
  unfold mL
  refine lC ?_ ?_
  ·refine lQ eX aM (agb _ _) fun r1 _ => ?_
   refine lC ?_ ?_
   ·exact aJ rfl
   ·exact ih x26 (w6 (x27 + 1)) b0
  ·refine lD (by simp only [EN]) ?_ ?_
   ·exact aJ rfl
   ·exact aJ rfl
theorem ag2 (b0 : aO) : Le (Option.map aB (vA b0)) (aDU (aO.enc b0)) := by
 refine Le.trans ?_ (le_of_eq ((aZ awg).trans (aEy ..)).symm)
 unfold vA
 refine lQ eX aM (anm _) fun r0 _ => ?_
 refine lC ?_ ?_
 ·exact aJ rfl
 ·refine lD (by simp only [EN]) ?_ ?_
  ·exact aJ rfl
  ·(try simp only [EN]); exact ahg fuel (List.length b0.Items : Int) 0 b0
theorem aj4 (p0 : aO) : Le (Option.map aB (vI p0)) (bF SE 88 [aO.av p0] [] []) := by
 refine aW awg rfl ?_
 refine Le.trans ?_ (le_of_eq (T88 ..).symm)
 unfold vI
 refine lC ?_ ?_
 ·exact aJ rfl
 ·refine lC ?_ ?_
  ·exact aJ rfl
  ·exact ag2 p0
def atk (C : aP) (Λ2 J : Lam) (a0 : Int) (a1 : List (List D)) (a2 a3 : Int) : Res := lab SE C Λ2 J 89 0 [1, 1, 1, 0, 1, 0] (aV [(3, .d (.int .i64 a0)), (11, .d (.sl [.int .i64] a1)), (12, .d (.int .i64 a2)), (13, .d (.int .i64 a3))] [] [] [] [])
section
variable (Γ : Fun)  (Λ2 J : Lam)
def C89 : aP := aR Γ
theorem T89 (p0 : bO) : bG SE (C89 Γ) Λ2 J 89 [bO.av p0] [] [] =
 cond (decide ((lM eI p0.IDs : Int) > 32)) (
 (rI 5)) (
 atk (C89 Γ) Λ2 J 0 (List.map eI p0.IDs) (lM eI p0.IDs : Int) 0) := by kernel_rfl
theorem aD6 (x3 : Int) (x11 : List Int) (x12 x13 : Int) : bW SE (C89 Γ) Λ2 J 89 0 [1, 1, 1, 0, 1, 0] (aV [(3, .d (.int .i64 x3)), (11, .d (.sl [.int .i64] (List.map eI x11))), (12, .d (.int .i64 x12)), (13, .d (.int .i64 x13))] [] [] [] []) =
 cond (decide (x13 < x12)) (
 cond (iB x13 (lM eI x11 : Int)) (
  cond (decide ((aX (cE eI x11 x13 0)) ≤ x3)) (
  (rI 15)) (
  cond (decide ((aX (cE eI x11 x13 0)) > 65535)) (
  (rI 15)) (
  atk (C89 Γ) Λ2 J ((aX (cE eI x11 x13 0))) (List.map eI x11) x12 (w6 (x13 + 1))))) none) (
 (rI 0)) := by kernel_rfl
end
abbrev X89 : aP := C89 gG
theorem aAn : X89 = aR gG := rfl
abbrev aD1 := atk X89 (bV SE gG (SE.hl 89) (SE.hr 89)) (J0 SE X89)
theorem ail : ∀ (fu : Nat) (x3 : Int) (x11 : List Int) (x12 x13 : Int), Le (Option.map aB (nB fu x3 x11 x12 x13)) (aD1 x3 (List.map eI x11) x12 x13) := by
 intro fu
 induction fu with
 | zero => intros; exact le_none
 | succ fu ih =>
  intro x3 x11 x12 x13
  refine Le.trans ?_ (le_of_eq ((aZ aAn).trans (aD6 ..)).symm)
  unfold nB
  refine lC ?_ ?_
  ·refine lG (by simp only [EN]) ?_
   refine lD (by simp only [EN]) ?_ ?_
   ·exact aJ rfl
   ·refine lD (by simp only [EN]) ?_ ?_
    ·exact aJ rfl
    ·(try simp only [EN]); exact ih (List.getD x11 (Int.toNat x13) default) x11 x12 (w6 (x13 + 1))
  ·exact aJ rfl
theorem akI (p0 : bO) : Le (Option.map aB (tT p0)) (bF SE 89 [bO.av p0] [] []) := by
 refine aW aAn rfl ?_
 refine Le.trans ?_ (le_of_eq (T89 ..).symm)
 unfold tT
 refine lD (by simp only [EN]) ?_ ?_
 ·exact aJ rfl
 ·(try simp only [EN]); exact ail fuel 0 p0.IDs (List.length p0.IDs : Int) 0
def apG (C : aP) (Λ2 J : Lam) (a0 : List (List D)) (a1 a2 : Int) (a3 : List D) : Res := lab SE C Λ2 J 121 0 [1, 1, 0, 1, 0] (aV [(3, .ptr 1000000000 0), (71, .d (.sl aG.ks a0)), (72, .d (.int .i64 a1)), (73, .d (.int .i64 a2))] [⟨42, (List.map AV.d a3)⟩] [] [] [])
def auy (C : aP) (Λ2 J : Lam) (a0 a1 : List D) : Res := lab SE C Λ2 J 121 0 [1, 1, 0, 0] (aV [(2, .ptr 1000000000 0), (3, .ptr 1000000001 0)] [⟨42, (List.map AV.d a0)⟩, ⟨42, (List.map AV.d a1)⟩] [] [] [])
section
variable (Γ : Fun)  (Λ2 J : Lam)
def akL : aP := aR Γ
theorem aHJ (p0 p1 : aC) : bG SE (akL Γ) Λ2 J 121 [aC.av p0, aC.av p1] [] [] =
 cond (!(p0.Topic == p1.Topic)) (
 (rB false)) (
 cond (!(p0.Payload == p1.Payload)) (
 (rB false)) (
 cond (p0.Level != p1.Level) (
 (rB false)) (
 cond (p0.Retain != p1.Retain) (
 (rB false)) (
 cond (p0.Priority != p1.Priority) (
 (rB false)) (
 cond (p0.Expires != p1.Expires) (
 (rB false)) (
 cond (!(p0.From == p1.From)) (
 (rB false)) (
 cond (p0.Seq != p1.Seq) (
 (rB false)) (
 cond ((lM aG.enc p0.Props : Int) != (lM aG.enc p1.Props : Int)) (
 (rB false)) (
 auy (akL Γ) Λ2 J (aC.enc p0) (aC.enc p1)))))))))) := by kernel_rfl
theorem aBG (x71 : List aG) (x72 x73 : Int) (b0 : aC) : bW SE (akL Γ) Λ2 J 121 0 [1, 1, 0, 1, 0] (aV [(3, .ptr 1000000000 0), (71, .d (.sl aG.ks (List.map aG.enc x71))), (72, .d (.int .i64 x72)), (73, .d (.int .i64 x73))] [⟨42, (List.map AV.d (aC.enc b0))⟩] [] [] []) =
 cond (decide (x73 < x72)) (
 cond (iB x73 (lM aG.enc x71 : Int)) (
  cond (iB x73 (lM aG.enc b0.Props : Int)) (
  cond (!(((bL (cE aG.enc x71 x73 0)) == (bL (cE aG.enc b0.Props x73 0))) && (((bL (cE aG.enc x71 x73 1)) == (bL (cE aG.enc b0.Props x73 1))) && true))) (
   (rB false)) (
  apG (akL Γ) Λ2 J (List.map aG.enc x71) x72 (w6 (x73 + 1)) (aC.enc b0))) none) none) (
 (rB true)) := by kernel_rfl
theorem aB1 (b0 b1 : aC) : bW SE (akL Γ) Λ2 J 121 0 [1, 1, 0, 0] (aV [(2, .ptr 1000000000 0), (3, .ptr 1000000001 0)] [⟨42, (List.map AV.d (aC.enc b0))⟩, ⟨42, (List.map AV.d (aC.enc b1))⟩] [] [] []) =
 apG (akL Γ) Λ2 J (List.map aG.enc b0.Props) (lM aG.enc b0.Props : Int) 0 (aC.enc b1) := by kernel_rfl
end
abbrev apk : aP := akL gG
theorem arJ : apk = aR gG := rfl
abbrev aAb := apG apk (bV SE gG (SE.hl 121) (SE.hr 121)) (J0 SE apk)
abbrev ayX := auy apk (bV SE gG (SE.hl 121) (SE.hr 121)) (J0 SE apk)
theorem ajm : ∀ (fu : Nat) (x71 : List aG) (x72 x73 : Int) (b0 : aC), Le (Option.map brokerlaw43_light_out (oA fu x71 x72 x73 b0)) (aAb (List.map aG.enc x71) x72 x73 (aC.enc b0)) := by
 intro fu
 induction fu with
 | zero => intros; exact le_none
 | succ fu ih =>
  intro x71 x72 x73 b0
  refine Le.trans ?_ (le_of_eq ((aZ arJ).trans (aBG ..)).symm)
  unfold oA
  refine lC ?_ ?_
  ·refine lG (by simp only [EN]) ?_
   refine lG (by simp only [EN]) ?_
   refine lD (by simp only [EN]) ?_ ?_
   ·exact aJ rfl
   ·exact ih x71 x72 (w6 (x73 + 1)) b0
  ·exact aJ rfl
theorem aiV (b0 b1 : aC) : Le (Option.map brokerlaw43_light_out (xQ b0 b1)) (ayX (aC.enc b0) (aC.enc b1)) := by
 refine Le.trans ?_ (le_of_eq ((aZ arJ).trans (aB1 ..)).symm)
 unfold xQ
 (try simp only [EN]); exact ajm fuel b0.Props (List.length b0.Props : Int) 0 b1
theorem amu (p0 p1 : aC) : Le (Option.map brokerlaw43_light_out (yV p0 p1)) (bF SE 121 [aC.av p0, aC.av p1] [] []) := by
 refine aW arJ rfl ?_
 refine Le.trans ?_ (le_of_eq (aHJ ..).symm)
 unfold yV
 refine lC ?_ ?_
 ·exact aJ rfl
 ·refine lC ?_ ?_
  ·exact aJ rfl
  ·refine lC ?_ ?_
   ·exact aJ rfl
   ·refine lC ?_ ?_
    ·exact aJ rfl
    ·refine lC ?_ ?_
     ·exact aJ rfl
     ·refine lC ?_ ?_
      ·exact aJ rfl
      ·refine lC ?_ ?_
       ·exact aJ rfl
       ·refine lC ?_ ?_
        ·exact aJ rfl
        ·refine lD (by simp only [EN]) ?_ ?_
         ·exact aJ rfl
         ·exact aiV p0 p1
section
variable (Γ : Fun) (γ121 : Gm (Bool)) (γ118 : Gm (Int)) (Λ2 J : Lam)
def C90 : aP := bB (bB (aR Γ) 121 brokerlaw43_light_out γ121) 118 aB γ118
theorem T90 (p0 : bM) : bG SE (C90 Γ γ121 γ118) Λ2 J 90 [bM.av p0] [] [] =
 cond (!p0.Set) (
 cond (p0.Delay != 0) (
  (rI 28)) (
 γ121 [aC.av p0.Message, .agg [.d (.str []), .d (.str []), .d (.int .i64 0), .d (.bool false), .d (.int .i64 0), .d (.int .i64 0), .d (.str []), .d (.int .i64 0), .d (.sl aG.ks (List.map aG.enc []))]] [] [] fun r0 =>
 cond (!r0) (
  (rI 28)) (
 (rI 0)))) (
 cond (decide (p0.Delay < 0)) (
 (rI 1)) (
 cond (decide (p0.Delay > 1099511627776)) (
 (rI 1)) (
 γ118 [aC.av p0.Message] [] [] fun r1 =>
 (rI r1)))) := by kernel_rfl
end
abbrev X90 : aP := C90 gG (cT 121 brokerlaw43_light_out) (cT 118 aB)
theorem aGY : X90 = aR gG := by unfold X90 C90; repeat rw [bD fun _ h => h]
theorem aoi (p0 : bM) : Le (Option.map aB (abL p0)) (bF SE 90 [bM.av p0] [] []) := by
 refine aW aGY rfl ?_
 refine Le.trans ?_ (le_of_eq (T90 ..).symm)
 unfold abL
 refine lC ?_ ?_
 ·refine lC ?_ ?_
  ·exact aJ rfl
  ·refine lQ eX brokerlaw43_light_inj (by (try simp only [EN]); exact amu p0.Message ((aC.mk [] [] 0 false 0 0 [] 0 []))) fun r0 _ => ?_
   refine lC ?_ ?_
   ·exact aJ rfl
   ·exact aJ rfl
 ·refine lC ?_ ?_
  ·exact aJ rfl
  ·refine lC ?_ ?_
   ·exact aJ rfl
   ·refine lQ eX aM (wJ _) fun r1 _ => ?_
    exact aJ rfl
end Te
end PX
