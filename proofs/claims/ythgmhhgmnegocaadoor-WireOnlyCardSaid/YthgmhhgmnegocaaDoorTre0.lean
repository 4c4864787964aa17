import Derived.Test.YthgmhhgmnegocaaDoorTab
set_option linter.unusedVariables false
set_option linter.unusedSimpArgs false
set_option maxRecDepth 100000
noncomputable section
namespace PX
open Go
open Md
namespace Te
abbrev cE {α : Type} (f : α → List D) (l : List α) (i : Int) (k : Nat) : D := cellAt (elemAt (List.map f l) (Int.toNat i)) k
abbrev lM {α : Type} (f : α → List D) (l : List α) : Nat := List.length (List.map f l)
abbrev iB (i n : Int) : Bool := decide (0 ≤ i) && decide (i < n)
abbrev w6 (x : Int) : Int := IntKind.wrap .i64 x
abbrev eI : Int → List D := aN .i64
abbrev rB (b : Bool) : Res := some (.ret [.d (.bool b)] [] [])
abbrev rI (n : Int) : Res := some (.ret [.d (.int .i64 n)] [] [])
theorem lQ {g : FuncId} {R S : Type} {out : R → Out} {e : S → Out} {x : Option R} {M : R → Option S} {a : List AV} {b : List Bx} {r : List Rw} {κ : R → Res} (hg : ∀ y, good g (out y)) (hi : ∀ y z, out y = out z → y = z) (h : Le (x.map out) (bE SE g a b r)) (hk : ∀ y, x = some y → Le ((M y).map e) (κ y)) : Le ((x.bind M).map e) (adz SE good g out a b r κ) := aol (good := good) hg hi h hk
section
variable (Γ : Fun)  (Λ2 J : Lam)
def C32 : aS := aR Γ
theorem T32 (p0 p1 p2 : Int) : bV SE (C32 Γ) Λ2 J 32 [.d (.int .i64 p0), .d (.int .i64 p1), .d (.int .i64 p2)] [] [] =
 cond (decide (p0 ≥ p1)) (
 (rB (decide (p0 ≤ p2)))) (
 (rB false)) := by kernel_rfl
end
abbrev X32 : aS := C32 gG
theorem arZ : X32 = aR gG := rfl
theorem eF (p0 p1 p2 : Int) : Le (Option.map aH (eV p0 p1 p2)) (bE SE 32 [.d (.int .i64 p0), .d (.int .i64 p1), .d (.int .i64 p2)] [] []) := by
 refine bB arZ rfl ?_
 refine Le.trans ?_ (le_of_eq (T32 ..).symm)
 unfold eV
 refine lC ?_ ?_
 ·exact aG rfl
 ·exact aG rfl
section
variable (Γ : Fun)  (Λ2 J : Lam)
def C34 : aS := aR Γ
theorem T34 (p0 : aA) : bV SE (C34 Γ) Λ2 J 34 [aA.av p0] [] [] =
 cond (p0.Kind == 1) (
 (some (.ret [.agg [.d (.int .i64 p0.Kind), .d (.int .i64 0), .d (.bool false), .d (.str []), .d (.str []), .d (.int .i64 0), .d (.bool false), .d (.int .i64 0), .d (.int .i64 0), .d (.str []), .d (.int .i64 0), .d (.sl aB.ks (List.map aB.enc [])), .d (.str p0.Client), .d (.str p0.User), .d (.bool p0.Clean), .d (.int .i64 p0.Keep), .d (.int .i64 p0.Expiry), .d (.int .i64 p0.Window), .d (.bool p0.Will.Set), .d (.int .i64 p0.Will.Delay), .d (.str p0.Will.Message.Topic), .d (.str p0.Will.Message.Payload), .d (.int .i64 p0.Will.Message.Level), .d (.bool p0.Will.Message.Retain), .d (.int .i64 p0.Will.Message.Priority), .d (.int .i64 p0.Will.Message.Expires), .d (.str p0.Will.Message.From), .d (.int .i64 p0.Will.Message.Seq), .d (.sl aB.ks (List.map aB.enc p0.Will.Message.Props)), .d (.bool false), .d (.int .i64 0), .d (.sl aF.ks (List.map aF.enc [])), .d (.sl [.str] (List.map aV [])), .d (.sl [.int .i64] (List.map eI []))]] [] []))) (
 cond (p0.Kind == 2) (
 (some (.ret [.agg [.d (.int .i64 p0.Kind), .d (.int .i64 0), .d (.bool false), .d (.str []), .d (.str []), .d (.int .i64 0), .d (.bool false), .d (.int .i64 0), .d (.int .i64 0), .d (.str []), .d (.int .i64 0), .d (.sl aB.ks (List.map aB.enc [])), .d (.str []), .d (.str []), .d (.bool false), .d (.int .i64 0), .d (.int .i64 0), .d (.int .i64 0), .d (.bool false), .d (.int .i64 0), .d (.str []), .d (.str []), .d (.int .i64 0), .d (.bool false), .d (.int .i64 0), .d (.int .i64 0), .d (.str []), .d (.int .i64 0), .d (.sl aB.ks (List.map aB.enc [])), .d (.bool p0.Present), .d (.int .i64 p0.Code), .d (.sl aF.ks (List.map aF.enc [])), .d (.sl [.str] (List.map aV [])), .d (.sl [.int .i64] (List.map eI []))]] [] []))) (
 cond (p0.Kind == 3) (
 (some (.ret [.agg [.d (.int .i64 p0.Kind), .d (.int .i64 p0.ID), .d (.bool p0.Dup), .d (.str p0.Message.Topic), .d (.str p0.Message.Payload), .d (.int .i64 p0.Message.Level), .d (.bool p0.Message.Retain), .d (.int .i64 p0.Message.Priority), .d (.int .i64 p0.Message.Expires), .d (.str p0.Message.From), .d (.int .i64 p0.Message.Seq), .d (.sl aB.ks (List.map aB.enc p0.Message.Props)), .d (.str []), .d (.str []), .d (.bool false), .d (.int .i64 0), .d (.int .i64 0), .d (.int .i64 0), .d (.bool false), .d (.int .i64 0), .d (.str []), .d (.str []), .d (.int .i64 0), .d (.bool false), .d (.int .i64 0), .d (.int .i64 0), .d (.str []), .d (.int .i64 0), .d (.sl aB.ks (List.map aB.enc [])), .d (.bool false), .d (.int .i64 0), .d (.sl aF.ks (List.map aF.enc [])), .d (.sl [.str] (List.map aV [])), .d (.sl [.int .i64] (List.map eI []))]] [] []))) (
 cond (p0.Kind == 4) (
 (some (.ret [.agg [.d (.int .i64 p0.Kind), .d (.int .i64 p0.ID), .d (.bool false), .d (.str []), .d (.str []), .d (.int .i64 0), .d (.bool false), .d (.int .i64 0), .d (.int .i64 0), .d (.str []), .d (.int .i64 0), .d (.sl aB.ks (List.map aB.enc [])), .d (.str []), .d (.str []), .d (.bool false), .d (.int .i64 0), .d (.int .i64 0), .d (.int .i64 0), .d (.bool false), .d (.int .i64 0), .d (.str []), .d (.str []), .d (.int .i64 0), .d (.bool false), .d (.int .i64 0), .d (.int .i64 0), .d (.str []), .d (.int .i64 0), .d (.sl aB.ks (List.map aB.enc [])), .d (.bool false), .d (.int .i64 0), .d (.sl aF.ks (List.map aF.enc [])), .d (.sl [.str] (List.map aV [])), .d (.sl [.int .i64] (List.map eI []))]] [] []))) (
 cond (p0.Kind == 5) (
 (some (.ret [.agg [.d (.int .i64 p0.Kind), .d (.int .i64 p0.ID), .d (.bool false), .d (.str []), .d (.str []), .d (.int .i64 0), .d (.bool false), .d (.int .i64 0), .d (.int .i64 0), .d (.str []), .d (.int .i64 0), .d (.sl aB.ks (List.map aB.enc [])), .d (.str []), .d (.str []), .d (.bool false), .d (.int .i64 0), .d (.int .i64 0), .d (.int .i64 0), .d (.bool false), .d (.int .i64 0), .d (.str []), .d (.str []), .d (.int .i64 0), .d (.bool false), .d (.int .i64 0), .d (.int .i64 0), .d (.str []), .d (.int .i64 0), .d (.sl aB.ks (List.map aB.enc [])), .d (.bool false), .d (.int .i64 0), .d (.sl aF.ks (List.map aF.enc [])), .d (.sl [.str] (List.map aV [])), .d (.sl [.int .i64] (List.map eI []))]] [] []))) (
 cond (p0.Kind == 6) (
 (some (.ret [.agg [.d (.int .i64 p0.Kind), .d (.int .i64 p0.ID), .d (.bool false), .d (.str []), .d (.str []), .d (.int .i64 0), .d (.bool false), .d (.int .i64 0), .d (.int .i64 0), .d (.str []), .d (.int .i64 0), .d (.sl aB.ks (List.map aB.enc [])), .d (.str []), .d (.str []), .d (.bool false), .d (.int .i64 0), .d (.int .i64 0), .d (.int .i64 0), .d (.bool false), .d (.int .i64 0), .d (.str []), .d (.str []), .d (.int .i64 0), .d (.bool false), .d (.int .i64 0), .d (.int .i64 0), .d (.str []), .d (.int .i64 0), .d (.sl aB.ks (List.map aB.enc [])), .d (.bool false), .d (.int .i64 0), .d (.sl aF.ks (List.map aF.enc [])), .d (.sl [.str] (List.map aV [])), .d (.sl [.int .i64] (List.map eI []))]] [] []))) (
 cond (p0.Kind == 7) (
 (some (.ret [.agg [.d (.int .i64 p0.Kind), .d (.int .i64 p0.ID), .d (.bool false), .d (.str []), .d (.str []), .d (.int .i64 0), .d (.bool false), .d (.int .i64 0), .d (.int .i64 0), .d (.str []), .d (.int .i64 0), .d (.sl aB.ks (List.map aB.enc [])), .d (.str []), .d (.str []), .d (.bool false), .d (.int .i64 0), .d (.int .i64 0), .d (.int .i64 0), .d (.bool false), .d (.int .i64 0), .d (.str []), .d (.str []), .d (.int .i64 0), .d (.bool false), .d (.int .i64 0), .d (.int .i64 0), .d (.str []), .d (.int .i64 0), .d (.sl aB.ks (List.map aB.enc [])), .d (.bool false), .d (.int .i64 0), .d (.sl aF.ks (List.map aF.enc [])), .d (.sl [.str] (List.map aV [])), .d (.sl [.int .i64] (List.map eI []))]] [] []))) (
 cond (p0.Kind == 8) (
 (some (.ret [.agg [.d (.int .i64 p0.Kind), .d (.int .i64 p0.ID), .d (.bool false), .d (.str []), .d (.str []), .d (.int .i64 0), .d (.bool false), .d (.int .i64 0), .d (.int .i64 0), .d (.str []), .d (.int .i64 0), .d (.sl aB.ks (List.map aB.enc [])), .d (.str []), .d (.str []), .d (.bool false), .d (.int .i64 0), .d (.int .i64 0), .d (.int .i64 0), .d (.bool false), .d (.int .i64 0), .d (.str []), .d (.str []), .d (.int .i64 0), .d (.bool false), .d (.int .i64 0), .d (.int .i64 0), .d (.str []), .d (.int .i64 0), .d (.sl aB.ks (List.map aB.enc [])), .d (.bool false), .d (.int .i64 0), .d (.sl aF.ks (List.map aF.enc p0.Subs)), .d (.sl [.str] (List.map aV [])), .d (.sl [.int .i64] (List.map eI []))]] [] []))) (
 cond (p0.Kind == 9) (
 (some (.ret [.agg [.d (.int .i64 p0.Kind), .d (.int .i64 p0.ID), .d (.bool false), .d (.str []), .d (.str []), .d (.int .i64 0), .d (.bool false), .d (.int .i64 0), .d (.int .i64 0), .d (.str []), .d (.int .i64 0), .d (.sl aB.ks (List.map aB.enc [])), .d (.str []), .d (.str []), .d (.bool false), .d (.int .i64 0), .d (.int .i64 0), .d (.int .i64 0), .d (.bool false), .d (.int .i64 0), .d (.str []), .d (.str []), .d (.int .i64 0), .d (.bool false), .d (.int .i64 0), .d (.int .i64 0), .d (.str []), .d (.int .i64 0), .d (.sl aB.ks (List.map aB.enc [])), .d (.bool false), .d (.int .i64 0), .d (.sl aF.ks (List.map aF.enc [])), .d (.sl [.str] (List.map aV [])), .d (.sl [.int .i64] (List.map eI p0.Codes))]] [] []))) (
 cond (p0.Kind == 11) (
 (some (.ret [.agg [.d (.int .i64 p0.Kind), .d (.int .i64 p0.ID), .d (.bool false), .d (.str []), .d (.str []), .d (.int .i64 0), .d (.bool false), .d (.int .i64 0), .d (.int .i64 0), .d (.str []), .d (.int .i64 0), .d (.sl aB.ks (List.map aB.enc [])), .d (.str []), .d (.str []), .d (.bool false), .d (.int .i64 0), .d (.int .i64 0), .d (.int .i64 0), .d (.bool false), .d (.int .i64 0), .d (.str []), .d (.str []), .d (.int .i64 0), .d (.bool false), .d (.int .i64 0), .d (.int .i64 0), .d (.str []), .d (.int .i64 0), .d (.sl aB.ks (List.map aB.enc [])), .d (.bool false), .d (.int .i64 0), .d (.sl aF.ks (List.map aF.enc [])), .d (.sl [.str] (List.map aV [])), .d (.sl [.int .i64] (List.map eI p0.Codes))]] [] []))) (
 cond (p0.Kind == 10) (
 (some (.ret [.agg [.d (.int .i64 p0.Kind), .d (.int .i64 p0.ID), .d (.bool false), .d (.str []), .d (.str []), .d (.int .i64 0), .d (.bool false), .d (.int .i64 0), .d (.int .i64 0), .d (.str []), .d (.int .i64 0), .d (.sl aB.ks (List.map aB.enc [])), .d (.str []), .d (.str []), .d (.bool false), .d (.int .i64 0), .d (.int .i64 0), .d (.int .i64 0), .d (.bool false), .d (.int .i64 0), .d (.str []), .d (.str []), .d (.int .i64 0), .d (.bool false), .d (.int .i64 0), .d (.int .i64 0), .d (.str []), .d (.int .i64 0), .d (.sl aB.ks (List.map aB.enc [])), .d (.bool false), .d (.int .i64 0), .d (.sl aF.ks (List.map aF.enc [])), .d (.sl [.str] (List.map aV p0.Filters)), .d (.sl [.int .i64] (List.map eI []))]] [] []))) (
 cond (p0.Kind == 14) (
 (some (.ret [.agg [.d (.int .i64 p0.Kind), .d (.int .i64 0), .d (.bool false), .d (.str []), .d (.str []), .d (.int .i64 0), .d (.bool false), .d (.int .i64 0), .d (.int .i64 0), .d (.str []), .d (.int .i64 0), .d (.sl aB.ks (List.map aB.enc [])), .d (.str []), .d (.str []), .d (.bool false), .d (.int .i64 0), .d (.int .i64 0), .d (.int .i64 0), .d (.bool false), .d (.int .i64 0), .d (.str []), .d (.str []), .d (.int .i64 0), .d (.bool false), .d (.int .i64 0), .d (.int .i64 0), .d (.str []), .d (.int .i64 0), .d (.sl aB.ks (List.map aB.enc [])), .d (.bool false), .d (.int .i64 p0.Code), .d (.sl aF.ks (List.map aF.enc [])), .d (.sl [.str] (List.map aV [])), .d (.sl [.int .i64] (List.map eI []))]] [] []))) (
 (some (.ret [.agg [.d (.int .i64 p0.Kind), .d (.int .i64 0), .d (.bool false), .d (.str []), .d (.str []), .d (.int .i64 0), .d (.bool false), .d (.int .i64 0), .d (.int .i64 0), .d (.str []), .d (.int .i64 0), .d (.sl aB.ks (List.map aB.enc [])), .d (.str []), .d (.str []), .d (.bool false), .d (.int .i64 0), .d (.int .i64 0), .d (.int .i64 0), .d (.bool false), .d (.int .i64 0), .d (.str []), .d (.str []), .d (.int .i64 0), .d (.bool false), .d (.int .i64 0), .d (.int .i64 0), .d (.str []), .d (.int .i64 0), .d (.sl aB.ks (List.map aB.enc [])), .d (.bool false), .d (.int .i64 0), .d (.sl aF.ks (List.map aF.enc [])), .d (.sl [.str] (List.map aV [])), .d (.sl [.int .i64] (List.map eI []))]] [] [])))))))))))))) := by kernel_rfl
end
abbrev X34 : aS := C34 gG
theorem asM : X34 = aR gG := rfl
theorem af7 (p0 : aA) : Le (Option.map kL (o6 p0)) (bE SE 34 [aA.av p0] [] []) := by
 refine bB asM rfl ?_
 refine Le.trans ?_ (le_of_eq (T34 ..).symm)
 unfold o6
 refine lC ?_ ?_
 ·exact aG rfl
 ·refine lC ?_ ?_
  ·exact aG rfl
  ·refine lC ?_ ?_
   ·exact aG rfl
   ·refine lC ?_ ?_
    ·exact aG rfl
    ·refine lC ?_ ?_
     ·exact aG rfl
     ·refine lC ?_ ?_
      ·exact aG rfl
      ·refine lC ?_ ?_
       ·exact aG rfl
       ·refine lC ?_ ?_
        ·exact aG rfl
        ·refine lC ?_ ?_
         ·exact aG rfl
         ·refine lC ?_ ?_
          ·exact aG rfl
          ·refine lC ?_ ?_
           ·exact aG rfl
           ·refine lC ?_ ?_
            ·exact aG rfl
            ·exact aG rfl
section
variable (Γ : Fun)  (Λ2 J : Lam)
def C50 : aS := aR Γ
theorem T50 (p0 : aA) : bV SE (C50 Γ) Λ2 J 50 [aA.av p0] [] [] =
 (some (.ret [bO.av (bO.mk p0.Kind p0.ID p0.Keep p0.Expiry p0.Window p0.Code p0.Will.Delay p0.Dup p0.Clean p0.Present p0.Will.Set p0.Client p0.User)] [] [])) := by kernel_rfl
end
abbrev X50 : aS := C50 gG
theorem ast : X50 = aR gG := rfl
theorem wD (p0 : aA) : Le (Option.map iG (nR p0)) (bE SE 50 [aA.av p0] [] []) := by
 refine bB ast rfl ?_
 refine Le.trans ?_ (le_of_eq (T50 ..).symm)
 unfold nR
 exact aG rfl
def alb (C : aS) (Λ2 J : Lam) (a0 : List (List D)) (a1 a2 : Int) (a3 : List D) : Res := lab SE C Λ2 J 51 0 [1, 1, 0, 1, 0] (bN [(3, .ptr 1000000000 0), (71, .d (.sl aB.ks a0)), (72, .d (.int .i64 a1)), (73, .d (.int .i64 a2))] [⟨26, (List.map AV.d a3)⟩] [] [] [])
def anR (C : aS) (Λ2 J : Lam) (a0 a1 : List D) : Res := lab SE C Λ2 J 51 0 [1, 1, 0, 0] (bN [(2, .ptr 1000000000 0), (3, .ptr 1000000001 0)] [⟨26, (List.map AV.d a0)⟩, ⟨26, (List.map AV.d a1)⟩] [] [] [])
section
variable (Γ : Fun)  (Λ2 J : Lam)
def C51 : aS := aR Γ
theorem T51 (p0 p1 : aC) : bV SE (C51 Γ) Λ2 J 51 [aC.av p0, aC.av p1] [] [] =
 cond (!(p0.Topic == p1.Topic)) (
 (rB false)) (
 cond (!(p0.Payload == p1.Payload)) (
 (rB false)) (
 cond (p0.Level != p1.Level) (
 (rB false)) (
 cond (p0.Retain != p1.Retain) (
 (rB false)) (
 cond (p0.Priority != p1.Priority) (
 (rB false)) (
 cond (p0.Expires != p1.Expires) (
 (rB false)) (
 cond (!(p0.From == p1.From)) (
 (rB false)) (
 cond (p0.Seq != p1.Seq) (
 (rB false)) (
 cond ((lM aB.enc p0.Props : Int) != (lM aB.enc p1.Props : Int)) (
 (rB false)) (
 anR (C51 Γ) Λ2 J (aC.enc p0) (aC.enc p1)))))))))) := by kernel_rfl
theorem ara (x71 : List aB) (x72 x73 : Int) (b0 : aC) : dY SE (C51 Γ) Λ2 J 51 0 [1, 1, 0, 1, 0] (bN [(3, .ptr 1000000000 0), (71, .d (.sl aB.ks (List.map aB.enc x71))), (72, .d (.int .i64 x72)), (73, .d (.int .i64 x73))] [⟨26, (List.map AV.d (aC.enc b0))⟩] [] [] []) =
 cond (decide (x73 < x72)) (
 cond (iB x73 (lM aB.enc x71 : Int)) (
  cond (iB x73 (lM aB.enc b0.Props : Int)) (
  cond (!(((bT (cE aB.enc x71 x73 0)) == (bT (cE aB.enc b0.Props x73 0))) && (((bT (cE aB.enc x71 x73 1)) == (bT (cE aB.enc b0.Props x73 1))) && true))) (
   (rB false)) (
  alb (C51 Γ) Λ2 J (List.map aB.enc x71) x72 (w6 (x73 + 1)) (aC.enc b0))) none) none) (
 (rB true)) := by kernel_rfl
theorem aqW (b0 b1 : aC) : dY SE (C51 Γ) Λ2 J 51 0 [1, 1, 0, 0] (bN [(2, .ptr 1000000000 0), (3, .ptr 1000000001 0)] [⟨26, (List.map AV.d (aC.enc b0))⟩, ⟨26, (List.map AV.d (aC.enc b1))⟩] [] [] []) =
 alb (C51 Γ) Λ2 J (List.map aB.enc b0.Props) (lM aB.enc b0.Props : Int) 0 (aC.enc b1) := by kernel_rfl
end
abbrev X51 : aS := C51 gG
theorem anj : X51 = aR gG := rfl
abbrev arC := alb X51 (dM SE gG (SE.hl 51) (SE.hr 51)) (J0 SE X51)
abbrev aro := anR X51 (dM SE gG (SE.hl 51) (SE.hr 51)) (J0 SE X51)
theorem acI : ∀ (fu : Nat) (x71 : List aB) (x72 x73 : Int) (b0 : aC), Le (Option.map aH (iR fu x71 x72 x73 b0)) (arC (List.map aB.enc x71) x72 x73 (aC.enc b0)) := by
 intro fu
 induction fu with
 | zero => intros; exact le_none
 | succ fu ih =>
  intro x71 x72 x73 b0
  refine Le.trans ?_ (le_of_eq ((bU anj).trans (ara ..)).symm)
  unfold iR
  refine lC ?_ ?_
  ·refine lG (by simp only [EN]) ?_
   refine lG (by simp only [EN]) ?_
   refine lD (by simp only [EN]) ?_ ?_
   ·exact aG rfl
   ·exact ih x71 x72 (w6 (x73 + 1)) b0
  ·exact aG rfl
theorem acZ (b0 b1 : aC) : Le (Option.map aH (pK b0 b1)) (aro (aC.enc b0) (aC.enc b1)) := by
 refine Le.trans ?_ (le_of_eq ((bU anj).trans (aqW ..)).symm)
 unfold pK
 (try simp only [EN]); exact acI fuel b0.Props (List.length b0.Props : Int) 0 b1
theorem pL (p0 p1 : aC) : Le (Option.map aH (kE p0 p1)) (bE SE 51 [aC.av p0, aC.av p1] [] []) := by
 refine bB anj rfl ?_
 refine Le.trans ?_ (le_of_eq (T51 ..).symm)
 unfold kE
 refine lC ?_ ?_
 ·exact aG rfl
 ·refine lC ?_ ?_
  ·exact aG rfl
  ·refine lC ?_ ?_
   ·exact aG rfl
   ·refine lC ?_ ?_
    ·exact aG rfl
    ·refine lC ?_ ?_
     ·exact aG rfl
     ·refine lC ?_ ?_
      ·exact aG rfl
      ·refine lC ?_ ?_
       ·exact aG rfl
       ·refine lC ?_ ?_
        ·exact aG rfl
        ·refine lD (by simp only [EN]) ?_ ?_
         ·exact aG rfl
         ·exact acZ p0 p1
def akc (C : aS) (Λ2 J : Lam) (a0 a1 : List (List D)) (a2 a3 : Int) : Res := lab SE C Λ2 J 52 0 [1, 1, 0, 1, 0] (bN [(1, .d (.sl aF.ks a0)), (12, .d (.sl aF.ks a1)), (13, .d (.int .i64 a2)), (14, .d (.int .i64 a3))] [] [] [] [])
section
variable (Γ : Fun)  (Λ2 J : Lam)
def C52 : aS := aR Γ
theorem T52 (p0 p1 : List aF) : bV SE (C52 Γ) Λ2 J 52 [.d (.sl aF.ks (List.map aF.enc p0)), .d (.sl aF.ks (List.map aF.enc p1))] [] [] =
 cond ((lM aF.enc p0 : Int) != (lM aF.enc p1 : Int)) (
 (rB false)) (
 akc (C52 Γ) Λ2 J (List.map aF.enc p1) (List.map aF.enc p0) (lM aF.enc p0 : Int) 0) := by kernel_rfl
theorem aqn (x1 x12 : List aF) (x13 x14 : Int) : dY SE (C52 Γ) Λ2 J 52 0 [1, 1, 0, 1, 0] (bN [(1, .d (.sl aF.ks (List.map aF.enc x1))), (12, .d (.sl aF.ks (List.map aF.enc x12))), (13, .d (.int .i64 x13)), (14, .d (.int .i64 x14))] [] [] [] []) =
 cond (decide (x14 < x13)) (
 cond (iB x14 (lM aF.enc x12 : Int)) (
  cond (iB x14 (lM aF.enc x1 : Int)) (
  cond (!(((bT (cE aF.enc x12 x14 0)) == (bT (cE aF.enc x1 x14 0))) && (((aY (cE aF.enc x12 x14 1)) == (aY (cE aF.enc x1 x14 1))) && (((bZ (cE aF.enc x12 x14 2)) == (bZ (cE aF.enc x1 x14 2))) && true)))) (
   (rB false)) (
  akc (C52 Γ) Λ2 J (List.map aF.enc x1) (List.map aF.enc x12) x13 (w6 (x14 + 1)))) none) none) (
 (rB true)) := by kernel_rfl
end
abbrev X52 : aS := C52 gG
theorem ao3 : X52 = aR gG := rfl
abbrev aq3 := akc X52 (dM SE gG (SE.hl 52) (SE.hr 52)) (J0 SE X52)
theorem adZ : ∀ (fu : Nat) (x1 x12 : List aF) (x13 x14 : Int), Le (Option.map aH (jT fu x1 x12 x13 x14)) (aq3 (List.map aF.enc x1) (List.map aF.enc x12) x13 x14) := by
 intro fu
 induction fu with
 | zero => intros; exact le_none
 | succ fu ih =>
  intro x1 x12 x13 x14
  refine Le.trans ?_ (le_of_eq ((bU ao3).trans (aqn ..)).symm)
  unfold jT
  refine lC ?_ ?_
  ·refine lG (by simp only [EN]) ?_
   refine lG (by simp only [EN]) ?_
   refine lD (by simp only [EN]) ?_ ?_
   ·exact aG rfl
   ·exact ih x1 x12 x13 (w6 (x14 + 1))
  ·exact aG rfl
theorem age (p0 p1 : List aF) : Le (Option.map aH (rP p0 p1)) (bE SE 52 [.d (.sl aF.ks (List.map aF.enc p0)), .d (.sl aF.ks (List.map aF.enc p1))] [] []) := by
 refine bB ao3 rfl ?_
 refine Le.trans ?_ (le_of_eq (T52 ..).symm)
 unfold rP
 refine lD (by simp only [EN]) ?_ ?_
 ·exact aG rfl
 ·(try simp only [EN]); exact adZ fuel p1 p0 (List.length p0 : Int) 0
def akP (C : aS) (Λ2 J : Lam) (a0 a1 : List (List D)) (a2 a3 : Int) : Res := lab SE C Λ2 J 53 0 [1, 1, 0, 1, 0] (bN [(1, .d (.sl [.str] a0)), (12, .d (.sl [.str] a1)), (13, .d (.int .i64 a2)), (14, .d (.int .i64 a3))] [] [] [] [])
section
variable (Γ : Fun)  (Λ2 J : Lam)
def C53 : aS := aR Γ
theorem T53 (p0 p1 : List Str) : bV SE (C53 Γ) Λ2 J 53 [.d (.sl [.str] (List.map aV p0)), .d (.sl [.str] (List.map aV p1))] [] [] =
 cond ((lM aV p0 : Int) != (lM aV p1 : Int)) (
 (rB false)) (
 akP (C53 Γ) Λ2 J (List.map aV p1) (List.map aV p0) (lM aV p0 : Int) 0) := by kernel_rfl
theorem aq4 (x1 x12 : List Str) (x13 x14 : Int) : dY SE (C53 Γ) Λ2 J 53 0 [1, 1, 0, 1, 0] (bN [(1, .d (.sl [.str] (List.map aV x1))), (12, .d (.sl [.str] (List.map aV x12))), (13, .d (.int .i64 x13)), (14, .d (.int .i64 x14))] [] [] [] []) =
 cond (decide (x14 < x13)) (
 cond (iB x14 (lM aV x12 : Int)) (
  cond (iB x14 (lM aV x1 : Int)) (
  cond (!((bT (cE aV x12 x14 0)) == (bT (cE aV x1 x14 0)))) (
   (rB false)) (
  akP (C53 Γ) Λ2 J (List.map aV x1) (List.map aV x12) x13 (w6 (x14 + 1)))) none) none) (
 (rB true)) := by kernel_rfl
end
abbrev X53 : aS := C53 gG
theorem apf : X53 = aR gG := rfl
abbrev ari := akP X53 (dM SE gG (SE.hl 53) (SE.hr 53)) (J0 SE X53)
theorem acO : ∀ (fu : Nat) (x1 x12 : List Str) (x13 x14 : Int), Le (Option.map aH (iS fu x1 x12 x13 x14)) (ari (List.map aV x1) (List.map aV x12) x13 x14) := by
 intro fu
 induction fu with
 | zero => intros; exact le_none
 | succ fu ih =>
  intro x1 x12 x13 x14
  refine Le.trans ?_ (le_of_eq ((bU apf).trans (aq4 ..)).symm)
  unfold iS
  refine lC ?_ ?_
  ·refine lG (by simp only [EN]) ?_
   refine lG (by simp only [EN]) ?_
   refine lD (by simp only [EN]) ?_ ?_
   ·exact aG rfl
   ·exact ih x1 x12 x13 (w6 (x14 + 1))
  ·exact aG rfl
theorem afI (p0 p1 : List Str) : Le (Option.map aH (qA p0 p1)) (bE SE 53 [.d (.sl [.str] (List.map aV p0)), .d (.sl [.str] (List.map aV p1))] [] []) := by
 refine bB apf rfl ?_
 refine Le.trans ?_ (le_of_eq (T53 ..).symm)
 unfold qA
 refine lD (by simp only [EN]) ?_ ?_
 ·exact aG rfl
 ·(try simp only [EN]); exact acO fuel p1 p0 (List.length p0 : Int) 0
def akp (C : aS) (Λ2 J : Lam) (a0 a1 : List (List D)) (a2 a3 : Int) : Res := lab SE C Λ2 J 54 0 [1, 1, 0, 1, 0] (bN [(1, .d (.sl [.int .i64] a0)), (12, .d (.sl [.int .i64] a1)), (13, .d (.int .i64 a2)), (14, .d (.int .i64 a3))] [] [] [] [])
section
variable (Γ : Fun)  (Λ2 J : Lam)
def C54 : aS := aR Γ
theorem T54 (p0 p1 : List Int) : bV SE (C54 Γ) Λ2 J 54 [.d (.sl [.int .i64] (List.map eI p0)), .d (.sl [.int .i64] (List.map eI p1))] [] [] =
 cond ((lM eI p0 : Int) != (lM eI p1 : Int)) (
 (rB false)) (
 akp (C54 Γ) Λ2 J (List.map eI p1) (List.map eI p0) (lM eI p0 : Int) 0) := by kernel_rfl
theorem aql (x1 x12 : List Int) (x13 x14 : Int) : dY SE (C54 Γ) Λ2 J 54 0 [1, 1, 0, 1, 0] (bN [(1, .d (.sl [.int .i64] (List.map eI x1))), (12, .d (.sl [.int .i64] (List.map eI x12))), (13, .d (.int .i64 x13)), (14, .d (.int .i64 x14))] [] [] [] []) =
 cond (decide (x14 < x13)) (
 cond (iB x14 (lM eI x12 : Int)) (
  cond (iB x14 (lM eI x1 : Int)) (
  cond ((aY (cE eI x12 x14 0)) != (aY (cE eI x1 x14 0))) (
   (rB false)) (
  akp (C54 Γ) Λ2 J (List.map eI x1) (List.map eI x12) x13 (w6 (x14 + 1)))) none) none) (
 (rB true)) := by kernel_rfl
end
abbrev X54 : aS := C54 gG
theorem apo : X54 = aR gG := rfl
abbrev aqJ := akp X54 (dM SE gG (SE.hl 54) (SE.hr 54)) (J0 SE X54)
theorem abH : ∀ (fu : Nat) (x1 x12 : List Int) (x13 x14 : Int), Le (Option.map aH (gZ fu x1 x12 x13 x14)) (aqJ (List.map eI x1) (List.map eI x12) x13 x14) := by
 intro fu
 induction fu with
 | zero => intros; exact le_none
 | succ fu ih =>
  intro x1 x12 x13 x14
  refine Le.trans ?_ (le_of_eq ((bU apo).trans (aql ..)).symm)
  unfold gZ
  refine lC ?_ ?_
  ·refine lG (by simp only [EN]) ?_
   refine lG (by simp only [EN]) ?_
   refine lD (by simp only [EN]) ?_ ?_
   ·exact aG rfl
   ·exact ih x1 x12 x13 (w6 (x14 + 1))
  ·exact aG rfl
theorem adU (p0 p1 : List Int) : Le (Option.map aH (nP p0 p1)) (bE SE 54 [.d (.sl [.int .i64] (List.map eI p0)), .d (.sl [.int .i64] (List.map eI p1))] [] []) := by
 refine bB apo rfl ?_
 refine Le.trans ?_ (le_of_eq (T54 ..).symm)
 unfold nP
 refine lD (by simp only [EN]) ?_ ?_
 ·exact aG rfl
 ·(try simp only [EN]); exact abH fuel p1 p0 (List.length p0 : Int) 0
section
variable (Γ : Fun) (γ50 : Gm (bO)) (γ51 γ52 γ53 γ54 : Gm (Bool)) (Λ2 J : Lam)
def C33 : aS := bM (bM (bM (bM (bM (aR Γ) 50 iG γ50) 51 aH γ51) 52 aH γ52) 53 aH γ53) 54 aH γ54
theorem T33 (p0 p1 : aA) : bV SE (C33 Γ γ50 γ51 γ52 γ53 γ54) Λ2 J 33 [aA.av p0, aA.av p1] [] [] =
 γ50 [aA.av p0] [] [] fun r0 =>
 γ50 [aA.av p1] [] [] fun r1 =>
 cond ((r0.kind == r1.kind) && ((r0.id == r1.id) && ((r0.keep == r1.keep) && ((r0.expiry == r1.expiry) && ((r0.window == r1.window) && ((r0.code == r1.code) && ((r0.delay == r1.delay) && ((r0.dup == r1.dup) && ((r0.clean == r1.clean) && ((r0.present == r1.present) && ((r0.set_ == r1.set_) && ((r0.client == r1.client) && ((r0.user == r1.user) && true))))))))))))) (
 γ51 [aC.av p0.Message, aC.av p1.Message] [] [] fun r2 =>
 cond r2 (
  γ51 [aC.av p0.Will.Message, aC.av p1.Will.Message] [] [] fun r3 =>
  cond r3 (
  γ52 [.d (.sl aF.ks (List.map aF.enc p0.Subs)), .d (.sl aF.ks (List.map aF.enc p1.Subs))] [] [] fun r4 =>
  cond r4 (
   γ53 [.d (.sl [.str] (List.map aV p0.Filters)), .d (.sl [.str] (List.map aV p1.Filters))] [] [] fun r5 =>
   cond r5 (
   γ54 [.d (.sl [.int .i64] (List.map eI p0.Codes)), .d (.sl [.int .i64] (List.map eI p1.Codes))] [] [] fun r6 =>
   (rB r6)) (
   (rB false))) (
  (rB false))) (
  (rB false))) (
 (rB false))) (
 (rB false)) := by kernel_rfl
end
abbrev X33 : aS := C33 gG (cT 50 iG) (cT 51 aH) (cT 52 aH) (cT 53 aH) (cT 54 aH)
theorem as7 : X33 = aR gG := by unfold X33 C33; repeat rw [bP fun _ h => h]
theorem agA (p0 p1 : aA) : Le (Option.map aH (rG p0 p1)) (bE SE 33 [aA.av p0, aA.av p1] [] []) := by
 refine bB as7 rfl ?_
 refine Le.trans ?_ (le_of_eq (T33 ..).symm)
 unfold rG
 refine lQ eX vD (wD _) fun r0 _ => ?_
 refine lQ eX vD (wD _) fun r1 _ => ?_
 refine lC ?_ ?_
 ·refine lQ eX aU (pL _ _) fun r2 _ => ?_
  refine lC ?_ ?_
  ·refine lQ eX aU (pL _ _) fun r3 _ => ?_
   refine lC ?_ ?_
   ·refine lQ eX aU (age _ _) fun r4 _ => ?_
    refine lC ?_ ?_
    ·refine lQ eX aU (afI _ _) fun r5 _ => ?_
     refine lC ?_ ?_
     ·refine lQ eX aU (adU _ _) fun r6 _ => ?_
      exact aG rfl
     ·exact aG rfl
    ·exact aG rfl
   ·exact aG rfl
  ·exact aG rfl
 ·exact aG rfl
def ake (C : aS) (Λ2 J : Lam) (a0 a1 : Int) (a2 : Bool) (a3 : Str) (a4 : Nat) : Res := lab SE C Λ2 J 55 0 [1, 1, 0, 1, 0, 0, 1, 1, 0, 1, 1, 0] (bN [(3, .d (.int .i64 a0)), (4, .d (.int .i32 a1)), (5, .d (.bool a2)), (15, .it 4000)] [] [] [(4000, (a3, a4))] [])
def afG (C : aS) (Λ2 J : Lam) (a0 : Str) (a1 : Nat) : Res := lab SE C Λ2 J 55 0 [1, 1, 0, 1, 0] (bN [(15, .it 4000)] [] [] [(4000, (a0, a1))] [])
def anG (C : aS) (Λ2 J : Lam) (a0 : Str) : Res := lab SE C Λ2 J 55 0 [1, 1, 0, 0] (bN [(0, .d (.str a0))] [] [] [] [])
section
variable (Γ : Fun)  (Λ2 J : Lam)
def C55 : aS := aR Γ
theorem T55 (p0 : Str) : bV SE (C55 Γ) Λ2 J 55 [.d (.str p0)] [] [] =
 cond (decide ((List.length p0 : Int) < 1)) (
 (rB false)) (
 cond (decide ((List.length p0 : Int) > 16)) (
 (rB false)) (
 anG (C55 Γ) Λ2 J p0)) := by kernel_rfl
theorem aqF (x3 x4 : Int) (x5 : Bool) (s4000 : Str) (i4000 : Nat) : dY SE (C55 Γ) Λ2 J 55 0 [1, 1, 0, 1, 0, 0, 1, 1, 0, 1, 1, 0] (bN [(3, .d (.int .i64 x3)), (4, .d (.int .i32 x4)), (5, .d (.bool x5)), (15, .it 4000)] [] [] [(4000, (s4000, i4000))] []) =
 cond (!x5) (
 cond (x3 == 0) (
  (rB false)) (
 cond (x4 != 45) (
  cond (decide (x4 < 48)) (
  (rB false)) (
  cond (decide (x4 > 57)) (
  (rB false)) (
  afG (C55 Γ) Λ2 J s4000 i4000))) (
 afG (C55 Γ) Λ2 J s4000 i4000))) (
 afG (C55 Γ) Λ2 J s4000 i4000) := by kernel_rfl
theorem are (s4000 : Str) (i4000 : Nat) : dY SE (C55 Γ) Λ2 J 55 0 [1, 1, 0, 1, 0] (bN [(15, .it 4000)] [] [] [(4000, (s4000, i4000))] []) =
 cond (decide (i4000 < List.length s4000)) (
 cond (decide (((dec s4000 i4000).1 : Int) ≥ 97)) (
  ake (C55 Γ) Λ2 J (i4000 : Int) ((dec s4000 i4000).1 : Int) (decide (((dec s4000 i4000).1 : Int) ≤ 122)) s4000 (i4000 + (dec s4000 i4000).2)) (
 ake (C55 Γ) Λ2 J (i4000 : Int) ((dec s4000 i4000).1 : Int) false s4000 (i4000 + (dec s4000 i4000).2))) (
 (rB true)) := by kernel_rfl
theorem ary (x0 : Str) : dY SE (C55 Γ) Λ2 J 55 0 [1, 1, 0, 0] (bN [(0, .d (.str x0))] [] [] [] []) =
 afG (C55 Γ) Λ2 J x0 0 := by kernel_rfl
end
abbrev X55 : aS := C55 gG
theorem akC : X55 = aR gG := rfl
abbrev art := ake X55 (dM SE gG (SE.hl 55) (SE.hr 55)) (J0 SE X55)
abbrev anH := afG X55 (dM SE gG (SE.hl 55) (SE.hr 55)) (J0 SE X55)
abbrev aqr := anG X55 (dM SE gG (SE.hl 55) (SE.hr 55)) (J0 SE X55)
theorem y7 (k4 : Str → Nat → Option (Bool)) (hk4 : ∀ (s4000 : Str) (i4000 : Nat), Le (Option.map aH (k4 s4000 i4000)) (anH s4000 i4000)) (x3 x4 : Int) (x5 : Bool) (s4000 : Str) (i4000 : Nat) : Le (Option.map aH (kX k4 x3 x4 x5 s4000 i4000)) (art x3 x4 x5 s4000 i4000) := by
 refine Le.trans ?_ (le_of_eq ((bU akC).trans (aqF ..)).symm)
 unfold kX
 refine lC ?_ ?_
 ·refine lC ?_ ?_
  ·exact aG rfl
  ·refine lC ?_ ?_
   ·refine lC ?_ ?_
    ·exact aG rfl
    ·refine lC ?_ ?_
     ·exact aG rfl
     ·exact hk4 s4000 i4000
   ·exact hk4 s4000 i4000
 ·exact hk4 s4000 i4000
theorem aeQ : ∀ (fu : Nat) (s4000 : Str) (i4000 : Nat), Le (Option.map aH (iC fu s4000 i4000)) (anH s4000 i4000) := by
 intro fu
 induction fu with
 | zero => intros; exact le_none
 | succ fu ih =>
  intro s4000 i4000
  refine Le.trans ?_ (le_of_eq ((bU akC).trans (are ..)).symm)
  unfold iC
  refine lC ?_ ?_
  ·refine lC ?_ ?_
   ·exact y7 _ (ih) (i4000 : Int) ((dec s4000 i4000).1 : Int) (decide (((dec s4000 i4000).1 : Int) ≤ 122)) s4000 (i4000 + (dec s4000 i4000).2)
   ·exact y7 _ (ih) (i4000 : Int) ((dec s4000 i4000).1 : Int) false s4000 (i4000 + (dec s4000 i4000).2)
  ·exact aG rfl
theorem aeX (x0 : Str) : Le (Option.map aH (rU x0)) (aqr x0) := by
 refine Le.trans ?_ (le_of_eq ((bU akC).trans (ary ..)).symm)
 unfold rU
 exact aeQ fuel x0 0
theorem rT (p0 : Str) : Le (Option.map aH (jZ p0)) (bE SE 55 [.d (.str p0)] [] []) := by
 refine bB akC rfl ?_
 refine Le.trans ?_ (le_of_eq (T55 ..).symm)
 unfold jZ
 refine lC ?_ ?_
 ·exact aG rfl
 ·refine lC ?_ ?_
  ·exact aG rfl
  ·exact aeX p0
def ahS (C : aS) (Λ2 J : Lam) (a0 : Int) (a1 : Str) (a2 : Nat) : Res := lab SE C Λ2 J 67 0 [1, 1, 1, 0, 1, 0] (bN [(3, .d (.int .i64 a0)), (15, .it 4000)] [] [] [(4000, (a1, a2))] [])
def anQ (C : aS) (Λ2 J : Lam) (a0 : Str) : Res := lab SE C Λ2 J 67 0 [1, 1, 0] (bN [(0, .d (.str a0))] [] [] [] [])
section
variable (Γ : Fun)  (Λ2 J : Lam)
def C67 : aS := aR Γ
theorem T67 (p0 : Str) : bV SE (C67 Γ) Λ2 J 67 [.d (.str p0)] [] [] =
 cond (decide ((List.length p0 : Int) < 1)) (
 (rB false)) (
 cond (decide ((List.length p0 : Int) > 64)) (
 (rB false)) (
 anQ (C67 Γ) Λ2 J p0)) := by kernel_rfl
theorem arc (x3 : Int) (s4000 : Str) (i4000 : Nat) : dY SE (C67 Γ) Λ2 J 67 0 [1, 1, 1, 0, 1, 0] (bN [(3, .d (.int .i64 x3)), (15, .it 4000)] [] [] [(4000, (s4000, i4000))] []) =
 cond (decide (i4000 < List.length s4000)) (
 cond (((dec s4000 i4000).1 : Int) == 0) (
  (rB false)) (
 cond (((dec s4000 i4000).1 : Int) == 47) (
  ahS (C67 Γ) Λ2 J (w6 (x3 + 1)) s4000 (i4000 + (dec s4000 i4000).2)) (
 ahS (C67 Γ) Λ2 J x3 s4000 (i4000 + (dec s4000 i4000).2)))) (
 (rB (decide (x3 ≤ 8)))) := by kernel_rfl
theorem aqA (x0 : Str) : dY SE (C67 Γ) Λ2 J 67 0 [1, 1, 0] (bN [(0, .d (.str x0))] [] [] [] []) =
 ahS (C67 Γ) Λ2 J 1 x0 0 := by kernel_rfl
end
abbrev X67 : aS := C67 gG
theorem am9 : X67 = aR gG := rfl
abbrev aqE := ahS X67 (dM SE gG (SE.hl 67) (SE.hr 67)) (J0 SE X67)
abbrev arf := anQ X67 (dM SE gG (SE.hl 67) (SE.hr 67)) (J0 SE X67)
theorem adP : ∀ (fu : Nat) (x3 : Int) (s4000 : Str) (i4000 : Nat), Le (Option.map aH (gU fu x3 s4000 i4000)) (aqE x3 s4000 i4000) := by
 intro fu
 induction fu with
 | zero => intros; exact le_none
 | succ fu ih =>
  intro x3 s4000 i4000
  refine Le.trans ?_ (le_of_eq ((bU am9).trans (arc ..)).symm)
  unfold gU
  refine lC ?_ ?_
  ·refine lC ?_ ?_
   ·exact aG rfl
   ·refine lC ?_ ?_
    ·exact ih (w6 (x3 + 1)) s4000 (i4000 + (dec s4000 i4000).2)
    ·exact ih x3 s4000 (i4000 + (dec s4000 i4000).2)
  ·exact aG rfl
theorem adW (x0 : Str) : Le (Option.map aH (qY x0)) (arf x0) := by
 refine Le.trans ?_ (le_of_eq ((bU am9).trans (aqA ..)).symm)
 unfold qY
 exact adP fuel 1 x0 0
theorem aa9 (p0 : Str) : Le (Option.map aH (oY p0)) (bE SE 67 [.d (.str p0)] [] []) := by
 refine bB am9 rfl ?_
 refine Le.trans ?_ (le_of_eq (T67 ..).symm)
 unfold oY
 refine lC ?_ ?_
 ·exact aG rfl
 ·refine lC ?_ ?_
  ·exact aG rfl
  ·exact adW p0
def akm (C : aS) (Λ2 J : Lam) (a0 : Str) (a1 : Nat) : Res := lab SE C Λ2 J 61 0 [1, 1, 0, 1, 0] (bN [(9, .it 4000)] [] [] [(4000, (a0, a1))] [])
section
variable (Γ : Fun) (γ67 : Gm (Bool)) (Λ2 J : Lam)
def C61 : aS := bM (aR Γ) 67 aH γ67
theorem T61 (p0 : Str) : bV SE (C61 Γ γ67) Λ2 J 61 [.d (.str p0)] [] [] =
 γ67 [.d (.str p0)] [] [] fun r0 =>
 cond (!r0) (
 (rB false)) (
 akm (C61 Γ γ67) Λ2 J p0 0) := by kernel_rfl
theorem aqK (s4000 : Str) (i4000 : Nat) : dY SE (C61 Γ γ67) Λ2 J 61 0 [1, 1, 0, 1, 0] (bN [(9, .it 4000)] [] [] [(4000, (s4000, i4000))] []) =
 cond (decide (i4000 < List.length s4000)) (
 cond (((dec s4000 i4000).1 : Int) == 43) (
  (rB false)) (
 cond (((dec s4000 i4000).1 : Int) == 35) (
  (rB false)) (
 akm (C61 Γ γ67) Λ2 J s4000 (i4000 + (dec s4000 i4000).2)))) (
 (rB true)) := by kernel_rfl
end
abbrev X61 : aS := C61 gG (cT 67 aH)
theorem apu : X61 = aR gG := by unfold X61 C61; rw [bP fun _ h => h]
abbrev aqf := akm X61 (dM SE gG (SE.hl 61) (SE.hr 61)) (J0 SE X61)
theorem adT : ∀ (fu : Nat) (s4000 : Str) (i4000 : Nat), Le (Option.map aH (iI fu s4000 i4000)) (aqf s4000 i4000) := by
 intro fu
 induction fu with
 | zero => intros; exact le_none
 | succ fu ih =>
  intro s4000 i4000
  refine Le.trans ?_ (le_of_eq ((bU apu).trans (aqK ..)).symm)
  unfold iI
  refine lC ?_ ?_
  ·refine lC ?_ ?_
   ·exact aG rfl
   ·refine lC ?_ ?_
    ·exact aG rfl
    ·exact ih s4000 (i4000 + (dec s4000 i4000).2)
  ·exact aG rfl
theorem agC (p0 : Str) : Le (Option.map aH (rO p0)) (bE SE 61 [.d (.str p0)] [] []) := by
 refine bB apu rfl ?_
 refine Le.trans ?_ (le_of_eq (T61 ..).symm)
 unfold rO
 refine lQ eX aU (aa9 _) fun r0 _ => ?_
 refine lC ?_ ?_
 ·exact aG rfl
 ·exact adT fuel p0 0
section
variable (Γ : Fun)  (Λ2 J : Lam)
def C62 : aS := aR Γ
theorem T62 (p0 p1 : Int) : bV SE (C62 Γ) Λ2 J 62 [.d (.int .i64 p0), .d (.int .i64 p1)] [] [] =
 cond (decide (p0 ≥ 0)) (
 (rB (decide (p0 ≤ p1)))) (
 (rB false)) := by kernel_rfl
end
abbrev X62 : aS := C62 gG
theorem as8 : X62 = aR gG := rfl
theorem oN (p0 p1 : Int) : Le (Option.map aH (lK p0 p1)) (bE SE 62 [.d (.int .i64 p0), .d (.int .i64 p1)] [] []) := by
 refine bB as8 rfl ?_
 refine Le.trans ?_ (le_of_eq (T62 ..).symm)
 unfold lK
 refine lC ?_ ?_
 ·exact aG rfl
 ·exact aG rfl
def wT (C : aS) (Λ2 J : Lam) (a0 : Str) (a1 : Int) : Res := lab SE C Λ2 J 68 0 [1, 1, 0, 1, 0] (bN [(0, .d (.str a0)), (3, .d (.int .i64 a1))] [] [] [] [])
def anZ (C : aS) (Λ2 J : Lam) (a0 : Str) : Res := lab SE C Λ2 J 68 0 [1, 1, 0, 0] (bN [(0, .d (.str a0))] [] [] [] [])
section
variable (Γ : Fun)  (Λ2 J : Lam)
def C68 : aS := aR Γ
theorem T68 (p0 : Str) : bV SE (C68 Γ) Λ2 J 68 [.d (.str p0)] [] [] =
 cond (decide ((List.length p0 : Int) < 1)) (
 (rB false)) (
 cond (decide ((List.length p0 : Int) > 16)) (
 (rB false)) (
 anZ (C68 Γ) Λ2 J p0)) := by kernel_rfl
theorem aqo (x0 : Str) (x3 : Int) : dY SE (C68 Γ) Λ2 J 68 0 [1, 1, 0, 1, 0] (bN [(0, .d (.str x0)), (3, .d (.int .i64 x3))] [] [] [] []) =
 cond (decide (x3 < (List.length x0 : Int))) (
 cond (iB x3 (List.length x0 : Int)) (
  cond (decide ((UInt8.toNat (List.getD x0 (Int.toNat x3) 0) : Int) < 97)) (
  cond (decide ((UInt8.toNat (List.getD x0 (Int.toNat x3) 0) : Int) < 48)) (
   cond ((UInt8.toNat (List.getD x0 (Int.toNat x3) 0) : Int) != 45) (
   (rB false)) (
   wT (C68 Γ) Λ2 J x0 (w6 (x3 + 1)))) (
  cond (decide ((UInt8.toNat (List.getD x0 (Int.toNat x3) 0) : Int) > 57)) (
   cond ((UInt8.toNat (List.getD x0 (Int.toNat x3) 0) : Int) != 45) (
   (rB false)) (
   wT (C68 Γ) Λ2 J x0 (w6 (x3 + 1)))) (
  wT (C68 Γ) Λ2 J x0 (w6 (x3 + 1))))) (
  cond (decide ((UInt8.toNat (List.getD x0 (Int.toNat x3) 0) : Int) > 122)) (
  cond (decide ((UInt8.toNat (List.getD x0 (Int.toNat x3) 0) : Int) < 48)) (
   cond ((UInt8.toNat (List.getD x0 (Int.toNat x3) 0) : Int) != 45) (
   (rB false)) (
   wT (C68 Γ) Λ2 J x0 (w6 (x3 + 1)))) (
  cond (decide ((UInt8.toNat (List.getD x0 (Int.toNat x3) 0) : Int) > 57)) (
   cond ((UInt8.toNat (List.getD x0 (Int.toNat x3) 0) : Int) != 45) (
   (rB false)) (
   wT (C68 Γ) Λ2 J x0 (w6 (x3 + 1)))) (
  wT (C68 Γ) Λ2 J x0 (w6 (x3 + 1))))) (
  wT (C68 Γ) Λ2 J x0 (w6 (x3 + 1))))) none) (
 (rB true)) := by kernel_rfl
theorem arz (x0 : Str) : dY SE (C68 Γ) Λ2 J 68 0 [1, 1, 0, 0] (bN [(0, .d (.str x0))] [] [] [] []) =
 wT (C68 Γ) Λ2 J x0 0 := by kernel_rfl
end
abbrev X68 : aS := C68 gG
theorem ani : X68 = aR gG := rfl
abbrev aq5 := wT X68 (dM SE gG (SE.hl 68) (SE.hr 68)) (J0 SE X68)
abbrev aqt := anZ X68 (dM SE gG (SE.hl 68) (SE.hr 68)) (J0 SE X68)
theorem adV : ∀ (fu : Nat) (x0 : Str) (x3 : Int), Le (Option.map aH (dX fu x0 x3)) (aq5 x0 x3) := by
 intro fu
 induction fu with
 | zero => intros; exact le_none
 | succ fu ih =>
  intro x0 x3
  refine Le.trans ?_ (le_of_eq ((bU ani).trans (aqo ..)).symm)
  unfold dX
  refine lC ?_ ?_
  ·refine lF ?_
   refine lC ?_ ?_
   ·refine lC ?_ ?_
    ·refine lC ?_ ?_
     ·exact aG rfl
     ·exact ih x0 (w6 (x3 + 1))
    ·refine lC ?_ ?_
     ·refine lC ?_ ?_
      ·exact aG rfl
      ·exact ih x0 (w6 (x3 + 1))
     ·exact ih x0 (w6 (x3 + 1))
   ·refine lC ?_ ?_
    ·refine lC ?_ ?_
     ·refine lC ?_ ?_
      ·exact aG rfl
      ·exact ih x0 (w6 (x3 + 1))
     ·refine lC ?_ ?_
      ·refine lC ?_ ?_
       ·exact aG rfl
       ·exact ih x0 (w6 (x3 + 1))
      ·exact ih x0 (w6 (x3 + 1))
    ·exact ih x0 (w6 (x3 + 1))
  ·exact aG rfl
theorem adX (x0 : Str) : Le (Option.map aH (qO x0)) (aqt x0) := by
 refine Le.trans ?_ (le_of_eq ((bU ani).trans (arz ..)).symm)
 unfold qO
 exact adV fuel x0 0
theorem agc (p0 : Str) : Le (Option.map aH (rM p0)) (bE SE 68 [.d (.str p0)] [] []) := by
 refine bB ani rfl ?_
 refine Le.trans ?_ (le_of_eq (T68 ..).symm)
 unfold rM
 refine lC ?_ ?_
 ·exact aG rfl
 ·refine lC ?_ ?_
  ·exact aG rfl
  ·exact adX p0
def ahL (C : aS) (Λ2 J : Lam) (a0 a1 : List (List D)) (a2 a3 : Int) : Res := lab SE C Λ2 J 63 0 [1, 1, 0, 1, 0] (bN [(0, .d (.sl aB.ks a0)), (8, .d (.sl aB.ks a1)), (9, .d (.int .i64 a2)), (10, .d (.int .i64 a3))] [] [] [] [])
section
variable (Γ : Fun) (γ68 : Gm (Bool)) (Λ2 J : Lam)
def C63 : aS := bM (aR Γ) 68 aH γ68
theorem T63 (p0 : List aB) : bV SE (C63 Γ γ68) Λ2 J 63 [.d (.sl aB.ks (List.map aB.enc p0))] [] [] =
 cond (decide ((lM aB.enc p0 : Int) > 8)) (
 (rI 5)) (
 ahL (C63 Γ γ68) Λ2 J (List.map aB.enc p0) (List.map aB.enc p0) (lM aB.enc p0 : Int) 0) := by kernel_rfl
theorem arb (x0 x8 : List aB) (x9 x10 : Int) : dY SE (C63 Γ γ68) Λ2 J 63 0 [1, 1, 0, 1, 0] (bN [(0, .d (.sl aB.ks (List.map aB.enc x0))), (8, .d (.sl aB.ks (List.map aB.enc x8))), (9, .d (.int .i64 x9)), (10, .d (.int .i64 x10))] [] [] [] []) =
 cond (decide (x10 < x9)) (
 cond (iB x10 (lM aB.enc x8 : Int)) (
  γ68 [.d (.str (bT (cE aB.enc x8 x10 0)))] [] [] fun r0 =>
  cond (!r0) (
  (rI 16)) (
  cond (decide ((List.length (bT (cE aB.enc x8 x10 1)) : Int) > 160)) (
  (rI 5)) (
  cond (decide (x10 > 0)) (
  cond (iB (w6 (x10 - 1)) (lM aB.enc x0 : Int)) (
   cond (Op.bytesLess (bT (cE aB.enc x8 x10 0)) (bT (cE aB.enc x0 (w6 (x10 - 1)) 0)) || (bT (cE aB.enc x8 x10 0)) == (bT (cE aB.enc x0 (w6 (x10 - 1)) 0))) (
   (rI 16)) (
   ahL (C63 Γ γ68) Λ2 J (List.map aB.enc x0) (List.map aB.enc x8) x9 (w6 (x10 + 1)))) none) (
  ahL (C63 Γ γ68) Λ2 J (List.map aB.enc x0) (List.map aB.enc x8) x9 (w6 (x10 + 1)))))) none) (
 (rI 0)) := by kernel_rfl
end
abbrev X63 : aS := C63 gG (cT 68 aH)
theorem apg : X63 = aR gG := by unfold X63 C63; rw [bP fun _ h => h]
abbrev aqh := ahL X63 (dM SE gG (SE.hl 63) (SE.hr 63)) (J0 SE X63)
theorem ace : ∀ (fu : Nat) (x0 x8 : List aB) (x9 x10 : Int), Le (Option.map aJ (gR fu x0 x8 x9 x10)) (aqh (List.map aB.enc x0) (List.map aB.enc x8) x9 x10) := by
 intro fu
 induction fu with
 | zero => intros; exact le_none
 | succ fu ih =>
  intro x0 x8 x9 x10
  refine Le.trans ?_ (le_of_eq ((bU apg).trans (arb ..)).symm)
  unfold gR
  refine lC ?_ ?_
  ·refine lG (by simp only [EN]) ?_
   refine lQ eX aU (by (try simp only [EN]); exact agc ((List.getD x8 (Int.toNat x10) default).Key)) fun r0 _ => ?_
   refine lC ?_ ?_
   ·exact aG rfl
   ·refine lD (by simp only [EN]) ?_ ?_
    ·exact aG rfl
    ·refine lC ?_ ?_
     ·refine lG (by simp only [EN]) ?_
      refine lD (by simp only [EN]) ?_ ?_
      ·exact aG rfl
      ·exact ih x0 x8 x9 (w6 (x10 + 1))
     ·exact ih x0 x8 x9 (w6 (x10 + 1))
  ·exact aG rfl
theorem yA (p0 : List aB) : Le (Option.map aJ (mJ p0)) (bE SE 63 [.d (.sl aB.ks (List.map aB.enc p0))] [] []) := by
 refine bB apg rfl ?_
 refine Le.trans ?_ (le_of_eq (T63 ..).symm)
 unfold mJ
 refine lD (by simp only [EN]) ?_ ?_
 ·exact aG rfl
 ·(try simp only [EN]); exact ace fuel p0 p0 (List.length p0 : Int) 0
section
variable (Γ : Fun) (γ61 γ62 γ55 : Gm (Bool)) (γ63 : Gm (Int)) (Λ2 J : Lam)
def C56 : aS := bM (bM (bM (bM (aR Γ) 61 aH γ61) 62 aH γ62) 55 aH γ55) 63 aJ γ63
theorem T56 (p0 : aC) : bV SE (C56 Γ γ61 γ62 γ55 γ63) Λ2 J 56 [aC.av p0] [] [] =
 γ61 [.d (.str p0.Topic)] [] [] fun r0 =>
 cond (!r0) (
 (rI 12)) (
 cond (decide ((List.length p0.Payload : Int) > 256)) (
 (rI 5)) (
 γ62 [.d (.int .i64 p0.Level), .d (.int .i64 2)] [] [] fun r1 =>
 cond (!r1) (
 (rI 14)) (
 γ62 [.d (.int .i64 p0.Priority), .d (.int .i64 9)] [] [] fun r2 =>
 cond (!r2) (
 (rI 1)) (
 γ62 [.d (.int .i64 p0.Expires), .d (.int .i64 1099511627776)] [] [] fun r3 =>
 cond (!r3) (
 (rI 1)) (
 cond (!(p0.From == ([] : Str))) (
 γ55 [.d (.str p0.From)] [] [] fun r4 =>
 cond (!r4) (
  (rI 11)) (
 γ62 [.d (.int .i64 p0.Seq), .d (.int .i64 1099511627776)] [] [] fun r5 =>
 cond (!r5) (
  (rI 1)) (
 γ63 [.d (.sl aB.ks (List.map aB.enc p0.Props))] [] [] fun r6 =>
 (rI r6)))) (
 γ62 [.d (.int .i64 p0.Seq), .d (.int .i64 1099511627776)] [] [] fun r7 =>
 cond (!r7) (
 (rI 1)) (
 γ63 [.d (.sl aB.ks (List.map aB.enc p0.Props))] [] [] fun r8 =>
 (rI r8)))))))) := by kernel_rfl
end
abbrev X56 : aS := C56 gG (cT 61 aH) (cT 62 aH) (cT 55 aH) (cT 63 aJ)
theorem asv : X56 = aR gG := by unfold X56 C56; repeat rw [bP fun _ h => h]
theorem lU (p0 : aC) : Le (Option.map aJ (fU p0)) (bE SE 56 [aC.av p0] [] []) := by
 refine bB asv rfl ?_
 refine Le.trans ?_ (le_of_eq (T56 ..).symm)
 unfold fU
 refine lQ eX aU (agC _) fun r0 _ => ?_
 refine lC ?_ ?_
 ·exact aG rfl
 ·refine lC ?_ ?_
  ·exact aG rfl
  ·refine lQ eX aU (oN _ _) fun r1 _ => ?_
   refine lC ?_ ?_
   ·exact aG rfl
   ·refine lQ eX aU (oN _ _) fun r2 _ => ?_
    refine lC ?_ ?_
    ·exact aG rfl
    ·refine lQ eX aU (oN _ _) fun r3 _ => ?_
     refine lC ?_ ?_
     ·exact aG rfl
     ·refine lC ?_ ?_
      ·refine lQ eX aU (rT _) fun r4 _ => ?_
       refine lC ?_ ?_
       ·exact aG rfl
       ·refine lQ eX aU (oN _ _) fun r5 _ => ?_
        refine lC ?_ ?_
        ·exact aG rfl
        ·refine lQ eX bA (yA _) fun r6 _ => ?_
         exact aG rfl
      ·refine lQ eX aU (oN _ _) fun r7 _ => ?_
       refine lC ?_ ?_
       ·exact aG rfl
       ·refine lQ eX bA (yA _) fun r8 _ => ?_
        exact aG rfl
section
variable (Γ : Fun) (γ55 γ32 γ51 : Gm (Bool)) (γ56 : Gm (Int)) (Λ2 J : Lam)
def C35 : aS := bM (bM (bM (bM (aR Γ) 55 aH γ55) 32 aH γ32) 51 aH γ51) 56 aJ γ56
theorem T35 (p0 : aA) : bV SE (C35 Γ γ55 γ32 γ51 γ56) Λ2 J 35 [aA.av p0] [] [] =
 γ55 [.d (.str p0.Client)] [] [] fun r0 =>
 cond (!r0) (
 (rI 11)) (
 cond (!(p0.User == ([] : Str))) (
 γ55 [.d (.str p0.User)] [] [] fun r1 =>
 cond (!r1) (
  (rI 11)) (
 γ32 [.d (.int .i64 p0.Keep), .d (.int .i64 0), .d (.int .i64 1099511627776)] [] [] fun r2 =>
 cond (!r2) (
  (rI 1)) (
 γ32 [.d (.int .i64 p0.Expiry), .d (.int .i64 0), .d (.int .i64 1099511627776)] [] [] fun r3 =>
 cond (!r3) (
  (rI 1)) (
 γ32 [.d (.int .i64 p0.Window), .d (.int .i64 1), .d (.int .i64 32)] [] [] fun r4 =>
 cond (!r4) (
  (rI 1)) (
 cond (!p0.Will.Set) (
  cond (p0.Will.Delay != 0) (
  (rI 28)) (
  γ51 [aC.av p0.Will.Message, .agg [.d (.str []), .d (.str []), .d (.int .i64 0), .d (.bool false), .d (.int .i64 0), .d (.int .i64 0), .d (.str []), .d (.int .i64 0), .d (.sl aB.ks (List.map aB.enc []))]] [] [] fun r5 =>
  cond (!r5) (
  (rI 28)) (
  cond (!p0.Will.Set) (
  (rI 0)) (
  γ32 [.d (.int .i64 p0.Will.Delay), .d (.int .i64 0), .d (.int .i64 1099511627776)] [] [] fun r6 =>
  cond (!r6) (
  (rI 1)) (
  γ56 [aC.av p0.Will.Message] [] [] fun r7 =>
  (rI r7)))))) (
 cond (!p0.Will.Set) (
  (rI 0)) (
 γ32 [.d (.int .i64 p0.Will.Delay), .d (.int .i64 0), .d (.int .i64 1099511627776)] [] [] fun r8 =>
 cond (!r8) (
  (rI 1)) (
 γ56 [aC.av p0.Will.Message] [] [] fun r9 =>
 (rI r9))))))))) (
 γ32 [.d (.int .i64 p0.Keep), .d (.int .i64 0), .d (.int .i64 1099511627776)] [] [] fun r10 =>
 cond (!r10) (
 (rI 1)) (
 γ32 [.d (.int .i64 p0.Expiry), .d (.int .i64 0), .d (.int .i64 1099511627776)] [] [] fun r11 =>
 cond (!r11) (
 (rI 1)) (
 γ32 [.d (.int .i64 p0.Window), .d (.int .i64 1), .d (.int .i64 32)] [] [] fun r12 =>
 cond (!r12) (
 (rI 1)) (
 cond (!p0.Will.Set) (
 cond (p0.Will.Delay != 0) (
  (rI 28)) (
 γ51 [aC.av p0.Will.Message, .agg [.d (.str []), .d (.str []), .d (.int .i64 0), .d (.bool false), .d (.int .i64 0), .d (.int .i64 0), .d (.str []), .d (.int .i64 0), .d (.sl aB.ks (List.map aB.enc []))]] [] [] fun r13 =>
 cond (!r13) (
  (rI 28)) (
 cond (!p0.Will.Set) (
  (rI 0)) (
 γ32 [.d (.int .i64 p0.Will.Delay), .d (.int .i64 0), .d (.int .i64 1099511627776)] [] [] fun r14 =>
 cond (!r14) (
  (rI 1)) (
 γ56 [aC.av p0.Will.Message] [] [] fun r15 =>
 (rI r15)))))) (
 cond (!p0.Will.Set) (
 (rI 0)) (
 γ32 [.d (.int .i64 p0.Will.Delay), .d (.int .i64 0), .d (.int .i64 1099511627776)] [] [] fun r16 =>
 cond (!r16) (
 (rI 1)) (
 γ56 [aC.av p0.Will.Message] [] [] fun r17 =>
 (rI r17))))))))) := by kernel_rfl
end
abbrev X35 : aS := C35 gG (cT 55 aH) (cT 32 aH) (cT 51 aH) (cT 56 aJ)
theorem asL : X35 = aR gG := by unfold X35 C35; repeat rw [bP fun _ h => h]
theorem adY (p0 : aA) : Le (Option.map aJ (nF p0)) (bE SE 35 [aA.av p0] [] []) := by
 refine bB asL rfl ?_
 refine Le.trans ?_ (le_of_eq (T35 ..).symm)
 unfold nF
 refine lQ eX aU (rT _) fun r0 _ => ?_
 refine lC ?_ ?_
 ·exact aG rfl
 ·refine lC ?_ ?_
  ·refine lQ eX aU (rT _) fun r1 _ => ?_
   refine lC ?_ ?_
   ·exact aG rfl
   ·refine lQ eX aU (eF _ _ _) fun r2 _ => ?_
    refine lC ?_ ?_
    ·exact aG rfl
    ·refine lQ eX aU (eF _ _ _) fun r3 _ => ?_
     refine lC ?_ ?_
     ·exact aG rfl
     ·refine lQ eX aU (eF _ _ _) fun r4 _ => ?_
      refine lC ?_ ?_
      ·exact aG rfl
      ·refine lC ?_ ?_
       ·refine lC ?_ ?_
        ·exact aG rfl
        ·refine lQ eX aU (by (try simp only [EN]); exact pL p0.Will.Message ((aC.mk [] [] 0 false 0 0 [] 0 []))) fun r5 _ => ?_
         refine lC ?_ ?_
         ·exact aG rfl
         ·refine lC ?_ ?_
          ·exact aG rfl
          ·refine lQ eX aU (eF _ _ _) fun r6 _ => ?_
           refine lC ?_ ?_
           ·exact aG rfl
           ·refine lQ eX bA (lU _) fun r7 _ => ?_
            exact aG rfl
       ·refine lC ?_ ?_
        ·exact aG rfl
        ·refine lQ eX aU (eF _ _ _) fun r8 _ => ?_
         refine lC ?_ ?_
         ·exact aG rfl
         ·refine lQ eX bA (lU _) fun r9 _ => ?_
          exact aG rfl
  ·refine lQ eX aU (eF _ _ _) fun r10 _ => ?_
   refine lC ?_ ?_
   ·exact aG rfl
   ·refine lQ eX aU (eF _ _ _) fun r11 _ => ?_
    refine lC ?_ ?_
    ·exact aG rfl
    ·refine lQ eX aU (eF _ _ _) fun r12 _ => ?_
     refine lC ?_ ?_
     ·exact aG rfl
     ·refine lC ?_ ?_
      ·refine lC ?_ ?_
       ·exact aG rfl
       ·refine lQ eX aU (by (try simp only [EN]); exact pL p0.Will.Message ((aC.mk [] [] 0 false 0 0 [] 0 []))) fun r13 _ => ?_
        refine lC ?_ ?_
        ·exact aG rfl
        ·refine lC ?_ ?_
         ·exact aG rfl
         ·refine lQ eX aU (eF _ _ _) fun r14 _ => ?_
          refine lC ?_ ?_
          ·exact aG rfl
          ·refine lQ eX bA (lU _) fun r15 _ => ?_
           exact aG rfl
      ·refine lC ?_ ?_
       ·exact aG rfl
       ·refine lQ eX aU (eF _ _ _) fun r16 _ => ?_
        refine lC ?_ ?_
        ·exact aG rfl
        ·refine lQ eX bA (lU _) fun r17 _ => ?_
         exact aG rfl
section
variable (Γ : Fun) (γ32 : Gm (Bool)) (Λ2 J : Lam)
def C36 : aS := bM (aR Γ) 32 aH γ32
theorem T36 (p0 : Int) : bV SE (C36 Γ γ32) Λ2 J 36 [.d (.int .i64 p0)] [] [] =
 γ32 [.d (.int .i64 p0), .d (.int .i64 0), .d (.int .i64 29)] [] [] fun r0 =>
 (rB r0) := by kernel_rfl
end
abbrev X36 : aS := C36 gG (cT 32 aH)
theorem asf : X36 = aR gG := by unfold X36 C36; rw [bP fun _ h => h]
theorem uC (p0 : Int) : Le (Option.map aH (mV p0)) (bE SE 36 [.d (.int .i64 p0)] [] []) := by
 refine bB asf rfl ?_
 refine Le.trans ?_ (le_of_eq (T36 ..).symm)
 unfold mV
 refine lQ eX aU (eF _ _ _) fun r0 _ => ?_
 exact aG rfl
section
variable (Γ : Fun) (γ32 : Gm (Bool)) (Λ2 J : Lam)
def C38 : aS := bM (aR Γ) 32 aH γ32
theorem T38 (p0 : Int) : bV SE (C38 Γ γ32) Λ2 J 38 [.d (.int .i64 p0)] [] [] =
 γ32 [.d (.int .i64 p0), .d (.int .i64 1), .d (.int .i64 65535)] [] [] fun r0 =>
 cond (!r0) (
 (rI 15)) (
 (rI 0)) := by kernel_rfl
end
abbrev X38 : aS := C38 gG (cT 32 aH)
theorem asP : X38 = aR gG := by unfold X38 C38; rw [bP fun _ h => h]
theorem mU (p0 : Int) : Le (Option.map aJ (iV p0)) (bE SE 38 [.d (.int .i64 p0)] [] []) := by
 refine bB asP rfl ?_
 refine Le.trans ?_ (le_of_eq (T38 ..).symm)
 unfold iV
 refine lQ eX aU (eF _ _ _) fun r0 _ => ?_
 refine lC ?_ ?_
 ·exact aG rfl
 ·exact aG rfl
section
variable (Γ : Fun) (γ56 γ38 : Gm (Int)) (Λ2 J : Lam)
def C37 : aS := bM (bM (aR Γ) 56 aJ γ56) 38 aJ γ38
theorem T37 (p0 : aA) : bV SE (C37 Γ γ56 γ38) Λ2 J 37 [aA.av p0] [] [] =
 γ56 [aC.av p0.Message] [] [] fun r0 =>
 cond (r0 != 0) (
 (rI r0)) (
 cond (p0.Message.Level != 0) (
 γ38 [.d (.int .i64 p0.ID)] [] [] fun r1 =>
 (rI r1)) (
 cond (p0.ID != 0) (
 (rI 15)) (
 cond p0.Dup (
 (rI 28)) (
 (rI 0))))) := by kernel_rfl
end
abbrev X37 : aS := C37 gG (cT 56 aJ) (cT 38 aJ)
theorem asD : X37 = aR gG := by unfold X37 C37; repeat rw [bP fun _ h => h]
theorem adQ (p0 : aA) : Le (Option.map aJ (nI p0)) (bE SE 37 [aA.av p0] [] []) := by
 refine bB asD rfl ?_
 refine Le.trans ?_ (le_of_eq (T37 ..).symm)
 unfold nI
 refine lQ eX bA (lU _) fun r0 _ => ?_
 refine lC ?_ ?_
 ·exact aG rfl
 ·refine lC ?_ ?_
  ·refine lQ eX bA (mU _) fun r1 _ => ?_
   exact aG rfl
  ·refine lC ?_ ?_
   ·exact aG rfl
   ·refine lC ?_ ?_
    ·exact aG rfl
    ·exact aG rfl
section
variable (Γ : Fun) (γ32 : Gm (Bool)) (Λ2 J : Lam)
def C57 : aS := bM (aR Γ) 32 aH γ32
theorem T57 (p0 p1 : Int) : bV SE (C57 Γ γ32) Λ2 J 57 [.d (.int .i64 p0), .d (.int .i64 p1)] [] [] =
 γ32 [.d (.int .i64 p0), .d (.int .i64 1), .d (.int .i64 65535)] [] [] fun r0 =>
 cond (!r0) (
 (rI 15)) (
 cond (p1 == 0) (
 (rI 1)) (
 cond (decide (p1 > 32)) (
 (rI 5)) (
 (rI 0)))) := by kernel_rfl
end
abbrev X57 : aS := C57 gG (cT 32 aH)
theorem ar3 : X57 = aR gG := by unfold X57 C57; rw [bP fun _ h => h]
theorem rC (p0 p1 : Int) : Le (Option.map aJ (jV p0 p1)) (bE SE 57 [.d (.int .i64 p0), .d (.int .i64 p1)] [] []) := by
 refine bB ar3 rfl ?_
 refine Le.trans ?_ (le_of_eq (T57 ..).symm)
 unfold jV
 refine lQ eX aU (eF _ _ _) fun r0 _ => ?_
 refine lC ?_ ?_
 ·exact aG rfl
 ·refine lC ?_ ?_
  ·exact aG rfl
  ·refine lC ?_ ?_
   ·exact aG rfl
   ·exact aG rfl
section
variable (Γ : Fun)  (Λ2 J : Lam)
def C72 : aS := aR Γ
theorem T72 (p0 p1 : Str) : bV SE (C72 Γ) Λ2 J 72 [.d (.str p0), .d (.str p1)] [] [] =
 cond (decide ((List.length p0 : Int) ≥ (List.length p1 : Int))) (
 cond (decide (0 ≤ (List.length p1 : Int)) && decide ((List.length p1 : Int) ≤ ((List.length p0) : Int))) (
  (rB ((eQ p0 none (some (List.length p1 : Int))) == p1))) none) (
 (rB false)) := by kernel_rfl
end
abbrev X72 : aS := C72 gG
theorem ata : X72 = aR gG := rfl
theorem qE (p0 p1 : Str) : Le (Option.map aH (gM p0 p1)) (bE SE 72 [.d (.str p0), .d (.str p1)] [] []) := by
 refine bB ata rfl ?_
 refine Le.trans ?_ (le_of_eq (T72 ..).symm)
 unfold gM
 refine lC ?_ ?_
 ·refine lF ?_
  exact aG rfl
 ·exact aG rfl
section
variable (Γ : Fun) (γ72 : Gm (Bool)) (Λ2 J : Lam)
def C73 : aS := bM (aR Γ) 72 aH γ72
theorem T73 (p0 p1 : Str) : bV SE (C73 Γ γ72) Λ2 J 73 [.d (.str p0), .d (.str p1)] [] [] =
 γ72 [.d (.str p0), .d (.str p1)] [] [] fun r0 =>
 cond (!r0) (
 (some (.ret [.d (.str p0), .d (.bool false)] [] []))) (
 cond (decide (0 ≤ (List.length p1 : Int)) && decide ((List.length p1 : Int) ≤ ((List.length p0) : Int))) (
 (some (.ret [.d (.str (eQ p0 (some (List.length p1 : Int)) none)), .d (.bool true)] [] []))) none) := by kernel_rfl
end
abbrev X73 : aS := C73 gG (cT 72 aH)
theorem asd : X73 = aR gG := by unfold X73 C73; rw [bP fun _ h => h]
theorem yB (p0 p1 : Str) : Le (Option.map cK (kP p0 p1)) (bE SE 73 [.d (.str p0), .d (.str p1)] [] []) := by
 refine bB asd rfl ?_
 refine Le.trans ?_ (le_of_eq (T73 ..).symm)
 unfold kP
 refine lQ eX aU (qE _ _) fun r0 _ => ?_
 refine lC ?_ ?_
 ·exact aG rfl
 ·refine lF ?_
  exact aG rfl
section
variable (Γ : Fun) (γ73 : Gm (Str × Bool)) (Λ2 J : Lam)
def C69 : aS := bM (aR Γ) 73 cK γ73
theorem T69 (p0 p1 : Str) : bV SE (C69 Γ γ73) Λ2 J 69 [.d (.str p0), .d (.str p1)] [] [] =
 γ73 [.d (.str p0), .d (.str p1)] [] [] fun r0 =>
 (some (.ret [.d (.str r0.1), .d (.bool r0.2)] [] [])) := by kernel_rfl
end
abbrev X69 : aS := C69 gG (cT 73 cK)
theorem ass : X69 = aR gG := by unfold X69 C69; rw [bP fun _ h => h]
theorem abg (p0 p1 : Str) : Le (Option.map cK (kZ p0 p1)) (bE SE 69 [.d (.str p0), .d (.str p1)] [] []) := by
 refine bB ass rfl ?_
 refine Le.trans ?_ (le_of_eq (T69 ..).symm)
 unfold kZ
 refine lQ eX pF (yB _ _) fun r0 _ => ?_
 exact aG rfl
section
variable (Γ : Fun)  (Λ2 J : Lam)
def C78 : aS := aR Γ
theorem T78 (p0 : Str) (p1 : Int) : bV SE (C78 Γ) Λ2 J 78 [.d (.str p0), .d (.int .u8 p1)] [] [] =
 (rI (Lib.indexByte p0 (UInt8.ofNat (Int.toNat p1)) : Int)) := by kernel_rfl
end
abbrev X78 : aS := C78 gG
theorem asg : X78 = aR gG := rfl
theorem xK (p0 : Str) (p1 : Int) : Le (Option.map aJ (nG p0 p1)) (bE SE 78 [.d (.str p0), .d (.int .u8 p1)] [] []) := by
 refine bB asg rfl ?_
 refine Le.trans ?_ (le_of_eq (T78 ..).symm)
 unfold nG
 exact aG rfl
section
variable (Γ : Fun) (γ78 : Gm (Int)) (Λ2 J : Lam)
def C76 : aS := bM (aR Γ) 78 aJ γ78
theorem T76 (p0 p1 : Str) : bV SE (C76 Γ γ78) Λ2 J 76 [.d (.str p0), .d (.str p1)] [] [] =
 cond ((List.length p1 : Int) == 0) (
 (rI 0)) (
 cond (p1 == p0) (
 (rI 0)) (
 cond ((List.length p1 : Int) == 1) (
 cond (decide (0 ≤ 0) && decide (0 < (List.length p1 : Int))) (
  γ78 [.d (.str p0), .d (.int .u8 (UInt8.toNat (List.getD p1 (Int.toNat 0) 0) : Int))] [] [] fun r0 =>
  (rI r0)) none) (
 cond (decide ((List.length p1 : Int) ≥ (List.length p0 : Int))) (
 (rI (-1))) none))) := by kernel_rfl
end
abbrev X76 : aS := C76 gG (cT 78 aJ)
theorem asO : X76 = aR gG := by unfold X76 C76; rw [bP fun _ h => h]
theorem tL (p0 p1 : Str) : Le (Option.map aJ (hI p0 p1)) (bE SE 76 [.d (.str p0), .d (.str p1)] [] []) := by
 refine bB asO rfl ?_
 refine Le.trans ?_ (le_of_eq (T76 ..).symm)
 unfold hI
 refine lC ?_ ?_
 ·exact aG rfl
 ·refine lC ?_ ?_
  ·exact aG rfl
  ·refine lC ?_ ?_
   ·refine lF ?_
    refine lQ eX bA (xK _ _) fun r0 _ => ?_
    exact aG rfl
   ·refine lF ?_
    exact aG rfl
section
variable (Γ : Fun) (γ76 : Gm (Int)) (Λ2 J : Lam)
def C74 : aS := bM (aR Γ) 76 aJ γ76
theorem T74 (p0 p1 : Str) : bV SE (C74 Γ γ76) Λ2 J 74 [.d (.str p0), .d (.str p1)] [] [] =
 γ76 [.d (.str p0), .d (.str p1)] [] [] fun r0 =>
 cond (decide (r0 ≥ 0)) (
 cond (decide (0 ≤ r0) && decide (r0 ≤ ((List.length p0) : Int))) (
  cond (decide (0 ≤ (w6 (r0 + (List.length p1 : Int)))) && decide ((w6 (r0 + (List.length p1 : Int))) ≤ ((List.length p0) : Int))) (
  (some (.ret [.d (.str (eQ p0 none (some r0))), .d (.str (eQ p0 (some (w6 (r0 + (List.length p1 : Int)))) none)), .d (.bool true)] [] []))) none) none) (
 (some (.ret [.d (.str p0), .d (.str []), .d (.bool false)] [] []))) := by kernel_rfl
end
abbrev X74 : aS := C74 gG (cT 76 aJ)
theorem asu : X74 = aR gG := by unfold X74 C74; rw [bP fun _ h => h]
theorem acm (p0 p1 : Str) : Le (Option.map cI (pJ p0 p1)) (bE SE 74 [.d (.str p0), .d (.str p1)] [] []) := by
 refine bB asu rfl ?_
 refine Le.trans ?_ (le_of_eq (T74 ..).symm)
 unfold pJ
 refine lQ eX bA (tL _ _) fun r0 _ => ?_
 refine lC ?_ ?_
 ·refine lF ?_
  refine lF ?_
  exact aG rfl
 ·exact aG rfl
section
variable (Γ : Fun) (γ74 : Gm (Str × Str × Bool)) (Λ2 J : Lam)
def C70 : aS := bM (aR Γ) 74 cI γ74
theorem T70 (p0 p1 : Str) : bV SE (C70 Γ γ74) Λ2 J 70 [.d (.str p0), .d (.str p1)] [] [] =
 γ74 [.d (.str p0), .d (.str p1)] [] [] fun r0 =>
 (some (.ret [.d (.str r0.1), .d (.str r0.2.1), .d (.bool r0.2.2)] [] [])) := by kernel_rfl
end
abbrev X70 : aS := C70 gG (cT 74 cI)
theorem ase : X70 = aR gG := by unfold X70 C70; rw [bP fun _ h => h]
theorem agk (p0 p1 : Str) : Le (Option.map cI (rR p0 p1)) (bE SE 70 [.d (.str p0), .d (.str p1)] [] []) := by
 refine bB ase rfl ?_
 refine Le.trans ?_ (le_of_eq (T70 ..).symm)
 unfold rR
 refine lQ eX pA (acm _ _) fun r0 _ => ?_
 exact aG rfl
section
variable (Γ : Fun) (γ76 : Gm (Int)) (Λ2 J : Lam)
def C84 : aS := bM (aR Γ) 76 aJ γ76
theorem T84 (p0 p1 : Str) : bV SE (C84 Γ γ76) Λ2 J 84 [.d (.str p0), .d (.str p1)] [] [] =
 γ76 [.d (.str p0), .d (.str p1)] [] [] fun r0 =>
 (rI r0) := by kernel_rfl
end
abbrev X84 : aS := C84 gG (cT 76 aJ)
theorem asi : X84 = aR gG := by unfold X84 C84; rw [bP fun _ h => h]
theorem xM (p0 p1 : Str) : Le (Option.map aJ (jJ p0 p1)) (bE SE 84 [.d (.str p0), .d (.str p1)] [] []) := by
 refine bB asi rfl ?_
 refine Le.trans ?_ (le_of_eq (T84 ..).symm)
 unfold jJ
 refine lQ eX bA (tL _ _) fun r0 _ => ?_
 exact aG rfl
def ale (C : aS) (Λ2 J : Lam) (a0 a1 : Str) (a2 : Int) : Res := lab SE C Λ2 J 83 0 [1, 1, 1, 1, 0] (bN [(0, .d (.str a0)), (1, .d (.str a1)), (5, .d (.int .i64 a2))] [] [] [] [])
section
variable (Γ : Fun) (γ84 : Gm (Int)) (Λ2 J : Lam)
def C83 : aS := bM (aR Γ) 84 aJ γ84
theorem T83 (p0 p1 : Str) : bV SE (C83 Γ γ84) Λ2 J 83 [.d (.str p0), .d (.str p1)] [] [] =
 cond ((List.length p1 : Int) == 0) (
 none) (
 cond ((List.length p1 : Int) == 1) (
 cond (decide (0 ≤ 0) && decide (0 < (List.length p1 : Int))) (
  (rI (Lib.countByte p0 (UInt8.ofNat (Int.toNat (UInt8.toNat (List.getD p1 (Int.toNat 0) 0) : Int))) : Int))) none) (
 ale (C83 Γ γ84) Λ2 J p0 p1 0)) := by kernel_rfl
theorem aqC (x0 x1 : Str) (x5 : Int) : dY SE (C83 Γ γ84) Λ2 J 83 0 [1, 1, 1, 1, 0] (bN [(0, .d (.str x0)), (1, .d (.str x1)), (5, .d (.int .i64 x5))] [] [] [] []) =
 γ84 [.d (.str x0), .d (.str x1)] [] [] fun r0 =>
 cond (r0 == (-1)) (
 (rI x5)) (
 cond (decide (0 ≤ (w6 (r0 + (List.length x1 : Int)))) && decide ((w6 (r0 + (List.length x1 : Int))) ≤ ((List.length x0) : Int))) (
 ale (C83 Γ γ84) Λ2 J (eQ x0 (some (w6 (r0 + (List.length x1 : Int)))) none) x1 (w6 (x5 + 1))) none) := by kernel_rfl
end
abbrev X83 : aS := C83 gG (cT 84 aJ)
theorem ao5 : X83 = aR gG := by unfold X83 C83; rw [bP fun _ h => h]
abbrev ap1 := ale X83 (dM SE gG (SE.hl 83) (SE.hr 83)) (J0 SE X83)
theorem acf : ∀ (fu : Nat) (x0 x1 : Str) (x5 : Int), Le (Option.map aJ (oH fu x0 x1 x5)) (ap1 x0 x1 x5) := by
 intro fu
 induction fu with
 | zero => intros; exact le_none
 | succ fu ih =>
  intro x0 x1 x5
  refine Le.trans ?_ (le_of_eq ((bU ao5).trans (aqC ..)).symm)
  unfold oH
  refine lQ eX bA (xM _ _) fun r0 _ => ?_
  refine lC ?_ ?_
  ·exact aG rfl
  ·refine lF ?_
   exact ih (eQ x0 (some (w6 (r0 + (List.length x1 : Int)))) none) x1 (w6 (x5 + 1))
theorem aew (p0 p1 : Str) : Le (Option.map aJ (oS p0 p1)) (bE SE 83 [.d (.str p0), .d (.str p1)] [] []) := by
 refine bB ao5 rfl ?_
 refine Le.trans ?_ (le_of_eq (T83 ..).symm)
 unfold oS
 refine lC ?_ ?_
 ·exact le_none
 ·refine lC ?_ ?_
  ·refine lF ?_
   exact aG rfl
  ·exact acf fuel p0 p1 0
def aiK (C : aS) (Λ2 J : Lam) (a0 : Str) (a1 : Int) (a2 : List (List D)) : Res := lab SE C Λ2 J 77 0 [1, 1, 1, 1, 1, 1, 1, 1, 1, 0] (bN [(0, .d (.str a0)), (9, .row 3009), (10, .d (.int .i64 a1))] [] [] [] [(3009, ⟨[.str], 9, 16, a2⟩)])
def ait (C : aS) (Λ2 J : Lam) (a0 a1 : Str) (a2 a3 a4 : Int) (a5 : List (List D)) : Res := lab SE C Λ2 J 77 0 [1, 1, 1, 1, 1, 1, 1, 1, 0, 0] (bN [(0, .d (.str a0)), (1, .d (.str a1)), (2, .d (.int .i64 a2)), (3, .d (.int .i64 a3)), (9, .row 3009), (10, .d (.int .i64 a4))] [] [] [] [(3009, ⟨[.str], 9, 16, a5⟩)])
def akZ (C : aS) (Λ2 J : Lam) (a0 a1 : Str) (a2 a3 : Int) : Res := lab SE C Λ2 J 77 0 [1, 1, 1, 1, 0] (bN [(0, .d (.str a0)), (1, .d (.str a1)), (2, .d (.int .i64 a2)), (3, .d (.int .i64 a3))] [] [] [] [])
section
variable (Γ : Fun) (γ83 γ84 : Gm (Int)) (Λ2 J : Lam)
def C77 : aS := bM (bM (aR Γ) 83 aJ γ83) 84 aJ γ84
theorem T77 (p0 p1 : Str) (p2 p3 : Int) : bV SE (C77 Γ γ83 γ84) Λ2 J 77 [.d (.str p0), .d (.str p1), .d (.int .i64 p2), .d (.int .i64 p3)] [] [] =
 cond (p3 == 0) (
 (some (.ret [.d (.sl [.str] (List.map aV []))] [] []))) (
 cond (p1 == ([] : Str)) (
 none) (
 cond (decide (p3 < 0)) (
 γ83 [.d (.str p0), .d (.str p1)] [] [] fun r0 =>
 akZ (C77 Γ γ83 γ84) Λ2 J p0 p1 p2 (w6 (r0 + 1))) (
 akZ (C77 Γ γ83 γ84) Λ2 J p0 p1 p2 p3))) := by kernel_rfl
theorem aoO (x0 : Str) (x10 : Int) (w3009 : List Str) : dY SE (C77 Γ γ83 γ84) Λ2 J 77 0 [1, 1, 1, 1, 1, 1, 1, 1, 1, 0] (bN [(0, .d (.str x0)), (9, .row 3009), (10, .d (.int .i64 x10))] [] [] [] [(3009, ⟨[.str], 9, 16, (List.map aV w3009)⟩)]) =
 cond (iB x10 (lM aV w3009 : Int)) (
 cond (decide (0 ≤ (w6 (x10 + 1))) && decide ((w6 (x10 + 1)) ≤ ((List.length (pP (List.map aV w3009) (Int.toNat x10) 0 [D.str x0])) : Int))) (
  (some (.ret [.d (.sl [.str] (List.take ((Int.toNat (w6 (x10 + 1))) - 0) (List.drop 0 (pP (List.map aV w3009) (Int.toNat x10) 0 [D.str x0]))))] [] []))) none) none := by kernel_rfl
theorem apF (x0 x1 : Str) (x2 x3 x10 : Int) (w3009 : List Str) : dY SE (C77 Γ γ83 γ84) Λ2 J 77 0 [1, 1, 1, 1, 1, 1, 1, 1, 0, 0] (bN [(0, .d (.str x0)), (1, .d (.str x1)), (2, .d (.int .i64 x2)), (3, .d (.int .i64 x3)), (9, .row 3009), (10, .d (.int .i64 x10))] [] [] [] [(3009, ⟨[.str], 9, 16, (List.map aV w3009)⟩)]) =
 cond (decide (x10 < x3)) (
 γ84 [.d (.str x0), .d (.str x1)] [] [] fun r1 =>
 cond (decide (r1 < 0)) (
  aiK (C77 Γ γ83 γ84) Λ2 J x0 x10 (List.map aV w3009)) (
 cond (decide (0 ≤ (w6 (r1 + x2))) && decide ((w6 (r1 + x2)) ≤ ((List.length x0) : Int))) (
  cond (iB x10 (lM aV w3009 : Int)) (
  cond (decide (0 ≤ (w6 (r1 + (List.length x1 : Int)))) && decide ((w6 (r1 + (List.length x1 : Int))) ≤ ((List.length x0) : Int))) (
   ait (C77 Γ γ83 γ84) Λ2 J (eQ x0 (some (w6 (r1 + (List.length x1 : Int)))) none) x1 x2 x3 (w6 (x10 + 1)) ((pP (List.map aV w3009) (Int.toNat x10) 0 [D.str (eQ x0 none (some (w6 (r1 + x2))))]))) none) none) none)) (
 aiK (C77 Γ γ83 γ84) Λ2 J x0 x10 (List.map aV w3009)) := by kernel_rfl
theorem arj (x0 x1 : Str) (x2 x3 : Int) : dY SE (C77 Γ γ83 γ84) Λ2 J 77 0 [1, 1, 1, 1, 0] (bN [(0, .d (.str x0)), (1, .d (.str x1)), (2, .d (.int .i64 x2)), (3, .d (.int .i64 x3))] [] [] [] []) =
 cond (decide (0 ≤ (if (w6 ((List.length x0 : Int) + 1)) < x3 then (w6 ((List.length x0 : Int) + 1)) else x3)) && decide ((if (w6 ((List.length x0 : Int) + 1)) < x3 then (w6 ((List.length x0 : Int) + 1)) else x3) ≤ (if (w6 ((List.length x0 : Int) + 1)) < x3 then (w6 ((List.length x0 : Int) + 1)) else x3)) && decide ((if (w6 ((List.length x0 : Int) + 1)) < x3 then (w6 ((List.length x0 : Int) + 1)) else x3) * 16 ≤ 281474976710656)) (
 ait (C77 Γ γ83 γ84) Λ2 J x0 x1 x2 ((w6 ((if (w6 ((List.length x0 : Int) + 1)) < x3 then (w6 ((List.length x0 : Int) + 1)) else x3) - 1))) 0 ((List.replicate (Int.toNat (if (w6 ((List.length x0 : Int) + 1)) < x3 then (w6 ((List.length x0 : Int) + 1)) else x3)) [D.str []]))) none := by kernel_rfl
end
abbrev X77 : aS := C77 gG (cT 83 aJ) (cT 84 aJ)
theorem ak5 : X77 = aR gG := by unfold X77 C77; repeat rw [bP fun _ h => h]
abbrev aoT := aiK X77 (dM SE gG (SE.hl 77) (SE.hr 77)) (J0 SE X77)
abbrev aoX := ait X77 (dM SE gG (SE.hl 77) (SE.hr 77)) (J0 SE X77)
abbrev aqV := akZ X77 (dM SE gG (SE.hl 77) (SE.hr 77)) (J0 SE X77)
theorem rA (x0 : Str) (x10 : Int) (w3009 : List Str) : Le (Option.map bX (jA x0 x10 w3009)) (aoT x0 x10 (List.map aV w3009)) := by
 refine Le.trans ?_ (le_of_eq ((bU ak5).trans (aoO ..)).symm)
 unfold jA
 refine lG (by simp only [EN]) ?_
 refine lG (by simp only [EN]) ?_
 exact aG (by first | rfl | simp only [EN, bX] <;> rfl)
theorem y9 : ∀ (fu : Nat) (x0 x1 : Str) (x2 x3 x10 : Int) (w3009 : List Str), Le (Option.map bX (fQ fu x0 x1 x2 x3 x10 w3009)) (aoX x0 x1 x2 x3 x10 (List.map aV w3009)) := by
 intro fu
 induction fu with
 | zero => intros; exact le_none
 | succ fu ih =>
  intro x0 x1 x2 x3 x10 w3009
  refine Le.trans ?_ (le_of_eq ((bU ak5).trans (apF ..)).symm)
  unfold fQ
  refine lC ?_ ?_
  ·refine lQ eX bA (xM _ _) fun r1 _ => ?_
   refine lC ?_ ?_
   ·exact rA x0 x10 w3009
   ·refine lF ?_
    refine lG (by simp only [EN]) ?_
    refine lF ?_
    (try simp only [EN]); exact ih (eQ x0 (some (w6 (r1 + (List.length x1 : Int)))) none) x1 x2 x3 (w6 (x10 + 1)) ((List.set w3009 (Int.toNat x10) (eQ x0 none (some (w6 (r1 + x2))))))
  ·exact rA x0 x10 w3009
theorem rJ (x0 x1 : Str) (x2 x3 : Int) : Le (Option.map bX (jO x0 x1 x2 x3)) (aqV x0 x1 x2 x3) := by
 refine Le.trans ?_ (le_of_eq ((bU ak5).trans (arj ..)).symm)
 unfold jO
 refine lF ?_
 (try simp only [EN]); exact y9 fuel x0 x1 x2 ((w6 ((if (w6 ((List.length x0 : Int) + 1)) < x3 then (w6 ((List.length x0 : Int) + 1)) else x3) - 1))) 0 ((List.replicate (Int.toNat (if (w6 ((List.length x0 : Int) + 1)) < x3 then (w6 ((List.length x0 : Int) + 1)) else x3)) (default : Str)))
theorem ach (p0 p1 : Str) (p2 p3 : Int) : Le (Option.map bX (n5 p0 p1 p2 p3)) (bE SE 77 [.d (.str p0), .d (.str p1), .d (.int .i64 p2), .d (.int .i64 p3)] [] []) := by
 refine bB ak5 rfl ?_
 refine Le.trans ?_ (le_of_eq (T77 ..).symm)
 unfold n5
 refine lC ?_ ?_
 ·exact aG rfl
 ·refine lC ?_ ?_
  ·exact le_none
  ·refine lC ?_ ?_
   ·refine lQ eX bA (aew _ _) fun r0 _ => ?_
    exact rJ p0 p1 p2 (w6 (r0 + 1))
   ·exact rJ p0 p1 p2 p3
section
variable (Γ : Fun) (γ77 : Gm ((List Str))) (Λ2 J : Lam)
def C75 : aS := bM (aR Γ) 77 bX γ77
theorem T75 (p0 p1 : Str) : bV SE (C75 Γ γ77) Λ2 J 75 [.d (.str p0), .d (.str p1)] [] [] =
 γ77 [.d (.str p0), .d (.str p1), .d (.int .i64 0), .d (.int .i64 (-1))] [] [] fun r0 =>
 (some (.ret [.d (.sl [.str] (List.map aV r0))] [] [])) := by kernel_rfl
end
abbrev X75 : aS := C75 gG (cT 77 bX)
theorem asI : X75 = aR gG := by unfold X75 C75; rw [bP fun _ h => h]
theorem aex (p0 p1 : Str) : Le (Option.map bX (oT p0 p1)) (bE SE 75 [.d (.str p0), .d (.str p1)] [] []) := by
 refine bB asI rfl ?_
 refine Le.trans ?_ (le_of_eq (T75 ..).symm)
 unfold oT
 refine lQ eX n8 (ach _ _ _ _) fun r0 _ => ?_
 exact aG rfl
section
variable (Γ : Fun) (γ75 : Gm ((List Str))) (Λ2 J : Lam)
def C71 : aS := bM (aR Γ) 75 bX γ75
theorem T71 (p0 : Str) : bV SE (C71 Γ γ75) Λ2 J 71 [.d (.str p0)] [] [] =
 γ75 [.d (.str p0), .d (.str ([47] : Str))] [] [] fun r0 =>
 (some (.ret [.d (.sl [.str] (List.map aV r0))] [] [])) := by kernel_rfl
end
abbrev X71 : aS := C71 gG (cT 75 bX)
theorem ar7 : X71 = aR gG := by unfold X71 C71; rw [bP fun _ h => h]
theorem af0 (p0 : Str) : Le (Option.map bX (qB p0)) (bE SE 71 [.d (.str p0)] [] []) := by
 refine bB ar7 rfl ?_
 refine Le.trans ?_ (le_of_eq (T71 ..).symm)
 unfold qB
 refine lQ eX n8 (aex _ _) fun r0 _ => ?_
 exact aG rfl
def adA (C : aS) (Λ2 J : Lam) (a0 : List (List D)) (a1 : Bool) (a2 : Int) (a3 : Str) (a4 : List (List D)) (a5 a6 : Int) (a7 : Str) (a8 : Nat) : Res := lab SE C Λ2 J 65 0 [1, 0, 1, 1, 1, 1, 0, 1, 0, 0, 1, 1, 0, 0, 1, 1, 0] (bN [(3, .d (.sl [.str] a0)), (4, .d (.bool a1)), (5, .d (.int .i64 a2)), (6, .d (.str a3)), (15, .d (.sl [.str] a4)), (16, .d (.int .i64 a5)), (17, .d (.int .i64 a6)), (23, .it 4000)] [] [] [(4000, (a7, a8))] [])
def ak7 (C : aS) (Λ2 J : Lam) (a0 : List (List D)) (a1 : Bool) (a2 : List (List D)) (a3 a4 : Int) : Res := lab SE C Λ2 J 65 0 [1, 0, 1, 1, 1, 1, 0, 1, 0] (bN [(3, .d (.sl [.str] a0)), (4, .d (.bool a1)), (15, .d (.sl [.str] a2)), (16, .d (.int .i64 a3)), (17, .d (.int .i64 a4))] [] [] [] [])
section
variable (Γ : Fun) (γ67 : Gm (Bool)) (γ71 : Gm ((List Str))) (Λ2 J : Lam)
def C65 : aS := bM (bM (aR Γ) 67 aH γ67) 71 bX γ71
theorem T65 (p0 : Str) : bV SE (C65 Γ γ67 γ71) Λ2 J 65 [.d (.str p0)] [] [] =
 γ67 [.d (.str p0)] [] [] fun r0 =>
 cond (!r0) (
 (rB false)) (
 γ71 [.d (.str p0)] [] [] fun r1 =>
 ak7 (C65 Γ γ67 γ71) Λ2 J (List.map aV r1) true (List.map aV r1) (lM aV r1 : Int) 0) := by kernel_rfl
theorem aqc (x3 : List Str) (x4 : Bool) (x5 : Int) (x6 : Str) (x15 : List Str) (x16 x17 : Int) (s4000 : Str) (i4000 : Nat) : dY SE (C65 Γ γ67 γ71) Λ2 J 65 0 [1, 0, 1, 1, 1, 1, 0, 1, 0, 0, 1, 1, 0, 0, 1, 1, 0] (bN [(3, .d (.sl [.str] (List.map aV x3))), (4, .d (.bool x4)), (5, .d (.int .i64 x5)), (6, .d (.str x6)), (15, .d (.sl [.str] (List.map aV x15))), (16, .d (.int .i64 x16)), (17, .d (.int .i64 x17)), (23, .it 4000)] [] [] [(4000, (s4000, i4000))] []) =
 cond (decide (i4000 < List.length s4000)) (
 cond (((dec s4000 i4000).1 : Int) == 43) (
  cond (!((List.length x6 : Int) == 1)) (
  (rB false)) (
  cond (((dec s4000 i4000).1 : Int) == 35) (
  cond (!((List.length x6 : Int) == 1)) (
   (rB false)) (
  cond (decide (x5 < (w6 ((lM aV x3 : Int) - 1)))) (
   (rB false)) (
  adA (C65 Γ γ67 γ71) Λ2 J (List.map aV x3) x4 x5 x6 (List.map aV x15) x16 x17 s4000 (i4000 + (dec s4000 i4000).2)))) (
  adA (C65 Γ γ67 γ71) Λ2 J (List.map aV x3) x4 x5 x6 (List.map aV x15) x16 x17 s4000 (i4000 + (dec s4000 i4000).2)))) (
 cond (((dec s4000 i4000).1 : Int) == 35) (
  cond (!((List.length x6 : Int) == 1)) (
  (rB false)) (
  cond (decide (x5 < (w6 ((lM aV x3 : Int) - 1)))) (
  (rB false)) (
  adA (C65 Γ γ67 γ71) Λ2 J (List.map aV x3) x4 x5 x6 (List.map aV x15) x16 x17 s4000 (i4000 + (dec s4000 i4000).2)))) (
 adA (C65 Γ γ67 γ71) Λ2 J (List.map aV x3) x4 x5 x6 (List.map aV x15) x16 x17 s4000 (i4000 + (dec s4000 i4000).2)))) (
 ak7 (C65 Γ γ67 γ71) Λ2 J (List.map aV x3) x4 (List.map aV x15) x16 (w6 (x17 + 1))) := by kernel_rfl
theorem aqi (x3 : List Str) (x4 : Bool) (x15 : List Str) (x16 x17 : Int) : dY SE (C65 Γ γ67 γ71) Λ2 J 65 0 [1, 0, 1, 1, 1, 1, 0, 1, 0] (bN [(3, .d (.sl [.str] (List.map aV x3))), (4, .d (.bool x4)), (15, .d (.sl [.str] (List.map aV x15))), (16, .d (.int .i64 x16)), (17, .d (.int .i64 x17))] [] [] [] []) =
 cond (decide (x17 < x16)) (
 cond (iB x17 (lM aV x15 : Int)) (
  adA (C65 Γ γ67 γ71) Λ2 J (List.map aV x3) x4 x17 ((bT (cE aV x15 x17 0))) (List.map aV x15) x16 x17 ((bT (cE aV x15 x17 0))) 0) none) (
 (rB x4)) := by kernel_rfl
end
abbrev X65 : aS := C65 gG (cT 67 aH) (cT 71 bX)
theorem ams : X65 = aR gG := by unfold X65 C65; repeat rw [bP fun _ h => h]
abbrev aqR := adA X65 (dM SE gG (SE.hl 65) (SE.hr 65)) (J0 SE X65)
abbrev an0 := ak7 X65 (dM SE gG (SE.hl 65) (SE.hr 65)) (J0 SE X65)
theorem acy : ∀ (fu : Nat) (k6 : (List Str) → Bool → (List Str) → Int → Int → Option (Bool)) (hk6 : ∀ (x3 : List Str) (x4 : Bool) (x15 : List Str) (x16 x17 : Int), Le (Option.map aH (k6 x3 x4 x15 x16 x17)) (an0 (List.map aV x3) x4 (List.map aV x15) x16 x17)) (x3 : List Str) (x4 : Bool) (x5 : Int) (x6 : Str) (x15 : List Str) (x16 x17 : Int) (s4000 : Str) (i4000 : Nat), Le (Option.map aH (eT fu k6 x3 x4 x5 x6 x15 x16 x17 s4000 i4000)) (aqR (List.map aV x3) x4 x5 x6 (List.map aV x15) x16 x17 s4000 i4000) := by
 intro fu
 induction fu with
 | zero => intros; exact le_none
 | succ fu ih =>
  intro k6 hk6 x3 x4 x5 x6 x15 x16 x17 s4000 i4000
  refine Le.trans ?_ (le_of_eq ((bU ams).trans (aqc ..)).symm)
  unfold eT
  refine lC ?_ ?_
  ·refine lC ?_ ?_
   ·refine lC ?_ ?_
    ·exact aG rfl
    ·refine lC ?_ ?_
     ·refine lC ?_ ?_
      ·exact aG rfl
      ·refine lD (by simp only [EN]) ?_ ?_
       ·exact aG rfl
       ·exact ih _ hk6 x3 x4 x5 x6 x15 x16 x17 s4000 (i4000 + (dec s4000 i4000).2)
     ·exact ih _ hk6 x3 x4 x5 x6 x15 x16 x17 s4000 (i4000 + (dec s4000 i4000).2)
   ·refine lC ?_ ?_
    ·refine lC ?_ ?_
     ·exact aG rfl
     ·refine lD (by simp only [EN]) ?_ ?_
      ·exact aG rfl
      ·exact ih _ hk6 x3 x4 x5 x6 x15 x16 x17 s4000 (i4000 + (dec s4000 i4000).2)
    ·exact ih _ hk6 x3 x4 x5 x6 x15 x16 x17 s4000 (i4000 + (dec s4000 i4000).2)
  ·exact hk6 x3 x4 x15 x16 (w6 (x17 + 1))
theorem acW : ∀ (fu : Nat) (x3 : List Str) (x4 : Bool) (x15 : List Str) (x16 x17 : Int), Le (Option.map aH (iU fu x3 x4 x15 x16 x17)) (an0 (List.map aV x3) x4 (List.map aV x15) x16 x17) := by
 intro fu
 induction fu with
 | zero => intros; exact le_none
 | succ fu ih =>
  intro x3 x4 x15 x16 x17
  refine Le.trans ?_ (le_of_eq ((bU ams).trans (aqi ..)).symm)
  unfold iU
  refine lC ?_ ?_
  ·refine lG (by simp only [EN]) ?_
   (try simp only [EN]); exact acy fuel _ (ih) x3 x4 x17 (List.getD x15 (Int.toNat x17) default) x15 x16 x17 (List.getD x15 (Int.toNat x17) default) 0
  ·exact aG rfl
theorem aaa (p0 : Str) : Le (Option.map aH (nD p0)) (bE SE 65 [.d (.str p0)] [] []) := by
 refine bB ams rfl ?_
 refine Le.trans ?_ (le_of_eq (T65 ..).symm)
 unfold nD
 refine lQ eX aU (aa9 _) fun r0 _ => ?_
 refine lC ?_ ?_
 ·exact aG rfl
 ·refine lQ eX n8 (af0 _) fun r1 _ => ?_
  (try simp only [EN]); exact acW fuel r1 true r1 (List.length r1 : Int) 0
section
variable (Γ : Fun) (γ72 : Gm (Bool)) (Λ2 J : Lam)
def C66 : aS := bM (aR Γ) 72 aH γ72
theorem T66 (p0 p1 : Str) : bV SE (C66 Γ γ72) Λ2 J 66 [.d (.str p0), .d (.str p1)] [] [] =
 γ72 [.d (.str p0), .d (.str p1)] [] [] fun r0 =>
 (rB r0) := by kernel_rfl
end
abbrev X66 : aS := C66 gG (cT 72 aH)
theorem arX : X66 = aR gG := by unfold X66 C66; rw [bP fun _ h => h]
theorem tQ (p0 p1 : Str) : Le (Option.map aH (jE p0 p1)) (bE SE 66 [.d (.str p0), .d (.str p1)] [] []) := by
 refine bB arX rfl ?_
 refine Le.trans ?_ (le_of_eq (T66 ..).symm)
 unfold jE
 refine lQ eX aU (qE _ _) fun r0 _ => ?_
 exact aG rfl
section
variable (Γ : Fun) (γ69 : Gm (Str × Bool)) (γ70 : Gm (Str × Str × Bool)) (γ55 γ65 γ66 : Gm (Bool)) (Λ2 J : Lam)
def C64 : aS := bM (bM (bM (bM (bM (aR Γ) 69 cK γ69) 70 cI γ70) 55 aH γ55) 65 aH γ65) 66 aH γ66
theorem T64 (p0 : Str) : bV SE (C64 Γ γ69 γ70 γ55 γ65 γ66) Λ2 J 64 [.d (.str p0)] [] [] =
 γ69 [.d (.str p0), .d (.str ([36, 115, 104, 97, 114, 101, 47] : Str))] [] [] fun r0 =>
 cond (!r0.2) (
 (some (.ret [.d (.str []), .d (.str []), .d (.bool false)] [] []))) (
 γ70 [.d (.str r0.1), .d (.str ([47] : Str))] [] [] fun r1 =>
 cond (!r1.2.2) (
 (some (.ret [.d (.str []), .d (.str []), .d (.bool false)] [] []))) (
 γ55 [.d (.str r1.1)] [] [] fun r2 =>
 cond (!r2) (
 (some (.ret [.d (.str []), .d (.str []), .d (.bool false)] [] []))) (
 γ65 [.d (.str r1.2.1)] [] [] fun r3 =>
 cond (!r3) (
 (some (.ret [.d (.str []), .d (.str []), .d (.bool false)] [] []))) (
 γ66 [.d (.str r1.2.1), .d (.str ([36, 115, 104, 97, 114, 101, 47] : Str))] [] [] fun r4 =>
 cond r4 (
 (some (.ret [.d (.str []), .d (.str []), .d (.bool false)] [] []))) (
 (some (.ret [.d (.str r1.1), .d (.str r1.2.1), .d (.bool true)] [] []))))))) := by kernel_rfl
end
abbrev X64 : aS := C64 gG (cT 69 cK) (cT 70 cI) (cT 55 aH) (cT 65 aH) (cT 66 aH)
theorem asq : X64 = aR gG := by unfold X64 C64; repeat rw [bP fun _ h => h]
theorem afS (p0 : Str) : Le (Option.map cI (p9 p0)) (bE SE 64 [.d (.str p0)] [] []) := by
 refine bB asq rfl ?_
 refine Le.trans ?_ (le_of_eq (T64 ..).symm)
 unfold p9
 refine lQ eX pF (abg _ _) fun r0 _ => ?_
 refine lC ?_ ?_
 ·exact aG rfl
 ·refine lQ eX pA (agk _ _) fun r1 _ => ?_
  refine lC ?_ ?_
  ·exact aG rfl
  ·refine lQ eX aU (rT _) fun r2 _ => ?_
   refine lC ?_ ?_
   ·exact aG rfl
   ·refine lQ eX aU (aaa _) fun r3 _ => ?_
    refine lC ?_ ?_
    ·exact aG rfl
    ·refine lQ eX aU (tQ _ _) fun r4 _ => ?_
     refine lC ?_ ?_
     ·exact aG rfl
     ·exact aG rfl
section
variable (Γ : Fun) (γ64 : Gm (Str × Str × Bool)) (γ65 γ66 : Gm (Bool)) (Λ2 J : Lam)
def C58 : aS := bM (bM (bM (aR Γ) 64 cI γ64) 65 aH γ65) 66 aH γ66
theorem T58 (p0 : Str) : bV SE (C58 Γ γ64 γ65 γ66) Λ2 J 58 [.d (.str p0)] [] [] =
 γ64 [.d (.str p0)] [] [] fun r0 =>
 cond r0.2.2 (
 (some (.ret [.d (.bool true), .d (.bool true)] [] []))) (
 γ65 [.d (.str p0)] [] [] fun r1 =>
 cond r1 (
 γ66 [.d (.str p0), .d (.str ([36, 115, 104, 97, 114, 101, 47] : Str))] [] [] fun r2 =>
 (some (.ret [.d (.bool (!r2)), .d (.bool false)] [] []))) (
 (some (.ret [.d (.bool false), .d (.bool false)] [] [])))) := by kernel_rfl
end
abbrev X58 : aS := C58 gG (cT 64 cI) (cT 65 aH) (cT 66 aH)
theorem asn : X58 = aR gG := by unfold X58 C58; repeat rw [bP fun _ h => h]
theorem xW (p0 : Str) : Le (Option.map fX (mK p0)) (bE SE 58 [.d (.str p0)] [] []) := by
 refine bB asn rfl ?_
 refine Le.trans ?_ (le_of_eq (T58 ..).symm)
 unfold mK
 refine lQ eX pA (afS _) fun r0 _ => ?_
 refine lC ?_ ?_
 ·exact aG rfl
 ·refine lQ eX aU (aaa _) fun r1 _ => ?_
  refine lC ?_ ?_
  ·refine lQ eX aU (tQ _ _) fun r2 _ => ?_
   exact aG rfl
  ·exact aG rfl
def ahG (C : aS) (Λ2 J : Lam) (a0 : List (List D)) (a1 a2 : Int) : Res := lab SE C Λ2 J 39 0 [1, 1, 0, 1, 0] (bN [(18, .d (.sl aF.ks a0)), (19, .d (.int .i64 a1)), (20, .d (.int .i64 a2))] [] [] [] [])
section
variable (Γ : Fun) (γ57 : Gm (Int)) (γ58 : Gm (Bool × Bool)) (γ32 : Gm (Bool)) (Λ2 J : Lam)
def C39 : aS := bM (bM (bM (aR Γ) 57 aJ γ57) 58 fX γ58) 32 aH γ32
theorem T39 (p0 : aA) : bV SE (C39 Γ γ57 γ58 γ32) Λ2 J 39 [aA.av p0] [] [] =
 γ57 [.d (.int .i64 p0.ID), .d (.int .i64 (lM aF.enc p0.Subs : Int))] [] [] fun r0 =>
 cond (r0 != 0) (
 (rI r0)) (
 ahG (C39 Γ γ57 γ58 γ32) Λ2 J (List.map aF.enc p0.Subs) (lM aF.enc p0.Subs : Int) 0) := by kernel_rfl
theorem ap6 (x18 : List aF) (x19 x20 : Int) : dY SE (C39 Γ γ57 γ58 γ32) Λ2 J 39 0 [1, 1, 0, 1, 0] (bN [(18, .d (.sl aF.ks (List.map aF.enc x18))), (19, .d (.int .i64 x19)), (20, .d (.int .i64 x20))] [] [] [] []) =
 cond (decide (x20 < x19)) (
 cond (iB x20 (lM aF.enc x18 : Int)) (
  γ58 [.d (.str (bT (cE aF.enc x18 x20 0)))] [] [] fun r1 =>
  cond (!r1.1) (
  (rI 13)) (
  γ32 [.d (.int .i64 (aY (cE aF.enc x18 x20 1))), .d (.int .i64 0), .d (.int .i64 2)] [] [] fun r2 =>
  cond (!r2) (
  (rI 14)) (
  cond (bZ (cE aF.enc x18 x20 2)) (
  cond r1.2 (
   (rI 28)) (
  ahG (C39 Γ γ57 γ58 γ32) Λ2 J (List.map aF.enc x18) x19 (w6 (x20 + 1)))) (
  ahG (C39 Γ γ57 γ58 γ32) Λ2 J (List.map aF.enc x18) x19 (w6 (x20 + 1)))))) none) (
 (rI 0)) := by kernel_rfl
end
abbrev X39 : aS := C39 gG (cT 57 aJ) (cT 58 fX) (cT 32 aH)
theorem aoM : X39 = aR gG := by unfold X39 C39; repeat rw [bP fun _ h => h]
abbrev aqy := ahG X39 (dM SE gG (SE.hl 39) (SE.hr 39)) (J0 SE X39)
theorem aaE : ∀ (fu : Nat) (x18 : List aF) (x19 x20 : Int), Le (Option.map aJ (eG fu x18 x19 x20)) (aqy (List.map aF.enc x18) x19 x20) := by
 intro fu
 induction fu with
 | zero => intros; exact le_none
 | succ fu ih =>
  intro x18 x19 x20
  refine Le.trans ?_ (le_of_eq ((bU aoM).trans (ap6 ..)).symm)
  unfold eG
  refine lC ?_ ?_
  ·refine lG (by simp only [EN]) ?_
   refine lQ eX wF (by (try simp only [EN]); exact xW ((List.getD x18 (Int.toNat x20) default).Filter)) fun r1 _ => ?_
   refine lC ?_ ?_
   ·exact aG rfl
   ·refine lQ eX aU (by (try simp only [EN]); exact eF ((List.getD x18 (Int.toNat x20) default).Level) 0 2) fun r2 _ => ?_
    refine lC ?_ ?_
    ·exact aG rfl
    ·refine lD (by simp only [EN]) ?_ ?_
     ·refine lC ?_ ?_
      ·exact aG rfl
      ·exact ih x18 x19 (w6 (x20 + 1))
     ·exact ih x18 x19 (w6 (x20 + 1))
  ·exact aG rfl
theorem aci (p0 : aA) : Le (Option.map aJ (mA p0)) (bE SE 39 [aA.av p0] [] []) := by
 refine bB aoM rfl ?_
 refine Le.trans ?_ (le_of_eq (T39 ..).symm)
 unfold mA
 refine lQ eX bA (by (try simp only [EN]); exact rC p0.ID (List.length p0.Subs : Int)) fun r0 _ => ?_
 refine lC ?_ ?_
 ·exact aG rfl
 ·(try simp only [EN]); exact aaE fuel p0.Subs (List.length p0.Subs : Int) 0
def ako (C : aS) (Λ2 J : Lam) (a0 : List (List D)) (a1 a2 : Int) : Res := lab SE C Λ2 J 40 0 [1, 1, 0, 1, 0] (bN [(16, .d (.sl [.int .i64] a0)), (17, .d (.int .i64 a1)), (18, .d (.int .i64 a2))] [] [] [] [])
section
variable (Γ : Fun) (γ57 : Gm (Int)) (γ36 : Gm (Bool)) (Λ2 J : Lam)
def C40 : aS := bM (bM (aR Γ) 57 aJ γ57) 36 aH γ36
theorem T40 (p0 : aA) : bV SE (C40 Γ γ57 γ36) Λ2 J 40 [aA.av p0] [] [] =
 γ57 [.d (.int .i64 p0.ID), .d (.int .i64 (lM eI p0.Codes : Int))] [] [] fun r0 =>
 cond (r0 != 0) (
 (rI r0)) (
 ako (C40 Γ γ57 γ36) Λ2 J (List.map eI p0.Codes) (lM eI p0.Codes : Int) 0) := by kernel_rfl
theorem arA (x16 : List Int) (x17 x18 : Int) : dY SE (C40 Γ γ57 γ36) Λ2 J 40 0 [1, 1, 0, 1, 0] (bN [(16, .d (.sl [.int .i64] (List.map eI x16))), (17, .d (.int .i64 x17)), (18, .d (.int .i64 x18))] [] [] [] []) =
 cond (decide (x18 < x17)) (
 cond (iB x18 (lM eI x16 : Int)) (
  γ36 [.d (.int .i64 (aY (cE eI x16 x18 0)))] [] [] fun r1 =>
  cond (!r1) (
  (rI 1)) (
  ako (C40 Γ γ57 γ36) Λ2 J (List.map eI x16) x17 (w6 (x18 + 1)))) none) (
 (rI 0)) := by kernel_rfl
end
abbrev X40 : aS := C40 gG (cT 57 aJ) (cT 36 aH)
theorem aoK : X40 = aR gG := by unfold X40 C40; repeat rw [bP fun _ h => h]
abbrev ap4 := ako X40 (dM SE gG (SE.hl 40) (SE.hr 40)) (J0 SE X40)
theorem adn : ∀ (fu : Nat) (x16 : List Int) (x17 x18 : Int), Le (Option.map aJ (hO fu x16 x17 x18)) (ap4 (List.map eI x16) x17 x18) := by
 intro fu
 induction fu with
 | zero => intros; exact le_none
 | succ fu ih =>
  intro x16 x17 x18
  refine Le.trans ?_ (le_of_eq ((bU aoK).trans (arA ..)).symm)
  unfold hO
  refine lC ?_ ?_
  ·refine lG (by simp only [EN]) ?_
   refine lQ eX aU (by (try simp only [EN]); exact uC (List.getD x16 (Int.toNat x18) default)) fun r1 _ => ?_
   refine lC ?_ ?_
   ·exact aG rfl
   ·exact ih x16 x17 (w6 (x18 + 1))
  ·exact aG rfl
theorem zO (p0 : aA) : Le (Option.map aJ (nJ p0)) (bE SE 40 [aA.av p0] [] []) := by
 refine bB aoK rfl ?_
 refine Le.trans ?_ (le_of_eq (T40 ..).symm)
 unfold nJ
 refine lQ eX bA (by (try simp only [EN]); exact rC p0.ID (List.length p0.Codes : Int)) fun r0 _ => ?_
 refine lC ?_ ?_
 ·exact aG rfl
 ·(try simp only [EN]); exact adn fuel p0.Codes (List.length p0.Codes : Int) 0
def akd (C : aS) (Λ2 J : Lam) (a0 : List (List D)) (a1 a2 : Int) : Res := lab SE C Λ2 J 41 0 [1, 1, 0, 1, 0] (bN [(18, .d (.sl [.str] a0)), (19, .d (.int .i64 a1)), (20, .d (.int .i64 a2))] [] [] [] [])
section
variable (Γ : Fun) (γ57 : Gm (Int)) (γ58 : Gm (Bool × Bool)) (Λ2 J : Lam)
def C41 : aS := bM (bM (aR Γ) 57 aJ γ57) 58 fX γ58
theorem T41 (p0 : aA) : bV SE (C41 Γ γ57 γ58) Λ2 J 41 [aA.av p0] [] [] =
 γ57 [.d (.int .i64 p0.ID), .d (.int .i64 (lM aV p0.Filters : Int))] [] [] fun r0 =>
 cond (r0 != 0) (
 (rI r0)) (
 akd (C41 Γ γ57 γ58) Λ2 J (List.map aV p0.Filters) (lM aV p0.Filters : Int) 0) := by kernel_rfl
theorem aq1 (x18 : List Str) (x19 x20 : Int) : dY SE (C41 Γ γ57 γ58) Λ2 J 41 0 [1, 1, 0, 1, 0] (bN [(18, .d (.sl [.str] (List.map aV x18))), (19, .d (.int .i64 x19)), (20, .d (.int .i64 x20))] [] [] [] []) =
 cond (decide (x20 < x19)) (
 cond (iB x20 (lM aV x18 : Int)) (
  γ58 [.d (.str (bT (cE aV x18 x20 0)))] [] [] fun r1 =>
  cond (!r1.1) (
  (rI 13)) (
  akd (C41 Γ γ57 γ58) Λ2 J (List.map aV x18) x19 (w6 (x20 + 1)))) none) (
 (rI 0)) := by kernel_rfl
end
abbrev X41 : aS := C41 gG (cT 57 aJ) (cT 58 fX)
theorem ao0 : X41 = aR gG := by unfold X41 C41; repeat rw [bP fun _ h => h]
abbrev aqX := akd X41 (dM SE gG (SE.hl 41) (SE.hr 41)) (J0 SE X41)
theorem yI : ∀ (fu : Nat) (x18 : List Str) (x19 x20 : Int), Le (Option.map aJ (eH fu x18 x19 x20)) (aqX (List.map aV x18) x19 x20) := by
 intro fu
 induction fu with
 | zero => intros; exact le_none
 | succ fu ih =>
  intro x18 x19 x20
  refine Le.trans ?_ (le_of_eq ((bU ao0).trans (aq1 ..)).symm)
  unfold eH
  refine lC ?_ ?_
  ·refine lG (by simp only [EN]) ?_
   refine lQ eX wF (by (try simp only [EN]); exact xW (List.getD x18 (Int.toNat x20) default)) fun r1 _ => ?_
   refine lC ?_ ?_
   ·exact aG rfl
   ·exact ih x18 x19 (w6 (x20 + 1))
  ·exact aG rfl
theorem aaX (p0 : aA) : Le (Option.map aJ (kD p0)) (bE SE 41 [aA.av p0] [] []) := by
 refine bB ao0 rfl ?_
 refine Le.trans ?_ (le_of_eq (T41 ..).symm)
 unfold kD
 refine lQ eX bA (by (try simp only [EN]); exact rC p0.ID (List.length p0.Filters : Int)) fun r0 _ => ?_
 refine lC ?_ ?_
 ·exact aG rfl
 ·(try simp only [EN]); exact yI fuel p0.Filters (List.length p0.Filters : Int) 0
section
variable (Γ : Fun) (γ32 : Gm (Bool)) (γ34 : Gm (aA)) (γ33 : Gm (Bool)) (γ35 : Gm (Int)) (γ36 : Gm (Bool)) (γ37 γ38 γ39 γ40 γ41 : Gm (Int)) (Λ2 J : Lam)
def C15 : aS := bM (bM (bM (bM (bM (bM (bM (bM (bM (bM (aR Γ) 32 aH γ32) 34 kL γ34) 33 aH γ33) 35 aJ γ35) 36 aH γ36) 37 aJ γ37) 38 aJ γ38) 39 aJ γ39) 40 aJ γ40) 41 aJ γ41
theorem T15 (p0 : aA) : bV SE (C15 Γ γ32 γ34 γ33 γ35 γ36 γ37 γ38 γ39 γ40 γ41) Λ2 J 15 [aA.av p0] [] [] =
 γ32 [.d (.int .i64 p0.Kind), .d (.int .i64 1), .d (.int .i64 14)] [] [] fun r0 =>
 cond (!r0) (
 (rI 10)) (
 γ34 [aA.av p0] [] [] fun r1 =>
 γ33 [aA.av p0, aA.av r1] [] [] fun r2 =>
 cond (!r2) (
 (rI 28)) (
 cond (p0.Kind == 1) (
 γ35 [aA.av p0] [] [] fun r3 =>
 (rI r3)) (
 cond (p0.Kind == 2) (
 γ36 [.d (.int .i64 p0.Code)] [] [] fun r4 =>
 cond (!r4) (
  (rI 1)) (
 cond p0.Present (
  cond (p0.Code != 0) (
  (rI 28)) (
  (rI 0))) (
 (rI 0)))) (
 cond (p0.Kind == 14) (
 γ36 [.d (.int .i64 p0.Code)] [] [] fun r5 =>
 cond (!r5) (
  (rI 1)) (
 cond p0.Present (
  cond (p0.Code != 0) (
  (rI 28)) (
  (rI 0))) (
 (rI 0)))) (
 cond (p0.Kind == 3) (
 γ37 [aA.av p0] [] [] fun r6 =>
 (rI r6)) (
 cond (p0.Kind == 4) (
 γ38 [.d (.int .i64 p0.ID)] [] [] fun r7 =>
 (rI r7)) (
 cond (p0.Kind == 5) (
 γ38 [.d (.int .i64 p0.ID)] [] [] fun r8 =>
 (rI r8)) (
 cond (p0.Kind == 6) (
 γ38 [.d (.int .i64 p0.ID)] [] [] fun r9 =>
 (rI r9)) (
 cond (p0.Kind == 7) (
 γ38 [.d (.int .i64 p0.ID)] [] [] fun r10 =>
 (rI r10)) (
 cond (p0.Kind == 8) (
 γ39 [aA.av p0] [] [] fun r11 =>
 (rI r11)) (
 cond (p0.Kind == 9) (
 γ40 [aA.av p0] [] [] fun r12 =>
 (rI r12)) (
 cond (p0.Kind == 11) (
 γ40 [aA.av p0] [] [] fun r13 =>
 (rI r13)) (
 cond (p0.Kind == 10) (
 γ41 [aA.av p0] [] [] fun r14 =>
 (rI r14)) (
 (rI 0))))))))))))))) := by kernel_rfl
end
abbrev X15 : aS := C15 gG (cT 32 aH) (cT 34 kL) (cT 33 aH) (cT 35 aJ) (cT 36 aH) (cT 37 aJ) (cT 38 aJ) (cT 39 aJ) (cT 40 aJ) (cT 41 aJ)
theorem ar8 : X15 = aR gG := by unfold X15 C15; repeat rw [bP fun _ h => h]
theorem sT (p0 : aA) : Le (Option.map aJ (gO p0)) (bE SE 15 [aA.av p0] [] []) := by
 refine bB ar8 rfl ?_
 refine Le.trans ?_ (le_of_eq (T15 ..).symm)
 unfold gO
 refine lQ eX aU (eF _ _ _) fun r0 _ => ?_
 refine lC ?_ ?_
 ·exact aG rfl
 ·refine lQ eX afZ (af7 _) fun r1 _ => ?_
  refine lQ eX aU (agA _ _) fun r2 _ => ?_
  refine lC ?_ ?_
  ·exact aG rfl
  ·refine lC ?_ ?_
   ·refine lQ eX bA (adY _) fun r3 _ => ?_
    exact aG rfl
   ·refine lC ?_ ?_
    ·refine lQ eX aU (uC _) fun r4 _ => ?_
     refine lC ?_ ?_
     ·exact aG rfl
     ·refine lC ?_ ?_
      ·refine lC ?_ ?_
       ·exact aG rfl
       ·exact aG rfl
      ·exact aG rfl
    ·refine lC ?_ ?_
     ·refine lQ eX aU (uC _) fun r5 _ => ?_
      refine lC ?_ ?_
      ·exact aG rfl
      ·refine lC ?_ ?_
       ·refine lC ?_ ?_
        ·exact aG rfl
        ·exact aG rfl
       ·exact aG rfl
     ·refine lC ?_ ?_
      ·refine lQ eX bA (adQ _) fun r6 _ => ?_
       exact aG rfl
      ·refine lC ?_ ?_
       ·refine lQ eX bA (mU _) fun r7 _ => ?_
        exact aG rfl
       ·refine lC ?_ ?_
        ·refine lQ eX bA (mU _) fun r8 _ => ?_
         exact aG rfl
        ·refine lC ?_ ?_
         ·refine lQ eX bA (mU _) fun r9 _ => ?_
          exact aG rfl
         ·refine lC ?_ ?_
          ·refine lQ eX bA (mU _) fun r10 _ => ?_
           exact aG rfl
          ·refine lC ?_ ?_
           ·refine lQ eX bA (aci _) fun r11 _ => ?_
            exact aG rfl
           ·refine lC ?_ ?_
            ·refine lQ eX bA (zO _) fun r12 _ => ?_
             exact aG rfl
            ·refine lC ?_ ?_
             ·refine lQ eX bA (zO _) fun r13 _ => ?_
              exact aG rfl
             ·refine lC ?_ ?_
              ·refine lQ eX bA (aaX _) fun r14 _ => ?_
               exact aG rfl
              ·exact aG rfl
section
variable (Γ : Fun)  (Λ2 J : Lam)
def C43 : aS := aR Γ
theorem T43 (p0 : List Int) (p1 : Int) : bV SE (C43 Γ) Λ2 J 43 [.d (.sl [.int .u8] (List.map (aN .u8) p0)), .d (.int .i64 p1)] [] [] =
 cond (decide (0 ≤ (lM (aN .u8) p0 : Int)) && decide ((lM (aN .u8) p0 : Int) ≤ (w6 ((lM (aN .u8) p0 : Int) + p1))) && decide ((w6 ((lM (aN .u8) p0 : Int) + p1)) * 1 ≤ 281474976710656)) (
 (some (.ret [.row 0] [] [⟨[.int .u8], 5, 1, (List.take (List.length (List.replicate (Int.toNat (lM (aN .u8) p0 : Int)) [D.int .u8 0])) (List.map (aN .u8) p0) ++ List.drop (min (lM (aN .u8) p0) (List.length (List.replicate (Int.toNat (lM (aN .u8) p0 : Int)) [D.int .u8 0]))) (List.replicate (Int.toNat (lM (aN .u8) p0 : Int)) [D.int .u8 0]))⟩]))) none := by kernel_rfl
end
abbrev X43 : aS := C43 gG
theorem asY : X43 = aR gG := rfl
theorem vQ (p0 : List Int) (p1 : Int) : Le (Option.map aQ (oE p0 p1)) (bE SE 43 [.d (.sl [.int .u8] (List.map (aN .u8) p0)), .d (.int .i64 p1)] [] []) := by
 refine bB asY rfl ?_
 refine Le.trans ?_ (le_of_eq (T43 ..).symm)
 unfold oE
 refine lG (by simp only [EN]) ?_
 exact aG (by first | rfl | simp only [EN, aQ] <;> rfl)
section
variable (Γ : Fun)  (Λ2 J : Lam)
def C59 : aS := aR Γ
theorem T59 (p0 : Int) : bV SE (C59 Γ) Λ2 J 59 [.d (.int .i64 p0)] [] [] =
 (some (.ret [.d (.int .u64 (dB .xor .u64 (shl .u64 (IntKind.wrap .u64 p0) 1) (IntKind.wrap .u64 (shr .i64 p0 63))))] [] [])) := by kernel_rfl
end
abbrev X59 : aS := C59 gG
theorem asW : X59 = aR gG := rfl
theorem ai2 (p0 : Int) : Le (Option.map mI (vN p0)) (bE SE 59 [.d (.int .i64 p0)] [] []) := by
 refine bB asW rfl ?_
 refine Le.trans ?_ (le_of_eq (T59 ..).symm)
 unfold vN
 exact aG rfl
def akY (C : aS) (Λ2 J : Lam) (a0 : Int) (a1 : List (List D)) : Res := lab SE C Λ2 J 42 0 [1, 1, 0, 0] (bN [(0, .row 3000), (5, .d (.int .u64 a0))] [] [] [] [(3000, ⟨[.int .u8], 5, 1, a1⟩)])
section
variable (Γ : Fun) (γ59 : Gm (Int)) (Λ2 J : Lam)
def C42 : aS := bM (aR Γ) 59 mI γ59
theorem T42 (p0 : List Int) (p1 : Int) : bV SE (C42 Γ γ59) Λ2 J 42 [.row 2000000000, .d (.int .i64 p1)] [] [⟨[.int .u8], 5, 1, (List.map (aN .u8) p0)⟩] =
 γ59 [.d (.int .i64 p1)] [] [] fun r0 =>
 akY (C42 Γ γ59) Λ2 J r0 (List.map (aN .u8) p0) := by kernel_rfl
theorem aqM (x5 : Int) (w3000 : List Int) : dY SE (C42 Γ γ59) Λ2 J 42 0 [1, 1, 0, 0] (bN [(0, .row 3000), (5, .d (.int .u64 x5))] [] [] [] [(3000, ⟨[.int .u8], 5, 1, (List.map (aN .u8) w3000)⟩)]) =
 cond (decide (x5 > 127)) (
 cond (decide ((lM (aN .u8) w3000 + lM (aN .u8) [(dB .or .u8 (IntKind.wrap .u8 (dB .and .u64 x5 127)) 128)]) * 1 ≤ 140737488355328)) (
  akY (C42 Γ γ59) Λ2 J (shr .u64 x5 7) (((List.map (aN .u8) w3000) ++ (List.map (aN .u8) [(dB .or .u8 (IntKind.wrap .u8 (dB .and .u64 x5 127)) 128)])))) none) (
 cond (decide ((lM (aN .u8) w3000 + lM (aN .u8) [(IntKind.wrap .u8 x5)]) * 1 ≤ 140737488355328)) (
 (some (.ret [.row 0] [] [⟨[.int .u8], 5, 1, ((List.map (aN .u8) w3000) ++ (List.map (aN .u8) [(IntKind.wrap .u8 x5)]))⟩]))) none) := by kernel_rfl
end
abbrev X42 : aS := C42 gG (cT 59 mI)
theorem apw : X42 = aR gG := by unfold X42 C42; rw [bP fun _ h => h]
abbrev ars := akY X42 (dM SE gG (SE.hl 42) (SE.hr 42)) (J0 SE X42)
theorem agv : ∀ (fu : Nat) (x5 : Int) (w3000 : List Int), Le (Option.map aQ (lN fu x5 w3000)) (ars x5 (List.map (aN .u8) w3000)) := by
 intro fu
 induction fu with
 | zero => intros; exact le_none
 | succ fu ih =>
  intro x5 w3000
  refine Le.trans ?_ (le_of_eq ((bU apw).trans (aqM ..)).symm)
  unfold lN
  refine lC ?_ ?_
  ·refine lG (by simp only [EN]) ?_
   (try simp only [EN]); exact ih (shr .u64 x5 7) (w3000 ++ [(dB .or .u8 (IntKind.wrap .u8 (dB .and .u64 x5 127)) 128)])
  ·refine lG (by simp only [EN]) ?_
   exact aG (by first | rfl | simp only [EN, aQ] <;> rfl)
theorem uR (p0 : List Int) (p1 : Int) : Le (Option.map aQ (nA p0 p1)) (bE SE 42 [.row 2000000000, .d (.int .i64 p1)] [] [⟨[.int .u8], 5, 1, (List.map (aN .u8) p0)⟩]) := by
 refine bB apw rfl ?_
 refine Le.trans ?_ (le_of_eq (T42 ..).symm)
 unfold nA
 refine lQ eX ahp (ai2 _) fun r0 _ => ?_
 exact agv fuel r0 p0
section
variable (Γ : Fun) (γ43 γ42 : Gm ((List Int))) (Λ2 J : Lam)
def C16 : aS := bM (bM (aR Γ) 43 aQ γ43) 42 aQ γ42
theorem T16 (p0 : List Int) (p1 : Int) : bV SE (C16 Γ γ43 γ42) Λ2 J 16 [.d (.sl [.int .u8] (List.map (aN .u8) p0)), .d (.int .i64 p1)] [] [] =
 γ43 [.d (.sl [.int .u8] (List.map (aN .u8) p0)), .d (.int .i64 10)] [] [] fun r0 =>
 γ42 [.row 2000000000, .d (.int .i64 p1)] [] [⟨[.int .u8], 5, 1, (List.map (aN .u8) r0)⟩] fun r1 =>
 (some (.ret [.row 0] [] [⟨[.int .u8], 5, 1, (List.map (aN .u8) r1)⟩])) := by kernel_rfl
end
abbrev X16 : aS := C16 gG (cT 43 aQ) (cT 42 aQ)
theorem asz : X16 = aR gG := by unfold X16 C16; repeat rw [bP fun _ h => h]
theorem bR (p0 : List Int) (p1 : Int) : Le (Option.map aQ (bS p0 p1)) (bE SE 16 [.d (.sl [.int .u8] (List.map (aN .u8) p0)), .d (.int .i64 p1)] [] []) := by
 refine bB asz rfl ?_
 refine Le.trans ?_ (le_of_eq (T16 ..).symm)
 unfold bS
 refine lQ eX aW (vQ _ _) fun r0 _ => ?_
 refine lQ eX aW (uR _ _) fun r1 _ => ?_
 exact aG rfl
section
variable (Γ : Fun) (γ43 γ42 : Gm ((List Int))) (Λ2 J : Lam)
def C44 : aS := bM (bM (aR Γ) 43 aQ γ43) 42 aQ γ42
theorem T44 (p0 : List Int) (p1 : Str) : bV SE (C44 Γ γ43 γ42) Λ2 J 44 [.d (.sl [.int .u8] (List.map (aN .u8) p0)), .d (.str p1)] [] [] =
 γ43 [.d (.sl [.int .u8] (List.map (aN .u8) p0)), .d (.int .i64 (w6 (10 + (List.length p1 : Int))))] [] [] fun r0 =>
 γ42 [.row 2000000000, .d (.int .i64 (List.length p1 : Int))] [] [⟨[.int .u8], 5, 1, (List.map (aN .u8) r0)⟩] fun r1 =>
 cond (decide ((lM (aN .u8) r1 + List.length (eP p1)) * 1 ≤ 140737488355328)) (
 (some (.ret [.row 0] [] [⟨[.int .u8], 5, 1, ((List.map (aN .u8) r1) ++ (eP p1))⟩]))) none := by kernel_rfl
end
abbrev X44 : aS := C44 gG (cT 43 aQ) (cT 42 aQ)
theorem ar5 : X44 = aR gG := by unfold X44 C44; repeat rw [bP fun _ h => h]
theorem hJ (p0 : List Int) (p1 : Str) : Le (Option.map aQ (fR p0 p1)) (bE SE 44 [.d (.sl [.int .u8] (List.map (aN .u8) p0)), .d (.str p1)] [] []) := by
 refine bB ar5 rfl ?_
 refine Le.trans ?_ (le_of_eq (T44 ..).symm)
 unfold fR
 refine lQ eX aW (vQ _ _) fun r0 _ => ?_
 refine lQ eX aW (uR _ _) fun r1 _ => ?_
 refine lG (by simp only [EN]) ?_
 exact aG (by first | rfl | simp only [EN, aQ] <;> rfl)
def anO (C : aS) (Λ2 J : Lam) (a0 : List (List D)) (a1 a2 a3 : Int) (a4 : Bool) : Res := lab SE C Λ2 J 18 0 [1, 1, 0, 1, 0, 0, 1, 0, 0, 0] (bN [(0, .d (.sl [.bool] a0)), (3, .d (.int .i64 a1)), (4, .d (.int .i64 a2)), (10, .d (.int .i64 a3)), (11, .d (.bool a4))] [] [] [] [])
def ahI (C : aS) (Λ2 J : Lam) (a0 : List (List D)) (a1 a2 : Int) : Res := lab SE C Λ2 J 18 0 [1, 1, 0, 1, 0] (bN [(0, .d (.sl [.bool] a0)), (3, .d (.int .i64 a1)), (4, .d (.int .i64 a2))] [] [] [] [])
section
variable (Γ : Fun)  (Λ2 J : Lam)
def C18 : aS := aR Γ
theorem T18 (p0 : List Bool) : bV SE (C18 Γ) Λ2 J 18 [.d (.sl [.bool] (List.map hZ p0))] [] [] =
 ahI (C18 Γ) Λ2 J (List.map hZ p0) 0 0 := by kernel_rfl
theorem aqd (x0 : List Bool) (x3 x4 x10 : Int) (x11 : Bool) : dY SE (C18 Γ) Λ2 J 18 0 [1, 1, 0, 1, 0, 0, 1, 0, 0, 0] (bN [(0, .d (.sl [.bool] (List.map hZ x0))), (3, .d (.int .i64 x3)), (4, .d (.int .i64 x4)), (10, .d (.int .i64 x10)), (11, .d (.bool x11))] [] [] [] []) =
 cond (iB x4 (lM hZ x0 : Int)) (
 cond (bZ (cE hZ x0 x4 0)) (
  cond (decide (0 ≤ x4)) (
  ahI (C18 Γ) Λ2 J (List.map hZ x0) (dB .or .i64 x3 (shl .i64 1 x4)) (w6 (x4 + 1))) none) (
 ahI (C18 Γ) Λ2 J (List.map hZ x0) x3 (w6 (x4 + 1)))) none := by kernel_rfl
theorem aqZ (x0 : List Bool) (x3 x4 : Int) : dY SE (C18 Γ) Λ2 J 18 0 [1, 1, 0, 1, 0] (bN [(0, .d (.sl [.bool] (List.map hZ x0))), (3, .d (.int .i64 x3)), (4, .d (.int .i64 x4))] [] [] [] []) =
 cond (decide (x4 < (lM hZ x0 : Int))) (
 cond (decide (x4 < 32)) (
  anO (C18 Γ) Λ2 J (List.map hZ x0) x3 x4 x4 (decide (x4 < 32))) (
 (rI x3))) (
 (rI x3)) := by kernel_rfl
end
abbrev X18 : aS := C18 gG
theorem anh : X18 = aR gG := rfl
abbrev apZ := anO X18 (dM SE gG (SE.hl 18) (SE.hr 18)) (J0 SE X18)
abbrev anV := ahI X18 (dM SE gG (SE.hl 18) (SE.hr 18)) (J0 SE X18)
theorem aeG (k3 : (List Bool) → Int → Int → Option (Int)) (hk3 : ∀ (x0 : List Bool) (x3 x4 : Int), Le (Option.map aJ (k3 x0 x3 x4)) (anV (List.map hZ x0) x3 x4)) (x0 : List Bool) (x3 x4 x10 : Int) (x11 : Bool) : Le (Option.map aJ (vY k3 x0 x3 x4 x10 x11)) (apZ (List.map hZ x0) x3 x4 x10 x11) := by
 refine Le.trans ?_ (le_of_eq ((bU anh).trans (aqd ..)).symm)
 unfold vY
 refine lG (by simp only [EN]) ?_
 refine lD (by simp only [EN]) ?_ ?_
 ·refine lF ?_
  exact hk3 x0 (dB .or .i64 x3 (shl .i64 1 x4)) (w6 (x4 + 1))
 ·exact hk3 x0 x3 (w6 (x4 + 1))
theorem aeE : ∀ (fu : Nat) (x0 : List Bool) (x3 x4 : Int), Le (Option.map aJ (rV fu x0 x3 x4)) (anV (List.map hZ x0) x3 x4) := by
 intro fu
 induction fu with
 | zero => intros; exact le_none
 | succ fu ih =>
  intro x0 x3 x4
  refine Le.trans ?_ (le_of_eq ((bU anh).trans (aqZ ..)).symm)
  unfold rV
  refine lD (by simp only [EN]) ?_ ?_
  ·refine lC ?_ ?_
   ·exact aeG _ (ih) x0 x3 x4 x4 (decide (x4 < 32))
   ·exact aG rfl
  ·exact aG rfl
theorem oM (p0 : List Bool) : Le (Option.map aJ (j7 p0)) (bE SE 18 [.d (.sl [.bool] (List.map hZ p0))] [] []) := by
 refine bB anh rfl ?_
 refine Le.trans ?_ (le_of_eq (T18 ..).symm)
 unfold j7
 exact aeE fuel p0 0 0
def akk (C : aS) (Λ2 J : Lam) (a0 : List (List D)) (a1 a2 : Int) (a3 : List (List D)) : Res := lab SE C Λ2 J 19 0 [1, 1, 1, 1, 1, 1, 1, 0, 1, 0] (bN [(5, .row 3005), (45, .d (.sl aB.ks a0)), (46, .d (.int .i64 a1)), (47, .d (.int .i64 a2))] [] [] [] [(3005, ⟨[.int .u8], 5, 1, a3⟩)])
section
variable (Γ : Fun) (γ44 γ16 : Gm ((List Int))) (γ18 : Gm (Int)) (Λ2 J : Lam)
def C19 : aS := bM (bM (bM (aR Γ) 44 aQ γ44) 16 aQ γ16) 18 aJ γ18
theorem T19 (p0 : List Int) (p1 : aC) : bV SE (C19 Γ γ44 γ16 γ18) Λ2 J 19 [.d (.sl [.int .u8] (List.map (aN .u8) p0)), aC.av p1] [] [] =
 γ44 [.d (.sl [.int .u8] (List.map (aN .u8) p0)), .d (.str p1.Topic)] [] [] fun r0 =>
 γ44 [.d (.sl [.int .u8] (List.map (aN .u8) r0)), .d (.str p1.Payload)] [] [] fun r1 =>
 γ16 [.d (.sl [.int .u8] (List.map (aN .u8) r1)), .d (.int .i64 p1.Level)] [] [] fun r2 =>
 γ18 [.d (.sl [.bool] (List.map hZ [p1.Retain]))] [] [] fun r3 =>
 γ16 [.d (.sl [.int .u8] (List.map (aN .u8) r2)), .d (.int .i64 r3)] [] [] fun r4 =>
 γ16 [.d (.sl [.int .u8] (List.map (aN .u8) r4)), .d (.int .i64 p1.Priority)] [] [] fun r5 =>
 γ16 [.d (.sl [.int .u8] (List.map (aN .u8) r5)), .d (.int .i64 p1.Expires)] [] [] fun r6 =>
 γ44 [.d (.sl [.int .u8] (List.map (aN .u8) r6)), .d (.str p1.From)] [] [] fun r7 =>
 γ16 [.d (.sl [.int .u8] (List.map (aN .u8) r7)), .d (.int .i64 p1.Seq)] [] [] fun r8 =>
 γ16 [.d (.sl [.int .u8] (List.map (aN .u8) r8)), .d (.int .i64 (lM aB.enc p1.Props : Int))] [] [] fun r9 =>
 akk (C19 Γ γ44 γ16 γ18) Λ2 J (List.map aB.enc p1.Props) (lM aB.enc p1.Props : Int) 0 (List.map (aN .u8) r9) := by kernel_rfl
theorem arv (x45 : List aB) (x46 x47 : Int) (w3005 : List Int) : dY SE (C19 Γ γ44 γ16 γ18) Λ2 J 19 0 [1, 1, 1, 1, 1, 1, 1, 0, 1, 0] (bN [(5, .row 3005), (45, .d (.sl aB.ks (List.map aB.enc x45))), (46, .d (.int .i64 x46)), (47, .d (.int .i64 x47))] [] [] [] [(3005, ⟨[.int .u8], 5, 1, (List.map (aN .u8) w3005)⟩)]) =
 cond (decide (x47 < x46)) (
 cond (iB x47 (lM aB.enc x45 : Int)) (
  γ44 [.d (.sl [.int .u8] (List.map (aN .u8) w3005)), .d (.str (bT (cE aB.enc x45 x47 0)))] [] [] fun r10 =>
  γ44 [.d (.sl [.int .u8] (List.map (aN .u8) r10)), .d (.str (bT (cE aB.enc x45 x47 1)))] [] [] fun r11 =>
  akk (C19 Γ γ44 γ16 γ18) Λ2 J (List.map aB.enc x45) x46 (w6 (x47 + 1)) (List.map (aN .u8) r11)) none) (
 (some (.ret [.row 0] [] [⟨[.int .u8], 5, 1, (List.map (aN .u8) w3005)⟩]))) := by kernel_rfl
end
abbrev X19 : aS := C19 gG (cT 44 aQ) (cT 16 aQ) (cT 18 aJ)
theorem ao2 : X19 = aR gG := by unfold X19 C19; repeat rw [bP fun _ h => h]
abbrev aqS := akk X19 (dM SE gG (SE.hl 19) (SE.hr 19)) (J0 SE X19)
theorem adS : ∀ (fu : Nat) (x45 : List aB) (x46 x47 : Int) (w3005 : List Int), Le (Option.map aQ (iH fu x45 x46 x47 w3005)) (aqS (List.map aB.enc x45) x46 x47 (List.map (aN .u8) w3005)) := by
 intro fu
 induction fu with
 | zero => intros; exact le_none
 | succ fu ih =>
  intro x45 x46 x47 w3005
  refine Le.trans ?_ (le_of_eq ((bU ao2).trans (arv ..)).symm)
  unfold iH
  refine lC ?_ ?_
  ·refine lG (by simp only [EN]) ?_
   refine lQ eX aW (by (try simp only [EN]); exact hJ w3005 ((List.getD x45 (Int.toNat x47) default).Key)) fun r10 _ => ?_
   refine lQ eX aW (by (try simp only [EN]); exact hJ r10 ((List.getD x45 (Int.toNat x47) default).Value)) fun r11 _ => ?_
   exact ih x45 x46 (w6 (x47 + 1)) r11
  ·exact aG rfl
theorem aaZ (p0 : List Int) (p1 : aC) : Le (Option.map aQ (mX p0 p1)) (bE SE 19 [.d (.sl [.int .u8] (List.map (aN .u8) p0)), aC.av p1] [] []) := by
 refine bB ao2 rfl ?_
 refine Le.trans ?_ (le_of_eq (T19 ..).symm)
 unfold mX
 refine lQ eX aW (hJ _ _) fun r0 _ => ?_
 refine lQ eX aW (hJ _ _) fun r1 _ => ?_
 refine lQ eX aW (bR _ _) fun r2 _ => ?_
 refine lQ eX bA (oM _) fun r3 _ => ?_
 refine lQ eX aW (bR _ _) fun r4 _ => ?_
 refine lQ eX aW (bR _ _) fun r5 _ => ?_
 refine lQ eX aW (bR _ _) fun r6 _ => ?_
 refine lQ eX aW (hJ _ _) fun r7 _ => ?_
 refine lQ eX aW (bR _ _) fun r8 _ => ?_
 refine lQ eX aW (by (try simp only [EN]); exact bR r8 (List.length p1.Props : Int)) fun r9 _ => ?_
 (try simp only [EN]); exact adS fuel p1.Props (List.length p1.Props : Int) 0 r9
def ak1 (C : aS) (Λ2 J : Lam) (a0 a1 : Int) (a2 : List D) (a3 a4 : List (List D)) : Res := lab SE C Λ2 J 17 0 [1, 1, 1, 0, 1, 0] (bN [(3, .ptr 1000000000 0), (5, .row 3005), (30, .row 3030), (31, .d (.int .i64 a0)), (32, .d (.int .i64 a1))] [⟨33, (List.map AV.d a2)⟩] [] [] [(3005, ⟨[.int .u8], 5, 1, a3⟩), (3030, ⟨[.int .i64], 3, 8, a4⟩)])
section
variable (Γ : Fun) (γ44 : Gm ((List Int))) (γ18 : Gm (Int)) (γ16 γ19 : Gm ((List Int))) (Λ2 J : Lam)
def C17 : aS := bM (bM (bM (bM (aR Γ) 44 aQ γ44) 18 aJ γ18) 16 aQ γ16) 19 aQ γ19
theorem T17 (p0 : List Int) (p1 : aA) : bV SE (C17 Γ γ44 γ18 γ16 γ19) Λ2 J 17 [.d (.sl [.int .u8] (List.map (aN .u8) p0)), aA.av p1] [] [] =
 γ44 [.d (.sl [.int .u8] (List.map (aN .u8) p0)), .d (.str p1.Client)] [] [] fun r0 =>
 γ44 [.d (.sl [.int .u8] (List.map (aN .u8) r0)), .d (.str p1.User)] [] [] fun r1 =>
 γ18 [.d (.sl [.bool] (List.map hZ [p1.Clean, p1.Will.Set]))] [] [] fun r2 =>
 γ16 [.d (.sl [.int .u8] (List.map (aN .u8) r1)), .d (.int .i64 r2)] [] [] fun r3 =>
 ak1 (C17 Γ γ44 γ18 γ16 γ19) Λ2 J (lM eI [p1.Keep, p1.Expiry, p1.Window] : Int) 0 (aA.enc p1) (List.map (aN .u8) r3) (List.map eI [p1.Keep, p1.Expiry, p1.Window]) := by kernel_rfl
theorem aq7 (x31 x32 : Int) (b0 : aA) (w3005 w3030 : List Int) : dY SE (C17 Γ γ44 γ18 γ16 γ19) Λ2 J 17 0 [1, 1, 1, 0, 1, 0] (bN [(3, .ptr 1000000000 0), (5, .row 3005), (30, .row 3030), (31, .d (.int .i64 x31)), (32, .d (.int .i64 x32))] [⟨33, (List.map AV.d (aA.enc b0))⟩] [] [] [(3005, ⟨[.int .u8], 5, 1, (List.map (aN .u8) w3005)⟩), (3030, ⟨[.int .i64], 3, 8, (List.map eI w3030)⟩)]) =
 cond (decide (x32 < x31)) (
 cond (iB x32 (lM eI w3030 : Int)) (
  γ16 [.d (.sl [.int .u8] (List.map (aN .u8) w3005)), .d (.int .i64 (aY (cE eI w3030 x32 0)))] [] [] fun r4 =>
  ak1 (C17 Γ γ44 γ18 γ16 γ19) Λ2 J x31 (w6 (x32 + 1)) (aA.enc b0) (List.map (aN .u8) r4) (List.map eI w3030)) none) (
 cond b0.Will.Set (
 γ16 [.d (.sl [.int .u8] (List.map (aN .u8) w3005)), .d (.int .i64 b0.Will.Delay)] [] [] fun r5 =>
 γ19 [.d (.sl [.int .u8] (List.map (aN .u8) r5)), aC.av b0.Will.Message] [] [] fun r6 =>
 (some (.ret [.row 0] [] [⟨[.int .u8], 5, 1, (List.map (aN .u8) r6)⟩]))) (
 (some (.ret [.row 0] [] [⟨[.int .u8], 5, 1, (List.map (aN .u8) w3005)⟩])))) := by kernel_rfl
end
abbrev X17 : aS := C17 gG (cT 44 aQ) (cT 18 aJ) (cT 16 aQ) (cT 19 aQ)
theorem apz : X17 = aR gG := by unfold X17 C17; repeat rw [bP fun _ h => h]
abbrev aqw := ak1 X17 (dM SE gG (SE.hl 17) (SE.hr 17)) (J0 SE X17)
theorem adl : ∀ (fu : Nat) (x31 x32 : Int) (b0 : aA) (w3005 w3030 : List Int), Le (Option.map aQ (iT fu x31 x32 b0 w3005 w3030)) (aqw x31 x32 (aA.enc b0) (List.map (aN .u8) w3005) (List.map eI w3030)) := by
 intro fu
 induction fu with
 | zero => intros; exact le_none
 | succ fu ih =>
  intro x31 x32 b0 w3005 w3030
  refine Le.trans ?_ (le_of_eq ((bU apz).trans (aq7 ..)).symm)
  unfold iT
  refine lC ?_ ?_
  ·refine lG (by simp only [EN]) ?_
   refine lQ eX aW (by (try simp only [EN]); exact bR w3005 (List.getD w3030 (Int.toNat x32) default)) fun r4 _ => ?_
   exact ih x31 (w6 (x32 + 1)) b0 r4 w3030
  ·refine lC ?_ ?_
   ·refine lQ eX aW (bR _ _) fun r5 _ => ?_
    refine lQ eX aW (aaZ _ _) fun r6 _ => ?_
    exact aG rfl
   ·exact aG rfl
theorem afa (p0 : List Int) (p1 : aA) : Le (Option.map aQ (pQ p0 p1)) (bE SE 17 [.d (.sl [.int .u8] (List.map (aN .u8) p0)), aA.av p1] [] []) := by
 refine bB apz rfl ?_
 refine Le.trans ?_ (le_of_eq (T17 ..).symm)
 unfold pQ
 refine lQ eX aW (hJ _ _) fun r0 _ => ?_
 refine lQ eX aW (hJ _ _) fun r1 _ => ?_
 refine lQ eX bA (oM _) fun r2 _ => ?_
 refine lQ eX aW (bR _ _) fun r3 _ => ?_
 (try simp only [EN]); exact adl fuel (List.length [p1.Keep, p1.Expiry, p1.Window] : Int) 0 p1 r3 [p1.Keep, p1.Expiry, p1.Window]
def akn (C : aS) (Λ2 J : Lam) (a0 : List (List D)) (a1 a2 : Int) (a3 : List (List D)) : Res := lab SE C Λ2 J 20 0 [1, 1, 0, 1, 0] (bN [(5, .row 3005), (12, .d (.sl aF.ks a0)), (13, .d (.int .i64 a1)), (14, .d (.int .i64 a2))] [] [] [] [(3005, ⟨[.int .u8], 5, 1, a3⟩)])
section
variable (Γ : Fun) (γ16 γ44 : Gm ((List Int))) (γ18 : Gm (Int)) (Λ2 J : Lam)
def C20 : aS := bM (bM (bM (aR Γ) 16 aQ γ16) 44 aQ γ44) 18 aJ γ18
theorem T20 (p0 : List Int) (p1 : List aF) : bV SE (C20 Γ γ16 γ44 γ18) Λ2 J 20 [.d (.sl [.int .u8] (List.map (aN .u8) p0)), .d (.sl aF.ks (List.map aF.enc p1))] [] [] =
 γ16 [.d (.sl [.int .u8] (List.map (aN .u8) p0)), .d (.int .i64 (lM aF.enc p1 : Int))] [] [] fun r0 =>
 akn (C20 Γ γ16 γ44 γ18) Λ2 J (List.map aF.enc p1) (lM aF.enc p1 : Int) 0 (List.map (aN .u8) r0) := by kernel_rfl
theorem aqu (x12 : List aF) (x13 x14 : Int) (w3005 : List Int) : dY SE (C20 Γ γ16 γ44 γ18) Λ2 J 20 0 [1, 1, 0, 1, 0] (bN [(5, .row 3005), (12, .d (.sl aF.ks (List.map aF.enc x12))), (13, .d (.int .i64 x13)), (14, .d (.int .i64 x14))] [] [] [] [(3005, ⟨[.int .u8], 5, 1, (List.map (aN .u8) w3005)⟩)]) =
 cond (decide (x14 < x13)) (
 cond (iB x14 (lM aF.enc x12 : Int)) (
  γ44 [.d (.sl [.int .u8] (List.map (aN .u8) w3005)), .d (.str (bT (cE aF.enc x12 x14 0)))] [] [] fun r1 =>
  γ16 [.d (.sl [.int .u8] (List.map (aN .u8) r1)), .d (.int .i64 (aY (cE aF.enc x12 x14 1)))] [] [] fun r2 =>
  γ18 [.d (.sl [.bool] [[D.bool (bZ (cE aF.enc x12 x14 2))]])] [] [] fun r3 =>
  γ16 [.d (.sl [.int .u8] (List.map (aN .u8) r2)), .d (.int .i64 r3)] [] [] fun r4 =>
  akn (C20 Γ γ16 γ44 γ18) Λ2 J (List.map aF.enc x12) x13 (w6 (x14 + 1)) (List.map (aN .u8) r4)) none) (
 (some (.ret [.row 0] [] [⟨[.int .u8], 5, 1, (List.map (aN .u8) w3005)⟩]))) := by kernel_rfl
end
abbrev X20 : aS := C20 gG (cT 16 aQ) (cT 44 aQ) (cT 18 aJ)
theorem apt : X20 = aR gG := by unfold X20 C20; repeat rw [bP fun _ h => h]
abbrev ap3 := akn X20 (dM SE gG (SE.hl 20) (SE.hr 20)) (J0 SE X20)
theorem yP : ∀ (fu : Nat) (x12 : List aF) (x13 x14 : Int) (w3005 : List Int), Le (Option.map aQ (fF fu x12 x13 x14 w3005)) (ap3 (List.map aF.enc x12) x13 x14 (List.map (aN .u8) w3005)) := by
 intro fu
 induction fu with
 | zero => intros; exact le_none
 | succ fu ih =>
  intro x12 x13 x14 w3005
  refine Le.trans ?_ (le_of_eq ((bU apt).trans (aqu ..)).symm)
  unfold fF
  refine lC ?_ ?_
  ·refine lG (by simp only [EN]) ?_
   refine lQ eX aW (by (try simp only [EN]); exact hJ w3005 ((List.getD x12 (Int.toNat x14) default).Filter)) fun r1 _ => ?_
   refine lQ eX aW (by (try simp only [EN]); exact bR r1 ((List.getD x12 (Int.toNat x14) default).Level)) fun r2 _ => ?_
   refine lQ eX bA (by (try simp only [EN]); exact oM [(List.getD x12 (Int.toNat x14) default).NoLocal]) fun r3 _ => ?_
   refine lQ eX aW (bR _ _) fun r4 _ => ?_
   exact ih x12 x13 (w6 (x14 + 1)) r4
  ·exact aG rfl
theorem aaQ (p0 : List Int) (p1 : List aF) : Le (Option.map aQ (j9 p0 p1)) (bE SE 20 [.d (.sl [.int .u8] (List.map (aN .u8) p0)), .d (.sl aF.ks (List.map aF.enc p1))] [] []) := by
 refine bB apt rfl ?_
 refine Le.trans ?_ (le_of_eq (T20 ..).symm)
 unfold j9
 refine lQ eX aW (by (try simp only [EN]); exact bR p0 (List.length p1 : Int)) fun r0 _ => ?_
 (try simp only [EN]); exact yP fuel p1 (List.length p1 : Int) 0 r0
end Te
end PX
