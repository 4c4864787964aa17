import Derived.Test.YthgmhhgmnegocaaGreatDoorTab
set_option linter.unusedVariables false
set_option linter.unusedSimpArgs false
set_option maxRecDepth 100000
noncomputable section
namespace PX
open Go
open Md
namespace Te
abbrev cE {α : Type} (f : α → List D) (l : List α) (i : Int) (k : Nat) : D := cellAt (elemAt (List.map f l) (Int.toNat i)) k
abbrev lM {α : Type} (f : α → List D) (l : List α) : Nat := List.length (List.map f l)
abbrev iB (i n : Int) : Bool := decide (0 ≤ i) && decide (i < n)
abbrev w6 (x : Int) : Int := IntKind.wrap .i64 x
abbrev eI : Int → List D := aO .i64
theorem lGe {R : Type} {e : R → Out} {c c' : Bool} {a : Option R} {a' : Res} (h1 : Le (a.map e) a') (hc : c = c' := by simp only [EN]) : Le ((cond c a none).map e) (cond c' a' none) := lG hc h1
theorem lDe {R : Type} {e : R → Out} {c c' : Bool} {a b : Option R} {a' b' : Res} (h1 : Le (a.map e) a') (h2 : Le (b.map e) b') (hc : c = c' := by simp only [EN]) : Le ((cond c a b).map e) (cond c' a' b') := lD hc h1 h2
abbrev dIq (n : Int) : AV := .d (.int .i64 n)
abbrev dSq (s : Str) : AV := .d (.str s)
abbrev dBq (b : Bool) : AV := .d (.bool b)
abbrev rB (b : Bool) : Res := some (.ret [.d (.bool b)] [] [])
abbrev rI (n : Int) : Res := some (.ret [.d (.int .i64 n)] [] [])
theorem lQ {g : FuncId} {R S : Type} {out : R → Out} {e : S → Out} {x : Option R} {M : R → Option S} {a : List AV} {b : List Bx} {r : List Rw} {κ : R → Res} (hg : ∀ y, good g (out y)) (hi : ∀ y z, out y = out z → y = z) (h : Le (x.map out) (bF SE g a b r)) (hk : ∀ y, x = some y → Le ((M y).map e) (κ y)) : Le ((x.bind M).map e) (ajc SE good g out a b r κ) := awE (good := good) hg hi h hk
abbrev zMq : aF := aF.mk [] [] 0 false 0 0 [] 0 []
abbrev zWq : aV := aV.mk false 0 zMq
abbrev zPq : aA := aA.mk 0 0 false zMq [] [] false 0 0 0 zWq false 0 [] [] []
def aoE (C : aR) (Λ2 J : Lam) (a0 a1 a2 : List D) : Res := lab SE C Λ2 J 51 0 [1, 1, 1, 1, 1, 1, 1, 1, 1, 0, 0] (bA [(1, .ptr 1000000000 0), (2, .ptr 1000000001 0), (3, .ptr 1000000002 0)] [⟨31, (List.map AV.d a0)⟩, ⟨31, (List.map AV.d a1)⟩, ⟨31, (List.map AV.d a2)⟩] [] [] [])
def aoG (C : aR) (Λ2 J : Lam) (a0 a1 a2 : List D) : Res := lab SE C Λ2 J 51 0 [1, 1, 1, 1, 1, 1, 1, 1, 0, 0] (bA [(1, .ptr 1000000000 0), (2, .ptr 1000000001 0), (3, .ptr 1000000002 0)] [⟨31, (List.map AV.d a0)⟩, ⟨31, (List.map AV.d a1)⟩, ⟨31, (List.map AV.d a2)⟩] [] [] [])
def aol (C : aR) (Λ2 J : Lam) (a0 a1 a2 : List D) : Res := lab SE C Λ2 J 51 0 [1, 1, 1, 1, 1, 1, 1, 0, 0] (bA [(1, .ptr 1000000000 0), (2, .ptr 1000000001 0), (3, .ptr 1000000002 0)] [⟨31, (List.map AV.d a0)⟩, ⟨31, (List.map AV.d a1)⟩, ⟨31, (List.map AV.d a2)⟩] [] [] [])
def akY (C : aR) (Λ2 J : Lam) (a0 a1 a2 : List D) : Res := lab SE C Λ2 J 51 0 [1, 1, 1, 1, 1, 1, 0, 0] (bA [(1, .ptr 1000000000 0), (2, .ptr 1000000001 0), (3, .ptr 1000000002 0)] [⟨31, (List.map AV.d a0)⟩, ⟨31, (List.map AV.d a1)⟩, ⟨31, (List.map AV.d a2)⟩] [] [] [])
def an5 (C : aR) (Λ2 J : Lam) (a0 a1 a2 : List D) : Res := lab SE C Λ2 J 51 0 [1, 1, 1, 1, 1, 0, 0] (bA [(1, .ptr 1000000000 0), (2, .ptr 1000000001 0), (3, .ptr 1000000002 0)] [⟨31, (List.map AV.d a0)⟩, ⟨31, (List.map AV.d a1)⟩, ⟨31, (List.map AV.d a2)⟩] [] [] [])
def ao7 (C : aR) (Λ2 J : Lam) (a0 a1 a2 : List D) : Res := lab SE C Λ2 J 51 0 [1, 1, 1, 1, 0, 0] (bA [(1, .ptr 1000000000 0), (2, .ptr 1000000001 0), (3, .ptr 1000000002 0)] [⟨31, (List.map AV.d a0)⟩, ⟨31, (List.map AV.d a1)⟩, ⟨31, (List.map AV.d a2)⟩] [] [] [])
def akK (C : aR) (Λ2 J : Lam) (a0 a1 a2 : List D) : Res := lab SE C Λ2 J 51 0 [1, 1, 1, 0, 0] (bA [(1, .ptr 1000000000 0), (2, .ptr 1000000001 0), (3, .ptr 1000000002 0)] [⟨31, (List.map AV.d a0)⟩, ⟨31, (List.map AV.d a1)⟩, ⟨31, (List.map AV.d a2)⟩] [] [] [])
section
variable (Γ : Fun)  (Λ2 J : Lam)
def C51 : aR := aS Γ
theorem T51 (p0 : aA) : bK SE (C51 Γ) Λ2 J 51 [aA.av p0] [] [] =
 cond (p0.Kind == 3) (
 akK (C51 Γ) Λ2 J (aA.enc p0) [D.int .i64 0, D.int .i64 0, D.bool false, D.str [], D.str [], D.int .i64 0, D.bool false, D.int .i64 0, D.int .i64 0, D.str [], D.int .i64 0, D.sl aC.ks (List.map aC.enc []), D.str [], D.str [], D.bool false, D.int .i64 0, D.int .i64 0, D.int .i64 0, D.bool false, D.int .i64 0, D.str [], D.str [], D.int .i64 0, D.bool false, D.int .i64 0, D.int .i64 0, D.str [], D.int .i64 0, D.sl aC.ks (List.map aC.enc []), D.bool false, D.int .i64 0, D.sl aH.ks (List.map aH.enc []), D.sl [.str] (List.map aY []), D.sl [.int .i64] (List.map eI [])] [D.int .i64 p0.Kind, D.int .i64 p0.ID, D.bool false, D.str [], D.str [], D.int .i64 0, D.bool false, D.int .i64 0, D.int .i64 0, D.str [], D.int .i64 0, D.sl aC.ks (List.map aC.enc []), D.str [], D.str [], D.bool false, D.int .i64 0, D.int .i64 0, D.int .i64 0, D.bool false, D.int .i64 0, D.str [], D.str [], D.int .i64 0, D.bool false, D.int .i64 0, D.int .i64 0, D.str [], D.int .i64 0, D.sl aC.ks (List.map aC.enc []), D.bool false, D.int .i64 0, D.sl aH.ks (List.map aH.enc []), D.sl [.str] (List.map aY []), D.sl [.int .i64] (List.map eI [])]) (
 cond (decide (p0.Kind ≥ 4)) (
 cond (decide (p0.Kind ≤ 11)) (
  akK (C51 Γ) Λ2 J (aA.enc p0) [D.int .i64 0, D.int .i64 0, D.bool false, D.str [], D.str [], D.int .i64 0, D.bool false, D.int .i64 0, D.int .i64 0, D.str [], D.int .i64 0, D.sl aC.ks (List.map aC.enc []), D.str [], D.str [], D.bool false, D.int .i64 0, D.int .i64 0, D.int .i64 0, D.bool false, D.int .i64 0, D.str [], D.str [], D.int .i64 0, D.bool false, D.int .i64 0, D.int .i64 0, D.str [], D.int .i64 0, D.sl aC.ks (List.map aC.enc []), D.bool false, D.int .i64 0, D.sl aH.ks (List.map aH.enc []), D.sl [.str] (List.map aY []), D.sl [.int .i64] (List.map eI [])] [D.int .i64 p0.Kind, D.int .i64 p0.ID, D.bool false, D.str [], D.str [], D.int .i64 0, D.bool false, D.int .i64 0, D.int .i64 0, D.str [], D.int .i64 0, D.sl aC.ks (List.map aC.enc []), D.str [], D.str [], D.bool false, D.int .i64 0, D.int .i64 0, D.int .i64 0, D.bool false, D.int .i64 0, D.str [], D.str [], D.int .i64 0, D.bool false, D.int .i64 0, D.int .i64 0, D.str [], D.int .i64 0, D.sl aC.ks (List.map aC.enc []), D.bool false, D.int .i64 0, D.sl aH.ks (List.map aH.enc []), D.sl [.str] (List.map aY []), D.sl [.int .i64] (List.map eI [])]) (
 akK (C51 Γ) Λ2 J (aA.enc p0) [D.int .i64 0, D.int .i64 0, D.bool false, D.str [], D.str [], D.int .i64 0, D.bool false, D.int .i64 0, D.int .i64 0, D.str [], D.int .i64 0, D.sl aC.ks (List.map aC.enc []), D.str [], D.str [], D.bool false, D.int .i64 0, D.int .i64 0, D.int .i64 0, D.bool false, D.int .i64 0, D.str [], D.str [], D.int .i64 0, D.bool false, D.int .i64 0, D.int .i64 0, D.str [], D.int .i64 0, D.sl aC.ks (List.map aC.enc []), D.bool false, D.int .i64 0, D.sl aH.ks (List.map aH.enc []), D.sl [.str] (List.map aY []), D.sl [.int .i64] (List.map eI [])] [D.int .i64 p0.Kind, D.int .i64 0, D.bool false, D.str [], D.str [], D.int .i64 0, D.bool false, D.int .i64 0, D.int .i64 0, D.str [], D.int .i64 0, D.sl aC.ks (List.map aC.enc []), D.str [], D.str [], D.bool false, D.int .i64 0, D.int .i64 0, D.int .i64 0, D.bool false, D.int .i64 0, D.str [], D.str [], D.int .i64 0, D.bool false, D.int .i64 0, D.int .i64 0, D.str [], D.int .i64 0, D.sl aC.ks (List.map aC.enc []), D.bool false, D.int .i64 0, D.sl aH.ks (List.map aH.enc []), D.sl [.str] (List.map aY []), D.sl [.int .i64] (List.map eI [])])) (
 akK (C51 Γ) Λ2 J (aA.enc p0) [D.int .i64 0, D.int .i64 0, D.bool false, D.str [], D.str [], D.int .i64 0, D.bool false, D.int .i64 0, D.int .i64 0, D.str [], D.int .i64 0, D.sl aC.ks (List.map aC.enc []), D.str [], D.str [], D.bool false, D.int .i64 0, D.int .i64 0, D.int .i64 0, D.bool false, D.int .i64 0, D.str [], D.str [], D.int .i64 0, D.bool false, D.int .i64 0, D.int .i64 0, D.str [], D.int .i64 0, D.sl aC.ks (List.map aC.enc []), D.bool false, D.int .i64 0, D.sl aH.ks (List.map aH.enc []), D.sl [.str] (List.map aY []), D.sl [.int .i64] (List.map eI [])] [D.int .i64 p0.Kind, D.int .i64 0, D.bool false, D.str [], D.str [], D.int .i64 0, D.bool false, D.int .i64 0, D.int .i64 0, D.str [], D.int .i64 0, D.sl aC.ks (List.map aC.enc []), D.str [], D.str [], D.bool false, D.int .i64 0, D.int .i64 0, D.int .i64 0, D.bool false, D.int .i64 0, D.str [], D.str [], D.int .i64 0, D.bool false, D.int .i64 0, D.int .i64 0, D.str [], D.int .i64 0, D.sl aC.ks (List.map aC.enc []), D.bool false, D.int .i64 0, D.sl aH.ks (List.map aH.enc []), D.sl [.str] (List.map aY []), D.sl [.int .i64] (List.map eI [])])) := by kernel_rfl
theorem azc (b0 b1 b2 : aA) : cJ SE (C51 Γ) Λ2 J 51 0 [1, 1, 1, 1, 1, 1, 1, 1, 1, 0, 0] (bA [(1, .ptr 1000000000 0), (2, .ptr 1000000001 0), (3, .ptr 1000000002 0)] [⟨31, (List.map AV.d (aA.enc b0))⟩, ⟨31, (List.map AV.d (aA.enc b1))⟩, ⟨31, (List.map AV.d (aA.enc b2))⟩] [] [] []) =
 cond (b0.Kind == 9) (
 (some (.ret [aA.av (aA.mk b2.Kind b2.ID b2.Dup b2.Message b2.Client b2.User b2.Clean b2.Keep b2.Expiry b2.Window b2.Will b2.Present b2.Code b2.Subs b2.Filters b0.Codes)] [] []))) (
 cond (b0.Kind == 11) (
 (some (.ret [aA.av (aA.mk b2.Kind b2.ID b2.Dup b2.Message b2.Client b2.User b2.Clean b2.Keep b2.Expiry b2.Window b2.Will b2.Present b2.Code b2.Subs b2.Filters b0.Codes)] [] []))) (
 (some (.ret [aA.av b2] [] [])))) := by kernel_rfl
theorem axV (b0 b1 b2 : aA) : cJ SE (C51 Γ) Λ2 J 51 0 [1, 1, 1, 1, 1, 1, 1, 1, 0, 0] (bA [(1, .ptr 1000000000 0), (2, .ptr 1000000001 0), (3, .ptr 1000000002 0)] [⟨31, (List.map AV.d (aA.enc b0))⟩, ⟨31, (List.map AV.d (aA.enc b1))⟩, ⟨31, (List.map AV.d (aA.enc b2))⟩] [] [] []) =
 cond (b0.Kind == 10) (
 aoE (C51 Γ) Λ2 J (aA.enc b0) (aA.enc b1) (aA.enc (aA.mk b2.Kind b2.ID b2.Dup b2.Message b2.Client b2.User b2.Clean b2.Keep b2.Expiry b2.Window b2.Will b2.Present b2.Code b2.Subs b0.Filters b2.Codes))) (
 aoE (C51 Γ) Λ2 J (aA.enc b0) (aA.enc b1) (aA.enc b2)) := by kernel_rfl
theorem ayu (b0 b1 b2 : aA) : cJ SE (C51 Γ) Λ2 J 51 0 [1, 1, 1, 1, 1, 1, 1, 0, 0] (bA [(1, .ptr 1000000000 0), (2, .ptr 1000000001 0), (3, .ptr 1000000002 0)] [⟨31, (List.map AV.d (aA.enc b0))⟩, ⟨31, (List.map AV.d (aA.enc b1))⟩, ⟨31, (List.map AV.d (aA.enc b2))⟩] [] [] []) =
 cond (b0.Kind == 8) (
 aoG (C51 Γ) Λ2 J (aA.enc b0) (aA.enc b1) (aA.enc (aA.mk b2.Kind b2.ID b2.Dup b2.Message b2.Client b2.User b2.Clean b2.Keep b2.Expiry b2.Window b2.Will b2.Present b2.Code b0.Subs b2.Filters b2.Codes))) (
 aoG (C51 Γ) Λ2 J (aA.enc b0) (aA.enc b1) (aA.enc b2)) := by kernel_rfl
theorem ayC (b0 b1 b2 : aA) : cJ SE (C51 Γ) Λ2 J 51 0 [1, 1, 1, 1, 1, 1, 0, 0] (bA [(1, .ptr 1000000000 0), (2, .ptr 1000000001 0), (3, .ptr 1000000002 0)] [⟨31, (List.map AV.d (aA.enc b0))⟩, ⟨31, (List.map AV.d (aA.enc b1))⟩, ⟨31, (List.map AV.d (aA.enc b2))⟩] [] [] []) =
 cond (b0.Kind == 3) (
 aol (C51 Γ) Λ2 J (aA.enc b0) (aA.enc b1) (aA.enc (aA.mk b2.Kind b2.ID b0.Dup b0.Message b2.Client b2.User b2.Clean b2.Keep b2.Expiry b2.Window b2.Will b2.Present b2.Code b2.Subs b2.Filters b2.Codes))) (
 aol (C51 Γ) Λ2 J (aA.enc b0) (aA.enc b1) (aA.enc b2)) := by kernel_rfl
theorem axC (b0 b1 b2 : aA) : cJ SE (C51 Γ) Λ2 J 51 0 [1, 1, 1, 1, 1, 0, 0] (bA [(1, .ptr 1000000000 0), (2, .ptr 1000000001 0), (3, .ptr 1000000002 0)] [⟨31, (List.map AV.d (aA.enc b0))⟩, ⟨31, (List.map AV.d (aA.enc b1))⟩, ⟨31, (List.map AV.d (aA.enc b2))⟩] [] [] []) =
 cond (b0.Kind == 2) (
 akY (C51 Γ) Λ2 J (aA.enc b0) (aA.enc b1) (aA.enc (aA.mk b2.Kind b2.ID b2.Dup b2.Message b2.Client b2.User b2.Clean b2.Keep b2.Expiry b2.Window b2.Will b2.Present b0.Code b2.Subs b2.Filters b2.Codes))) (
 cond (b0.Kind == 14) (
 akY (C51 Γ) Λ2 J (aA.enc b0) (aA.enc b1) (aA.enc (aA.mk b2.Kind b2.ID b2.Dup b2.Message b2.Client b2.User b2.Clean b2.Keep b2.Expiry b2.Window b2.Will b2.Present b0.Code b2.Subs b2.Filters b2.Codes))) (
 akY (C51 Γ) Λ2 J (aA.enc b0) (aA.enc b1) (aA.enc b2))) := by kernel_rfl
theorem ax1 (b0 b1 b2 : aA) : cJ SE (C51 Γ) Λ2 J 51 0 [1, 1, 1, 1, 0, 0] (bA [(1, .ptr 1000000000 0), (2, .ptr 1000000001 0), (3, .ptr 1000000002 0)] [⟨31, (List.map AV.d (aA.enc b0))⟩, ⟨31, (List.map AV.d (aA.enc b1))⟩, ⟨31, (List.map AV.d (aA.enc b2))⟩] [] [] []) =
 cond (b0.Kind == 2) (
 an5 (C51 Γ) Λ2 J (aA.enc b0) (aA.enc b1) (aA.enc (aA.mk b2.Kind b2.ID b2.Dup b2.Message b2.Client b2.User b2.Clean b2.Keep b2.Expiry b2.Window b2.Will b0.Present b2.Code b2.Subs b2.Filters b2.Codes))) (
 an5 (C51 Γ) Λ2 J (aA.enc b0) (aA.enc b1) (aA.enc b2)) := by kernel_rfl
theorem aA0 (b0 b1 b2 : aA) : cJ SE (C51 Γ) Λ2 J 51 0 [1, 1, 1, 0, 0] (bA [(1, .ptr 1000000000 0), (2, .ptr 1000000001 0), (3, .ptr 1000000002 0)] [⟨31, (List.map AV.d (aA.enc b0))⟩, ⟨31, (List.map AV.d (aA.enc b1))⟩, ⟨31, (List.map AV.d (aA.enc b2))⟩] [] [] []) =
 cond (b0.Kind == 1) (
 ao7 (C51 Γ) Λ2 J (aA.enc b0) (aA.enc b1) (aA.enc (aA.mk b2.Kind b2.ID b2.Dup b2.Message b0.Client b0.User b0.Clean b0.Keep b0.Expiry b0.Window b0.Will b2.Present b2.Code b2.Subs b2.Filters b2.Codes))) (
 ao7 (C51 Γ) Λ2 J (aA.enc b0) (aA.enc b1) (aA.enc b2)) := by kernel_rfl
end
abbrev X51 : aR := C51 gG
theorem aij : X51 = aS gG := rfl
abbrev aw5 := aoE X51 (cB SE gG (SE.hl 51) (SE.hr 51)) (J0 SE X51)
abbrev ayN := aoG X51 (cB SE gG (SE.hl 51) (SE.hr 51)) (J0 SE X51)
abbrev axh := aol X51 (cB SE gG (SE.hl 51) (SE.hr 51)) (J0 SE X51)
abbrev ayc := akY X51 (cB SE gG (SE.hl 51) (SE.hr 51)) (J0 SE X51)
abbrev axE := an5 X51 (cB SE gG (SE.hl 51) (SE.hr 51)) (J0 SE X51)
abbrev axn := ao7 X51 (cB SE gG (SE.hl 51) (SE.hr 51)) (J0 SE X51)
abbrev azP := akK X51 (cB SE gG (SE.hl 51) (SE.hr 51)) (J0 SE X51)
theorem yR (b0 b1 b2 : aA) : Le (Option.map brokerref06_Used_out (qN b0 b1 b2)) (aw5 (aA.enc b0) (aA.enc b1) (aA.enc b2)) := by
 refine Le.trans ?_ (le_of_eq ((bD aij).trans (azc ..)).symm)
 unfold qN
 refine lC ?_ ?_
 ·exact aG rfl
 ·refine lC ?_ ?_
  ·exact aG rfl
  ·exact aG rfl
theorem yQ (b0 b1 b2 : aA) : Le (Option.map brokerref06_Used_out (qT b0 b1 b2)) (ayN (aA.enc b0) (aA.enc b1) (aA.enc b2)) := by
 refine Le.trans ?_ (le_of_eq ((bD aij).trans (axV ..)).symm)
 unfold qT
 refine lC ?_ ?_
 ·exact yR b0 b1 (aA.mk b2.Kind b2.ID b2.Dup b2.Message b2.Client b2.User b2.Clean b2.Keep b2.Expiry b2.Window b2.Will b2.Present b2.Code b2.Subs b0.Filters b2.Codes)
 ·exact yR b0 b1 b2
theorem yS (b0 b1 b2 : aA) : Le (Option.map brokerref06_Used_out (qV b0 b1 b2)) (axh (aA.enc b0) (aA.enc b1) (aA.enc b2)) := by
 refine Le.trans ?_ (le_of_eq ((bD aij).trans (ayu ..)).symm)
 unfold qV
 refine lC ?_ ?_
 ·exact yQ b0 b1 (aA.mk b2.Kind b2.ID b2.Dup b2.Message b2.Client b2.User b2.Clean b2.Keep b2.Expiry b2.Window b2.Will b2.Present b2.Code b0.Subs b2.Filters b2.Codes)
 ·exact yQ b0 b1 b2
theorem sD (b0 b1 b2 : aA) : Le (Option.map brokerref06_Used_out (mZ b0 b1 b2)) (ayc (aA.enc b0) (aA.enc b1) (aA.enc b2)) := by
 refine Le.trans ?_ (le_of_eq ((bD aij).trans (ayC ..)).symm)
 unfold mZ
 refine lC ?_ ?_
 ·exact yS b0 b1 (aA.mk b2.Kind b2.ID b0.Dup b0.Message b2.Client b2.User b2.Clean b2.Keep b2.Expiry b2.Window b2.Will b2.Present b2.Code b2.Subs b2.Filters b2.Codes)
 ·exact yS b0 b1 b2
theorem yN (b0 b1 b2 : aA) : Le (Option.map brokerref06_Used_out (qH b0 b1 b2)) (axE (aA.enc b0) (aA.enc b1) (aA.enc b2)) := by
 refine Le.trans ?_ (le_of_eq ((bD aij).trans (axC ..)).symm)
 unfold qH
 refine lC ?_ ?_
 ·exact sD b0 b1 (aA.mk b2.Kind b2.ID b2.Dup b2.Message b2.Client b2.User b2.Clean b2.Keep b2.Expiry b2.Window b2.Will b2.Present b0.Code b2.Subs b2.Filters b2.Codes)
 ·refine lC ?_ ?_
  ·exact sD b0 b1 (aA.mk b2.Kind b2.ID b2.Dup b2.Message b2.Client b2.User b2.Clean b2.Keep b2.Expiry b2.Window b2.Will b2.Present b0.Code b2.Subs b2.Filters b2.Codes)
  ·exact sD b0 b1 b2
theorem yO (b0 b1 b2 : aA) : Le (Option.map brokerref06_Used_out (qU b0 b1 b2)) (axn (aA.enc b0) (aA.enc b1) (aA.enc b2)) := by
 refine Le.trans ?_ (le_of_eq ((bD aij).trans (ax1 ..)).symm)
 unfold qU
 refine lC ?_ ?_
 ·exact yN b0 b1 (aA.mk b2.Kind b2.ID b2.Dup b2.Message b2.Client b2.User b2.Clean b2.Keep b2.Expiry b2.Window b2.Will b0.Present b2.Code b2.Subs b2.Filters b2.Codes)
 ·exact yN b0 b1 b2
theorem oJ (b0 b1 b2 : aA) : Le (Option.map brokerref06_Used_out (lH b0 b1 b2)) (azP (aA.enc b0) (aA.enc b1) (aA.enc b2)) := by
 refine Le.trans ?_ (le_of_eq ((bD aij).trans (aA0 ..)).symm)
 unfold lH
 refine lC ?_ ?_
 ·exact yO b0 b1 (aA.mk b2.Kind b2.ID b2.Dup b2.Message b0.Client b0.User b0.Clean b0.Keep b0.Expiry b0.Window b0.Will b2.Present b2.Code b2.Subs b2.Filters b2.Codes)
 ·exact yO b0 b1 b2
theorem ahE (p0 : aA) : Le (Option.map brokerref06_Used_out (uS p0)) (bF SE 51 [aA.av p0] [] []) := by
 refine aZ aij rfl ?_
 refine Le.trans ?_ (le_of_eq (T51 ..).symm)
 unfold uS
 refine lC ?_ ?_
 ·(try simp only [EN]); exact oJ p0 (zPq) ((aA.mk p0.Kind p0.ID false zMq [] [] false 0 0 0 zWq false 0 [] [] []))
 ·refine lC ?_ ?_
  ·refine lC ?_ ?_
   ·(try simp only [EN]); exact oJ p0 (zPq) ((aA.mk p0.Kind p0.ID false zMq [] [] false 0 0 0 zWq false 0 [] [] []))
   ·(try simp only [EN]); exact oJ p0 (zPq) ((aA.mk p0.Kind 0 false zMq [] [] false 0 0 0 zWq false 0 [] [] []))
  ·(try simp only [EN]); exact oJ p0 (zPq) ((aA.mk p0.Kind 0 false zMq [] [] false 0 0 0 zWq false 0 [] [] []))
def arS (C : aR) (Λ2 J : Lam) (a0 a1 : List (List D)) (a2 : Int) : Res := lab SE C Λ2 J 83 0 [1, 1, 0, 1, 0] (bA [(0, .d (.sl aC.ks a0)), (1, .d (.sl aC.ks a1)), (5, dIq a2)] [] [] [] [])
section
variable (Γ : Fun)  (Λ2 J : Lam)
def C83 : aR := aS Γ
theorem T83 (p0 p1 : List aC) : bK SE (C83 Γ) Λ2 J 83 [.d (.sl aC.ks (List.map aC.enc p0)), .d (.sl aC.ks (List.map aC.enc p1))] [] [] =
 cond ((lM aC.enc p0 : Int) != (lM aC.enc p1 : Int)) (
 (rB false)) (
 arS (C83 Γ) Λ2 J (List.map aC.enc p0) (List.map aC.enc p1) 0) := by kernel_rfl
theorem aBU (x0 x1 : List aC) (x5 : Int) : cJ SE (C83 Γ) Λ2 J 83 0 [1, 1, 0, 1, 0] (bA [(0, .d (.sl aC.ks (List.map aC.enc x0))), (1, .d (.sl aC.ks (List.map aC.enc x1))), (5, dIq x5)] [] [] [] []) =
 cond (decide (x5 < (lM aC.enc x0 : Int))) (
 cond (iB x5 (lM aC.enc x0 : Int)) (
  cond (iB x5 (lM aC.enc x1 : Int)) (
  cond (!(((bJ (cE aC.enc x0 x5 0)) == (bJ (cE aC.enc x1 x5 0))) && (((bJ (cE aC.enc x0 x5 1)) == (bJ (cE aC.enc x1 x5 1))) && true))) (
   (rB false)) (
  arS (C83 Γ) Λ2 J (List.map aC.enc x0) (List.map aC.enc x1) (w6 (x5 + 1)))) none) none) (
 (rB true)) := by kernel_rfl
end
abbrev X83 : aR := C83 gG
theorem ayx : X83 = aS gG := rfl
abbrev aAH := arS X83 (cB SE gG (SE.hl 83) (SE.hr 83)) (J0 SE X83)
theorem abZ : ∀ (fu : Nat) (x0 x1 : List aC) (x5 : Int), Le (Option.map brokerref05_SameProps_out (gC fu x0 x1 x5)) (aAH (List.map aC.enc x0) (List.map aC.enc x1) x5) := by
 intro fu
 induction fu with
 | zero => intros; exact le_none
 | succ fu ih =>
  intro x0 x1 x5
  refine Le.trans ?_ (le_of_eq ((bD ayx).trans (aBU ..)).symm)
  unfold gC
  refine lDe ?_ ?_
  ·refine lGe ?_
   refine lGe ?_
   refine lDe ?_ ?_
   ·exact aG rfl
   ·exact ih x0 x1 (w6 (x5 + 1))
  ·exact aG rfl
theorem aea (p0 p1 : List aC) : Le (Option.map brokerref05_SameProps_out (mF p0 p1)) (bF SE 83 [.d (.sl aC.ks (List.map aC.enc p0)), .d (.sl aC.ks (List.map aC.enc p1))] [] []) := by
 refine aZ ayx rfl ?_
 refine Le.trans ?_ (le_of_eq (T83 ..).symm)
 unfold mF
 refine lDe ?_ ?_
 ·exact aG rfl
 ·exact abZ fuel p0 p1 0
section
variable (Γ : Fun) (γ83 : Gm (Bool)) (Λ2 J : Lam)
def C43 : aR := bE (aS Γ) 83 brokerref05_SameProps_out γ83
theorem T43 (p0 p1 : aF) : bK SE (C43 Γ γ83) Λ2 J 43 [aF.av p0, aF.av p1] [] [] =
 cond (p0.Topic == p1.Topic) (
 cond (p0.Payload == p1.Payload) (
  cond (p0.Level == p1.Level) (
  cond (p0.Retain == p1.Retain) (
   cond (p0.Priority == p1.Priority) (
   cond (p0.Expires == p1.Expires) (
    cond (p0.From == p1.From) (
    cond (p0.Seq == p1.Seq) (
     γ83 [.d (.sl aC.ks (List.map aC.enc p0.Props)), .d (.sl aC.ks (List.map aC.enc p1.Props))] [] [] fun r0 =>
     (rB r0)) (
    (rB false))) (
    (rB false))) (
   (rB false))) (
   (rB false))) (
  (rB false))) (
  (rB false))) (
 (rB false))) (
 (rB false)) := by kernel_rfl
end
abbrev X43 : aR := C43 gG (cT 83 brokerref05_SameProps_out)
theorem aDN : X43 = aS gG := by unfold X43 C43; rw [bH fun _ h => h]
theorem wH (p0 p1 : aF) : Le (Option.map brokerref05_SameProps_out (lS p0 p1)) (bF SE 43 [aF.av p0, aF.av p1] [] []) := by
 refine aZ aDN rfl ?_
 refine Le.trans ?_ (le_of_eq (T43 ..).symm)
 unfold lS
 refine lC ?_ ?_
 ·refine lC ?_ ?_
  ·refine lC ?_ ?_
   ·refine lC ?_ ?_
    ·refine lC ?_ ?_
     ·refine lC ?_ ?_
      ·refine lC ?_ ?_
       ·refine lC ?_ ?_
        ·refine lQ eX brokerref05_SameProps_inj (aea _ _) fun r0 _ => ?_
         exact aG rfl
        ·exact aG rfl
       ·exact aG rfl
      ·exact aG rfl
     ·exact aG rfl
    ·exact aG rfl
   ·exact aG rfl
  ·exact aG rfl
 ·exact aG rfl
section
variable (Γ : Fun) (γ43 : Gm (Bool)) (Λ2 J : Lam)
def C44 : aR := bE (aS Γ) 43 brokerref05_SameProps_out γ43
theorem T44 (p0 p1 : aV) : bK SE (C44 Γ γ43) Λ2 J 44 [aV.av p0, aV.av p1] [] [] =
 cond (p0.Set == p1.Set) (
 cond (p0.Delay == p1.Delay) (
  γ43 [aF.av p0.Message, aF.av p1.Message] [] [] fun r0 =>
  (rB r0)) (
 (rB false))) (
 (rB false)) := by kernel_rfl
end
abbrev X44 : aR := C44 gG (cT 43 brokerref05_SameProps_out)
theorem aCN : X44 = aS gG := by unfold X44 C44; rw [bH fun _ h => h]
theorem aeE (p0 p1 : aV) : Le (Option.map brokerref05_SameProps_out (qQ p0 p1)) (bF SE 44 [aV.av p0, aV.av p1] [] []) := by
 refine aZ aCN rfl ?_
 refine Le.trans ?_ (le_of_eq (T44 ..).symm)
 unfold qQ
 refine lC ?_ ?_
 ·refine lC ?_ ?_
  ·refine lQ eX brokerref05_SameProps_inj (wH _ _) fun r0 _ => ?_
   exact aG rfl
  ·exact aG rfl
 ·exact aG rfl
def aq7 (C : aR) (Λ2 J : Lam) (a0 a1 : List (List D)) (a2 : Int) : Res := lab SE C Λ2 J 45 0 [1, 1, 0, 1, 0] (bA [(0, .d (.sl aH.ks a0)), (1, .d (.sl aH.ks a1)), (5, dIq a2)] [] [] [] [])
section
variable (Γ : Fun)  (Λ2 J : Lam)
def C45 : aR := aS Γ
theorem T45 (p0 p1 : List aH) : bK SE (C45 Γ) Λ2 J 45 [.d (.sl aH.ks (List.map aH.enc p0)), .d (.sl aH.ks (List.map aH.enc p1))] [] [] =
 cond ((lM aH.enc p0 : Int) != (lM aH.enc p1 : Int)) (
 (rB false)) (
 aq7 (C45 Γ) Λ2 J (List.map aH.enc p0) (List.map aH.enc p1) 0) := by kernel_rfl
theorem aBW (x0 x1 : List aH) (x5 : Int) : cJ SE (C45 Γ) Λ2 J 45 0 [1, 1, 0, 1, 0] (bA [(0, .d (.sl aH.ks (List.map aH.enc x0))), (1, .d (.sl aH.ks (List.map aH.enc x1))), (5, dIq x5)] [] [] [] []) =
 cond (decide (x5 < (lM aH.enc x0 : Int))) (
 cond (iB x5 (lM aH.enc x0 : Int)) (
  cond (iB x5 (lM aH.enc x1 : Int)) (
  cond (!(((bJ (cE aH.enc x0 x5 0)) == (bJ (cE aH.enc x1 x5 0))) && (((aX (cE aH.enc x0 x5 1)) == (aX (cE aH.enc x1 x5 1))) && (((bT (cE aH.enc x0 x5 2)) == (bT (cE aH.enc x1 x5 2))) && true)))) (
   (rB false)) (
  aq7 (C45 Γ) Λ2 J (List.map aH.enc x0) (List.map aH.enc x1) (w6 (x5 + 1)))) none) none) (
 (rB true)) := by kernel_rfl
end
abbrev X45 : aR := C45 gG
theorem axQ : X45 = aS gG := rfl
abbrev aA1 := aq7 X45 (cB SE gG (SE.hl 45) (SE.hr 45)) (J0 SE X45)
theorem acu : ∀ (fu : Nat) (x0 x1 : List aH) (x5 : Int), Le (Option.map brokerref05_SameProps_out (gW fu x0 x1 x5)) (aA1 (List.map aH.enc x0) (List.map aH.enc x1) x5) := by
 intro fu
 induction fu with
 | zero => intros; exact le_none
 | succ fu ih =>
  intro x0 x1 x5
  refine Le.trans ?_ (le_of_eq ((bD axQ).trans (aBW ..)).symm)
  unfold gW
  refine lDe ?_ ?_
  ·refine lGe ?_
   refine lGe ?_
   refine lDe ?_ ?_
   ·exact aG rfl
   ·exact ih x0 x1 (w6 (x5 + 1))
  ·exact aG rfl
theorem aey (p0 p1 : List aH) : Le (Option.map brokerref05_SameProps_out (mQ p0 p1)) (bF SE 45 [.d (.sl aH.ks (List.map aH.enc p0)), .d (.sl aH.ks (List.map aH.enc p1))] [] []) := by
 refine aZ axQ rfl ?_
 refine Le.trans ?_ (le_of_eq (T45 ..).symm)
 unfold mQ
 refine lDe ?_ ?_
 ·exact aG rfl
 ·exact acu fuel p0 p1 0
def asd (C : aR) (Λ2 J : Lam) (a0 a1 : List (List D)) (a2 : Int) : Res := lab SE C Λ2 J 46 0 [1, 1, 0, 1, 0] (bA [(0, .d (.sl [.str] a0)), (1, .d (.sl [.str] a1)), (5, dIq a2)] [] [] [] [])
section
variable (Γ : Fun)  (Λ2 J : Lam)
def C46 : aR := aS Γ
theorem T46 (p0 p1 : List Str) : bK SE (C46 Γ) Λ2 J 46 [.d (.sl [.str] (List.map aY p0)), .d (.sl [.str] (List.map aY p1))] [] [] =
 cond ((lM aY p0 : Int) != (lM aY p1 : Int)) (
 (rB false)) (
 asd (C46 Γ) Λ2 J (List.map aY p0) (List.map aY p1) 0) := by kernel_rfl
theorem aAc (x0 x1 : List Str) (x5 : Int) : cJ SE (C46 Γ) Λ2 J 46 0 [1, 1, 0, 1, 0] (bA [(0, .d (.sl [.str] (List.map aY x0))), (1, .d (.sl [.str] (List.map aY x1))), (5, dIq x5)] [] [] [] []) =
 cond (decide (x5 < (lM aY x0 : Int))) (
 cond (iB x5 (lM aY x0 : Int)) (
  cond (iB x5 (lM aY x1 : Int)) (
  cond (!((bJ (cE aY x0 x5 0)) == (bJ (cE aY x1 x5 0)))) (
   (rB false)) (
  asd (C46 Γ) Λ2 J (List.map aY x0) (List.map aY x1) (w6 (x5 + 1)))) none) none) (
 (rB true)) := by kernel_rfl
end
abbrev X46 : aR := C46 gG
theorem awS : X46 = aS gG := rfl
abbrev az6 := asd X46 (cB SE gG (SE.hl 46) (SE.hr 46)) (J0 SE X46)
theorem afo : ∀ (fu : Nat) (x0 x1 : List Str) (x5 : Int), Le (Option.map brokerref05_SameProps_out (jV fu x0 x1 x5)) (az6 (List.map aY x0) (List.map aY x1) x5) := by
 intro fu
 induction fu with
 | zero => intros; exact le_none
 | succ fu ih =>
  intro x0 x1 x5
  refine Le.trans ?_ (le_of_eq ((bD awS).trans (aAc ..)).symm)
  unfold jV
  refine lDe ?_ ?_
  ·refine lGe ?_
   refine lGe ?_
   refine lDe ?_ ?_
   ·exact aG rfl
   ·exact ih x0 x1 (w6 (x5 + 1))
  ·exact aG rfl
theorem ahF (p0 p1 : List Str) : Le (Option.map brokerref05_SameProps_out (rW p0 p1)) (bF SE 46 [.d (.sl [.str] (List.map aY p0)), .d (.sl [.str] (List.map aY p1))] [] []) := by
 refine aZ awS rfl ?_
 refine Le.trans ?_ (le_of_eq (T46 ..).symm)
 unfold rW
 refine lDe ?_ ?_
 ·exact aG rfl
 ·exact afo fuel p0 p1 0
def arQ (C : aR) (Λ2 J : Lam) (a0 a1 : List (List D)) (a2 : Int) : Res := lab SE C Λ2 J 47 0 [1, 1, 0, 1, 0] (bA [(0, .d (.sl [.int .i64] a0)), (1, .d (.sl [.int .i64] a1)), (5, dIq a2)] [] [] [] [])
section
variable (Γ : Fun)  (Λ2 J : Lam)
def C47 : aR := aS Γ
theorem T47 (p0 p1 : List Int) : bK SE (C47 Γ) Λ2 J 47 [.d (.sl [.int .i64] (List.map eI p0)), .d (.sl [.int .i64] (List.map eI p1))] [] [] =
 cond ((lM eI p0 : Int) != (lM eI p1 : Int)) (
 (rB false)) (
 arQ (C47 Γ) Λ2 J (List.map eI p0) (List.map eI p1) 0) := by kernel_rfl
theorem azV (x0 x1 : List Int) (x5 : Int) : cJ SE (C47 Γ) Λ2 J 47 0 [1, 1, 0, 1, 0] (bA [(0, .d (.sl [.int .i64] (List.map eI x0))), (1, .d (.sl [.int .i64] (List.map eI x1))), (5, dIq x5)] [] [] [] []) =
 cond (decide (x5 < (lM eI x0 : Int))) (
 cond (iB x5 (lM eI x0 : Int)) (
  cond (iB x5 (lM eI x1 : Int)) (
  cond ((aX (cE eI x0 x5 0)) != (aX (cE eI x1 x5 0))) (
   (rB false)) (
  arQ (C47 Γ) Λ2 J (List.map eI x0) (List.map eI x1) (w6 (x5 + 1)))) none) none) (
 (rB true)) := by kernel_rfl
end
abbrev X47 : aR := C47 gG
theorem ax3 : X47 = aS gG := rfl
abbrev aBp := arQ X47 (cB SE gG (SE.hl 47) (SE.hr 47)) (J0 SE X47)
theorem aa5 : ∀ (fu : Nat) (x0 x1 : List Int) (x5 : Int), Le (Option.map brokerref05_SameProps_out (fO fu x0 x1 x5)) (aBp (List.map eI x0) (List.map eI x1) x5) := by
 intro fu
 induction fu with
 | zero => intros; exact le_none
 | succ fu ih =>
  intro x0 x1 x5
  refine Le.trans ?_ (le_of_eq ((bD ax3).trans (azV ..)).symm)
  unfold fO
  refine lDe ?_ ?_
  ·refine lGe ?_
   refine lGe ?_
   refine lDe ?_ ?_
   ·exact aG rfl
   ·exact ih x0 x1 (w6 (x5 + 1))
  ·exact aG rfl
theorem acx (p0 p1 : List Int) : Le (Option.map brokerref05_SameProps_out (kR p0 p1)) (bF SE 47 [.d (.sl [.int .i64] (List.map eI p0)), .d (.sl [.int .i64] (List.map eI p1))] [] []) := by
 refine aZ ax3 rfl ?_
 refine Le.trans ?_ (le_of_eq (T47 ..).symm)
 unfold kR
 refine lDe ?_ ?_
 ·exact aG rfl
 ·exact aa5 fuel p0 p1 0
def avP (C : aR) (Λ2 J : Lam) (a0 a1 : List D) : Res := lab SE C Λ2 J 16 0 [1, 1, 1, 0] (bA [(2, .ptr 1000000000 0), (3, .ptr 1000000001 0)] [⟨31, (List.map AV.d a0)⟩, ⟨31, (List.map AV.d a1)⟩] [] [] [])
def avv (C : aR) (Λ2 J : Lam) (a0 a1 : List D) : Res := lab SE C Λ2 J 16 0 [1, 1, 0, 0] (bA [(2, .ptr 1000000000 0), (3, .ptr 1000000001 0)] [⟨31, (List.map AV.d a0)⟩, ⟨31, (List.map AV.d a1)⟩] [] [] [])
section
variable (Γ : Fun) (γ43 γ44 γ45 γ46 γ47 : Gm (Bool)) (Λ2 J : Lam)
def C16 : aR := bE (bE (bE (bE (bE (aS Γ) 43 brokerref05_SameProps_out γ43) 44 brokerref05_SameProps_out γ44) 45 brokerref05_SameProps_out γ45) 46 brokerref05_SameProps_out γ46) 47 brokerref05_SameProps_out γ47
theorem T16 (p0 p1 : aA) : bK SE (C16 Γ γ43 γ44 γ45 γ46 γ47) Λ2 J 16 [aA.av p0, aA.av p1] [] [] =
 cond (p0.Kind != p1.Kind) (
 (rB false)) (
 cond (p0.ID != p1.ID) (
 (rB false)) (
 cond (p0.Dup != p1.Dup) (
 (rB false)) (
 γ43 [aF.av p0.Message, aF.av p1.Message] [] [] fun r0 =>
 cond (!r0) (
 (rB false)) (
 cond (!(p0.Client == p1.Client)) (
 (rB false)) (
 cond (!(p0.User == p1.User)) (
 (rB false)) (
 avv (C16 Γ γ43 γ44 γ45 γ46 γ47) Λ2 J (aA.enc p0) (aA.enc p1))))))) := by kernel_rfl
theorem aBy (b0 b1 : aA) : cJ SE (C16 Γ γ43 γ44 γ45 γ46 γ47) Λ2 J 16 0 [1, 1, 1, 0] (bA [(2, .ptr 1000000000 0), (3, .ptr 1000000001 0)] [⟨31, (List.map AV.d (aA.enc b0))⟩, ⟨31, (List.map AV.d (aA.enc b1))⟩] [] [] []) =
 cond (b0.Present == b1.Present) (
 cond (b0.Code == b1.Code) (
  γ45 [.d (.sl aH.ks (List.map aH.enc b0.Subs)), .d (.sl aH.ks (List.map aH.enc b1.Subs))] [] [] fun r2 =>
  cond r2 (
  γ46 [.d (.sl [.str] (List.map aY b0.Filters)), .d (.sl [.str] (List.map aY b1.Filters))] [] [] fun r3 =>
  cond r3 (
   γ47 [.d (.sl [.int .i64] (List.map eI b0.Codes)), .d (.sl [.int .i64] (List.map eI b1.Codes))] [] [] fun r4 =>
   (rB r4)) (
  (rB false))) (
  (rB false))) (
 (rB false))) (
 (rB false)) := by kernel_rfl
theorem aAr (b0 b1 : aA) : cJ SE (C16 Γ γ43 γ44 γ45 γ46 γ47) Λ2 J 16 0 [1, 1, 0, 0] (bA [(2, .ptr 1000000000 0), (3, .ptr 1000000001 0)] [⟨31, (List.map AV.d (aA.enc b0))⟩, ⟨31, (List.map AV.d (aA.enc b1))⟩] [] [] []) =
 cond (b0.Clean != b1.Clean) (
 (rB false)) (
 cond (b0.Keep != b1.Keep) (
 (rB false)) (
 cond (b0.Expiry != b1.Expiry) (
 (rB false)) (
 cond (b0.Window != b1.Window) (
 (rB false)) (
 γ44 [aV.av b0.Will, aV.av b1.Will] [] [] fun r1 =>
 cond (!r1) (
 (rB false)) (
 avP (C16 Γ γ43 γ44 γ45 γ46 γ47) Λ2 J (aA.enc b0) (aA.enc b1)))))) := by kernel_rfl
end
abbrev X16 : aR := C16 gG (cT 43 brokerref05_SameProps_out) (cT 44 brokerref05_SameProps_out) (cT 45 brokerref05_SameProps_out) (cT 46 brokerref05_SameProps_out) (cT 47 brokerref05_SameProps_out)
theorem au5 : X16 = aS gG := by unfold X16 C16; repeat rw [bH fun _ h => h]
abbrev aAJ := avP X16 (cB SE gG (SE.hl 16) (SE.hr 16)) (J0 SE X16)
abbrev azY := avv X16 (cB SE gG (SE.hl 16) (SE.hr 16)) (J0 SE X16)
theorem afw (b0 b1 : aA) : Le (Option.map brokerref05_SameProps_out (rX b0 b1)) (aAJ (aA.enc b0) (aA.enc b1)) := by
 refine Le.trans ?_ (le_of_eq ((bD au5).trans (aBy ..)).symm)
 unfold rX
 refine lC ?_ ?_
 ·refine lC ?_ ?_
  ·refine lQ eX brokerref05_SameProps_inj (aey _ _) fun r2 _ => ?_
   refine lC ?_ ?_
   ·refine lQ eX brokerref05_SameProps_inj (ahF _ _) fun r3 _ => ?_
    refine lC ?_ ?_
    ·refine lQ eX brokerref05_SameProps_inj (acx _ _) fun r4 _ => ?_
     exact aG rfl
    ·exact aG rfl
   ·exact aG rfl
  ·exact aG rfl
 ·exact aG rfl
theorem afk (b0 b1 : aA) : Le (Option.map brokerref05_SameProps_out (sA b0 b1)) (azY (aA.enc b0) (aA.enc b1)) := by
 refine Le.trans ?_ (le_of_eq ((bD au5).trans (aAr ..)).symm)
 unfold sA
 refine lC ?_ ?_
 ·exact aG rfl
 ·refine lC ?_ ?_
  ·exact aG rfl
  ·refine lC ?_ ?_
   ·exact aG rfl
   ·refine lC ?_ ?_
    ·exact aG rfl
    ·refine lQ eX brokerref05_SameProps_inj (aeE _ _) fun r1 _ => ?_
     refine lC ?_ ?_
     ·exact aG rfl
     ·exact afw b0 b1
theorem lE (p0 p1 : aA) : Le (Option.map brokerref05_SameProps_out (iI p0 p1)) (bF SE 16 [aA.av p0, aA.av p1] [] []) := by
 refine aZ au5 rfl ?_
 refine Le.trans ?_ (le_of_eq (T16 ..).symm)
 unfold iI
 refine lC ?_ ?_
 ·exact aG rfl
 ·refine lC ?_ ?_
  ·exact aG rfl
  ·refine lC ?_ ?_
   ·exact aG rfl
   ·refine lQ eX brokerref05_SameProps_inj (wH _ _) fun r0 _ => ?_
    refine lC ?_ ?_
    ·exact aG rfl
    ·refine lC ?_ ?_
     ·exact aG rfl
     ·refine lC ?_ ?_
      ·exact aG rfl
      ·exact afk p0 p1
section
variable (Γ : Fun)  (Λ2 J : Lam)
def ay3 : aR := aS Γ
theorem aDW (p0 : Int) : bK SE (ay3 Γ) Λ2 J 108 [.d (.int .u8 p0)] [] [] =
 cond (decide (p0 ≥ 97)) (
 (rB (decide (p0 ≤ 122)))) (
 (rB false)) := by kernel_rfl
end
abbrev aCO : aR := ay3 gG
theorem aAl : aCO = aS gG := rfl
theorem aaQ (p0 : Int) : Le (Option.map brokerref05_SameProps_out (nK p0)) (bF SE 108 [.d (.int .u8 p0)] [] []) := by
 refine aZ aAl rfl ?_
 refine Le.trans ?_ (le_of_eq (aDW ..).symm)
 unfold nK
 refine lC ?_ ?_
 ·exact aG rfl
 ·exact aG rfl
section
variable (Γ : Fun)  (Λ2 J : Lam)
def ayP : aR := aS Γ
theorem aEo (p0 : Int) : bK SE (ayP Γ) Λ2 J 109 [.d (.int .u8 p0)] [] [] =
 cond (decide (p0 ≥ 48)) (
 (rB (decide (p0 ≤ 57)))) (
 (rB false)) := by kernel_rfl
end
abbrev aDH : aR := ayP gG
theorem aAv : aDH = aS gG := rfl
theorem agy (p0 : Int) : Le (Option.map brokerref05_SameProps_out (p7 p0)) (bF SE 109 [.d (.int .u8 p0)] [] []) := by
 refine aZ aAv rfl ?_
 refine Le.trans ?_ (le_of_eq (aEo ..).symm)
 unfold p7
 refine lC ?_ ?_
 ·exact aG rfl
 ·exact aG rfl
def ak6 (C : aR) (Λ2 J : Lam) (a0 : Str) (a1 : Int) : Res := lab SE C Λ2 J 86 0 [1, 1, 0, 1, 0] (bA [(0, dSq a0), (3, dIq a1)] [] [] [] [])
def avq (C : aR) (Λ2 J : Lam) (a0 : Str) : Res := lab SE C Λ2 J 86 0 [1, 1, 0, 0] (bA [(0, dSq a0)] [] [] [] [])
section
variable (Γ : Fun) (γ108 γ109 : Gm (Bool)) (Λ2 J : Lam)
def C86 : aR := bE (bE (aS Γ) 108 brokerref05_SameProps_out γ108) 109 brokerref05_SameProps_out γ109
theorem T86 (p0 : Str) : bK SE (C86 Γ γ108 γ109) Λ2 J 86 [dSq p0] [] [] =
 cond (decide ((List.length p0 : Int) < 1)) (
 (rB false)) (
 cond (decide ((List.length p0 : Int) > 16)) (
 (rB false)) (
 cond (decide (0 ≤ 0) && decide (0 < (List.length p0 : Int))) (
 γ108 [.d (.int .u8 (UInt8.toNat (List.getD p0 (Int.toNat 0) 0) : Int))] [] [] fun r0 =>
 cond (!r0) (
  (rB false)) (
 avq (C86 Γ γ108 γ109) Λ2 J p0)) none)) := by kernel_rfl
theorem aAP (x0 : Str) (x3 : Int) : cJ SE (C86 Γ γ108 γ109) Λ2 J 86 0 [1, 1, 0, 1, 0] (bA [(0, dSq x0), (3, dIq x3)] [] [] [] []) =
 cond (decide (x3 < (List.length x0 : Int))) (
 cond (iB x3 (List.length x0 : Int)) (
  γ108 [.d (.int .u8 (UInt8.toNat (List.getD x0 (Int.toNat x3) 0) : Int))] [] [] fun r1 =>
  cond (!r1) (
  cond (iB x3 (List.length x0 : Int)) (
   γ109 [.d (.int .u8 (UInt8.toNat (List.getD x0 (Int.toNat x3) 0) : Int))] [] [] fun r2 =>
   cond (!r2) (
   cond (iB x3 (List.length x0 : Int)) (
    cond ((UInt8.toNat (List.getD x0 (Int.toNat x3) 0) : Int) != 45) (
    (rB false)) (
    ak6 (C86 Γ γ108 γ109) Λ2 J x0 (w6 (x3 + 1)))) none) (
   ak6 (C86 Γ γ108 γ109) Λ2 J x0 (w6 (x3 + 1)))) none) (
  ak6 (C86 Γ γ108 γ109) Λ2 J x0 (w6 (x3 + 1)))) none) (
 (rB true)) := by kernel_rfl
theorem aBX (x0 : Str) : cJ SE (C86 Γ γ108 γ109) Λ2 J 86 0 [1, 1, 0, 0] (bA [(0, dSq x0)] [] [] [] []) =
 ak6 (C86 Γ γ108 γ109) Λ2 J x0 0 := by kernel_rfl
end
abbrev X86 : aR := C86 gG (cT 108 brokerref05_SameProps_out) (cT 109 brokerref05_SameProps_out)
theorem at7 : X86 = aS gG := by unfold X86 C86; repeat rw [bH fun _ h => h]
abbrev aBt := ak6 X86 (cB SE gG (SE.hl 86) (SE.hr 86)) (J0 SE X86)
abbrev aB4 := avq X86 (cB SE gG (SE.hl 86) (SE.hr 86)) (J0 SE X86)
theorem afr : ∀ (fu : Nat) (x0 : Str) (x3 : Int), Le (Option.map brokerref05_SameProps_out (gM fu x0 x3)) (aBt x0 x3) := by
 intro fu
 induction fu with
 | zero => intros; exact le_none
 | succ fu ih =>
  intro x0 x3
  refine Le.trans ?_ (le_of_eq ((bD at7).trans (aAP ..)).symm)
  unfold gM
  refine lC ?_ ?_
  ·refine lF ?_
   refine lQ eX brokerref05_SameProps_inj (aaQ _) fun r1 _ => ?_
   refine lC ?_ ?_
   ·refine lF ?_
    refine lQ eX brokerref05_SameProps_inj (agy _) fun r2 _ => ?_
    refine lC ?_ ?_
    ·refine lF ?_
     refine lC ?_ ?_
     ·exact aG rfl
     ·exact ih x0 (w6 (x3 + 1))
    ·exact ih x0 (w6 (x3 + 1))
   ·exact ih x0 (w6 (x3 + 1))
  ·exact aG rfl
theorem afN (x0 : Str) : Le (Option.map brokerref05_SameProps_out (rZ x0)) (aB4 x0) := by
 refine Le.trans ?_ (le_of_eq ((bD at7).trans (aBX ..)).symm)
 unfold rZ
 exact afr fuel x0 0
theorem rY (p0 : Str) : Le (Option.map brokerref05_SameProps_out (iG p0)) (bF SE 86 [dSq p0] [] []) := by
 refine aZ at7 rfl ?_
 refine Le.trans ?_ (le_of_eq (T86 ..).symm)
 unfold iG
 refine lC ?_ ?_
 ·exact aG rfl
 ·refine lC ?_ ?_
  ·exact aG rfl
  ·refine lF ?_
   refine lQ eX brokerref05_SameProps_inj (aaQ _) fun r0 _ => ?_
   refine lC ?_ ?_
   ·exact aG rfl
   ·exact afN p0
def aob (C : aR) (Λ2 J : Lam) (a0 : Str) (a1 a2 : Int) : Res := lab SE C Λ2 J 123 0 [1, 0, 1, 0] (bA [(0, dSq a0), (1, .d (.int .u8 a1)), (5, dIq a2)] [] [] [] [])
section
variable (Γ : Fun)  (Λ2 J : Lam)
def ao2 : aR := aS Γ
theorem aC0 (p0 : Str) (p1 : Int) : bK SE (ao2 Γ) Λ2 J 123 [dSq p0, .d (.int .u8 p1)] [] [] =
 aob (ao2 Γ) Λ2 J p0 p1 0 := by kernel_rfl
theorem azF (x0 : Str) (x1 x5 : Int) : cJ SE (ao2 Γ) Λ2 J 123 0 [1, 0, 1, 0] (bA [(0, dSq x0), (1, .d (.int .u8 x1)), (5, dIq x5)] [] [] [] []) =
 cond (decide (x5 < (List.length x0 : Int))) (
 cond (iB x5 (List.length x0 : Int)) (
  cond ((UInt8.toNat (List.getD x0 (Int.toNat x5) 0) : Int) == x1) (
  (rB true)) (
  aob (ao2 Γ) Λ2 J x0 x1 (w6 (x5 + 1)))) none) (
 (rB false)) := by kernel_rfl
end
abbrev auy : aR := ao2 gG
theorem avR : auy = aS gG := rfl
abbrev azp := aob auy (cB SE gG (SE.hl 123) (SE.hr 123)) (J0 SE auy)
theorem agc : ∀ (fu : Nat) (x0 : Str) (x1 x5 : Int), Le (Option.map brokerref05_SameProps_out (kD fu x0 x1 x5)) (azp x0 x1 x5) := by
 intro fu
 induction fu with
 | zero => intros; exact le_none
 | succ fu ih =>
  intro x0 x1 x5
  refine Le.trans ?_ (le_of_eq ((bD avR).trans (azF ..)).symm)
  unfold kD
  refine lC ?_ ?_
  ·refine lF ?_
   refine lC ?_ ?_
   ·exact aG rfl
   ·exact ih x0 x1 (w6 (x5 + 1))
  ·exact aG rfl
theorem oV (p0 : Str) (p1 : Int) : Le (Option.map brokerref05_SameProps_out (jX p0 p1)) (bF SE 123 [dSq p0, .d (.int .u8 p1)] [] []) := by
 refine aZ avR rfl ?_
 refine Le.trans ?_ (le_of_eq (aC0 ..).symm)
 unfold jX
 exact agc fuel p0 p1 0
def alQ (C : aR) (Λ2 J : Lam) (a0 : Str) (a1 a2 : Int) (a3 : List (List D)) : Res := lab SE C Λ2 J 125 0 [1, 1, 1, 0, 1, 0] (bA [(0, dSq a0), (3, .row 3003), (4, dIq a1), (5, dIq a2)] [] [] [] [(3003, ⟨[.str], 9, 16, a3⟩)])
section
variable (Γ : Fun)  (Λ2 J : Lam)
def aml : aR := aS Γ
theorem aDm (p0 : Str) : bK SE (aml Γ) Λ2 J 125 [dSq p0] [] [] =
 alQ (aml Γ) Λ2 J p0 0 0 (List.map aY []) := by kernel_rfl
theorem awZ (x0 : Str) (x4 x5 : Int) (w3003 : List Str) : cJ SE (aml Γ) Λ2 J 125 0 [1, 1, 1, 0, 1, 0] (bA [(0, dSq x0), (3, .row 3003), (4, dIq x4), (5, dIq x5)] [] [] [] [(3003, ⟨[.str], 9, 16, (List.map aY w3003)⟩)]) =
 cond (decide (x5 < (List.length x0 : Int))) (
 cond (iB x5 (List.length x0 : Int)) (
  cond ((UInt8.toNat (List.getD x0 (Int.toNat x5) 0) : Int) == 47) (
  cond (decide (0 ≤ x5) && decide (x5 ≤ ((List.length x0) : Int))) (
   cond (decide (0 ≤ x4) && decide (x4 ≤ x5)) (
   cond (decide ((lM aY w3003 + lM aY [(dI x0 (some x4) (some x5))]) * 16 ≤ 140737488355328)) (
    alQ (aml Γ) Λ2 J x0 (w6 (x5 + 1)) (w6 (x5 + 1)) (((List.map aY w3003) ++ (List.map aY [(dI x0 (some x4) (some x5))])))) none) none) none) (
  alQ (aml Γ) Λ2 J x0 x4 (w6 (x5 + 1)) (List.map aY w3003))) none) (
 cond (decide (0 ≤ x4) && decide (x4 ≤ ((List.length x0) : Int))) (
 cond (decide ((lM aY w3003 + lM aY [(dI x0 (some x4) none)]) * 16 ≤ 140737488355328)) (
  (some (.ret [.row 0] [] [⟨[.str], 9, 16, ((List.map aY w3003) ++ (List.map aY [(dI x0 (some x4) none)]))⟩]))) none) none) := by kernel_rfl
end
abbrev aua : aR := aml gG
theorem avp : aua = aS gG := rfl
abbrev azl := alQ aua (cB SE gG (SE.hl 125) (SE.hr 125)) (J0 SE aua)
theorem adv : ∀ (fu : Nat) (x0 : Str) (x4 x5 : Int) (w3003 : List Str), Le (Option.map eQ (gR fu x0 x4 x5 w3003)) (azl x0 x4 x5 (List.map aY w3003)) := by
 intro fu
 induction fu with
 | zero => intros; exact le_none
 | succ fu ih =>
  intro x0 x4 x5 w3003
  refine Le.trans ?_ (le_of_eq ((bD avp).trans (awZ ..)).symm)
  unfold gR
  refine lC ?_ ?_
  ·refine lF ?_
   refine lC ?_ ?_
   ·refine lF ?_
    refine lF ?_
    refine lGe ?_
    (try simp only [EN]); exact ih x0 (w6 (x5 + 1)) (w6 (x5 + 1)) ((w3003 ++ [(dI x0 (some x4) (some x5))]))
   ·exact ih x0 x4 (w6 (x5 + 1)) w3003
  ·refine lF ?_
   refine lGe ?_
   exact aG (by first | rfl | simp only [EN, eQ] <;> rfl)
theorem aax (p0 : Str) : Le (Option.map eQ (oX p0)) (bF SE 125 [dSq p0] [] []) := by
 refine aZ avp rfl ?_
 refine Le.trans ?_ (le_of_eq (aDm ..).symm)
 unfold oX
 (try simp only [EN]); exact adv fuel p0 0 0 []
section
variable (Γ : Fun) (γ123 : Gm (Bool)) (γ125 : Gm ((List Str))) (Λ2 J : Lam)
def avf : aR := bE (bE (aS Γ) 123 brokerref05_SameProps_out γ123) 125 eQ γ125
theorem aC7 (p0 : Str) : bK SE (avf Γ γ123 γ125) Λ2 J 122 [dSq p0] [] [] =
 cond (decide ((List.length p0 : Int) ≥ 1)) (
 cond (decide ((List.length p0 : Int) ≤ 64)) (
  γ123 [dSq p0, .d (.int .u8 0)] [] [] fun r0 =>
  cond (!r0) (
  γ125 [dSq p0] [] [] fun r1 =>
  (rB (decide ((lM aY r1 : Int) ≤ 8)))) (
  (rB false))) (
 (rB false))) (
 (rB false)) := by kernel_rfl
end
abbrev azn : aR := avf gG (cT 123 brokerref05_SameProps_out) (cT 125 eQ)
theorem aBx : azn = aS gG := by unfold azn avf; repeat rw [bH fun _ h => h]
theorem aaE (p0 : Str) : Le (Option.map brokerref05_SameProps_out (nH p0)) (bF SE 122 [dSq p0] [] []) := by
 refine aZ aBx rfl ?_
 refine Le.trans ?_ (le_of_eq (aC7 ..).symm)
 unfold nH
 refine lC ?_ ?_
 ·refine lC ?_ ?_
  ·refine lQ eX brokerref05_SameProps_inj (oV _ _) fun r0 _ => ?_
   refine lC ?_ ?_
   ·refine lQ eX y8 (aax _) fun r1 _ => ?_
    exact aG (by first | rfl | simp only [EN, brokerref05_SameProps_out] <;> rfl)
   ·exact aG rfl
  ·exact aG rfl
 ·exact aG rfl
section
variable (Γ : Fun) (γ122 γ123 : Gm (Bool)) (Λ2 J : Lam)
def atM : aR := bE (bE (aS Γ) 122 brokerref05_SameProps_out γ122) 123 brokerref05_SameProps_out γ123
theorem aD0 (p0 : Str) : bK SE (atM Γ γ122 γ123) Λ2 J 110 [dSq p0] [] [] =
 γ122 [dSq p0] [] [] fun r0 =>
 cond r0 (
 γ123 [dSq p0, .d (.int .u8 43)] [] [] fun r1 =>
 cond (!r1) (
  γ123 [dSq p0, .d (.int .u8 35)] [] [] fun r2 =>
  (rB (!r2))) (
 (rB false))) (
 (rB false)) := by kernel_rfl
end
abbrev aw9 : aR := atM gG (cT 122 brokerref05_SameProps_out) (cT 123 brokerref05_SameProps_out)
theorem aBQ : aw9 = aS gG := by unfold aw9 atM; repeat rw [bH fun _ h => h]
theorem ag8 (p0 : Str) : Le (Option.map brokerref05_SameProps_out (p8 p0)) (bF SE 110 [dSq p0] [] []) := by
 refine aZ aBQ rfl ?_
 refine Le.trans ?_ (le_of_eq (aD0 ..).symm)
 unfold p8
 refine lQ eX brokerref05_SameProps_inj (aaE _) fun r0 _ => ?_
 refine lC ?_ ?_
 ·refine lQ eX brokerref05_SameProps_inj (oV _ _) fun r1 _ => ?_
  refine lC ?_ ?_
  ·refine lQ eX brokerref05_SameProps_inj (oV _ _) fun r2 _ => ?_
   exact aG rfl
  ·exact aG rfl
 ·exact aG rfl
def aaS (C : aR) (Λ2 J : Lam) (a0 : Str) (a1 : Int) : Res := lab SE C Λ2 J 124 0 [1, 1, 0, 1, 0] (bA [(0, dSq a0), (3, dIq a1)] [] [] [] [])
def atp (C : aR) (Λ2 J : Lam) (a0 : Str) : Res := lab SE C Λ2 J 124 0 [1, 1, 0, 0] (bA [(0, dSq a0)] [] [] [] [])
section
variable (Γ : Fun)  (Λ2 J : Lam)
def abl : aR := aS Γ
theorem aDJ (p0 : Str) : bK SE (abl Γ) Λ2 J 124 [dSq p0] [] [] =
 cond (decide ((List.length p0 : Int) < 1)) (
 (rB false)) (
 cond (decide ((List.length p0 : Int) > 16)) (
 (rB false)) (
 atp (abl Γ) Λ2 J p0)) := by kernel_rfl
theorem azf (x0 : Str) (x3 : Int) : cJ SE (abl Γ) Λ2 J 124 0 [1, 1, 0, 1, 0] (bA [(0, dSq x0), (3, dIq x3)] [] [] [] []) =
 cond (decide (x3 < (List.length x0 : Int))) (
 cond (iB x3 (List.length x0 : Int)) (
  cond (decide ((UInt8.toNat (List.getD x0 (Int.toNat x3) 0) : Int) ≥ 97)) (
  cond (!(decide ((UInt8.toNat (List.getD x0 (Int.toNat x3) 0) : Int) ≤ 122))) (
   cond (decide ((UInt8.toNat (List.getD x0 (Int.toNat x3) 0) : Int) ≥ 48)) (
   cond (!(decide ((UInt8.toNat (List.getD x0 (Int.toNat x3) 0) : Int) ≤ 57))) (
    cond ((UInt8.toNat (List.getD x0 (Int.toNat x3) 0) : Int) != 45) (
    (rB false)) (
    aaS (abl Γ) Λ2 J x0 (w6 (x3 + 1)))) (
   aaS (abl Γ) Λ2 J x0 (w6 (x3 + 1)))) (
   cond ((UInt8.toNat (List.getD x0 (Int.toNat x3) 0) : Int) != 45) (
   (rB false)) (
   aaS (abl Γ) Λ2 J x0 (w6 (x3 + 1))))) (
  aaS (abl Γ) Λ2 J x0 (w6 (x3 + 1)))) (
  cond (decide ((UInt8.toNat (List.getD x0 (Int.toNat x3) 0) : Int) ≥ 48)) (
  cond (!(decide ((UInt8.toNat (List.getD x0 (Int.toNat x3) 0) : Int) ≤ 57))) (
   cond ((UInt8.toNat (List.getD x0 (Int.toNat x3) 0) : Int) != 45) (
   (rB false)) (
   aaS (abl Γ) Λ2 J x0 (w6 (x3 + 1)))) (
  aaS (abl Γ) Λ2 J x0 (w6 (x3 + 1)))) (
  cond ((UInt8.toNat (List.getD x0 (Int.toNat x3) 0) : Int) != 45) (
  (rB false)) (
  aaS (abl Γ) Λ2 J x0 (w6 (x3 + 1)))))) none) (
 (rB true)) := by kernel_rfl
theorem azr (x0 : Str) : cJ SE (abl Γ) Λ2 J 124 0 [1, 1, 0, 0] (bA [(0, dSq x0)] [] [] [] []) =
 aaS (abl Γ) Λ2 J x0 0 := by kernel_rfl
end
abbrev aov : aR := abl gG
theorem ary : aov = aS gG := rfl
abbrev ayT := aaS aov (cB SE gG (SE.hl 124) (SE.hr 124)) (J0 SE aov)
abbrev axY := atp aov (cB SE gG (SE.hl 124) (SE.hr 124)) (J0 SE aov)
theorem af2 : ∀ (fu : Nat) (x0 : Str) (x3 : Int), Le (Option.map brokerref05_SameProps_out (eL fu x0 x3)) (ayT x0 x3) := by
 intro fu
 induction fu with
 | zero => intros; exact le_none
 | succ fu ih =>
  intro x0 x3
  refine Le.trans ?_ (le_of_eq ((bD ary).trans (azf ..)).symm)
  unfold eL
  refine lC ?_ ?_
  ·refine lF ?_
   refine lC ?_ ?_
   ·refine lC ?_ ?_
    ·refine lC ?_ ?_
     ·refine lC ?_ ?_
      ·refine lC ?_ ?_
       ·exact aG rfl
       ·exact ih x0 (w6 (x3 + 1))
      ·exact ih x0 (w6 (x3 + 1))
     ·refine lC ?_ ?_
      ·exact aG rfl
      ·exact ih x0 (w6 (x3 + 1))
    ·exact ih x0 (w6 (x3 + 1))
   ·refine lC ?_ ?_
    ·refine lC ?_ ?_
     ·refine lC ?_ ?_
      ·exact aG rfl
      ·exact ih x0 (w6 (x3 + 1))
     ·exact ih x0 (w6 (x3 + 1))
    ·refine lC ?_ ?_
     ·exact aG rfl
     ·exact ih x0 (w6 (x3 + 1))
  ·exact aG rfl
theorem agr (x0 : Str) : Le (Option.map brokerref05_SameProps_out (sO x0)) (axY x0) := by
 refine Le.trans ?_ (le_of_eq ((bD ary).trans (azr ..)).symm)
 unfold sO
 exact af2 fuel x0 0
theorem aiL (p0 : Str) : Le (Option.map brokerref05_SameProps_out (sX p0)) (bF SE 124 [dSq p0] [] []) := by
 refine aZ ary rfl ?_
 refine Le.trans ?_ (le_of_eq (aDJ ..).symm)
 unfold sX
 refine lC ?_ ?_
 ·exact aG rfl
 ·refine lC ?_ ?_
  ·exact aG rfl
  ·exact agr p0
def akQ (C : aR) (Λ2 J : Lam) (a0 : List (List D)) (a1 : Int) : Res := lab SE C Λ2 J 111 0 [1, 1, 0, 1, 0] (bA [(0, .d (.sl aC.ks a0)), (3, dIq a1)] [] [] [] [])
section
variable (Γ : Fun) (γ124 : Gm (Bool)) (Λ2 J : Lam)
def akD : aR := bE (aS Γ) 124 brokerref05_SameProps_out γ124
theorem aDy (p0 : List aC) : bK SE (akD Γ γ124) Λ2 J 111 [.d (.sl aC.ks (List.map aC.enc p0))] [] [] =
 cond (decide ((lM aC.enc p0 : Int) > 8)) (
 (rI 5)) (
 akQ (akD Γ γ124) Λ2 J (List.map aC.enc p0) 0) := by kernel_rfl
theorem ay4 (x0 : List aC) (x3 : Int) : cJ SE (akD Γ γ124) Λ2 J 111 0 [1, 1, 0, 1, 0] (bA [(0, .d (.sl aC.ks (List.map aC.enc x0))), (3, dIq x3)] [] [] [] []) =
 cond (decide (x3 < (lM aC.enc x0 : Int))) (
 cond (iB x3 (lM aC.enc x0 : Int)) (
  γ124 [dSq (bJ (cE aC.enc x0 x3 0))] [] [] fun r0 =>
  cond (!r0) (
  (rI 16)) (
  cond (iB x3 (lM aC.enc x0 : Int)) (
  cond (decide ((List.length (bJ (cE aC.enc x0 x3 1)) : Int) > 160)) (
   (rI 5)) (
  cond (decide (x3 > 0)) (
   cond (iB x3 (lM aC.enc x0 : Int)) (
   cond (iB (w6 (x3 - 1)) (lM aC.enc x0 : Int)) (
    cond (Op.bytesLess (bJ (cE aC.enc x0 x3 0)) (bJ (cE aC.enc x0 (w6 (x3 - 1)) 0)) || (bJ (cE aC.enc x0 x3 0)) == (bJ (cE aC.enc x0 (w6 (x3 - 1)) 0))) (
    (rI 16)) (
    akQ (akD Γ γ124) Λ2 J (List.map aC.enc x0) (w6 (x3 + 1)))) none) none) (
  akQ (akD Γ γ124) Λ2 J (List.map aC.enc x0) (w6 (x3 + 1))))) none)) none) (
 (rI 0)) := by kernel_rfl
end
abbrev arE : aR := akD gG (cT 124 brokerref05_SameProps_out)
theorem avS : arE = aS gG := by unfold arE akD; rw [bH fun _ h => h]
abbrev awY := akQ arE (cB SE gG (SE.hl 111) (SE.hr 111)) (J0 SE arE)
theorem aeC : ∀ (fu : Nat) (x0 : List aC) (x3 : Int), Le (Option.map brokerref05_Props_out (hX fu x0 x3)) (awY (List.map aC.enc x0) x3) := by
 intro fu
 induction fu with
 | zero => intros; exact le_none
 | succ fu ih =>
  intro x0 x3
  refine Le.trans ?_ (le_of_eq ((bD avS).trans (ay4 ..)).symm)
  unfold hX
  refine lDe ?_ ?_
  ·refine lGe ?_
   refine lQ eX brokerref05_SameProps_inj (by (try simp only [EN]); exact aiL ((List.getD x0 (Int.toNat x3) default).Key)) fun r0 _ => ?_
   refine lC ?_ ?_
   ·exact aG rfl
   ·refine lGe ?_
    refine lDe ?_ ?_
    ·exact aG rfl
    ·refine lC ?_ ?_
     ·refine lGe ?_
      refine lGe ?_
      refine lDe ?_ ?_
      ·exact aG rfl
      ·exact ih x0 (w6 (x3 + 1))
     ·exact ih x0 (w6 (x3 + 1))
  ·exact aG rfl
theorem ahj (p0 : List aC) : Le (Option.map brokerref05_Props_out (pZ p0)) (bF SE 111 [.d (.sl aC.ks (List.map aC.enc p0))] [] []) := by
 refine aZ avS rfl ?_
 refine Le.trans ?_ (le_of_eq (aDy ..).symm)
 unfold pZ
 refine lDe ?_ ?_
 ·exact aG rfl
 ·exact aeC fuel p0 0
def apy (C : aR) (Λ2 J : Lam) (a0 : List D) : Res := lab SE C Λ2 J 88 0 [1, 1, 1, 1, 1, 1, 0, 0] (bA [(1, .ptr 1000000000 0)] [⟨24, (List.map AV.d a0)⟩] [] [] [])
def avW (C : aR) (Λ2 J : Lam) (a0 : List D) : Res := lab SE C Λ2 J 88 0 [1, 1, 1, 1, 1, 0, 0] (bA [(1, .ptr 1000000000 0)] [⟨24, (List.map AV.d a0)⟩] [] [] [])
def avu (C : aR) (Λ2 J : Lam) (a0 : List D) : Res := lab SE C Λ2 J 88 0 [1, 1, 1, 1, 0, 0] (bA [(1, .ptr 1000000000 0)] [⟨24, (List.map AV.d a0)⟩] [] [] [])
section
variable (Γ : Fun) (γ110 γ86 : Gm (Bool)) (γ111 : Gm (Int)) (Λ2 J : Lam)
def C88 : aR := bE (bE (bE (aS Γ) 110 brokerref05_SameProps_out γ110) 86 brokerref05_SameProps_out γ86) 111 brokerref05_Props_out γ111
theorem T88 (p0 : aF) : bK SE (C88 Γ γ110 γ86 γ111) Λ2 J 88 [aF.av p0] [] [] =
 γ110 [dSq p0.Topic] [] [] fun r0 =>
 cond (!r0) (
 (rI 12)) (
 cond (decide ((List.length p0.Payload : Int) > 256)) (
 (rI 5)) (
 cond (decide (p0.Level < 0)) (
 (rI 14)) (
 cond (decide (p0.Level > 2)) (
 (rI 14)) (
 avu (C88 Γ γ110 γ86 γ111) Λ2 J (aF.enc p0))))) := by kernel_rfl
theorem azG (b0 : aF) : cJ SE (C88 Γ γ110 γ86 γ111) Λ2 J 88 0 [1, 1, 1, 1, 1, 1, 0, 0] (bA [(1, .ptr 1000000000 0)] [⟨24, (List.map AV.d (aF.enc b0))⟩] [] [] []) =
 cond (decide (b0.Seq < 0)) (
 (rI 1)) (
 cond (decide (b0.Seq > 1099511627776)) (
 (rI 1)) (
 γ111 [.d (.sl aC.ks (List.map aC.enc b0.Props))] [] [] fun r2 =>
 (rI r2))) := by kernel_rfl
theorem aAX (b0 : aF) : cJ SE (C88 Γ γ110 γ86 γ111) Λ2 J 88 0 [1, 1, 1, 1, 1, 0, 0] (bA [(1, .ptr 1000000000 0)] [⟨24, (List.map AV.d (aF.enc b0))⟩] [] [] []) =
 cond (!(b0.From == ([] : Str))) (
 γ86 [dSq b0.From] [] [] fun r1 =>
 cond (!r1) (
  (rI 11)) (
 apy (C88 Γ γ110 γ86 γ111) Λ2 J (aF.enc b0))) (
 apy (C88 Γ γ110 γ86 γ111) Λ2 J (aF.enc b0)) := by kernel_rfl
theorem aCe (b0 : aF) : cJ SE (C88 Γ γ110 γ86 γ111) Λ2 J 88 0 [1, 1, 1, 1, 0, 0] (bA [(1, .ptr 1000000000 0)] [⟨24, (List.map AV.d (aF.enc b0))⟩] [] [] []) =
 cond (decide (b0.Priority < 0)) (
 (rI 1)) (
 cond (decide (b0.Priority > 9)) (
 (rI 1)) (
 cond (decide (b0.Expires < 0)) (
 (rI 1)) (
 cond (decide (b0.Expires > 1099511627776)) (
 (rI 1)) (
 avW (C88 Γ γ110 γ86 γ111) Λ2 J (aF.enc b0))))) := by kernel_rfl
end
abbrev X88 : aR := C88 gG (cT 110 brokerref05_SameProps_out) (cT 86 brokerref05_SameProps_out) (cT 111 brokerref05_Props_out)
theorem arB : X88 = aS gG := by unfold X88 C88; repeat rw [bH fun _ h => h]
abbrev ayj := apy X88 (cB SE gG (SE.hl 88) (SE.hr 88)) (J0 SE X88)
abbrev aA2 := avW X88 (cB SE gG (SE.hl 88) (SE.hr 88)) (J0 SE X88)
abbrev aBa := avu X88 (cB SE gG (SE.hl 88) (SE.hr 88)) (J0 SE X88)
theorem wW (b0 : aF) : Le (Option.map brokerref05_Props_out (kC b0)) (ayj (aF.enc b0)) := by
 refine Le.trans ?_ (le_of_eq ((bD arB).trans (azG ..)).symm)
 unfold kC
 refine lC ?_ ?_
 ·exact aG rfl
 ·refine lC ?_ ?_
  ·exact aG rfl
  ·refine lQ eX brokerref05_Props_inj (ahj _) fun r2 _ => ?_
   exact aG rfl
theorem aeA (b0 : aF) : Le (Option.map brokerref05_Props_out (mR b0)) (aA2 (aF.enc b0)) := by
 refine Le.trans ?_ (le_of_eq ((bD arB).trans (aAX ..)).symm)
 unfold mR
 refine lC ?_ ?_
 ·refine lQ eX brokerref05_SameProps_inj (rY _) fun r1 _ => ?_
  refine lC ?_ ?_
  ·exact aG rfl
  ·exact wW b0
 ·exact wW b0
theorem aez (b0 : aF) : Le (Option.map brokerref05_Props_out (nC b0)) (aBa (aF.enc b0)) := by
 refine Le.trans ?_ (le_of_eq ((bD arB).trans (aCe ..)).symm)
 unfold nC
 refine lC ?_ ?_
 ·exact aG rfl
 ·refine lC ?_ ?_
  ·exact aG rfl
  ·refine lC ?_ ?_
   ·exact aG rfl
   ·refine lC ?_ ?_
    ·exact aG rfl
    ·exact aeA b0
theorem aaW (p0 : aF) : Le (Option.map brokerref05_Props_out (jS p0)) (bF SE 88 [aF.av p0] [] []) := by
 refine aZ arB rfl ?_
 refine Le.trans ?_ (le_of_eq (T88 ..).symm)
 unfold jS
 refine lQ eX brokerref05_SameProps_inj (ag8 _) fun r0 _ => ?_
 refine lC ?_ ?_
 ·exact aG rfl
 ·refine lC ?_ ?_
  ·exact aG rfl
  ·refine lC ?_ ?_
   ·exact aG rfl
   ·refine lC ?_ ?_
    ·exact aG rfl
    ·exact aez p0
section
variable (Γ : Fun) (γ43 : Gm (Bool)) (γ88 : Gm (Int)) (Λ2 J : Lam)
def C87 : aR := bE (bE (aS Γ) 43 brokerref05_SameProps_out γ43) 88 brokerref05_Props_out γ88
theorem T87 (p0 : aV) : bK SE (C87 Γ γ43 γ88) Λ2 J 87 [aV.av p0] [] [] =
 cond (!p0.Set) (
 cond (p0.Delay != 0) (
  (rI 28)) (
 γ43 [aF.av p0.Message, .agg [dSq [], dSq [], dIq 0, dBq false, dIq 0, dIq 0, dSq [], dIq 0, .d (.sl aC.ks (List.map aC.enc []))]] [] [] fun r0 =>
 cond (!r0) (
  (rI 28)) (
 (rI 0)))) (
 cond (decide (p0.Delay < 0)) (
 (rI 1)) (
 cond (decide (p0.Delay > 1099511627776)) (
 (rI 1)) (
 γ88 [aF.av p0.Message] [] [] fun r1 =>
 (rI r1)))) := by kernel_rfl
end
abbrev X87 : aR := C87 gG (cT 43 brokerref05_SameProps_out) (cT 88 brokerref05_Props_out)
theorem aDA : X87 = aS gG := by unfold X87 C87; repeat rw [bH fun _ h => h]
theorem ahJ (p0 : aV) : Le (Option.map brokerref05_Props_out (rT p0)) (bF SE 87 [aV.av p0] [] []) := by
 refine aZ aDA rfl ?_
 refine Le.trans ?_ (le_of_eq (T87 ..).symm)
 unfold rT
 refine lC ?_ ?_
 ·refine lC ?_ ?_
  ·exact aG rfl
  ·refine lQ eX brokerref05_SameProps_inj (by (try simp only [EN]); exact wH p0.Message (zMq)) fun r0 _ => ?_
   refine lC ?_ ?_
   ·exact aG rfl
   ·exact aG rfl
 ·refine lC ?_ ?_
  ·exact aG rfl
  ·refine lC ?_ ?_
   ·exact aG rfl
   ·refine lQ eX brokerref05_Props_inj (aaW _) fun r1 _ => ?_
    exact aG rfl
def aqJ (C : aR) (Λ2 J : Lam) (a0 : List D) : Res := lab SE C Λ2 J 52 0 [1, 1, 0, 0] (bA [(1, .ptr 1000000000 0)] [⟨31, (List.map AV.d a0)⟩] [] [] [])
section
variable (Γ : Fun) (γ86 : Gm (Bool)) (γ87 : Gm (Int)) (Λ2 J : Lam)
def C52 : aR := bE (bE (aS Γ) 86 brokerref05_SameProps_out γ86) 87 brokerref05_Props_out γ87
theorem T52 (p0 : aA) : bK SE (C52 Γ γ86 γ87) Λ2 J 52 [aA.av p0] [] [] =
 γ86 [dSq p0.Client] [] [] fun r0 =>
 cond (!r0) (
 (rI 11)) (
 cond (!(p0.User == ([] : Str))) (
 γ86 [dSq p0.User] [] [] fun r1 =>
 cond (!r1) (
  (rI 11)) (
 aqJ (C52 Γ γ86 γ87) Λ2 J (aA.enc p0))) (
 aqJ (C52 Γ γ86 γ87) Λ2 J (aA.enc p0))) := by kernel_rfl
theorem aBD (b0 : aA) : cJ SE (C52 Γ γ86 γ87) Λ2 J 52 0 [1, 1, 0, 0] (bA [(1, .ptr 1000000000 0)] [⟨31, (List.map AV.d (aA.enc b0))⟩] [] [] []) =
 cond (decide (b0.Keep < 0)) (
 (rI 1)) (
 cond (decide (b0.Keep > 1099511627776)) (
 (rI 1)) (
 cond (decide (b0.Expiry < 0)) (
 (rI 1)) (
 cond (decide (b0.Expiry > 1099511627776)) (
 (rI 1)) (
 cond (decide (b0.Window < 1)) (
 (rI 1)) (
 cond (decide (b0.Window > 32)) (
 (rI 1)) (
 γ87 [aV.av b0.Will] [] [] fun r2 =>
 (rI r2))))))) := by kernel_rfl
end
abbrev X52 : aR := C52 gG (cT 86 brokerref05_SameProps_out) (cT 87 brokerref05_Props_out)
theorem ayA : X52 = aS gG := by unfold X52 C52; repeat rw [bH fun _ h => h]
abbrev aBo := aqJ X52 (cB SE gG (SE.hl 52) (SE.hr 52)) (J0 SE X52)
theorem wK (b0 : aA) : Le (Option.map brokerref05_Props_out (lK b0)) (aBo (aA.enc b0)) := by
 refine Le.trans ?_ (le_of_eq ((bD ayA).trans (aBD ..)).symm)
 unfold lK
 refine lC ?_ ?_
 ·exact aG rfl
 ·refine lC ?_ ?_
  ·exact aG rfl
  ·refine lC ?_ ?_
   ·exact aG rfl
   ·refine lC ?_ ?_
    ·exact aG rfl
    ·refine lC ?_ ?_
     ·exact aG rfl
     ·refine lC ?_ ?_
      ·exact aG rfl
      ·refine lQ eX brokerref05_Props_inj (ahJ _) fun r2 _ => ?_
       exact aG rfl
theorem afI (p0 : aA) : Le (Option.map brokerref05_Props_out (nX p0)) (bF SE 52 [aA.av p0] [] []) := by
 refine aZ ayA rfl ?_
 refine Le.trans ?_ (le_of_eq (T52 ..).symm)
 unfold nX
 refine lQ eX brokerref05_SameProps_inj (rY _) fun r0 _ => ?_
 refine lC ?_ ?_
 ·exact aG rfl
 ·refine lC ?_ ?_
  ·refine lQ eX brokerref05_SameProps_inj (rY _) fun r1 _ => ?_
   refine lC ?_ ?_
   ·exact aG rfl
   ·exact wK p0
  ·exact wK p0
section
variable (Γ : Fun)  (Λ2 J : Lam)
def C55 : aR := aS Γ
theorem T55 (p0 : Int) : bK SE (C55 Γ) Λ2 J 55 [dIq p0] [] [] =
 cond (decide (p0 < 1)) (
 (rI 15)) (
 cond (decide (p0 > 65535)) (
 (rI 15)) (
 (rI 0))) := by kernel_rfl
end
abbrev X55 : aR := C55 gG
theorem aDL : X55 = aS gG := rfl
theorem aaU (p0 : Int) : Le (Option.map brokerref05_Props_out (nJ p0)) (bF SE 55 [dIq p0] [] []) := by
 refine aZ aDL rfl ?_
 refine Le.trans ?_ (le_of_eq (T55 ..).symm)
 unfold nJ
 refine lC ?_ ?_
 ·exact aG rfl
 ·refine lC ?_ ?_
  ·exact aG rfl
  ·exact aG rfl
section
variable (Γ : Fun) (γ88 γ55 : Gm (Int)) (Λ2 J : Lam)
def C53 : aR := bE (bE (aS Γ) 88 brokerref05_Props_out γ88) 55 brokerref05_Props_out γ55
theorem T53 (p0 : aA) : bK SE (C53 Γ γ88 γ55) Λ2 J 53 [aA.av p0] [] [] =
 γ88 [aF.av p0.Message] [] [] fun r0 =>
 cond (r0 != 0) (
 (rI r0)) (
 cond (p0.Message.Level == 0) (
 cond (p0.ID != 0) (
  (rI 15)) (
 cond p0.Dup (
  (rI 28)) (
 (rI 0)))) (
 γ55 [dIq p0.ID] [] [] fun r1 =>
 (rI r1))) := by kernel_rfl
end
abbrev X53 : aR := C53 gG (cT 88 brokerref05_Props_out) (cT 55 brokerref05_Props_out)
theorem aCK : X53 = aS gG := by unfold X53 C53; repeat rw [bH fun _ h => h]
theorem afL (p0 : aA) : Le (Option.map brokerref05_Props_out (n4 p0)) (bF SE 53 [aA.av p0] [] []) := by
 refine aZ aCK rfl ?_
 refine Le.trans ?_ (le_of_eq (T53 ..).symm)
 unfold n4
 refine lQ eX brokerref05_Props_inj (aaW _) fun r0 _ => ?_
 refine lC ?_ ?_
 ·exact aG rfl
 ·refine lC ?_ ?_
  ·refine lC ?_ ?_
   ·exact aG rfl
   ·refine lC ?_ ?_
    ·exact aG rfl
    ·exact aG rfl
  ·refine lQ eX brokerref05_Props_inj (aaU _) fun r1 _ => ?_
   exact aG rfl
section
variable (Γ : Fun)  (Λ2 J : Lam)
def C54 : aR := aS Γ
theorem T54 (p0 : Int) : bK SE (C54 Γ) Λ2 J 54 [dIq p0] [] [] =
 cond (decide (p0 ≥ 0)) (
 (rB (decide (p0 ≤ 29)))) (
 (rB false)) := by kernel_rfl
end
abbrev X54 : aR := C54 gG
theorem aEn : X54 = aS gG := rfl
theorem wI (p0 : Int) : Le (Option.map brokerref05_SameProps_out (lT p0)) (bF SE 54 [dIq p0] [] []) := by
 refine aZ aEn rfl ?_
 refine Le.trans ?_ (le_of_eq (T54 ..).symm)
 unfold lT
 refine lC ?_ ?_
 ·exact aG rfl
 ·exact aG rfl
section
variable (Γ : Fun)  (Λ2 J : Lam)
def C56 : aR := aS Γ
theorem T56 (p0 : Int) : bK SE (C56 Γ) Λ2 J 56 [dIq p0] [] [] =
 cond (p0 == 0) (
 (rI 1)) (
 cond (decide (p0 > 32)) (
 (rI 5)) (
 (rI 0))) := by kernel_rfl
end
abbrev X56 : aR := C56 gG
theorem aDx : X56 = aS gG := rfl
theorem ahc (p0 : Int) : Le (Option.map brokerref05_Props_out (pW p0)) (bF SE 56 [dIq p0] [] []) := by
 refine aZ aDx rfl ?_
 refine Le.trans ?_ (le_of_eq (T56 ..).symm)
 unfold pW
 refine lC ?_ ?_
 ·exact aG rfl
 ·refine lC ?_ ?_
  ·exact aG rfl
  ·exact aG rfl
section
variable (Γ : Fun)  (Λ2 J : Lam)
def axZ : aR := aS Γ
theorem aDV (p0 p1 : Str) : bK SE (axZ Γ) Λ2 J 114 [dSq p0, dSq p1] [] [] =
 cond (decide ((List.length p0 : Int) ≥ (List.length p1 : Int))) (
 cond (decide (0 ≤ (List.length p1 : Int)) && decide ((List.length p1 : Int) ≤ ((List.length p0) : Int))) (
  (rB ((dI p0 none (some (List.length p1 : Int))) == p1))) none) (
 (rB false)) := by kernel_rfl
end
abbrev aCR : aR := axZ gG
theorem aA8 : aCR = aS gG := rfl
theorem tU (p0 p1 : Str) : Le (Option.map brokerref05_SameProps_out (mH p0 p1)) (bF SE 114 [dSq p0, dSq p1] [] []) := by
 refine aZ aA8 rfl ?_
 refine Le.trans ?_ (le_of_eq (aDV ..).symm)
 unfold mH
 refine lC ?_ ?_
 ·refine lF ?_
  exact aG rfl
 ·exact aG rfl
def apf (C : aR) (Λ2 J : Lam) (a0 : Int) (a1 : List (List D)) : Res := lab SE C Λ2 J 113 0 [1, 1, 1, 0, 1, 0, 0, 1, 0, 0, 1, 0] (bA [(3, .row 3003), (4, dIq a0)] [] [] [] [(3003, ⟨[.str], 9, 16, a1⟩)])
def alH (C : aR) (Λ2 J : Lam) (a0 : Int) (a1 : List (List D)) : Res := lab SE C Λ2 J 113 0 [1, 1, 1, 0, 1, 0] (bA [(3, .row 3003), (4, dIq a0)] [] [] [] [(3003, ⟨[.str], 9, 16, a1⟩)])
section
variable (Γ : Fun) (γ122 : Gm (Bool)) (γ125 : Gm ((List Str))) (γ123 : Gm (Bool)) (Λ2 J : Lam)
def afz : aR := bE (bE (bE (aS Γ) 122 brokerref05_SameProps_out γ122) 125 eQ γ125) 123 brokerref05_SameProps_out γ123
theorem aD7 (p0 : Str) : bK SE (afz Γ γ122 γ125 γ123) Λ2 J 113 [dSq p0] [] [] =
 γ122 [dSq p0] [] [] fun r0 =>
 cond (!r0) (
 (rB false)) (
 γ125 [dSq p0] [] [] fun r1 =>
 alH (afz Γ γ122 γ125 γ123) Λ2 J 0 (List.map aY r1)) := by kernel_rfl
theorem axM (x4 : Int) (w3003 : List Str) : cJ SE (afz Γ γ122 γ125 γ123) Λ2 J 113 0 [1, 1, 1, 0, 1, 0, 0, 1, 0, 0, 1, 0] (bA [(3, .row 3003), (4, dIq x4)] [] [] [] [(3003, ⟨[.str], 9, 16, (List.map aY w3003)⟩)]) =
 cond (iB x4 (lM aY w3003 : Int)) (
 γ123 [dSq (bJ (cE aY w3003 x4 0)), .d (.int .u8 35)] [] [] fun r3 =>
 cond r3 (
  cond (iB x4 (lM aY w3003 : Int)) (
  cond (!((bJ (cE aY w3003 x4 0)) == ([35] : Str))) (
   (rB false)) (
  cond (x4 != (w6 ((lM aY w3003 : Int) - 1))) (
   (rB false)) (
  alH (afz Γ γ122 γ125 γ123) Λ2 J (w6 (x4 + 1)) (List.map aY w3003)))) none) (
 alH (afz Γ γ122 γ125 γ123) Λ2 J (w6 (x4 + 1)) (List.map aY w3003))) none := by kernel_rfl
theorem azj (x4 : Int) (w3003 : List Str) : cJ SE (afz Γ γ122 γ125 γ123) Λ2 J 113 0 [1, 1, 1, 0, 1, 0] (bA [(3, .row 3003), (4, dIq x4)] [] [] [] [(3003, ⟨[.str], 9, 16, (List.map aY w3003)⟩)]) =
 cond (decide (x4 < (lM aY w3003 : Int))) (
 cond (iB x4 (lM aY w3003 : Int)) (
  γ123 [dSq (bJ (cE aY w3003 x4 0)), .d (.int .u8 43)] [] [] fun r2 =>
  cond r2 (
  cond (iB x4 (lM aY w3003 : Int)) (
   cond (!((bJ (cE aY w3003 x4 0)) == ([43] : Str))) (
   (rB false)) (
   apf (afz Γ γ122 γ125 γ123) Λ2 J x4 (List.map aY w3003))) none) (
  apf (afz Γ γ122 γ125 γ123) Λ2 J x4 (List.map aY w3003))) none) (
 (rB true)) := by kernel_rfl
end
abbrev amy : aR := afz gG (cT 122 brokerref05_SameProps_out) (cT 125 eQ) (cT 123 brokerref05_SameProps_out)
theorem aq8 : amy = aS gG := by unfold amy afz; repeat rw [bH fun _ h => h]
abbrev axJ := apf amy (cB SE gG (SE.hl 113) (SE.hr 113)) (J0 SE amy)
abbrev atu := alH amy (cB SE gG (SE.hl 113) (SE.hr 113)) (J0 SE amy)
theorem xE (k5 : Int → (List Str) → Option (Bool)) (hk5 : ∀ (x4 : Int) (w3003 : List Str), Le (Option.map brokerref05_SameProps_out (k5 x4 w3003)) (atu x4 (List.map aY w3003))) (x4 : Int) (w3003 : List Str) : Le (Option.map brokerref05_SameProps_out (kB k5 x4 w3003)) (axJ x4 (List.map aY w3003)) := by
 refine Le.trans ?_ (le_of_eq ((bD aq8).trans (axM ..)).symm)
 unfold kB
 refine lGe ?_
 refine lQ eX brokerref05_SameProps_inj (by (try simp only [EN]); exact oV (List.getD w3003 (Int.toNat x4) default) 35) fun r3 _ => ?_
 refine lC ?_ ?_
 ·refine lGe ?_
  refine lDe ?_ ?_
  ·exact aG rfl
  ·refine lDe ?_ ?_
   ·exact aG rfl
   ·exact hk5 (w6 (x4 + 1)) w3003
 ·exact hk5 (w6 (x4 + 1)) w3003
theorem adu : ∀ (fu : Nat) (x4 : Int) (w3003 : List Str), Le (Option.map brokerref05_SameProps_out (gV fu x4 w3003)) (atu x4 (List.map aY w3003)) := by
 intro fu
 induction fu with
 | zero => intros; exact le_none
 | succ fu ih =>
  intro x4 w3003
  refine Le.trans ?_ (le_of_eq ((bD aq8).trans (azj ..)).symm)
  unfold gV
  refine lDe ?_ ?_
  ·refine lGe ?_
   refine lQ eX brokerref05_SameProps_inj (by (try simp only [EN]); exact oV (List.getD w3003 (Int.toNat x4) default) 43) fun r2 _ => ?_
   refine lC ?_ ?_
   ·refine lGe ?_
    refine lDe ?_ ?_
    ·exact aG rfl
    ·exact xE _ (ih) x4 w3003
   ·exact xE _ (ih) x4 w3003
  ·exact aG rfl
theorem aaf (p0 : Str) : Le (Option.map brokerref05_SameProps_out (lX p0)) (bF SE 113 [dSq p0] [] []) := by
 refine aZ aq8 rfl ?_
 refine Le.trans ?_ (le_of_eq (aD7 ..).symm)
 unfold lX
 refine lQ eX brokerref05_SameProps_inj (aaE _) fun r0 _ => ?_
 refine lC ?_ ?_
 ·exact aG rfl
 ·refine lQ eX y8 (aax _) fun r1 _ => ?_
  exact adu fuel 0 r1
def asn (C : aR) (Λ2 J : Lam) (a0 : Str) (a1 : Int) : Res := lab SE C Λ2 J 112 0 [1, 1, 1, 1, 1, 1, 0] (bA [(5, dSq a0), (6, dIq a1)] [] [] [] [])
def anZ (C : aR) (Λ2 J : Lam) (a0 : Str) (a1 : Int) : Res := lab SE C Λ2 J 112 0 [1, 1, 1, 1, 1, 0, 0] (bA [(5, dSq a0), (6, dIq a1)] [] [] [] [])
def aou (C : aR) (Λ2 J : Lam) (a0 : Str) (a1 : Int) : Res := lab SE C Λ2 J 112 0 [1, 1, 1, 1, 0, 0] (bA [(5, dSq a0), (6, dIq a1)] [] [] [] [])
section
variable (Γ : Fun) (γ114 γ86 γ113 : Gm (Bool)) (Λ2 J : Lam)
def ad9 : aR := bE (bE (bE (aS Γ) 114 brokerref05_SameProps_out γ114) 86 brokerref05_SameProps_out γ86) 113 brokerref05_SameProps_out γ113
theorem aCD (p0 : Str) : bK SE (ad9 Γ γ114 γ86 γ113) Λ2 J 112 [dSq p0] [] [] =
 γ114 [dSq p0, dSq ([36, 115, 104, 97, 114, 101, 47] : Str)] [] [] fun r0 =>
 cond (!r0) (
 (some (.ret [dSq [], dSq [], dBq false] [] []))) (
 cond (decide (0 ≤ 7) && decide (7 ≤ ((List.length p0) : Int))) (
 aou (ad9 Γ γ114 γ86 γ113) Λ2 J (dI p0 (some 7) none) 0) none) := by kernel_rfl
theorem azq (x5 : Str) (x6 : Int) : cJ SE (ad9 Γ γ114 γ86 γ113) Λ2 J 112 0 [1, 1, 1, 1, 1, 1, 0] (bA [(5, dSq x5), (6, dIq x6)] [] [] [] []) =
 cond (decide (0 ≤ x6) && decide (x6 ≤ ((List.length x5) : Int))) (
 cond (decide (0 ≤ (w6 (x6 + 1))) && decide ((w6 (x6 + 1)) ≤ ((List.length x5) : Int))) (
  (some (.ret [dSq (dI x5 none (some x6)), dSq (dI x5 (some (w6 (x6 + 1))) none), dBq true] [] []))) none) none := by kernel_rfl
theorem awU (x5 : Str) (x6 : Int) : cJ SE (ad9 Γ γ114 γ86 γ113) Λ2 J 112 0 [1, 1, 1, 1, 1, 0, 0] (bA [(5, dSq x5), (6, dIq x6)] [] [] [] []) =
 cond (x6 == (List.length x5 : Int)) (
 (some (.ret [dSq [], dSq [], dBq false] [] []))) (
 cond (decide (0 ≤ x6) && decide (x6 ≤ ((List.length x5) : Int))) (
 γ86 [dSq (dI x5 none (some x6))] [] [] fun r1 =>
 cond (!r1) (
  (some (.ret [dSq [], dSq [], dBq false] [] []))) (
 cond (decide (0 ≤ (w6 (x6 + 1))) && decide ((w6 (x6 + 1)) ≤ ((List.length x5) : Int))) (
  γ113 [dSq (dI x5 (some (w6 (x6 + 1))) none)] [] [] fun r2 =>
  cond (!r2) (
  (some (.ret [dSq [], dSq [], dBq false] [] []))) (
  cond (decide (0 ≤ (w6 (x6 + 1))) && decide ((w6 (x6 + 1)) ≤ ((List.length x5) : Int))) (
  γ114 [dSq (dI x5 (some (w6 (x6 + 1))) none), dSq ([36, 115, 104, 97, 114, 101, 47] : Str)] [] [] fun r3 =>
  cond r3 (
   (some (.ret [dSq [], dSq [], dBq false] [] []))) (
  asn (ad9 Γ γ114 γ86 γ113) Λ2 J x5 x6)) none)) none)) none) := by kernel_rfl
theorem ayY (x5 : Str) (x6 : Int) : cJ SE (ad9 Γ γ114 γ86 γ113) Λ2 J 112 0 [1, 1, 1, 1, 0, 0] (bA [(5, dSq x5), (6, dIq x6)] [] [] [] []) =
 cond (decide (x6 < (List.length x5 : Int))) (
 cond (iB x6 (List.length x5 : Int)) (
  cond ((UInt8.toNat (List.getD x5 (Int.toNat x6) 0) : Int) != 47) (
  aou (ad9 Γ γ114 γ86 γ113) Λ2 J x5 (w6 (x6 + 1))) (
  anZ (ad9 Γ γ114 γ86 γ113) Λ2 J x5 x6)) none) (
 anZ (ad9 Γ γ114 γ86 γ113) Λ2 J x5 x6) := by kernel_rfl
end
abbrev ait : aR := ad9 gG (cT 114 brokerref05_SameProps_out) (cT 86 brokerref05_SameProps_out) (cT 113 brokerref05_SameProps_out)
theorem anU : ait = aS gG := by unfold ait ad9; repeat rw [bH fun _ h => h]
abbrev ayb := asn ait (cB SE gG (SE.hl 112) (SE.hr 112)) (J0 SE ait)
abbrev aym := anZ ait (cB SE gG (SE.hl 112) (SE.hr 112)) (J0 SE ait)
abbrev azz := aou ait (cB SE gG (SE.hl 112) (SE.hr 112)) (J0 SE ait)
theorem adB (x5 : Str) (x6 : Int) : Le (Option.map brokerref01_Shared_out (pI x5 x6)) (ayb x5 x6) := by
 refine Le.trans ?_ (le_of_eq ((bD anU).trans (azq ..)).symm)
 unfold pI
 refine lF ?_
 refine lF ?_
 exact aG rfl
theorem xJ (x5 : Str) (x6 : Int) : Le (Option.map brokerref01_Shared_out (j9 x5 x6)) (aym x5 x6) := by
 refine Le.trans ?_ (le_of_eq ((bD anU).trans (awU ..)).symm)
 unfold j9
 refine lC ?_ ?_
 ·exact aG rfl
 ·refine lF ?_
  refine lQ eX brokerref05_SameProps_inj (rY _) fun r1 _ => ?_
  refine lC ?_ ?_
  ·exact aG rfl
  ·refine lF ?_
   refine lQ eX brokerref05_SameProps_inj (aaf _) fun r2 _ => ?_
   refine lC ?_ ?_
   ·exact aG rfl
   ·refine lF ?_
    refine lQ eX brokerref05_SameProps_inj (tU _ _) fun r3 _ => ?_
    refine lC ?_ ?_
    ·exact aG rfl
    ·exact adB x5 x6
theorem adr : ∀ (fu : Nat) (x5 : Str) (x6 : Int), Le (Option.map brokerref01_Shared_out (iW fu x5 x6)) (azz x5 x6) := by
 intro fu
 induction fu with
 | zero => intros; exact le_none
 | succ fu ih =>
  intro x5 x6
  refine Le.trans ?_ (le_of_eq ((bD anU).trans (ayY ..)).symm)
  unfold iW
  refine lC ?_ ?_
  ·refine lF ?_
   refine lC ?_ ?_
   ·exact ih x5 (w6 (x6 + 1))
   ·exact xJ x5 x6
  ·exact xJ x5 x6
theorem aah (p0 : Str) : Le (Option.map brokerref01_Shared_out (mJ p0)) (bF SE 112 [dSq p0] [] []) := by
 refine aZ anU rfl ?_
 refine Le.trans ?_ (le_of_eq (aCD ..).symm)
 unfold mJ
 refine lQ eX brokerref05_SameProps_inj (tU _ _) fun r0 _ => ?_
 refine lC ?_ ?_
 ·exact aG rfl
 ·refine lF ?_
  exact adr fuel (dI p0 (some 7) none) 0
section
variable (Γ : Fun) (γ112 : Gm (Str × Str × Bool)) (γ113 γ114 : Gm (Bool)) (Λ2 J : Lam)
def C90 : aR := bE (bE (bE (aS Γ) 112 brokerref01_Shared_out γ112) 113 brokerref05_SameProps_out γ113) 114 brokerref05_SameProps_out γ114
theorem T90 (p0 : Str) : bK SE (C90 Γ γ112 γ113 γ114) Λ2 J 90 [dSq p0] [] [] =
 γ112 [dSq p0] [] [] fun r0 =>
 cond r0.2.2 (
 (rB true)) (
 γ113 [dSq p0] [] [] fun r1 =>
 cond r1 (
 γ114 [dSq p0, dSq ([36, 115, 104, 97, 114, 101, 47] : Str)] [] [] fun r2 =>
 (rB (!r2))) (
 (rB false))) := by kernel_rfl
end
abbrev X90 : aR := C90 gG (cT 112 brokerref01_Shared_out) (cT 113 brokerref05_SameProps_out) (cT 114 brokerref05_SameProps_out)
theorem aD4 : X90 = aS gG := by unfold X90 C90; repeat rw [bH fun _ h => h]
theorem aaq (p0 : Str) : Le (Option.map brokerref05_SameProps_out (lY p0)) (bF SE 90 [dSq p0] [] []) := by
 refine aZ aD4 rfl ?_
 refine Le.trans ?_ (le_of_eq (T90 ..).symm)
 unfold lY
 refine lQ eX brokerref01_Shared_inj (aah _) fun r0 _ => ?_
 refine lC ?_ ?_
 ·exact aG rfl
 ·refine lQ eX brokerref05_SameProps_inj (aaf _) fun r1 _ => ?_
  refine lC ?_ ?_
  ·refine lQ eX brokerref05_SameProps_inj (tU _ _) fun r2 _ => ?_
   exact aG rfl
  ·exact aG rfl
def avU (C : aR) (Λ2 J : Lam) (a0 : List D) : Res := lab SE C Λ2 J 89 0 [1, 1, 1, 0] (bA [(1, .ptr 1000000000 0)] [⟨53, (List.map AV.d a0)⟩] [] [] [])
section
variable (Γ : Fun) (γ90 : Gm (Bool)) (γ112 : Gm (Str × Str × Bool)) (Λ2 J : Lam)
def C89 : aR := bE (bE (aS Γ) 90 brokerref05_SameProps_out γ90) 112 brokerref01_Shared_out γ112
theorem T89 (p0 : aH) : bK SE (C89 Γ γ90 γ112) Λ2 J 89 [aH.av p0] [] [] =
 γ90 [dSq p0.Filter] [] [] fun r0 =>
 cond (!r0) (
 (rI 13)) (
 cond (decide (p0.Level < 0)) (
 (rI 14)) (
 cond (decide (p0.Level > 2)) (
 (rI 14)) (
 avU (C89 Γ γ90 γ112) Λ2 J (aH.enc p0)))) := by kernel_rfl
theorem aBw (b0 : aH) : cJ SE (C89 Γ γ90 γ112) Λ2 J 89 0 [1, 1, 1, 0] (bA [(1, .ptr 1000000000 0)] [⟨53, (List.map AV.d (aH.enc b0))⟩] [] [] []) =
 γ112 [dSq b0.Filter] [] [] fun r1 =>
 cond b0.NoLocal (
 cond r1.2.2 (
  (rI 28)) (
 (rI 0))) (
 (rI 0)) := by kernel_rfl
end
abbrev X89 : aR := C89 gG (cT 90 brokerref05_SameProps_out) (cT 112 brokerref01_Shared_out)
theorem axu : X89 = aS gG := by unfold X89 C89; repeat rw [bH fun _ h => h]
abbrev aBK := avU X89 (cB SE gG (SE.hl 89) (SE.hr 89)) (J0 SE X89)
theorem agh (b0 : aH) : Le (Option.map brokerref05_Props_out (sV b0)) (aBK (aH.enc b0)) := by
 refine Le.trans ?_ (le_of_eq ((bD axu).trans (aBw ..)).symm)
 unfold sV
 refine lQ eX brokerref01_Shared_inj (aah _) fun r1 _ => ?_
 refine lC ?_ ?_
 ·refine lC ?_ ?_
  ·exact aG rfl
  ·exact aG rfl
 ·exact aG rfl
theorem aiX (p0 : aH) : Le (Option.map brokerref05_Props_out (sP p0)) (bF SE 89 [aH.av p0] [] []) := by
 refine aZ axu rfl ?_
 refine Le.trans ?_ (le_of_eq (T89 ..).symm)
 unfold sP
 refine lQ eX brokerref05_SameProps_inj (aaq _) fun r0 _ => ?_
 refine lC ?_ ?_
 ·exact aG rfl
 ·refine lC ?_ ?_
  ·exact aG rfl
  ·refine lC ?_ ?_
   ·exact aG rfl
   ·exact agh p0
def aoq (C : aR) (Λ2 J : Lam) (a0 : Int) (a1 : List D) : Res := lab SE C Λ2 J 57 0 [1, 1, 1, 0, 1, 0] (bA [(1, .ptr 1000000000 0), (6, dIq a0)] [⟨31, (List.map AV.d a1)⟩] [] [] [])
def arX (C : aR) (Λ2 J : Lam) (a0 : Int) (a1 : List D) : Res := lab SE C Λ2 J 57 0 [1, 1, 0, 1, 0] (bA [(1, .ptr 1000000000 0), (5, dIq a0)] [⟨31, (List.map AV.d a1)⟩] [] [] [])
def ar9 (C : aR) (Λ2 J : Lam) (a0 : Int) (a1 : List D) : Res := lab SE C Λ2 J 57 0 [1, 0, 1, 0] (bA [(1, .ptr 1000000000 0), (3, dIq a0)] [⟨31, (List.map AV.d a1)⟩] [] [] [])
section
variable (Γ : Fun) (γ89 : Gm (Int)) (γ90 γ54 : Gm (Bool)) (Λ2 J : Lam)
def C57 : aR := bE (bE (bE (aS Γ) 89 brokerref05_Props_out γ89) 90 brokerref05_SameProps_out γ90) 54 brokerref05_SameProps_out γ54
theorem T57 (p0 : aA) : bK SE (C57 Γ γ89 γ90 γ54) Λ2 J 57 [aA.av p0] [] [] =
 ar9 (C57 Γ γ89 γ90 γ54) Λ2 J 0 (aA.enc p0) := by kernel_rfl
theorem ayo (x6 : Int) (b0 : aA) : cJ SE (C57 Γ γ89 γ90 γ54) Λ2 J 57 0 [1, 1, 1, 0, 1, 0] (bA [(1, .ptr 1000000000 0), (6, dIq x6)] [⟨31, (List.map AV.d (aA.enc b0))⟩] [] [] []) =
 cond (decide (x6 < (lM eI b0.Codes : Int))) (
 cond (iB x6 (lM eI b0.Codes : Int)) (
  γ54 [dIq (aX (cE eI b0.Codes x6 0))] [] [] fun r2 =>
  cond (!r2) (
  (rI 1)) (
  aoq (C57 Γ γ89 γ90 γ54) Λ2 J (w6 (x6 + 1)) (aA.enc b0))) none) (
 (rI 0)) := by kernel_rfl
theorem aBz (x5 : Int) (b0 : aA) : cJ SE (C57 Γ γ89 γ90 γ54) Λ2 J 57 0 [1, 1, 0, 1, 0] (bA [(1, .ptr 1000000000 0), (5, dIq x5)] [⟨31, (List.map AV.d (aA.enc b0))⟩] [] [] []) =
 cond (decide (x5 < (lM aY b0.Filters : Int))) (
 cond (iB x5 (lM aY b0.Filters : Int)) (
  γ90 [dSq (bJ (cE aY b0.Filters x5 0))] [] [] fun r1 =>
  cond (!r1) (
  (rI 13)) (
  arX (C57 Γ γ89 γ90 γ54) Λ2 J (w6 (x5 + 1)) (aA.enc b0))) none) (
 aoq (C57 Γ γ89 γ90 γ54) Λ2 J 0 (aA.enc b0)) := by kernel_rfl
theorem aBG (x3 : Int) (b0 : aA) : cJ SE (C57 Γ γ89 γ90 γ54) Λ2 J 57 0 [1, 0, 1, 0] (bA [(1, .ptr 1000000000 0), (3, dIq x3)] [⟨31, (List.map AV.d (aA.enc b0))⟩] [] [] []) =
 cond (decide (x3 < (lM aH.enc b0.Subs : Int))) (
 cond (iB x3 (lM aH.enc b0.Subs : Int)) (
  γ89 [.agg [dSq (bJ (cE aH.enc b0.Subs x3 0)), dIq (aX (cE aH.enc b0.Subs x3 1)), dBq (bT (cE aH.enc b0.Subs x3 2))]] [] [] fun r0 =>
  cond (r0 != 0) (
  (rI r0)) (
  ar9 (C57 Γ γ89 γ90 γ54) Λ2 J (w6 (x3 + 1)) (aA.enc b0))) none) (
 arX (C57 Γ γ89 γ90 γ54) Λ2 J 0 (aA.enc b0)) := by kernel_rfl
end
abbrev X57 : aR := C57 gG (cT 89 brokerref05_Props_out) (cT 90 brokerref05_SameProps_out) (cT 54 brokerref05_SameProps_out)
theorem arP : X57 = aS gG := by unfold X57 C57; repeat rw [bH fun _ h => h]
abbrev ayL := aoq X57 (cB SE gG (SE.hl 57) (SE.hr 57)) (J0 SE X57)
abbrev aAV := arX X57 (cB SE gG (SE.hl 57) (SE.hr 57)) (J0 SE X57)
abbrev aAw := ar9 X57 (cB SE gG (SE.hl 57) (SE.hr 57)) (J0 SE X57)
theorem abT : ∀ (fu : Nat) (x6 : Int) (b0 : aA), Le (Option.map brokerref05_Props_out (fI fu x6 b0)) (ayL x6 (aA.enc b0)) := by
 intro fu
 induction fu with
 | zero => intros; exact le_none
 | succ fu ih =>
  intro x6 b0
  refine Le.trans ?_ (le_of_eq ((bD arP).trans (ayo ..)).symm)
  unfold fI
  refine lDe ?_ ?_
  ·refine lGe ?_
   refine lQ eX brokerref05_SameProps_inj (by (try simp only [EN]); exact wI (List.getD b0.Codes (Int.toNat x6) default)) fun r2 _ => ?_
   refine lC ?_ ?_
   ·exact aG rfl
   ·exact ih (w6 (x6 + 1)) b0
  ·exact aG rfl
theorem acr : ∀ (fu : Nat) (x5 : Int) (b0 : aA), Le (Option.map brokerref05_Props_out (fR fu x5 b0)) (aAV x5 (aA.enc b0)) := by
 intro fu
 induction fu with
 | zero => intros; exact le_none
 | succ fu ih =>
  intro x5 b0
  refine Le.trans ?_ (le_of_eq ((bD arP).trans (aBz ..)).symm)
  unfold fR
  refine lDe ?_ ?_
  ·refine lGe ?_
   refine lQ eX brokerref05_SameProps_inj (by (try simp only [EN]); exact aaq (List.getD b0.Filters (Int.toNat x5) default)) fun r1 _ => ?_
   refine lC ?_ ?_
   ·exact aG rfl
   ·exact ih (w6 (x5 + 1)) b0
  ·exact abT fuel 0 b0
theorem acm : ∀ (fu : Nat) (x3 : Int) (b0 : aA), Le (Option.map brokerref05_Props_out (gY fu x3 b0)) (aAw x3 (aA.enc b0)) := by
 intro fu
 induction fu with
 | zero => intros; exact le_none
 | succ fu ih =>
  intro x3 b0
  refine Le.trans ?_ (le_of_eq ((bD arP).trans (aBG ..)).symm)
  unfold gY
  refine lDe ?_ ?_
  ·refine lGe ?_
   refine lQ eX brokerref05_Props_inj (by (try simp only [EN]); exact aiX (List.getD b0.Subs (Int.toNat x3) default)) fun r0 _ => ?_
   refine lC ?_ ?_
   ·exact aG rfl
   ·exact ih (w6 (x3 + 1)) b0
  ·exact acr fuel 0 b0
theorem aex (p0 : aA) : Le (Option.map brokerref05_Props_out (nD p0)) (bF SE 57 [aA.av p0] [] []) := by
 refine aZ arP rfl ?_
 refine Le.trans ?_ (le_of_eq (T57 ..).symm)
 unfold nD
 exact acm fuel 0 p0
def asP (C : aR) (Λ2 J : Lam) (a0 : List D) : Res := lab SE C Λ2 J 23 0 [1, 1, 1, 1, 1, 1, 1, 1, 1, 0] (bA [(1, .ptr 1000000000 0)] [⟨31, (List.map AV.d a0)⟩] [] [] [])
def as0 (C : aR) (Λ2 J : Lam) (a0 : List D) : Res := lab SE C Λ2 J 23 0 [1, 1, 1, 1, 1, 1, 1, 0] (bA [(1, .ptr 1000000000 0)] [⟨31, (List.map AV.d a0)⟩] [] [] [])
def atf (C : aR) (Λ2 J : Lam) (a0 : List D) : Res := lab SE C Λ2 J 23 0 [1, 1, 1, 1, 1, 1, 0, 0] (bA [(1, .ptr 1000000000 0)] [⟨31, (List.map AV.d a0)⟩] [] [] [])
def av1 (C : aR) (Λ2 J : Lam) (a0 : List D) : Res := lab SE C Λ2 J 23 0 [1, 1, 0, 0] (bA [(1, .ptr 1000000000 0)] [⟨31, (List.map AV.d a0)⟩] [] [] [])
section
variable (Γ : Fun) (γ51 : Gm (aA)) (γ16 : Gm (Bool)) (γ52 γ53 : Gm (Int)) (γ54 : Gm (Bool)) (γ55 γ56 γ57 : Gm (Int)) (Λ2 J : Lam)
def C23 : aR := bE (bE (bE (bE (bE (bE (bE (bE (aS Γ) 51 brokerref06_Used_out γ51) 16 brokerref05_SameProps_out γ16) 52 brokerref05_Props_out γ52) 53 brokerref05_Props_out γ53) 54 brokerref05_SameProps_out γ54) 55 brokerref05_Props_out γ55) 56 brokerref05_Props_out γ56) 57 brokerref05_Props_out γ57
theorem T23 (p0 : aA) : bK SE (C23 Γ γ51 γ16 γ52 γ53 γ54 γ55 γ56 γ57) Λ2 J 23 [aA.av p0] [] [] =
 cond (decide (p0.Kind < 1)) (
 (rI 10)) (
 cond (decide (p0.Kind > 14)) (
 (rI 10)) (
 av1 (C23 Γ γ51 γ16 γ52 γ53 γ54 γ55 γ56 γ57) Λ2 J (aA.enc p0))) := by kernel_rfl
theorem axN (b0 : aA) : cJ SE (C23 Γ γ51 γ16 γ52 γ53 γ54 γ55 γ56 γ57) Λ2 J 23 0 [1, 1, 1, 1, 1, 1, 1, 1, 1, 0] (bA [(1, .ptr 1000000000 0)] [⟨31, (List.map AV.d (aA.enc b0))⟩] [] [] []) =
 γ56 [dIq (w6 ((w6 ((lM aH.enc b0.Subs : Int) + (lM aY b0.Filters : Int))) + (lM eI b0.Codes : Int)))] [] [] fun r7 =>
 cond (r7 != 0) (
 (rI r7)) (
 γ57 [aA.av b0] [] [] fun r8 =>
 (rI r8)) := by kernel_rfl
theorem axR (b0 : aA) : cJ SE (C23 Γ γ51 γ16 γ52 γ53 γ54 γ55 γ56 γ57) Λ2 J 23 0 [1, 1, 1, 1, 1, 1, 1, 0] (bA [(1, .ptr 1000000000 0)] [⟨31, (List.map AV.d (aA.enc b0))⟩] [] [] []) =
 γ55 [dIq b0.ID] [] [] fun r6 =>
 cond (r6 != 0) (
 (rI r6)) (
 cond (decide (b0.Kind ≤ 7)) (
 (rI r6)) (
 asP (C23 Γ γ51 γ16 γ52 γ53 γ54 γ55 γ56 γ57) Λ2 J (aA.enc b0))) := by kernel_rfl
theorem ax7 (b0 : aA) : cJ SE (C23 Γ γ51 γ16 γ52 γ53 γ54 γ55 γ56 γ57) Λ2 J 23 0 [1, 1, 1, 1, 1, 1, 0, 0] (bA [(1, .ptr 1000000000 0)] [⟨31, (List.map AV.d (aA.enc b0))⟩] [] [] []) =
 cond (b0.Kind == 12) (
 (rI 0)) (
 cond (b0.Kind == 13) (
 (rI 0)) (
 as0 (C23 Γ γ51 γ16 γ52 γ53 γ54 γ55 γ56 γ57) Λ2 J (aA.enc b0))) := by kernel_rfl
theorem aAp (b0 : aA) : cJ SE (C23 Γ γ51 γ16 γ52 γ53 γ54 γ55 γ56 γ57) Λ2 J 23 0 [1, 1, 0, 0] (bA [(1, .ptr 1000000000 0)] [⟨31, (List.map AV.d (aA.enc b0))⟩] [] [] []) =
 γ51 [aA.av b0] [] [] fun r0 =>
 γ16 [aA.av b0, aA.av r0] [] [] fun r1 =>
 cond (!r1) (
 (rI 28)) (
 cond (b0.Kind == 1) (
 γ52 [aA.av b0] [] [] fun r2 =>
 (rI r2)) (
 cond (b0.Kind == 3) (
 γ53 [aA.av b0] [] [] fun r3 =>
 (rI r3)) (
 cond (b0.Kind == 2) (
 γ54 [dIq b0.Code] [] [] fun r4 =>
 cond (!r4) (
  (rI 1)) (
 cond b0.Present (
  cond (b0.Code != 0) (
  (rI 28)) (
  (rI 0))) (
 (rI 0)))) (
 cond (b0.Kind == 14) (
 γ54 [dIq b0.Code] [] [] fun r5 =>
 cond (!r5) (
  (rI 1)) (
 cond b0.Present (
  cond (b0.Code != 0) (
  (rI 28)) (
  (rI 0))) (
 (rI 0)))) (
 atf (C23 Γ γ51 γ16 γ52 γ53 γ54 γ55 γ56 γ57) Λ2 J (aA.enc b0)))))) := by kernel_rfl
end
abbrev X23 : aR := C23 gG (cT 51 brokerref06_Used_out) (cT 16 brokerref05_SameProps_out) (cT 52 brokerref05_Props_out) (cT 53 brokerref05_Props_out) (cT 54 brokerref05_SameProps_out) (cT 55 brokerref05_Props_out) (cT 56 brokerref05_Props_out) (cT 57 brokerref05_Props_out)
theorem aoT : X23 = aS gG := by unfold X23 C23; repeat rw [bH fun _ h => h]
abbrev axd := asP X23 (cB SE gG (SE.hl 23) (SE.hr 23)) (J0 SE X23)
abbrev aya := as0 X23 (cB SE gG (SE.hl 23) (SE.hr 23)) (J0 SE X23)
abbrev axz := atf X23 (cB SE gG (SE.hl 23) (SE.hr 23)) (J0 SE X23)
abbrev aAZ := av1 X23 (cB SE gG (SE.hl 23) (SE.hr 23)) (J0 SE X23)
theorem ad1 (b0 : aA) : Le (Option.map brokerref05_Props_out (pA b0)) (axd (aA.enc b0)) := by
 refine Le.trans ?_ (le_of_eq ((bD aoT).trans (axN ..)).symm)
 unfold pA
 refine lQ eX brokerref05_Props_inj (by (try simp only [EN]); exact ahc ((w6 ((w6 ((List.length b0.Subs : Int) + (List.length b0.Filters : Int))) + (List.length b0.Codes : Int))))) fun r7 _ => ?_
 refine lC ?_ ?_
 ·exact aG rfl
 ·refine lQ eX brokerref05_Props_inj (aex _) fun r8 _ => ?_
  exact aG rfl
theorem ady (b0 : aA) : Le (Option.map brokerref05_Props_out (pL b0)) (aya (aA.enc b0)) := by
 refine Le.trans ?_ (le_of_eq ((bD aoT).trans (axR ..)).symm)
 unfold pL
 refine lQ eX brokerref05_Props_inj (aaU _) fun r6 _ => ?_
 refine lC ?_ ?_
 ·exact aG rfl
 ·refine lC ?_ ?_
  ·exact aG rfl
  ·exact ad1 b0
theorem adG (b0 : aA) : Le (Option.map brokerref05_Props_out (o9 b0)) (axz (aA.enc b0)) := by
 refine Le.trans ?_ (le_of_eq ((bD aoT).trans (ax7 ..)).symm)
 unfold o9
 refine lC ?_ ?_
 ·exact aG rfl
 ·refine lC ?_ ?_
  ·exact aG rfl
  ·exact ady b0
theorem aeu (b0 : aA) : Le (Option.map brokerref05_Props_out (qB b0)) (aAZ (aA.enc b0)) := by
 refine Le.trans ?_ (le_of_eq ((bD aoT).trans (aAp ..)).symm)
 unfold qB
 refine lQ eX brokerref06_Used_inj (ahE _) fun r0 _ => ?_
 refine lQ eX brokerref05_SameProps_inj (lE _ _) fun r1 _ => ?_
 refine lC ?_ ?_
 ·exact aG rfl
 ·refine lC ?_ ?_
  ·refine lQ eX brokerref05_Props_inj (afI _) fun r2 _ => ?_
   exact aG rfl
  ·refine lC ?_ ?_
   ·refine lQ eX brokerref05_Props_inj (afL _) fun r3 _ => ?_
    exact aG rfl
   ·refine lC ?_ ?_
    ·refine lQ eX brokerref05_SameProps_inj (wI _) fun r4 _ => ?_
     refine lC ?_ ?_
     ·exact aG rfl
     ·refine lC ?_ ?_
      ·refine lC ?_ ?_
       ·exact aG rfl
       ·exact aG rfl
      ·exact aG rfl
    ·refine lC ?_ ?_
     ·refine lQ eX brokerref05_SameProps_inj (wI _) fun r5 _ => ?_
      refine lC ?_ ?_
      ·exact aG rfl
      ·refine lC ?_ ?_
       ·refine lC ?_ ?_
        ·exact aG rfl
        ·exact aG rfl
       ·exact aG rfl
     ·exact adG b0
theorem qO (p0 : aA) : Le (Option.map brokerref05_Props_out (jT p0)) (bF SE 23 [aA.av p0] [] []) := by
 refine aZ aoT rfl ?_
 refine Le.trans ?_ (le_of_eq (T23 ..).symm)
 unfold jT
 refine lC ?_ ?_
 ·exact aG rfl
 ·refine lC ?_ ?_
  ·exact aG rfl
  ·exact aeu p0
def ar0 (C : aR) (Λ2 J : Lam) (a0 : List (List D)) (a1 : Int) : Res := lab SE C Λ2 J 22 0 [1, 1, 0, 1, 0] (bA [(0, .d (.sl aA.ks a0)), (3, dIq a1)] [] [] [] [])
section
variable (Γ : Fun) (γ23 : Gm (Int)) (Λ2 J : Lam)
def C22 : aR := bE (aS Γ) 23 brokerref05_Props_out γ23
theorem T22 (p0 : List aA) : bK SE (C22 Γ γ23) Λ2 J 22 [.d (.sl aA.ks (List.map aA.enc p0))] [] [] =
 cond (decide ((lM aA.enc p0 : Int) > 8)) (
 (rB false)) (
 ar0 (C22 Γ γ23) Λ2 J (List.map aA.enc p0) 0) := by kernel_rfl
theorem aAk (x0 : List aA) (x3 : Int) : cJ SE (C22 Γ γ23) Λ2 J 22 0 [1, 1, 0, 1, 0] (bA [(0, .d (.sl aA.ks (List.map aA.enc x0))), (3, dIq x3)] [] [] [] []) =
 cond (decide (x3 < (lM aA.enc x0 : Int))) (
 cond (iB x3 (lM aA.enc x0 : Int)) (
  γ23 [.agg [dIq (aX (cE aA.enc x0 x3 0)), dIq (aX (cE aA.enc x0 x3 1)), dBq (bT (cE aA.enc x0 x3 2)), dSq (bJ (cE aA.enc x0 x3 3)), dSq (bJ (cE aA.enc x0 x3 4)), dIq (aX (cE aA.enc x0 x3 5)), dBq (bT (cE aA.enc x0 x3 6)), dIq (aX (cE aA.enc x0 x3 7)), dIq (aX (cE aA.enc x0 x3 8)), dSq (bJ (cE aA.enc x0 x3 9)), dIq (aX (cE aA.enc x0 x3 10)), .d (.sl aC.ks (dSl (cE aA.enc x0 x3 11))), dSq (bJ (cE aA.enc x0 x3 12)), dSq (bJ (cE aA.enc x0 x3 13)), dBq (bT (cE aA.enc x0 x3 14)), dIq (aX (cE aA.enc x0 x3 15)), dIq (aX (cE aA.enc x0 x3 16)), dIq (aX (cE aA.enc x0 x3 17)), dBq (bT (cE aA.enc x0 x3 18)), dIq (aX (cE aA.enc x0 x3 19)), dSq (bJ (cE aA.enc x0 x3 20)), dSq (bJ (cE aA.enc x0 x3 21)), dIq (aX (cE aA.enc x0 x3 22)), dBq (bT (cE aA.enc x0 x3 23)), dIq (aX (cE aA.enc x0 x3 24)), dIq (aX (cE aA.enc x0 x3 25)), dSq (bJ (cE aA.enc x0 x3 26)), dIq (aX (cE aA.enc x0 x3 27)), .d (.sl aC.ks (dSl (cE aA.enc x0 x3 28))), dBq (bT (cE aA.enc x0 x3 29)), dIq (aX (cE aA.enc x0 x3 30)), .d (.sl aH.ks (dSl (cE aA.enc x0 x3 31))), .d (.sl [.str] (dSl (cE aA.enc x0 x3 32))), .d (.sl [.int .i64] (dSl (cE aA.enc x0 x3 33)))]] [] [] fun r0 =>
  cond (r0 != 0) (
  (rB false)) (
  ar0 (C22 Γ γ23) Λ2 J (List.map aA.enc x0) (w6 (x3 + 1)))) none) (
 (rB true)) := by kernel_rfl
end
abbrev X22 : aR := C22 gG (cT 23 brokerref05_Props_out)
theorem aw8 : X22 = aS gG := by unfold X22 C22; rw [bH fun _ h => h]
abbrev aBT := ar0 X22 (cB SE gG (SE.hl 22) (SE.hr 22)) (J0 SE X22)
theorem aew : ∀ (fu : Nat) (x0 : List aA) (x3 : Int), Le (Option.map brokerref05_SameProps_out (iA fu x0 x3)) (aBT (List.map aA.enc x0) x3) := by
 intro fu
 induction fu with
 | zero => intros; exact le_none
 | succ fu ih =>
  intro x0 x3
  refine Le.trans ?_ (le_of_eq ((bD aw8).trans (aAk ..)).symm)
  unfold iA
  refine lDe ?_ ?_
  ·refine lGe ?_
   refine lQ eX brokerref05_Props_inj (by (try simp only [EN]); exact qO (List.getD x0 (Int.toNat x3) default)) fun r0 _ => ?_
   refine lC ?_ ?_
   ·exact aG rfl
   ·exact ih x0 (w6 (x3 + 1))
  ·exact aG rfl
theorem ag3 (p0 : List aA) : Le (Option.map brokerref05_SameProps_out (tN p0)) (bF SE 22 [.d (.sl aA.ks (List.map aA.enc p0))] [] []) := by
 refine aZ aw8 rfl ?_
 refine Le.trans ?_ (le_of_eq (T22 ..).symm)
 unfold tN
 refine lDe ?_ ?_
 ·exact aG rfl
 ·exact aew fuel p0 0
section
variable (Γ : Fun)  (Λ2 J : Lam)
def C58 : aR := aS Γ
theorem T58 (p0 p1 p2 : Int) : bK SE (C58 Γ) Λ2 J 58 [dIq p0, dIq p1, dIq p2] [] [] =
 cond (decide (p0 ≥ p1)) (
 (rB (decide (p0 ≤ p2)))) (
 (rB false)) := by kernel_rfl
end
abbrev X58 : aR := C58 gG
theorem aEu : X58 = aS gG := rfl
theorem gI (p0 p1 p2 : Int) : Le (Option.map brokerref05_SameProps_out (hU p0 p1 p2)) (bF SE 58 [dIq p0, dIq p1, dIq p2] [] []) := by
 refine aZ aEu rfl ?_
 refine Le.trans ?_ (le_of_eq (T58 ..).symm)
 unfold hU
 refine lC ?_ ?_
 ·exact aG rfl
 ·exact aG rfl
section
variable (Γ : Fun)  (Λ2 J : Lam)
def C60 : aR := aS Γ
theorem T60 (p0 : aA) : bK SE (C60 Γ) Λ2 J 60 [aA.av p0] [] [] =
 cond (p0.Kind == 1) (
 (some (brokerref06_Used_out ((aA.mk p0.Kind 0 false zMq p0.Client p0.User p0.Clean p0.Keep p0.Expiry p0.Window p0.Will false 0 [] [] []))))) (
 cond (p0.Kind == 2) (
 (some (brokerref06_Used_out ((aA.mk p0.Kind 0 false zMq [] [] false 0 0 0 zWq p0.Present p0.Code [] [] []))))) (
 cond (p0.Kind == 3) (
 (some (brokerref06_Used_out ((aA.mk p0.Kind p0.ID p0.Dup p0.Message [] [] false 0 0 0 zWq false 0 [] [] []))))) (
 cond (p0.Kind == 4) (
 (some (brokerref06_Used_out ((aA.mk p0.Kind p0.ID false zMq [] [] false 0 0 0 zWq false 0 [] [] []))))) (
 cond (p0.Kind == 5) (
 (some (brokerref06_Used_out ((aA.mk p0.Kind p0.ID false zMq [] [] false 0 0 0 zWq false 0 [] [] []))))) (
 cond (p0.Kind == 6) (
 (some (brokerref06_Used_out ((aA.mk p0.Kind p0.ID false zMq [] [] false 0 0 0 zWq false 0 [] [] []))))) (
 cond (p0.Kind == 7) (
 (some (brokerref06_Used_out ((aA.mk p0.Kind p0.ID false zMq [] [] false 0 0 0 zWq false 0 [] [] []))))) (
 cond (p0.Kind == 8) (
 (some (brokerref06_Used_out ((aA.mk p0.Kind p0.ID false zMq [] [] false 0 0 0 zWq false 0 p0.Subs [] []))))) (
 cond (p0.Kind == 9) (
 (some (brokerref06_Used_out ((aA.mk p0.Kind p0.ID false zMq [] [] false 0 0 0 zWq false 0 [] [] p0.Codes))))) (
 cond (p0.Kind == 11) (
 (some (brokerref06_Used_out ((aA.mk p0.Kind p0.ID false zMq [] [] false 0 0 0 zWq false 0 [] [] p0.Codes))))) (
 cond (p0.Kind == 10) (
 (some (brokerref06_Used_out ((aA.mk p0.Kind p0.ID false zMq [] [] false 0 0 0 zWq false 0 [] p0.Filters []))))) (
 cond (p0.Kind == 14) (
 (some (brokerref06_Used_out ((aA.mk p0.Kind 0 false zMq [] [] false 0 0 0 zWq false p0.Code [] [] []))))) (
 (some (brokerref06_Used_out ((aA.mk p0.Kind 0 false zMq [] [] false 0 0 0 zWq false 0 [] [] [])))))))))))))))) := by kernel_rfl
end
abbrev X60 : aR := C60 gG
theorem aEw : X60 = aS gG := rfl
theorem al9 (p0 : aA) : Le (Option.map brokerref06_Used_out (v3 p0)) (bF SE 60 [aA.av p0] [] []) := by
 refine aZ aEw rfl ?_
 refine Le.trans ?_ (le_of_eq (T60 ..).symm)
 unfold v3
 refine lC ?_ ?_
 ·exact aG rfl
 ·refine lC ?_ ?_
  ·exact aG rfl
  ·refine lC ?_ ?_
   ·exact aG rfl
   ·refine lC ?_ ?_
    ·exact aG rfl
    ·refine lC ?_ ?_
     ·exact aG rfl
     ·refine lC ?_ ?_
      ·exact aG rfl
      ·refine lC ?_ ?_
       ·exact aG rfl
       ·refine lC ?_ ?_
        ·exact aG rfl
        ·refine lC ?_ ?_
         ·exact aG rfl
         ·refine lC ?_ ?_
          ·exact aG rfl
          ·refine lC ?_ ?_
           ·exact aG rfl
           ·refine lC ?_ ?_
            ·exact aG rfl
            ·exact aG rfl
section
variable (Γ : Fun)  (Λ2 J : Lam)
def C91 : aR := aS Γ
theorem T91 (p0 : aA) : bK SE (C91 Γ) Λ2 J 91 [aA.av p0] [] [] =
 (some (.ret [cG.av (cG.mk p0.Kind p0.ID p0.Keep p0.Expiry p0.Window p0.Code p0.Will.Delay p0.Dup p0.Clean p0.Present p0.Will.Set p0.Client p0.User)] [] [])) := by kernel_rfl
end
abbrev X91 : aR := C91 gG
theorem aCE : X91 = aS gG := rfl
theorem acE (p0 : aA) : Le (Option.map lZ (tZ p0)) (bF SE 91 [aA.av p0] [] []) := by
 refine aZ aCE rfl ?_
 refine Le.trans ?_ (le_of_eq (T91 ..).symm)
 unfold tZ
 exact aG rfl
def aqQ (C : aR) (Λ2 J : Lam) (a0 : List (List D)) (a1 a2 : Int) (a3 : List D) : Res := lab SE C Λ2 J 92 0 [1, 1, 0, 1, 0] (bA [(3, .ptr 1000000000 0), (71, .d (.sl aC.ks a0)), (72, dIq a1), (73, dIq a2)] [⟨24, (List.map AV.d a3)⟩] [] [] [])
def avI (C : aR) (Λ2 J : Lam) (a0 a1 : List D) : Res := lab SE C Λ2 J 92 0 [1, 1, 0, 0] (bA [(2, .ptr 1000000000 0), (3, .ptr 1000000001 0)] [⟨24, (List.map AV.d a0)⟩, ⟨24, (List.map AV.d a1)⟩] [] [] [])
section
variable (Γ : Fun)  (Λ2 J : Lam)
def C92 : aR := aS Γ
theorem T92 (p0 p1 : aF) : bK SE (C92 Γ) Λ2 J 92 [aF.av p0, aF.av p1] [] [] =
 cond (!(p0.Topic == p1.Topic)) (
 (rB false)) (
 cond (!(p0.Payload == p1.Payload)) (
 (rB false)) (
 cond (p0.Level != p1.Level) (
 (rB false)) (
 cond (p0.Retain != p1.Retain) (
 (rB false)) (
 cond (p0.Priority != p1.Priority) (
 (rB false)) (
 cond (p0.Expires != p1.Expires) (
 (rB false)) (
 cond (!(p0.From == p1.From)) (
 (rB false)) (
 cond (p0.Seq != p1.Seq) (
 (rB false)) (
 cond ((lM aC.enc p0.Props : Int) != (lM aC.enc p1.Props : Int)) (
 (rB false)) (
 avI (C92 Γ) Λ2 J (aF.enc p0) (aF.enc p1)))))))))) := by kernel_rfl
theorem aAs (x71 : List aC) (x72 x73 : Int) (b0 : aF) : cJ SE (C92 Γ) Λ2 J 92 0 [1, 1, 0, 1, 0] (bA [(3, .ptr 1000000000 0), (71, .d (.sl aC.ks (List.map aC.enc x71))), (72, dIq x72), (73, dIq x73)] [⟨24, (List.map AV.d (aF.enc b0))⟩] [] [] []) =
 cond (decide (x73 < x72)) (
 cond (iB x73 (lM aC.enc x71 : Int)) (
  cond (iB x73 (lM aC.enc b0.Props : Int)) (
  cond (!(((bJ (cE aC.enc x71 x73 0)) == (bJ (cE aC.enc b0.Props x73 0))) && (((bJ (cE aC.enc x71 x73 1)) == (bJ (cE aC.enc b0.Props x73 1))) && true))) (
   (rB false)) (
  aqQ (C92 Γ) Λ2 J (List.map aC.enc x71) x72 (w6 (x73 + 1)) (aF.enc b0))) none) none) (
 (rB true)) := by kernel_rfl
theorem aBO (b0 b1 : aF) : cJ SE (C92 Γ) Λ2 J 92 0 [1, 1, 0, 0] (bA [(2, .ptr 1000000000 0), (3, .ptr 1000000001 0)] [⟨24, (List.map AV.d (aF.enc b0))⟩, ⟨24, (List.map AV.d (aF.enc b1))⟩] [] [] []) =
 aqQ (C92 Γ) Λ2 J (List.map aC.enc b0.Props) (lM aC.enc b0.Props : Int) 0 (aF.enc b1) := by kernel_rfl
end
abbrev X92 : aR := C92 gG
theorem atW : X92 = aS gG := rfl
abbrev aBJ := aqQ X92 (cB SE gG (SE.hl 92) (SE.hr 92)) (J0 SE X92)
abbrev aAt := avI X92 (cB SE gG (SE.hl 92) (SE.hr 92)) (J0 SE X92)
theorem ahR : ∀ (fu : Nat) (x71 : List aC) (x72 x73 : Int) (b0 : aF), Le (Option.map brokerref05_SameProps_out (m6 fu x71 x72 x73 b0)) (aBJ (List.map aC.enc x71) x72 x73 (aF.enc b0)) := by
 intro fu
 induction fu with
 | zero => intros; exact le_none
 | succ fu ih =>
  intro x71 x72 x73 b0
  refine Le.trans ?_ (le_of_eq ((bD atW).trans (aAs ..)).symm)
  unfold m6
  refine lC ?_ ?_
  ·refine lGe ?_
   refine lGe ?_
   refine lDe ?_ ?_
   ·exact aG rfl
   ·exact ih x71 x72 (w6 (x73 + 1)) b0
  ·exact aG rfl
theorem aiE (b0 b1 : aF) : Le (Option.map brokerref05_SameProps_out (wO b0 b1)) (aAt (aF.enc b0) (aF.enc b1)) := by
 refine Le.trans ?_ (le_of_eq ((bD atW).trans (aBO ..)).symm)
 unfold wO
 (try simp only [EN]); exact ahR fuel b0.Props (List.length b0.Props : Int) 0 b1
theorem wR (p0 p1 : aF) : Le (Option.map brokerref05_SameProps_out (oW p0 p1)) (bF SE 92 [aF.av p0, aF.av p1] [] []) := by
 refine aZ atW rfl ?_
 refine Le.trans ?_ (le_of_eq (T92 ..).symm)
 unfold oW
 refine lC ?_ ?_
 ·exact aG rfl
 ·refine lC ?_ ?_
  ·exact aG rfl
  ·refine lC ?_ ?_
   ·exact aG rfl
   ·refine lC ?_ ?_
    ·exact aG rfl
    ·refine lC ?_ ?_
     ·exact aG rfl
     ·refine lC ?_ ?_
      ·exact aG rfl
      ·refine lC ?_ ?_
       ·exact aG rfl
       ·refine lC ?_ ?_
        ·exact aG rfl
        ·refine lDe ?_ ?_
         ·exact aG rfl
         ·exact aiE p0 p1
def aqW (C : aR) (Λ2 J : Lam) (a0 a1 : List (List D)) (a2 a3 : Int) : Res := lab SE C Λ2 J 93 0 [1, 1, 0, 1, 0] (bA [(1, .d (.sl aH.ks a0)), (12, .d (.sl aH.ks a1)), (13, dIq a2), (14, dIq a3)] [] [] [] [])
section
variable (Γ : Fun)  (Λ2 J : Lam)
def C93 : aR := aS Γ
theorem T93 (p0 p1 : List aH) : bK SE (C93 Γ) Λ2 J 93 [.d (.sl aH.ks (List.map aH.enc p0)), .d (.sl aH.ks (List.map aH.enc p1))] [] [] =
 cond ((lM aH.enc p0 : Int) != (lM aH.enc p1 : Int)) (
 (rB false)) (
 aqW (C93 Γ) Λ2 J (List.map aH.enc p1) (List.map aH.enc p0) (lM aH.enc p0 : Int) 0) := by kernel_rfl
theorem az9 (x1 x12 : List aH) (x13 x14 : Int) : cJ SE (C93 Γ) Λ2 J 93 0 [1, 1, 0, 1, 0] (bA [(1, .d (.sl aH.ks (List.map aH.enc x1))), (12, .d (.sl aH.ks (List.map aH.enc x12))), (13, dIq x13), (14, dIq x14)] [] [] [] []) =
 cond (decide (x14 < x13)) (
 cond (iB x14 (lM aH.enc x12 : Int)) (
  cond (iB x14 (lM aH.enc x1 : Int)) (
  cond (!(((bJ (cE aH.enc x12 x14 0)) == (bJ (cE aH.enc x1 x14 0))) && (((aX (cE aH.enc x12 x14 1)) == (aX (cE aH.enc x1 x14 1))) && (((bT (cE aH.enc x12 x14 2)) == (bT (cE aH.enc x1 x14 2))) && true)))) (
   (rB false)) (
  aqW (C93 Γ) Λ2 J (List.map aH.enc x1) (List.map aH.enc x12) x13 (w6 (x14 + 1)))) none) none) (
 (rB true)) := by kernel_rfl
end
abbrev X93 : aR := C93 gG
theorem axr : X93 = aS gG := rfl
abbrev aCb := aqW X93 (cB SE gG (SE.hl 93) (SE.hr 93)) (J0 SE X93)
theorem aju : ∀ (fu : Nat) (x1 x12 : List aH) (x13 x14 : Int), Le (Option.map brokerref05_SameProps_out (n7 fu x1 x12 x13 x14)) (aCb (List.map aH.enc x1) (List.map aH.enc x12) x13 x14) := by
 intro fu
 induction fu with
 | zero => intros; exact le_none
 | succ fu ih =>
  intro x1 x12 x13 x14
  refine Le.trans ?_ (le_of_eq ((bD axr).trans (az9 ..)).symm)
  unfold n7
  refine lC ?_ ?_
  ·refine lGe ?_
   refine lGe ?_
   refine lDe ?_ ?_
   ·exact aG rfl
   ·exact ih x1 x12 x13 (w6 (x14 + 1))
  ·exact aG rfl
theorem amo (p0 p1 : List aH) : Le (Option.map brokerref05_SameProps_out (y9 p0 p1)) (bF SE 93 [.d (.sl aH.ks (List.map aH.enc p0)), .d (.sl aH.ks (List.map aH.enc p1))] [] []) := by
 refine aZ axr rfl ?_
 refine Le.trans ?_ (le_of_eq (T93 ..).symm)
 unfold y9
 refine lDe ?_ ?_
 ·exact aG rfl
 ·(try simp only [EN]); exact aju fuel p1 p0 (List.length p0 : Int) 0
def aqK (C : aR) (Λ2 J : Lam) (a0 a1 : List (List D)) (a2 a3 : Int) : Res := lab SE C Λ2 J 94 0 [1, 1, 0, 1, 0] (bA [(1, .d (.sl [.str] a0)), (12, .d (.sl [.str] a1)), (13, dIq a2), (14, dIq a3)] [] [] [] [])
section
variable (Γ : Fun)  (Λ2 J : Lam)
def C94 : aR := aS Γ
theorem T94 (p0 p1 : List Str) : bK SE (C94 Γ) Λ2 J 94 [.d (.sl [.str] (List.map aY p0)), .d (.sl [.str] (List.map aY p1))] [] [] =
 cond ((lM aY p0 : Int) != (lM aY p1 : Int)) (
 (rB false)) (
 aqK (C94 Γ) Λ2 J (List.map aY p1) (List.map aY p0) (lM aY p0 : Int) 0) := by kernel_rfl
theorem az3 (x1 x12 : List Str) (x13 x14 : Int) : cJ SE (C94 Γ) Λ2 J 94 0 [1, 1, 0, 1, 0] (bA [(1, .d (.sl [.str] (List.map aY x1))), (12, .d (.sl [.str] (List.map aY x12))), (13, dIq x13), (14, dIq x14)] [] [] [] []) =
 cond (decide (x14 < x13)) (
 cond (iB x14 (lM aY x12 : Int)) (
  cond (iB x14 (lM aY x1 : Int)) (
  cond (!((bJ (cE aY x12 x14 0)) == (bJ (cE aY x1 x14 0)))) (
   (rB false)) (
  aqK (C94 Γ) Λ2 J (List.map aY x1) (List.map aY x12) x13 (w6 (x14 + 1)))) none) none) (
 (rB true)) := by kernel_rfl
end
abbrev X94 : aR := C94 gG
theorem axB : X94 = aS gG := rfl
abbrev aBS := aqK X94 (cB SE gG (SE.hl 94) (SE.hr 94)) (J0 SE X94)
theorem aio : ∀ (fu : Nat) (x1 x12 : List Str) (x13 x14 : Int), Le (Option.map brokerref05_SameProps_out (nA fu x1 x12 x13 x14)) (aBS (List.map aY x1) (List.map aY x12) x13 x14) := by
 intro fu
 induction fu with
 | zero => intros; exact le_none
 | succ fu ih =>
  intro x1 x12 x13 x14
  refine Le.trans ?_ (le_of_eq ((bD axB).trans (az3 ..)).symm)
  unfold nA
  refine lC ?_ ?_
  ·refine lGe ?_
   refine lGe ?_
   refine lDe ?_ ?_
   ·exact aG rfl
   ·exact ih x1 x12 x13 (w6 (x14 + 1))
  ·exact aG rfl
theorem ak1 (p0 p1 : List Str) : Le (Option.map brokerref05_SameProps_out (xO p0 p1)) (bF SE 94 [.d (.sl [.str] (List.map aY p0)), .d (.sl [.str] (List.map aY p1))] [] []) := by
 refine aZ axB rfl ?_
 refine Le.trans ?_ (le_of_eq (T94 ..).symm)
 unfold xO
 refine lDe ?_ ?_
 ·exact aG rfl
 ·(try simp only [EN]); exact aio fuel p1 p0 (List.length p0 : Int) 0
def arl (C : aR) (Λ2 J : Lam) (a0 a1 : List (List D)) (a2 a3 : Int) : Res := lab SE C Λ2 J 95 0 [1, 1, 0, 1, 0] (bA [(1, .d (.sl [.int .i64] a0)), (12, .d (.sl [.int .i64] a1)), (13, dIq a2), (14, dIq a3)] [] [] [] [])
section
variable (Γ : Fun)  (Λ2 J : Lam)
def C95 : aR := aS Γ
theorem T95 (p0 p1 : List Int) : bK SE (C95 Γ) Λ2 J 95 [.d (.sl [.int .i64] (List.map eI p0)), .d (.sl [.int .i64] (List.map eI p1))] [] [] =
 cond ((lM eI p0 : Int) != (lM eI p1 : Int)) (
 (rB false)) (
 arl (C95 Γ) Λ2 J (List.map eI p1) (List.map eI p0) (lM eI p0 : Int) 0) := by kernel_rfl
theorem aAB (x1 x12 : List Int) (x13 x14 : Int) : cJ SE (C95 Γ) Λ2 J 95 0 [1, 1, 0, 1, 0] (bA [(1, .d (.sl [.int .i64] (List.map eI x1))), (12, .d (.sl [.int .i64] (List.map eI x12))), (13, dIq x13), (14, dIq x14)] [] [] [] []) =
 cond (decide (x14 < x13)) (
 cond (iB x14 (lM eI x12 : Int)) (
  cond (iB x14 (lM eI x1 : Int)) (
  cond ((aX (cE eI x12 x14 0)) != (aX (cE eI x1 x14 0))) (
   (rB false)) (
  arl (C95 Γ) Λ2 J (List.map eI x1) (List.map eI x12) x13 (w6 (x14 + 1)))) none) none) (
 (rB true)) := by kernel_rfl
end
abbrev X95 : aR := C95 gG
theorem ayz : X95 = aS gG := rfl
abbrev aBi := arl X95 (cB SE gG (SE.hl 95) (SE.hr 95)) (J0 SE X95)
theorem ag5 : ∀ (fu : Nat) (x1 x12 : List Int) (x13 x14 : Int), Le (Option.map brokerref05_SameProps_out (kU fu x1 x12 x13 x14)) (aBi (List.map eI x1) (List.map eI x12) x13 x14) := by
 intro fu
 induction fu with
 | zero => intros; exact le_none
 | succ fu ih =>
  intro x1 x12 x13 x14
  refine Le.trans ?_ (le_of_eq ((bD ayz).trans (aAB ..)).symm)
  unfold kU
  refine lC ?_ ?_
  ·refine lGe ?_
   refine lGe ?_
   refine lDe ?_ ?_
   ·exact aG rfl
   ·exact ih x1 x12 x13 (w6 (x14 + 1))
  ·exact aG rfl
theorem ajy (p0 p1 : List Int) : Le (Option.map brokerref05_SameProps_out (uC p0 p1)) (bF SE 95 [.d (.sl [.int .i64] (List.map eI p0)), .d (.sl [.int .i64] (List.map eI p1))] [] []) := by
 refine aZ ayz rfl ?_
 refine Le.trans ?_ (le_of_eq (T95 ..).symm)
 unfold uC
 refine lDe ?_ ?_
 ·exact aG rfl
 ·(try simp only [EN]); exact ag5 fuel p1 p0 (List.length p0 : Int) 0
end Te
end PX
