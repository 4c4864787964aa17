import Derived.Test.YtdgmdomlghamdaaDoorTab
set_option linter.unusedVariables false
set_option linter.unusedSimpArgs false
set_option maxRecDepth 100000
noncomputable section
namespace PX
open Go
open Md
namespace Te
abbrev cE {α : Type} (f : α → List D) (l : List α) (i : Int) (k : Nat) : D := cellAt (elemAt (List.map f l) (Int.toNat i)) k
abbrev lM {α : Type} (f : α → List D) (l : List α) : Nat := List.length (List.map f l)
abbrev iB (i n : Int) : Bool := decide (0 ≤ i) && decide (i < n)
abbrev w6 (x : Int) : Int := IntKind.wrap .i64 x
abbrev eI : Int → List D := aJ .i64
abbrev dIq (n : Int) : AV := .d (.int .i64 n)
abbrev dSq (s : Str) : AV := .d (.str s)
abbrev dBq (b : Bool) : AV := .d (.bool b)
abbrev rB (b : Bool) : Res := some (.ret [.d (.bool b)] [] [])
abbrev rI (n : Int) : Res := some (.ret [.d (.int .i64 n)] [] [])
theorem lQ {g : FuncId} {R S : Type} {out : R → Out} {e : S → Out} {x : Option R} {M : R → Option S} {a : List AV} {b : List Bx} {r : List Rw} {κ : R → Res} (hg : ∀ y, good g (out y)) (hi : ∀ y z, out y = out z → y = z) (h : Le (x.map out) (bD SE g a b r)) (hk : ∀ y, x = some y → Le ((M y).map e) (κ y)) : Le ((x.bind M).map e) (ad6 SE good g out a b r κ) := apQ (good := good) hg hi h hk
section
variable (Γ : Fun)  (Λ2 J : Lam)
def C5 : aS := aQ Γ
theorem T5 (p0 : Int) : bS SE (C5 Γ) Λ2 J 5 [dIq p0] [] [] =
 (some (.ret [aL.av (aL.mk p0 0 0 false)] [] [])) := by kernel_rfl
end
abbrev X5 : aS := C5 gG
theorem Cr5 : X5 = aQ gG := rfl
theorem wP (p0 : Int) : Le (Option.map cF (rE p0)) (bD SE 5 [dIq p0] [] []) := by
 refine aY Cr5 rfl ?_
 refine Le.trans ?_ (le_of_eq (T5 ..).symm)
 unfold rE
 exact aF rfl
section
variable (Γ : Fun)  (Λ2 J : Lam)
def C46 : aS := aQ Γ
theorem T46 (p0 p1 p2 : Int) : bS SE (C46 Γ) Λ2 J 46 [dIq p0, dIq p1, dIq p2] [] [] =
 cond (decide (p0 ≥ p1)) (
 (rB (decide (p0 ≤ p2)))) (
 (rB false)) := by kernel_rfl
end
abbrev X46 : aS := C46 gG
theorem aue : X46 = aQ gG := rfl
theorem eH (p0 p1 p2 : Int) : Le (Option.map aK (eW p0 p1 p2)) (bD SE 46 [dIq p0, dIq p1, dIq p2] [] []) := by
 refine aY aue rfl ?_
 refine Le.trans ?_ (le_of_eq (T46 ..).symm)
 unfold eW
 refine lC ?_ ?_
 ·exact aF rfl
 ·exact aF rfl
section
variable (Γ : Fun)  (Λ2 J : Lam)
def C48 : aS := aQ Γ
theorem T48 (p0 : aA) : bS SE (C48 Γ) Λ2 J 48 [aA.av p0] [] [] =
 cond (p0.Kind == 1) (
 (some (kL ((aA.mk p0.Kind 0 false (aE.mk [] [] 0 false 0 0 [] 0 []) p0.Client p0.User p0.Clean p0.Keep p0.Expiry p0.Window p0.Will false 0 [] [] []))))) (
 cond (p0.Kind == 2) (
 (some (kL ((aA.mk p0.Kind 0 false (aE.mk [] [] 0 false 0 0 [] 0 []) [] [] false 0 0 0 (aW.mk false 0 (aE.mk [] [] 0 false 0 0 [] 0 [])) p0.Present p0.Code [] [] []))))) (
 cond (p0.Kind == 3) (
 (some (kL ((aA.mk p0.Kind p0.ID p0.Dup p0.Message [] [] false 0 0 0 (aW.mk false 0 (aE.mk [] [] 0 false 0 0 [] 0 [])) false 0 [] [] []))))) (
 cond (p0.Kind == 4) (
 (some (kL ((aA.mk p0.Kind p0.ID false (aE.mk [] [] 0 false 0 0 [] 0 []) [] [] false 0 0 0 (aW.mk false 0 (aE.mk [] [] 0 false 0 0 [] 0 [])) false 0 [] [] []))))) (
 cond (p0.Kind == 5) (
 (some (kL ((aA.mk p0.Kind p0.ID false (aE.mk [] [] 0 false 0 0 [] 0 []) [] [] false 0 0 0 (aW.mk false 0 (aE.mk [] [] 0 false 0 0 [] 0 [])) false 0 [] [] []))))) (
 cond (p0.Kind == 6) (
 (some (kL ((aA.mk p0.Kind p0.ID false (aE.mk [] [] 0 false 0 0 [] 0 []) [] [] false 0 0 0 (aW.mk false 0 (aE.mk [] [] 0 false 0 0 [] 0 [])) false 0 [] [] []))))) (
 cond (p0.Kind == 7) (
 (some (kL ((aA.mk p0.Kind p0.ID false (aE.mk [] [] 0 false 0 0 [] 0 []) [] [] false 0 0 0 (aW.mk false 0 (aE.mk [] [] 0 false 0 0 [] 0 [])) false 0 [] [] []))))) (
 cond (p0.Kind == 8) (
 (some (kL ((aA.mk p0.Kind p0.ID false (aE.mk [] [] 0 false 0 0 [] 0 []) [] [] false 0 0 0 (aW.mk false 0 (aE.mk [] [] 0 false 0 0 [] 0 [])) false 0 p0.Subs [] []))))) (
 cond (p0.Kind == 9) (
 (some (kL ((aA.mk p0.Kind p0.ID false (aE.mk [] [] 0 false 0 0 [] 0 []) [] [] false 0 0 0 (aW.mk false 0 (aE.mk [] [] 0 false 0 0 [] 0 [])) false 0 [] [] p0.Codes))))) (
 cond (p0.Kind == 11) (
 (some (kL ((aA.mk p0.Kind p0.ID false (aE.mk [] [] 0 false 0 0 [] 0 []) [] [] false 0 0 0 (aW.mk false 0 (aE.mk [] [] 0 false 0 0 [] 0 [])) false 0 [] [] p0.Codes))))) (
 cond (p0.Kind == 10) (
 (some (kL ((aA.mk p0.Kind p0.ID false (aE.mk [] [] 0 false 0 0 [] 0 []) [] [] false 0 0 0 (aW.mk false 0 (aE.mk [] [] 0 false 0 0 [] 0 [])) false 0 [] p0.Filters []))))) (
 cond (p0.Kind == 14) (
 (some (kL ((aA.mk p0.Kind 0 false (aE.mk [] [] 0 false 0 0 [] 0 []) [] [] false 0 0 0 (aW.mk false 0 (aE.mk [] [] 0 false 0 0 [] 0 [])) false p0.Code [] [] []))))) (
 (some (kL ((aA.mk p0.Kind 0 false (aE.mk [] [] 0 false 0 0 [] 0 []) [] [] false 0 0 0 (aW.mk false 0 (aE.mk [] [] 0 false 0 0 [] 0 [])) false 0 [] [] [])))))))))))))))) := by kernel_rfl
end
abbrev X48 : aS := C48 gG
theorem atB : X48 = aQ gG := rfl
theorem ag5 (p0 : aA) : Le (Option.map kL (pB p0)) (bD SE 48 [aA.av p0] [] []) := by
 refine aY atB rfl ?_
 refine Le.trans ?_ (le_of_eq (T48 ..).symm)
 unfold pB
 refine lC ?_ ?_
 ·exact aF rfl
 ·refine lC ?_ ?_
  ·exact aF rfl
  ·refine lC ?_ ?_
   ·exact aF rfl
   ·refine lC ?_ ?_
    ·exact aF rfl
    ·refine lC ?_ ?_
     ·exact aF rfl
     ·refine lC ?_ ?_
      ·exact aF rfl
      ·refine lC ?_ ?_
       ·exact aF rfl
       ·refine lC ?_ ?_
        ·exact aF rfl
        ·refine lC ?_ ?_
         ·exact aF rfl
         ·refine lC ?_ ?_
          ·exact aF rfl
          ·refine lC ?_ ?_
           ·exact aF rfl
           ·refine lC ?_ ?_
            ·exact aF rfl
            ·exact aF rfl
section
variable (Γ : Fun)  (Λ2 J : Lam)
def C62 : aS := aQ Γ
theorem T62 (p0 : aA) : bS SE (C62 Γ) Λ2 J 62 [aA.av p0] [] [] =
 (some (.ret [bV.av (bV.mk p0.Kind p0.ID p0.Keep p0.Expiry p0.Window p0.Code p0.Will.Delay p0.Dup p0.Clean p0.Present p0.Will.Set p0.Client p0.User)] [] [])) := by kernel_rfl
end
abbrev X62 : aS := C62 gG
theorem atN : X62 = aQ gG := rfl
theorem wW (p0 : aA) : Le (Option.map iE (nS p0)) (bD SE 62 [aA.av p0] [] []) := by
 refine aY atN rfl ?_
 refine Le.trans ?_ (le_of_eq (T62 ..).symm)
 unfold nS
 exact aF rfl
def alE (C : aS) (Λ2 J : Lam) (a0 : List (List D)) (a1 a2 : Int) (a3 : List D) : Res := lab SE C Λ2 J 63 0 [1, 1, 0, 1, 0] (bU [(3, .ptr 1000000000 0), (71, .d (.sl aB.ks a0)), (72, dIq a1), (73, dIq a2)] [⟨51, (List.map AV.d a3)⟩] [] [] [])
def aoO (C : aS) (Λ2 J : Lam) (a0 a1 : List D) : Res := lab SE C Λ2 J 63 0 [1, 1, 0, 0] (bU [(2, .ptr 1000000000 0), (3, .ptr 1000000001 0)] [⟨51, (List.map AV.d a0)⟩, ⟨51, (List.map AV.d a1)⟩] [] [] [])
section
variable (Γ : Fun)  (Λ2 J : Lam)
def C63 : aS := aQ Γ
theorem T63 (p0 p1 : aE) : bS SE (C63 Γ) Λ2 J 63 [aE.av p0, aE.av p1] [] [] =
 cond (!(p0.Topic == p1.Topic)) (
 (rB false)) (
 cond (!(p0.Payload == p1.Payload)) (
 (rB false)) (
 cond (p0.Level != p1.Level) (
 (rB false)) (
 cond (p0.Retain != p1.Retain) (
 (rB false)) (
 cond (p0.Priority != p1.Priority) (
 (rB false)) (
 cond (p0.Expires != p1.Expires) (
 (rB false)) (
 cond (!(p0.From == p1.From)) (
 (rB false)) (
 cond (p0.Seq != p1.Seq) (
 (rB false)) (
 cond ((lM aB.enc p0.Props : Int) != (lM aB.enc p1.Props : Int)) (
 (rB false)) (
 aoO (C63 Γ) Λ2 J (aE.enc p0) (aE.enc p1)))))))))) := by kernel_rfl
theorem arS (x71 : List aB) (x72 x73 : Int) (b0 : aE) : eA SE (C63 Γ) Λ2 J 63 0 [1, 1, 0, 1, 0] (bU [(3, .ptr 1000000000 0), (71, .d (.sl aB.ks (List.map aB.enc x71))), (72, dIq x72), (73, dIq x73)] [⟨51, (List.map AV.d (aE.enc b0))⟩] [] [] []) =
 cond (decide (x73 < x72)) (
 cond (iB x73 (lM aB.enc x71 : Int)) (
  cond (iB x73 (lM aB.enc b0.Props : Int)) (
  cond (!(((bZ (cE aB.enc x71 x73 0)) == (bZ (cE aB.enc b0.Props x73 0))) && (((bZ (cE aB.enc x71 x73 1)) == (bZ (cE aB.enc b0.Props x73 1))) && true))) (
   (rB false)) (
  alE (C63 Γ) Λ2 J (List.map aB.enc x71) x72 (w6 (x73 + 1)) (aE.enc b0))) none) none) (
 (rB true)) := by kernel_rfl
theorem asj (b0 b1 : aE) : eA SE (C63 Γ) Λ2 J 63 0 [1, 1, 0, 0] (bU [(2, .ptr 1000000000 0), (3, .ptr 1000000001 0)] [⟨51, (List.map AV.d (aE.enc b0))⟩, ⟨51, (List.map AV.d (aE.enc b1))⟩] [] [] []) =
 alE (C63 Γ) Λ2 J (List.map aB.enc b0.Props) (lM aB.enc b0.Props : Int) 0 (aE.enc b1) := by kernel_rfl
end
abbrev X63 : aS := C63 gG
theorem anP : X63 = aQ gG := rfl
abbrev arh := alE X63 (dQ SE gG (SE.hl 63) (SE.hr 63)) (J0 SE X63)
abbrev arK := aoO X63 (dQ SE gG (SE.hl 63) (SE.hr 63)) (J0 SE X63)
theorem adq : ∀ (fu : Nat) (x71 : List aB) (x72 x73 : Int) (b0 : aE), Le (Option.map aK (jA fu x71 x72 x73 b0)) (arh (List.map aB.enc x71) x72 x73 (aE.enc b0)) := by
 intro fu
 induction fu with
 | zero => intros; exact le_none
 | succ fu ih =>
  intro x71 x72 x73 b0
  refine Le.trans ?_ (le_of_eq ((bX anP).trans (arS ..)).symm)
  unfold jA
  refine lC ?_ ?_
  ·refine lG (by simp only [EN]) ?_
   refine lG (by simp only [EN]) ?_
   refine lD (by simp only [EN]) ?_ ?_
   ·exact aF rfl
   ·exact ih x71 x72 (w6 (x73 + 1)) b0
  ·exact aF rfl
theorem adm (b0 b1 : aE) : Le (Option.map aK (pU b0 b1)) (arK (aE.enc b0) (aE.enc b1)) := by
 refine Le.trans ?_ (le_of_eq ((bX anP).trans (asj ..)).symm)
 unfold pU
 (try simp only [EN]); exact adq fuel b0.Props (List.length b0.Props : Int) 0 b1
theorem pS (p0 p1 : aE) : Le (Option.map aK (kB p0 p1)) (bD SE 63 [aE.av p0, aE.av p1] [] []) := by
 refine aY anP rfl ?_
 refine Le.trans ?_ (le_of_eq (T63 ..).symm)
 unfold kB
 refine lC ?_ ?_
 ·exact aF rfl
 ·refine lC ?_ ?_
  ·exact aF rfl
  ·refine lC ?_ ?_
   ·exact aF rfl
   ·refine lC ?_ ?_
    ·exact aF rfl
    ·refine lC ?_ ?_
     ·exact aF rfl
     ·refine lC ?_ ?_
      ·exact aF rfl
      ·refine lC ?_ ?_
       ·exact aF rfl
       ·refine lC ?_ ?_
        ·exact aF rfl
        ·refine lD (by simp only [EN]) ?_ ?_
         ·exact aF rfl
         ·exact adm p0 p1
def alw (C : aS) (Λ2 J : Lam) (a0 a1 : List (List D)) (a2 a3 : Int) : Res := lab SE C Λ2 J 64 0 [1, 1, 0, 1, 0] (bU [(1, .d (.sl aG.ks a0)), (12, .d (.sl aG.ks a1)), (13, dIq a2), (14, dIq a3)] [] [] [] [])
section
variable (Γ : Fun)  (Λ2 J : Lam)
def C64 : aS := aQ Γ
theorem T64 (p0 p1 : List aG) : bS SE (C64 Γ) Λ2 J 64 [.d (.sl aG.ks (List.map aG.enc p0)), .d (.sl aG.ks (List.map aG.enc p1))] [] [] =
 cond ((lM aG.enc p0 : Int) != (lM aG.enc p1 : Int)) (
 (rB false)) (
 alw (C64 Γ) Λ2 J (List.map aG.enc p1) (List.map aG.enc p0) (lM aG.enc p0 : Int) 0) := by kernel_rfl
theorem ars (x1 x12 : List aG) (x13 x14 : Int) : eA SE (C64 Γ) Λ2 J 64 0 [1, 1, 0, 1, 0] (bU [(1, .d (.sl aG.ks (List.map aG.enc x1))), (12, .d (.sl aG.ks (List.map aG.enc x12))), (13, dIq x13), (14, dIq x14)] [] [] [] []) =
 cond (decide (x14 < x13)) (
 cond (iB x14 (lM aG.enc x12 : Int)) (
  cond (iB x14 (lM aG.enc x1 : Int)) (
  cond (!(((bZ (cE aG.enc x12 x14 0)) == (bZ (cE aG.enc x1 x14 0))) && (((aX (cE aG.enc x12 x14 1)) == (aX (cE aG.enc x1 x14 1))) && (((cG (cE aG.enc x12 x14 2)) == (cG (cE aG.enc x1 x14 2))) && true)))) (
   (rB false)) (
  alw (C64 Γ) Λ2 J (List.map aG.enc x1) (List.map aG.enc x12) x13 (w6 (x14 + 1)))) none) none) (
 (rB true)) := by kernel_rfl
end
abbrev X64 : aS := C64 gG
theorem aq7 : X64 = aQ gG := rfl
abbrev arP := alw X64 (dQ SE gG (SE.hl 64) (SE.hr 64)) (J0 SE X64)
theorem aeC : ∀ (fu : Nat) (x1 x12 : List aG) (x13 x14 : Int), Le (Option.map aK (jO fu x1 x12 x13 x14)) (arP (List.map aG.enc x1) (List.map aG.enc x12) x13 x14) := by
 intro fu
 induction fu with
 | zero => intros; exact le_none
 | succ fu ih =>
  intro x1 x12 x13 x14
  refine Le.trans ?_ (le_of_eq ((bX aq7).trans (ars ..)).symm)
  unfold jO
  refine lC ?_ ?_
  ·refine lG (by simp only [EN]) ?_
   refine lG (by simp only [EN]) ?_
   refine lD (by simp only [EN]) ?_ ?_
   ·exact aF rfl
   ·exact ih x1 x12 x13 (w6 (x14 + 1))
  ·exact aF rfl
theorem ahq (p0 p1 : List aG) : Le (Option.map aK (rX p0 p1)) (bD SE 64 [.d (.sl aG.ks (List.map aG.enc p0)), .d (.sl aG.ks (List.map aG.enc p1))] [] []) := by
 refine aY aq7 rfl ?_
 refine Le.trans ?_ (le_of_eq (T64 ..).symm)
 unfold rX
 refine lD (by simp only [EN]) ?_ ?_
 ·exact aF rfl
 ·(try simp only [EN]); exact aeC fuel p1 p0 (List.length p0 : Int) 0
def alg (C : aS) (Λ2 J : Lam) (a0 a1 : List (List D)) (a2 a3 : Int) : Res := lab SE C Λ2 J 65 0 [1, 1, 0, 1, 0] (bU [(1, .d (.sl [.str] a0)), (12, .d (.sl [.str] a1)), (13, dIq a2), (14, dIq a3)] [] [] [] [])
section
variable (Γ : Fun)  (Λ2 J : Lam)
def C65 : aS := aQ Γ
theorem T65 (p0 p1 : List Str) : bS SE (C65 Γ) Λ2 J 65 [.d (.sl [.str] (List.map bA p0)), .d (.sl [.str] (List.map bA p1))] [] [] =
 cond ((lM bA p0 : Int) != (lM bA p1 : Int)) (
 (rB false)) (
 alg (C65 Γ) Λ2 J (List.map bA p1) (List.map bA p0) (lM bA p0 : Int) 0) := by kernel_rfl
theorem asY (x1 x12 : List Str) (x13 x14 : Int) : eA SE (C65 Γ) Λ2 J 65 0 [1, 1, 0, 1, 0] (bU [(1, .d (.sl [.str] (List.map bA x1))), (12, .d (.sl [.str] (List.map bA x12))), (13, dIq x13), (14, dIq x14)] [] [] [] []) =
 cond (decide (x14 < x13)) (
 cond (iB x14 (lM bA x12 : Int)) (
  cond (iB x14 (lM bA x1 : Int)) (
  cond (!((bZ (cE bA x12 x14 0)) == (bZ (cE bA x1 x14 0)))) (
   (rB false)) (
  alg (C65 Γ) Λ2 J (List.map bA x1) (List.map bA x12) x13 (w6 (x14 + 1)))) none) none) (
 (rB true)) := by kernel_rfl
end
abbrev X65 : aS := C65 gG
theorem aqQ : X65 = aQ gG := rfl
abbrev arE := alg X65 (dQ SE gG (SE.hl 65) (SE.hr 65)) (J0 SE X65)
theorem adN : ∀ (fu : Nat) (x1 x12 : List Str) (x13 x14 : Int), Le (Option.map aK (iT fu x1 x12 x13 x14)) (arE (List.map bA x1) (List.map bA x12) x13 x14) := by
 intro fu
 induction fu with
 | zero => intros; exact le_none
 | succ fu ih =>
  intro x1 x12 x13 x14
  refine Le.trans ?_ (le_of_eq ((bX aqQ).trans (asY ..)).symm)
  unfold iT
  refine lC ?_ ?_
  ·refine lG (by simp only [EN]) ?_
   refine lG (by simp only [EN]) ?_
   refine lD (by simp only [EN]) ?_ ?_
   ·exact aF rfl
   ·exact ih x1 x12 x13 (w6 (x14 + 1))
  ·exact aF rfl
theorem agd (p0 p1 : List Str) : Le (Option.map aK (qI p0 p1)) (bD SE 65 [.d (.sl [.str] (List.map bA p0)), .d (.sl [.str] (List.map bA p1))] [] []) := by
 refine aY aqQ rfl ?_
 refine Le.trans ?_ (le_of_eq (T65 ..).symm)
 unfold qI
 refine lD (by simp only [EN]) ?_ ?_
 ·exact aF rfl
 ·(try simp only [EN]); exact adN fuel p1 p0 (List.length p0 : Int) 0
def alG (C : aS) (Λ2 J : Lam) (a0 a1 : List (List D)) (a2 a3 : Int) : Res := lab SE C Λ2 J 66 0 [1, 1, 0, 1, 0] (bU [(1, .d (.sl [.int .i64] a0)), (12, .d (.sl [.int .i64] a1)), (13, dIq a2), (14, dIq a3)] [] [] [] [])
section
variable (Γ : Fun)  (Λ2 J : Lam)
def C66 : aS := aQ Γ
theorem T66 (p0 p1 : List Int) : bS SE (C66 Γ) Λ2 J 66 [.d (.sl [.int .i64] (List.map eI p0)), .d (.sl [.int .i64] (List.map eI p1))] [] [] =
 cond ((lM eI p0 : Int) != (lM eI p1 : Int)) (
 (rB false)) (
 alG (C66 Γ) Λ2 J (List.map eI p1) (List.map eI p0) (lM eI p0 : Int) 0) := by kernel_rfl
theorem arA (x1 x12 : List Int) (x13 x14 : Int) : eA SE (C66 Γ) Λ2 J 66 0 [1, 1, 0, 1, 0] (bU [(1, .d (.sl [.int .i64] (List.map eI x1))), (12, .d (.sl [.int .i64] (List.map eI x12))), (13, dIq x13), (14, dIq x14)] [] [] [] []) =
 cond (decide (x14 < x13)) (
 cond (iB x14 (lM eI x12 : Int)) (
  cond (iB x14 (lM eI x1 : Int)) (
  cond ((aX (cE eI x12 x14 0)) != (aX (cE eI x1 x14 0))) (
   (rB false)) (
  alG (C66 Γ) Λ2 J (List.map eI x1) (List.map eI x12) x13 (w6 (x14 + 1)))) none) none) (
 (rB true)) := by kernel_rfl
end
abbrev X66 : aS := C66 gG
theorem aqK : X66 = aQ gG := rfl
abbrev ar8 := alG X66 (dQ SE gG (SE.hl 66) (SE.hr 66)) (J0 SE X66)
theorem abS : ∀ (fu : Nat) (x1 x12 : List Int) (x13 x14 : Int), Le (Option.map aK (gS fu x1 x12 x13 x14)) (ar8 (List.map eI x1) (List.map eI x12) x13 x14) := by
 intro fu
 induction fu with
 | zero => intros; exact le_none
 | succ fu ih =>
  intro x1 x12 x13 x14
  refine Le.trans ?_ (le_of_eq ((bX aqK).trans (arA ..)).symm)
  unfold gS
  refine lC ?_ ?_
  ·refine lG (by simp only [EN]) ?_
   refine lG (by simp only [EN]) ?_
   refine lD (by simp only [EN]) ?_ ?_
   ·exact aF rfl
   ·exact ih x1 x12 x13 (w6 (x14 + 1))
  ·exact aF rfl
theorem aev (p0 p1 : List Int) : Le (Option.map aK (nQ p0 p1)) (bD SE 66 [.d (.sl [.int .i64] (List.map eI p0)), .d (.sl [.int .i64] (List.map eI p1))] [] []) := by
 refine aY aqK rfl ?_
 refine Le.trans ?_ (le_of_eq (T66 ..).symm)
 unfold nQ
 refine lD (by simp only [EN]) ?_ ?_
 ·exact aF rfl
 ·(try simp only [EN]); exact abS fuel p1 p0 (List.length p0 : Int) 0
section
variable (Γ : Fun) (γ62 : Gm (bV)) (γ63 γ64 γ65 γ66 : Gm (Bool)) (Λ2 J : Lam)
def C47 : aS := bM (bM (bM (bM (bM (aQ Γ) 62 iE γ62) 63 aK γ63) 64 aK γ64) 65 aK γ65) 66 aK γ66
theorem T47 (p0 p1 : aA) : bS SE (C47 Γ γ62 γ63 γ64 γ65 γ66) Λ2 J 47 [aA.av p0, aA.av p1] [] [] =
 γ62 [aA.av p0] [] [] fun r0 =>
 γ62 [aA.av p1] [] [] fun r1 =>
 cond ((r0.kind == r1.kind) && ((r0.id == r1.id) && ((r0.keep == r1.keep) && ((r0.expiry == r1.expiry) && ((r0.window == r1.window) && ((r0.code == r1.code) && ((r0.delay == r1.delay) && ((r0.dup == r1.dup) && ((r0.clean == r1.clean) && ((r0.present == r1.present) && ((r0.set_ == r1.set_) && ((r0.client == r1.client) && ((r0.user == r1.user) && true))))))))))))) (
 γ63 [aE.av p0.Message, aE.av p1.Message] [] [] fun r2 =>
 cond r2 (
  γ63 [aE.av p0.Will.Message, aE.av p1.Will.Message] [] [] fun r3 =>
  cond r3 (
  γ64 [.d (.sl aG.ks (List.map aG.enc p0.Subs)), .d (.sl aG.ks (List.map aG.enc p1.Subs))] [] [] fun r4 =>
  cond r4 (
   γ65 [.d (.sl [.str] (List.map bA p0.Filters)), .d (.sl [.str] (List.map bA p1.Filters))] [] [] fun r5 =>
   cond r5 (
   γ66 [.d (.sl [.int .i64] (List.map eI p0.Codes)), .d (.sl [.int .i64] (List.map eI p1.Codes))] [] [] fun r6 =>
   (rB r6)) (
   (rB false))) (
  (rB false))) (
  (rB false))) (
 (rB false))) (
 (rB false)) := by kernel_rfl
end
abbrev X47 : aS := C47 gG (cT 62 iE) (cT 63 aK) (cT 64 aK) (cT 65 aK) (cT 66 aK)
theorem atD : X47 = aQ gG := by unfold X47 C47; repeat rw [bK fun _ h => h]
theorem ahv (p0 p1 : aA) : Le (Option.map aK (sB p0 p1)) (bD SE 47 [aA.av p0, aA.av p1] [] []) := by
 refine aY atD rfl ?_
 refine Le.trans ?_ (le_of_eq (T47 ..).symm)
 unfold sB
 refine lQ eX wG (wW _) fun r0 _ => ?_
 refine lQ eX wG (wW _) fun r1 _ => ?_
 refine lC ?_ ?_
 ·refine lQ eX bC (pS _ _) fun r2 _ => ?_
  refine lC ?_ ?_
  ·refine lQ eX bC (pS _ _) fun r3 _ => ?_
   refine lC ?_ ?_
   ·refine lQ eX bC (ahq _ _) fun r4 _ => ?_
    refine lC ?_ ?_
    ·refine lQ eX bC (agd _ _) fun r5 _ => ?_
     refine lC ?_ ?_
     ·refine lQ eX bC (aev _ _) fun r6 _ => ?_
      exact aF rfl
     ·exact aF rfl
    ·exact aF rfl
   ·exact aF rfl
  ·exact aF rfl
 ·exact aF rfl
def alL (C : aS) (Λ2 J : Lam) (a0 a1 : Int) (a2 : Bool) (a3 : Str) (a4 : Nat) : Res := lab SE C Λ2 J 67 0 [1, 1, 0, 1, 0, 0, 1, 1, 0, 1, 1, 0] (bU [(3, dIq a0), (4, .d (.int .i32 a1)), (5, dBq a2), (15, .it 4000)] [] [] [(4000, (a3, a4))] [])
def agb (C : aS) (Λ2 J : Lam) (a0 : Str) (a1 : Nat) : Res := lab SE C Λ2 J 67 0 [1, 1, 0, 1, 0] (bU [(15, .it 4000)] [] [] [(4000, (a0, a1))] [])
def aoN (C : aS) (Λ2 J : Lam) (a0 : Str) : Res := lab SE C Λ2 J 67 0 [1, 1, 0, 0] (bU [(0, dSq a0)] [] [] [] [])
section
variable (Γ : Fun)  (Λ2 J : Lam)
def C67 : aS := aQ Γ
theorem T67 (p0 : Str) : bS SE (C67 Γ) Λ2 J 67 [dSq p0] [] [] =
 cond (decide ((List.length p0 : Int) < 1)) (
 (rB false)) (
 cond (decide ((List.length p0 : Int) > 16)) (
 (rB false)) (
 aoN (C67 Γ) Λ2 J p0)) := by kernel_rfl
theorem ar4 (x3 x4 : Int) (x5 : Bool) (s4000 : Str) (i4000 : Nat) : eA SE (C67 Γ) Λ2 J 67 0 [1, 1, 0, 1, 0, 0, 1, 1, 0, 1, 1, 0] (bU [(3, dIq x3), (4, .d (.int .i32 x4)), (5, dBq x5), (15, .it 4000)] [] [] [(4000, (s4000, i4000))] []) =
 cond (!x5) (
 cond (x3 == 0) (
  (rB false)) (
 cond (x4 != 45) (
  cond (decide (x4 < 48)) (
  (rB false)) (
  cond (decide (x4 > 57)) (
  (rB false)) (
  agb (C67 Γ) Λ2 J s4000 i4000))) (
 agb (C67 Γ) Λ2 J s4000 i4000))) (
 agb (C67 Γ) Λ2 J s4000 i4000) := by kernel_rfl
theorem asw (s4000 : Str) (i4000 : Nat) : eA SE (C67 Γ) Λ2 J 67 0 [1, 1, 0, 1, 0] (bU [(15, .it 4000)] [] [] [(4000, (s4000, i4000))] []) =
 cond (decide (i4000 < List.length s4000)) (
 cond (decide (((dec s4000 i4000).1 : Int) ≥ 97)) (
  alL (C67 Γ) Λ2 J (i4000 : Int) ((dec s4000 i4000).1 : Int) (decide (((dec s4000 i4000).1 : Int) ≤ 122)) s4000 (i4000 + (dec s4000 i4000).2)) (
 alL (C67 Γ) Λ2 J (i4000 : Int) ((dec s4000 i4000).1 : Int) false s4000 (i4000 + (dec s4000 i4000).2))) (
 (rB true)) := by kernel_rfl
theorem asF (x0 : Str) : eA SE (C67 Γ) Λ2 J 67 0 [1, 1, 0, 0] (bU [(0, dSq x0)] [] [] [] []) =
 agb (C67 Γ) Λ2 J x0 0 := by kernel_rfl
end
abbrev X67 : aS := C67 gG
theorem ak0 : X67 = aQ gG := rfl
abbrev arj := alL X67 (dQ SE gG (SE.hl 67) (SE.hr 67)) (J0 SE X67)
abbrev aoJ := agb X67 (dQ SE gG (SE.hl 67) (SE.hr 67)) (J0 SE X67)
abbrev asA := aoN X67 (dQ SE gG (SE.hl 67) (SE.hr 67)) (J0 SE X67)
theorem zH (k4 : Str → Nat → Option (Bool)) (hk4 : ∀ (s4000 : Str) (i4000 : Nat), Le (Option.map aK (k4 s4000 i4000)) (aoJ s4000 i4000)) (x3 x4 : Int) (x5 : Bool) (s4000 : Str) (i4000 : Nat) : Le (Option.map aK (kX k4 x3 x4 x5 s4000 i4000)) (arj x3 x4 x5 s4000 i4000) := by
 refine Le.trans ?_ (le_of_eq ((bX ak0).trans (ar4 ..)).symm)
 unfold kX
 refine lC ?_ ?_
 ·refine lC ?_ ?_
  ·exact aF rfl
  ·refine lC ?_ ?_
   ·refine lC ?_ ?_
    ·exact aF rfl
    ·refine lC ?_ ?_
     ·exact aF rfl
     ·exact hk4 s4000 i4000
   ·exact hk4 s4000 i4000
 ·exact hk4 s4000 i4000
theorem ae5 : ∀ (fu : Nat) (s4000 : Str) (i4000 : Nat), Le (Option.map aK (hQ fu s4000 i4000)) (aoJ s4000 i4000) := by
 intro fu
 induction fu with
 | zero => intros; exact le_none
 | succ fu ih =>
  intro s4000 i4000
  refine Le.trans ?_ (le_of_eq ((bX ak0).trans (asw ..)).symm)
  unfold hQ
  refine lC ?_ ?_
  ·refine lC ?_ ?_
   ·exact zH _ (ih) (i4000 : Int) ((dec s4000 i4000).1 : Int) (decide (((dec s4000 i4000).1 : Int) ≤ 122)) s4000 (i4000 + (dec s4000 i4000).2)
   ·exact zH _ (ih) (i4000 : Int) ((dec s4000 i4000).1 : Int) false s4000 (i4000 + (dec s4000 i4000).2)
  ·exact aF rfl
theorem afC (x0 : Str) : Le (Option.map aK (sJ x0)) (asA x0) := by
 refine Le.trans ?_ (le_of_eq ((bX ak0).trans (asF ..)).symm)
 unfold sJ
 exact ae5 fuel x0 0
theorem sH (p0 : Str) : Le (Option.map aK (jY p0)) (bD SE 67 [dSq p0] [] []) := by
 refine aY ak0 rfl ?_
 refine Le.trans ?_ (le_of_eq (T67 ..).symm)
 unfold jY
 refine lC ?_ ?_
 ·exact aF rfl
 ·refine lC ?_ ?_
  ·exact aF rfl
  ·exact afC p0
def aiD (C : aS) (Λ2 J : Lam) (a0 : Int) (a1 : Str) (a2 : Nat) : Res := lab SE C Λ2 J 81 0 [1, 1, 1, 0, 1, 0] (bU [(3, dIq a0), (15, .it 4000)] [] [] [(4000, (a1, a2))] [])
def aoS (C : aS) (Λ2 J : Lam) (a0 : Str) : Res := lab SE C Λ2 J 81 0 [1, 1, 0] (bU [(0, dSq a0)] [] [] [] [])
section
variable (Γ : Fun)  (Λ2 J : Lam)
def C81 : aS := aQ Γ
theorem T81 (p0 : Str) : bS SE (C81 Γ) Λ2 J 81 [dSq p0] [] [] =
 cond (decide ((List.length p0 : Int) < 1)) (
 (rB false)) (
 cond (decide ((List.length p0 : Int) > 64)) (
 (rB false)) (
 aoS (C81 Γ) Λ2 J p0)) := by kernel_rfl
theorem asc (x3 : Int) (s4000 : Str) (i4000 : Nat) : eA SE (C81 Γ) Λ2 J 81 0 [1, 1, 1, 0, 1, 0] (bU [(3, dIq x3), (15, .it 4000)] [] [] [(4000, (s4000, i4000))] []) =
 cond (decide (i4000 < List.length s4000)) (
 cond (((dec s4000 i4000).1 : Int) == 0) (
  (rB false)) (
 cond (((dec s4000 i4000).1 : Int) == 47) (
  aiD (C81 Γ) Λ2 J (w6 (x3 + 1)) s4000 (i4000 + (dec s4000 i4000).2)) (
 aiD (C81 Γ) Λ2 J x3 s4000 (i4000 + (dec s4000 i4000).2)))) (
 (rB (decide (x3 ≤ 8)))) := by kernel_rfl
theorem ark (x0 : Str) : eA SE (C81 Γ) Λ2 J 81 0 [1, 1, 0] (bU [(0, dSq x0)] [] [] [] []) =
 aiD (C81 Γ) Λ2 J 1 x0 0 := by kernel_rfl
end
abbrev X81 : aS := C81 gG
theorem anz : X81 = aQ gG := rfl
abbrev asq := aiD X81 (dQ SE gG (SE.hl 81) (SE.hr 81)) (J0 SE X81)
abbrev arl := aoS X81 (dQ SE gG (SE.hl 81) (SE.hr 81)) (J0 SE X81)
theorem aez : ∀ (fu : Nat) (x3 : Int) (s4000 : Str) (i4000 : Nat), Le (Option.map aK (gN fu x3 s4000 i4000)) (asq x3 s4000 i4000) := by
 intro fu
 induction fu with
 | zero => intros; exact le_none
 | succ fu ih =>
  intro x3 s4000 i4000
  refine Le.trans ?_ (le_of_eq ((bX anz).trans (asc ..)).symm)
  unfold gN
  refine lC ?_ ?_
  ·refine lC ?_ ?_
   ·exact aF rfl
   ·refine lC ?_ ?_
    ·exact ih (w6 (x3 + 1)) s4000 (i4000 + (dec s4000 i4000).2)
    ·exact ih x3 s4000 (i4000 + (dec s4000 i4000).2)
  ·exact aF rfl
theorem aes (x0 : Str) : Le (Option.map aK (qV x0)) (arl x0) := by
 refine Le.trans ?_ (le_of_eq ((bX anz).trans (ark ..)).symm)
 unfold qV
 exact aez fuel 1 x0 0
theorem aa0 (p0 : Str) : Le (Option.map aK (pE p0)) (bD SE 81 [dSq p0] [] []) := by
 refine aY anz rfl ?_
 refine Le.trans ?_ (le_of_eq (T81 ..).symm)
 unfold pE
 refine lC ?_ ?_
 ·exact aF rfl
 ·refine lC ?_ ?_
  ·exact aF rfl
  ·exact aes p0
def ald (C : aS) (Λ2 J : Lam) (a0 : Str) (a1 : Nat) : Res := lab SE C Λ2 J 74 0 [1, 1, 0, 1, 0] (bU [(9, .it 4000)] [] [] [(4000, (a0, a1))] [])
section
variable (Γ : Fun) (γ81 : Gm (Bool)) (Λ2 J : Lam)
def C74 : aS := bM (aQ Γ) 81 aK γ81
theorem T74 (p0 : Str) : bS SE (C74 Γ γ81) Λ2 J 74 [dSq p0] [] [] =
 γ81 [dSq p0] [] [] fun r0 =>
 cond (!r0) (
 (rB false)) (
 ald (C74 Γ γ81) Λ2 J p0 0) := by kernel_rfl
theorem asn (s4000 : Str) (i4000 : Nat) : eA SE (C74 Γ γ81) Λ2 J 74 0 [1, 1, 0, 1, 0] (bU [(9, .it 4000)] [] [] [(4000, (s4000, i4000))] []) =
 cond (decide (i4000 < List.length s4000)) (
 cond (((dec s4000 i4000).1 : Int) == 43) (
  (rB false)) (
 cond (((dec s4000 i4000).1 : Int) == 35) (
  (rB false)) (
 ald (C74 Γ γ81) Λ2 J s4000 (i4000 + (dec s4000 i4000).2)))) (
 (rB true)) := by kernel_rfl
end
abbrev X74 : aS := C74 gG (cT 81 aK)
theorem aqU : X74 = aQ gG := by unfold X74 C74; rw [bK fun _ h => h]
abbrev arx := ald X74 (dQ SE gG (SE.hl 74) (SE.hr 74)) (J0 SE X74)
theorem aep : ∀ (fu : Nat) (s4000 : Str) (i4000 : Nat), Le (Option.map aK (iG fu s4000 i4000)) (arx s4000 i4000) := by
 intro fu
 induction fu with
 | zero => intros; exact le_none
 | succ fu ih =>
  intro s4000 i4000
  refine Le.trans ?_ (le_of_eq ((bX aqU).trans (asn ..)).symm)
  unfold iG
  refine lC ?_ ?_
  ·refine lC ?_ ?_
   ·exact aF rfl
   ·refine lC ?_ ?_
    ·exact aF rfl
    ·exact ih s4000 (i4000 + (dec s4000 i4000).2)
  ·exact aF rfl
theorem ahb (p0 : Str) : Le (Option.map aK (rT p0)) (bD SE 74 [dSq p0] [] []) := by
 refine aY aqU rfl ?_
 refine Le.trans ?_ (le_of_eq (T74 ..).symm)
 unfold rT
 refine lQ eX bC (aa0 _) fun r0 _ => ?_
 refine lC ?_ ?_
 ·exact aF rfl
 ·exact aep fuel p0 0
section
variable (Γ : Fun)  (Λ2 J : Lam)
def C75 : aS := aQ Γ
theorem T75 (p0 p1 : Int) : bS SE (C75 Γ) Λ2 J 75 [dIq p0, dIq p1] [] [] =
 cond (decide (p0 ≥ 0)) (
 (rB (decide (p0 ≤ p1)))) (
 (rB false)) := by kernel_rfl
end
abbrev X75 : aS := C75 gG
theorem at1 : X75 = aQ gG := rfl
theorem oU (p0 p1 : Int) : Le (Option.map aK (lJ p0 p1)) (bD SE 75 [dIq p0, dIq p1] [] []) := by
 refine aY at1 rfl ?_
 refine Le.trans ?_ (le_of_eq (T75 ..).symm)
 unfold lJ
 refine lC ?_ ?_
 ·exact aF rfl
 ·exact aF rfl
def wZ (C : aS) (Λ2 J : Lam) (a0 : Str) (a1 : Int) : Res := lab SE C Λ2 J 82 0 [1, 1, 0, 1, 0] (bU [(0, dSq a0), (3, dIq a1)] [] [] [] [])
def aoZ (C : aS) (Λ2 J : Lam) (a0 : Str) : Res := lab SE C Λ2 J 82 0 [1, 1, 0, 0] (bU [(0, dSq a0)] [] [] [] [])
section
variable (Γ : Fun)  (Λ2 J : Lam)
def C82 : aS := aQ Γ
theorem T82 (p0 : Str) : bS SE (C82 Γ) Λ2 J 82 [dSq p0] [] [] =
 cond (decide ((List.length p0 : Int) < 1)) (
 (rB false)) (
 cond (decide ((List.length p0 : Int) > 16)) (
 (rB false)) (
 aoZ (C82 Γ) Λ2 J p0)) := by kernel_rfl
theorem arq (x0 : Str) (x3 : Int) : eA SE (C82 Γ) Λ2 J 82 0 [1, 1, 0, 1, 0] (bU [(0, dSq x0), (3, dIq x3)] [] [] [] []) =
 cond (decide (x3 < (List.length x0 : Int))) (
 cond (iB x3 (List.length x0 : Int)) (
  cond (decide ((UInt8.toNat (List.getD x0 (Int.toNat x3) 0) : Int) < 97)) (
  cond (decide ((UInt8.toNat (List.getD x0 (Int.toNat x3) 0) : Int) < 48)) (
   cond ((UInt8.toNat (List.getD x0 (Int.toNat x3) 0) : Int) != 45) (
   (rB false)) (
   wZ (C82 Γ) Λ2 J x0 (w6 (x3 + 1)))) (
  cond (decide ((UInt8.toNat (List.getD x0 (Int.toNat x3) 0) : Int) > 57)) (
   cond ((UInt8.toNat (List.getD x0 (Int.toNat x3) 0) : Int) != 45) (
   (rB false)) (
   wZ (C82 Γ) Λ2 J x0 (w6 (x3 + 1)))) (
  wZ (C82 Γ) Λ2 J x0 (w6 (x3 + 1))))) (
  cond (decide ((UInt8.toNat (List.getD x0 (Int.toNat x3) 0) : Int) > 122)) (
  cond (decide ((UInt8.toNat (List.getD x0 (Int.toNat x3) 0) : Int) < 48)) (
   cond ((UInt8.toNat (List.getD x0 (Int.toNat x3) 0) : Int) != 45) (
   (rB false)) (
   wZ (C82 Γ) Λ2 J x0 (w6 (x3 + 1)))) (
  cond (decide ((UInt8.toNat (List.getD x0 (Int.toNat x3) 0) : Int) > 57)) (
   cond ((UInt8.toNat (List.getD x0 (Int.toNat x3) 0) : Int) != 45) (
   (rB false)) (
   wZ (C82 Γ) Λ2 J x0 (w6 (x3 + 1)))) (
  wZ (C82 Γ) Λ2 J x0 (w6 (x3 + 1))))) (
  wZ (C82 Γ) Λ2 J x0 (w6 (x3 + 1))))) none) (
 (rB true)) := by kernel_rfl
theorem arZ (x0 : Str) : eA SE (C82 Γ) Λ2 J 82 0 [1, 1, 0, 0] (bU [(0, dSq x0)] [] [] [] []) =
 wZ (C82 Γ) Λ2 J x0 0 := by kernel_rfl
end
abbrev X82 : aS := C82 gG
theorem aos : X82 = aQ gG := rfl
abbrev asp := wZ X82 (dQ SE gG (SE.hl 82) (SE.hr 82)) (J0 SE X82)
abbrev arL := aoZ X82 (dQ SE gG (SE.hl 82) (SE.hr 82)) (J0 SE X82)
theorem aey : ∀ (fu : Nat) (x0 : Str) (x3 : Int), Le (Option.map aK (eB fu x0 x3)) (asp x0 x3) := by
 intro fu
 induction fu with
 | zero => intros; exact le_none
 | succ fu ih =>
  intro x0 x3
  refine Le.trans ?_ (le_of_eq ((bX aos).trans (arq ..)).symm)
  unfold eB
  refine lC ?_ ?_
  ·refine lF ?_
   refine lC ?_ ?_
   ·refine lC ?_ ?_
    ·refine lC ?_ ?_
     ·exact aF rfl
     ·exact ih x0 (w6 (x3 + 1))
    ·refine lC ?_ ?_
     ·refine lC ?_ ?_
      ·exact aF rfl
      ·exact ih x0 (w6 (x3 + 1))
     ·exact ih x0 (w6 (x3 + 1))
   ·refine lC ?_ ?_
    ·refine lC ?_ ?_
     ·refine lC ?_ ?_
      ·exact aF rfl
      ·exact ih x0 (w6 (x3 + 1))
     ·refine lC ?_ ?_
      ·refine lC ?_ ?_
       ·exact aF rfl
       ·exact ih x0 (w6 (x3 + 1))
      ·exact ih x0 (w6 (x3 + 1))
    ·exact ih x0 (w6 (x3 + 1))
  ·exact aF rfl
theorem aeu (x0 : Str) : Le (Option.map aK (qT x0)) (arL x0) := by
 refine Le.trans ?_ (le_of_eq ((bX aos).trans (arZ ..)).symm)
 unfold qT
 exact aey fuel x0 0
theorem agS (p0 : Str) : Le (Option.map aK (rU p0)) (bD SE 82 [dSq p0] [] []) := by
 refine aY aos rfl ?_
 refine Le.trans ?_ (le_of_eq (T82 ..).symm)
 unfold rU
 refine lC ?_ ?_
 ·exact aF rfl
 ·refine lC ?_ ?_
  ·exact aF rfl
  ·exact aeu p0
def aiw (C : aS) (Λ2 J : Lam) (a0 a1 : List (List D)) (a2 a3 : Int) : Res := lab SE C Λ2 J 76 0 [1, 1, 0, 1, 0] (bU [(0, .d (.sl aB.ks a0)), (8, .d (.sl aB.ks a1)), (9, dIq a2), (10, dIq a3)] [] [] [] [])
section
variable (Γ : Fun) (γ82 : Gm (Bool)) (Λ2 J : Lam)
def C76 : aS := bM (aQ Γ) 82 aK γ82
theorem T76 (p0 : List aB) : bS SE (C76 Γ γ82) Λ2 J 76 [.d (.sl aB.ks (List.map aB.enc p0))] [] [] =
 cond (decide ((lM aB.enc p0 : Int) > 8)) (
 (rI 5)) (
 aiw (C76 Γ γ82) Λ2 J (List.map aB.enc p0) (List.map aB.enc p0) (lM aB.enc p0 : Int) 0) := by kernel_rfl
theorem asO (x0 x8 : List aB) (x9 x10 : Int) : eA SE (C76 Γ γ82) Λ2 J 76 0 [1, 1, 0, 1, 0] (bU [(0, .d (.sl aB.ks (List.map aB.enc x0))), (8, .d (.sl aB.ks (List.map aB.enc x8))), (9, dIq x9), (10, dIq x10)] [] [] [] []) =
 cond (decide (x10 < x9)) (
 cond (iB x10 (lM aB.enc x8 : Int)) (
  γ82 [dSq (bZ (cE aB.enc x8 x10 0))] [] [] fun r0 =>
  cond (!r0) (
  (rI 16)) (
  cond (decide ((List.length (bZ (cE aB.enc x8 x10 1)) : Int) > 160)) (
  (rI 5)) (
  cond (decide (x10 > 0)) (
  cond (iB (w6 (x10 - 1)) (lM aB.enc x0 : Int)) (
   cond (Op.bytesLess (bZ (cE aB.enc x8 x10 0)) (bZ (cE aB.enc x0 (w6 (x10 - 1)) 0)) || (bZ (cE aB.enc x8 x10 0)) == (bZ (cE aB.enc x0 (w6 (x10 - 1)) 0))) (
   (rI 16)) (
   aiw (C76 Γ γ82) Λ2 J (List.map aB.enc x0) (List.map aB.enc x8) x9 (w6 (x10 + 1)))) none) (
  aiw (C76 Γ γ82) Λ2 J (List.map aB.enc x0) (List.map aB.enc x8) x9 (w6 (x10 + 1)))))) none) (
 (rI 0)) := by kernel_rfl
end
abbrev X76 : aS := C76 gG (cT 82 aK)
theorem aqu : X76 = aQ gG := by unfold X76 C76; rw [bK fun _ h => h]
abbrev asS := aiw X76 (dQ SE gG (SE.hl 76) (SE.hr 76)) (J0 SE X76)
theorem acE : ∀ (fu : Nat) (x0 x8 : List aB) (x9 x10 : Int), Le (Option.map aI (gI fu x0 x8 x9 x10)) (asS (List.map aB.enc x0) (List.map aB.enc x8) x9 x10) := by
 intro fu
 induction fu with
 | zero => intros; exact le_none
 | succ fu ih =>
  intro x0 x8 x9 x10
  refine Le.trans ?_ (le_of_eq ((bX aqu).trans (asO ..)).symm)
  unfold gI
  refine lC ?_ ?_
  ·refine lG (by simp only [EN]) ?_
   refine lQ eX bC (by (try simp only [EN]); exact agS ((List.getD x8 (Int.toNat x10) default).Key)) fun r0 _ => ?_
   refine lC ?_ ?_
   ·exact aF rfl
   ·refine lD (by simp only [EN]) ?_ ?_
    ·exact aF rfl
    ·refine lC ?_ ?_
     ·refine lG (by simp only [EN]) ?_
      refine lD (by simp only [EN]) ?_ ?_
      ·exact aF rfl
      ·exact ih x0 x8 x9 (w6 (x10 + 1))
     ·exact ih x0 x8 x9 (w6 (x10 + 1))
  ·exact aF rfl
theorem yJ (p0 : List aB) : Le (Option.map aI (mK p0)) (bD SE 76 [.d (.sl aB.ks (List.map aB.enc p0))] [] []) := by
 refine aY aqu rfl ?_
 refine Le.trans ?_ (le_of_eq (T76 ..).symm)
 unfold mK
 refine lD (by simp only [EN]) ?_ ?_
 ·exact aF rfl
 ·(try simp only [EN]); exact acE fuel p0 p0 (List.length p0 : Int) 0
section
variable (Γ : Fun) (γ74 γ75 γ67 : Gm (Bool)) (γ76 : Gm (Int)) (Λ2 J : Lam)
def C68 : aS := bM (bM (bM (bM (aQ Γ) 74 aK γ74) 75 aK γ75) 67 aK γ67) 76 aI γ76
theorem T68 (p0 : aE) : bS SE (C68 Γ γ74 γ75 γ67 γ76) Λ2 J 68 [aE.av p0] [] [] =
 γ74 [dSq p0.Topic] [] [] fun r0 =>
 cond (!r0) (
 (rI 12)) (
 cond (decide ((List.length p0.Payload : Int) > 256)) (
 (rI 5)) (
 γ75 [dIq p0.Level, dIq 2] [] [] fun r1 =>
 cond (!r1) (
 (rI 14)) (
 γ75 [dIq p0.Priority, dIq 9] [] [] fun r2 =>
 cond (!r2) (
 (rI 1)) (
 γ75 [dIq p0.Expires, dIq 1099511627776] [] [] fun r3 =>
 cond (!r3) (
 (rI 1)) (
 cond (!(p0.From == ([] : Str))) (
 γ67 [dSq p0.From] [] [] fun r4 =>
 cond (!r4) (
  (rI 11)) (
 γ75 [dIq p0.Seq, dIq 1099511627776] [] [] fun r5 =>
 cond (!r5) (
  (rI 1)) (
 γ76 [.d (.sl aB.ks (List.map aB.enc p0.Props))] [] [] fun r6 =>
 (rI r6)))) (
 γ75 [dIq p0.Seq, dIq 1099511627776] [] [] fun r7 =>
 cond (!r7) (
 (rI 1)) (
 γ76 [.d (.sl aB.ks (List.map aB.enc p0.Props))] [] [] fun r8 =>
 (rI r8)))))))) := by kernel_rfl
end
abbrev X68 : aS := C68 gG (cT 74 aK) (cT 75 aK) (cT 67 aK) (cT 76 aI)
theorem at5 : X68 = aQ gG := by unfold X68 C68; repeat rw [bK fun _ h => h]
theorem lY (p0 : aE) : Le (Option.map aI (fP p0)) (bD SE 68 [aE.av p0] [] []) := by
 refine aY at5 rfl ?_
 refine Le.trans ?_ (le_of_eq (T68 ..).symm)
 unfold fP
 refine lQ eX bC (ahb _) fun r0 _ => ?_
 refine lC ?_ ?_
 ·exact aF rfl
 ·refine lC ?_ ?_
  ·exact aF rfl
  ·refine lQ eX bC (oU _ _) fun r1 _ => ?_
   refine lC ?_ ?_
   ·exact aF rfl
   ·refine lQ eX bC (oU _ _) fun r2 _ => ?_
    refine lC ?_ ?_
    ·exact aF rfl
    ·refine lQ eX bC (oU _ _) fun r3 _ => ?_
     refine lC ?_ ?_
     ·exact aF rfl
     ·refine lC ?_ ?_
      ·refine lQ eX bC (sH _) fun r4 _ => ?_
       refine lC ?_ ?_
       ·exact aF rfl
       ·refine lQ eX bC (oU _ _) fun r5 _ => ?_
        refine lC ?_ ?_
        ·exact aF rfl
        ·refine lQ eX aZ (yJ _) fun r6 _ => ?_
         exact aF rfl
      ·refine lQ eX bC (oU _ _) fun r7 _ => ?_
       refine lC ?_ ?_
       ·exact aF rfl
       ·refine lQ eX aZ (yJ _) fun r8 _ => ?_
        exact aF rfl
section
variable (Γ : Fun) (γ67 γ46 γ63 : Gm (Bool)) (γ68 : Gm (Int)) (Λ2 J : Lam)
def C49 : aS := bM (bM (bM (bM (aQ Γ) 67 aK γ67) 46 aK γ46) 63 aK γ63) 68 aI γ68
theorem T49 (p0 : aA) : bS SE (C49 Γ γ67 γ46 γ63 γ68) Λ2 J 49 [aA.av p0] [] [] =
 γ67 [dSq p0.Client] [] [] fun r0 =>
 cond (!r0) (
 (rI 11)) (
 cond (!(p0.User == ([] : Str))) (
 γ67 [dSq p0.User] [] [] fun r1 =>
 cond (!r1) (
  (rI 11)) (
 γ46 [dIq p0.Keep, dIq 0, dIq 1099511627776] [] [] fun r2 =>
 cond (!r2) (
  (rI 1)) (
 γ46 [dIq p0.Expiry, dIq 0, dIq 1099511627776] [] [] fun r3 =>
 cond (!r3) (
  (rI 1)) (
 γ46 [dIq p0.Window, dIq 1, dIq 32] [] [] fun r4 =>
 cond (!r4) (
  (rI 1)) (
 cond (!p0.Will.Set) (
  cond (p0.Will.Delay != 0) (
  (rI 28)) (
  γ63 [aE.av p0.Will.Message, .agg [dSq [], dSq [], dIq 0, dBq false, dIq 0, dIq 0, dSq [], dIq 0, .d (.sl aB.ks (List.map aB.enc []))]] [] [] fun r5 =>
  cond (!r5) (
  (rI 28)) (
  cond (!p0.Will.Set) (
  (rI 0)) (
  γ46 [dIq p0.Will.Delay, dIq 0, dIq 1099511627776] [] [] fun r6 =>
  cond (!r6) (
  (rI 1)) (
  γ68 [aE.av p0.Will.Message] [] [] fun r7 =>
  (rI r7)))))) (
 cond (!p0.Will.Set) (
  (rI 0)) (
 γ46 [dIq p0.Will.Delay, dIq 0, dIq 1099511627776] [] [] fun r8 =>
 cond (!r8) (
  (rI 1)) (
 γ68 [aE.av p0.Will.Message] [] [] fun r9 =>
 (rI r9))))))))) (
 γ46 [dIq p0.Keep, dIq 0, dIq 1099511627776] [] [] fun r10 =>
 cond (!r10) (
 (rI 1)) (
 γ46 [dIq p0.Expiry, dIq 0, dIq 1099511627776] [] [] fun r11 =>
 cond (!r11) (
 (rI 1)) (
 γ46 [dIq p0.Window, dIq 1, dIq 32] [] [] fun r12 =>
 cond (!r12) (
 (rI 1)) (
 cond (!p0.Will.Set) (
 cond (p0.Will.Delay != 0) (
  (rI 28)) (
 γ63 [aE.av p0.Will.Message, .agg [dSq [], dSq [], dIq 0, dBq false, dIq 0, dIq 0, dSq [], dIq 0, .d (.sl aB.ks (List.map aB.enc []))]] [] [] fun r13 =>
 cond (!r13) (
  (rI 28)) (
 cond (!p0.Will.Set) (
  (rI 0)) (
 γ46 [dIq p0.Will.Delay, dIq 0, dIq 1099511627776] [] [] fun r14 =>
 cond (!r14) (
  (rI 1)) (
 γ68 [aE.av p0.Will.Message] [] [] fun r15 =>
 (rI r15)))))) (
 cond (!p0.Will.Set) (
 (rI 0)) (
 γ46 [dIq p0.Will.Delay, dIq 0, dIq 1099511627776] [] [] fun r16 =>
 cond (!r16) (
 (rI 1)) (
 γ68 [aE.av p0.Will.Message] [] [] fun r17 =>
 (rI r17))))))))) := by kernel_rfl
end
abbrev X49 : aS := C49 gG (cT 67 aK) (cT 46 aK) (cT 63 aK) (cT 68 aI)
theorem atu : X49 = aQ gG := by unfold X49 C49; repeat rw [bK fun _ h => h]
theorem aew (p0 : aA) : Le (Option.map aI (nU p0)) (bD SE 49 [aA.av p0] [] []) := by
 refine aY atu rfl ?_
 refine Le.trans ?_ (le_of_eq (T49 ..).symm)
 unfold nU
 refine lQ eX bC (sH _) fun r0 _ => ?_
 refine lC ?_ ?_
 ·exact aF rfl
 ·refine lC ?_ ?_
  ·refine lQ eX bC (sH _) fun r1 _ => ?_
   refine lC ?_ ?_
   ·exact aF rfl
   ·refine lQ eX bC (eH _ _ _) fun r2 _ => ?_
    refine lC ?_ ?_
    ·exact aF rfl
    ·refine lQ eX bC (eH _ _ _) fun r3 _ => ?_
     refine lC ?_ ?_
     ·exact aF rfl
     ·refine lQ eX bC (eH _ _ _) fun r4 _ => ?_
      refine lC ?_ ?_
      ·exact aF rfl
      ·refine lC ?_ ?_
       ·refine lC ?_ ?_
        ·exact aF rfl
        ·refine lQ eX bC (by (try simp only [EN]); exact pS p0.Will.Message ((aE.mk [] [] 0 false 0 0 [] 0 []))) fun r5 _ => ?_
         refine lC ?_ ?_
         ·exact aF rfl
         ·refine lC ?_ ?_
          ·exact aF rfl
          ·refine lQ eX bC (eH _ _ _) fun r6 _ => ?_
           refine lC ?_ ?_
           ·exact aF rfl
           ·refine lQ eX aZ (lY _) fun r7 _ => ?_
            exact aF rfl
       ·refine lC ?_ ?_
        ·exact aF rfl
        ·refine lQ eX bC (eH _ _ _) fun r8 _ => ?_
         refine lC ?_ ?_
         ·exact aF rfl
         ·refine lQ eX aZ (lY _) fun r9 _ => ?_
          exact aF rfl
  ·refine lQ eX bC (eH _ _ _) fun r10 _ => ?_
   refine lC ?_ ?_
   ·exact aF rfl
   ·refine lQ eX bC (eH _ _ _) fun r11 _ => ?_
    refine lC ?_ ?_
    ·exact aF rfl
    ·refine lQ eX bC (eH _ _ _) fun r12 _ => ?_
     refine lC ?_ ?_
     ·exact aF rfl
     ·refine lC ?_ ?_
      ·refine lC ?_ ?_
       ·exact aF rfl
       ·refine lQ eX bC (by (try simp only [EN]); exact pS p0.Will.Message ((aE.mk [] [] 0 false 0 0 [] 0 []))) fun r13 _ => ?_
        refine lC ?_ ?_
        ·exact aF rfl
        ·refine lC ?_ ?_
         ·exact aF rfl
         ·refine lQ eX bC (eH _ _ _) fun r14 _ => ?_
          refine lC ?_ ?_
          ·exact aF rfl
          ·refine lQ eX aZ (lY _) fun r15 _ => ?_
           exact aF rfl
      ·refine lC ?_ ?_
       ·exact aF rfl
       ·refine lQ eX bC (eH _ _ _) fun r16 _ => ?_
        refine lC ?_ ?_
        ·exact aF rfl
        ·refine lQ eX aZ (lY _) fun r17 _ => ?_
         exact aF rfl
section
variable (Γ : Fun) (γ46 : Gm (Bool)) (Λ2 J : Lam)
def C50 : aS := bM (aQ Γ) 46 aK γ46
theorem T50 (p0 : Int) : bS SE (C50 Γ γ46) Λ2 J 50 [dIq p0] [] [] =
 γ46 [dIq p0, dIq 0, dIq 29] [] [] fun r0 =>
 (rB r0) := by kernel_rfl
end
abbrev X50 : aS := C50 gG (cT 46 aK)
theorem auI : X50 = aQ gG := by unfold X50 C50; rw [bK fun _ h => h]
theorem uZ (p0 : Int) : Le (Option.map aK (mZ p0)) (bD SE 50 [dIq p0] [] []) := by
 refine aY auI rfl ?_
 refine Le.trans ?_ (le_of_eq (T50 ..).symm)
 unfold mZ
 refine lQ eX bC (eH _ _ _) fun r0 _ => ?_
 exact aF rfl
section
variable (Γ : Fun) (γ46 : Gm (Bool)) (Λ2 J : Lam)
def C52 : aS := bM (aQ Γ) 46 aK γ46
theorem T52 (p0 : Int) : bS SE (C52 Γ γ46) Λ2 J 52 [dIq p0] [] [] =
 γ46 [dIq p0, dIq 1, dIq 65535] [] [] fun r0 =>
 cond (!r0) (
 (rI 15)) (
 (rI 0)) := by kernel_rfl
end
abbrev X52 : aS := C52 gG (cT 46 aK)
theorem atJ : X52 = aQ gG := by unfold X52 C52; rw [bK fun _ h => h]
theorem mU (p0 : Int) : Le (Option.map aI (iL p0)) (bD SE 52 [dIq p0] [] []) := by
 refine aY atJ rfl ?_
 refine Le.trans ?_ (le_of_eq (T52 ..).symm)
 unfold iL
 refine lQ eX bC (eH _ _ _) fun r0 _ => ?_
 refine lC ?_ ?_
 ·exact aF rfl
 ·exact aF rfl
section
variable (Γ : Fun) (γ68 γ52 : Gm (Int)) (Λ2 J : Lam)
def C51 : aS := bM (bM (aQ Γ) 68 aI γ68) 52 aI γ52
theorem T51 (p0 : aA) : bS SE (C51 Γ γ68 γ52) Λ2 J 51 [aA.av p0] [] [] =
 γ68 [aE.av p0.Message] [] [] fun r0 =>
 cond (r0 != 0) (
 (rI r0)) (
 cond (p0.Message.Level != 0) (
 γ52 [dIq p0.ID] [] [] fun r1 =>
 (rI r1)) (
 cond (p0.ID != 0) (
 (rI 15)) (
 cond p0.Dup (
 (rI 28)) (
 (rI 0))))) := by kernel_rfl
end
abbrev X51 : aS := C51 gG (cT 68 aI) (cT 52 aI)
theorem auf : X51 = aQ gG := by unfold X51 C51; repeat rw [bK fun _ h => h]
theorem aex (p0 : aA) : Le (Option.map aI (nM p0)) (bD SE 51 [aA.av p0] [] []) := by
 refine aY auf rfl ?_
 refine Le.trans ?_ (le_of_eq (T51 ..).symm)
 unfold nM
 refine lQ eX aZ (lY _) fun r0 _ => ?_
 refine lC ?_ ?_
 ·exact aF rfl
 ·refine lC ?_ ?_
  ·refine lQ eX aZ (mU _) fun r1 _ => ?_
   exact aF rfl
  ·refine lC ?_ ?_
   ·exact aF rfl
   ·refine lC ?_ ?_
    ·exact aF rfl
    ·exact aF rfl
section
variable (Γ : Fun) (γ46 : Gm (Bool)) (Λ2 J : Lam)
def C69 : aS := bM (aQ Γ) 46 aK γ46
theorem T69 (p0 p1 : Int) : bS SE (C69 Γ γ46) Λ2 J 69 [dIq p0, dIq p1] [] [] =
 γ46 [dIq p0, dIq 1, dIq 65535] [] [] fun r0 =>
 cond (!r0) (
 (rI 15)) (
 cond (p1 == 0) (
 (rI 1)) (
 cond (decide (p1 > 32)) (
 (rI 5)) (
 (rI 0)))) := by kernel_rfl
end
abbrev X69 : aS := C69 gG (cT 46 aK)
theorem at4 : X69 = aQ gG := by unfold X69 C69; rw [bK fun _ h => h]
theorem rO (p0 p1 : Int) : Le (Option.map aI (jU p0 p1)) (bD SE 69 [dIq p0, dIq p1] [] []) := by
 refine aY at4 rfl ?_
 refine Le.trans ?_ (le_of_eq (T69 ..).symm)
 unfold jU
 refine lQ eX bC (eH _ _ _) fun r0 _ => ?_
 refine lC ?_ ?_
 ·exact aF rfl
 ·refine lC ?_ ?_
  ·exact aF rfl
  ·refine lC ?_ ?_
   ·exact aF rfl
   ·exact aF rfl
section
variable (Γ : Fun)  (Λ2 J : Lam)
def C86 : aS := aQ Γ
theorem T86 (p0 p1 : Str) : bS SE (C86 Γ) Λ2 J 86 [dSq p0, dSq p1] [] [] =
 cond (decide ((List.length p0 : Int) ≥ (List.length p1 : Int))) (
 cond (decide (0 ≤ (List.length p1 : Int)) && decide ((List.length p1 : Int) ≤ ((List.length p0) : Int))) (
  (rB ((cH p0 none (some (List.length p1 : Int))) == p1))) none) (
 (rB false)) := by kernel_rfl
end
abbrev X86 : aS := C86 gG
theorem atX : X86 = aQ gG := rfl
theorem qM (p0 p1 : Str) : Le (Option.map aK (gD p0 p1)) (bD SE 86 [dSq p0, dSq p1] [] []) := by
 refine aY atX rfl ?_
 refine Le.trans ?_ (le_of_eq (T86 ..).symm)
 unfold gD
 refine lC ?_ ?_
 ·refine lF ?_
  exact aF rfl
 ·exact aF rfl
section
variable (Γ : Fun) (γ86 : Gm (Bool)) (Λ2 J : Lam)
def C87 : aS := bM (aQ Γ) 86 aK γ86
theorem T87 (p0 p1 : Str) : bS SE (C87 Γ γ86) Λ2 J 87 [dSq p0, dSq p1] [] [] =
 γ86 [dSq p0, dSq p1] [] [] fun r0 =>
 cond (!r0) (
 (some (.ret [dSq p0, dBq false] [] []))) (
 cond (decide (0 ≤ (List.length p1 : Int)) && decide ((List.length p1 : Int) ≤ ((List.length p0) : Int))) (
 (some (.ret [dSq (cH p0 (some (List.length p1 : Int)) none), dBq true] [] []))) none) := by kernel_rfl
end
abbrev X87 : aS := C87 gG (cT 86 aK)
theorem atP : X87 = aQ gG := by unfold X87 C87; rw [bK fun _ h => h]
theorem zN (p0 p1 : Str) : Le (Option.map cR (kN p0 p1)) (bD SE 87 [dSq p0, dSq p1] [] []) := by
 refine aY atP rfl ?_
 refine Le.trans ?_ (le_of_eq (T87 ..).symm)
 unfold kN
 refine lQ eX bC (qM _ _) fun r0 _ => ?_
 refine lC ?_ ?_
 ·exact aF rfl
 ·refine lF ?_
  exact aF rfl
section
variable (Γ : Fun) (γ87 : Gm (Str × Bool)) (Λ2 J : Lam)
def C83 : aS := bM (aQ Γ) 87 cR γ87
theorem T83 (p0 p1 : Str) : bS SE (C83 Γ γ87) Λ2 J 83 [dSq p0, dSq p1] [] [] =
 γ87 [dSq p0, dSq p1] [] [] fun r0 =>
 (some (.ret [dSq r0.1, dBq r0.2] [] [])) := by kernel_rfl
end
abbrev X83 : aS := C83 gG (cT 87 cR)
theorem aun : X83 = aQ gG := by unfold X83 C83; rw [bK fun _ h => h]
theorem ack (p0 p1 : Str) : Le (Option.map cR (lA p0 p1)) (bD SE 83 [dSq p0, dSq p1] [] []) := by
 refine aY aun rfl ?_
 refine Le.trans ?_ (le_of_eq (T83 ..).symm)
 unfold lA
 refine lQ eX pQ (zN _ _) fun r0 _ => ?_
 exact aF rfl
section
variable (Γ : Fun)  (Λ2 J : Lam)
def C92 : aS := aQ Γ
theorem T92 (p0 : Str) (p1 : Int) : bS SE (C92 Γ) Λ2 J 92 [dSq p0, .d (.int .u8 p1)] [] [] =
 (rI (Lib.indexByte p0 (UInt8.ofNat (Int.toNat p1)) : Int)) := by kernel_rfl
end
abbrev X92 : aS := C92 gG
theorem at7 : X92 = aQ gG := rfl
theorem yK (p0 : Str) (p1 : Int) : Le (Option.map aI (nT p0 p1)) (bD SE 92 [dSq p0, .d (.int .u8 p1)] [] []) := by
 refine aY at7 rfl ?_
 refine Le.trans ?_ (le_of_eq (T92 ..).symm)
 unfold nT
 exact aF rfl
section
variable (Γ : Fun) (γ92 : Gm (Int)) (Λ2 J : Lam)
def C90 : aS := bM (aQ Γ) 92 aI γ92
theorem T90 (p0 p1 : Str) : bS SE (C90 Γ γ92) Λ2 J 90 [dSq p0, dSq p1] [] [] =
 cond ((List.length p1 : Int) == 0) (
 (rI 0)) (
 cond (p1 == p0) (
 (rI 0)) (
 cond ((List.length p1 : Int) == 1) (
 cond (decide (0 ≤ 0) && decide (0 < (List.length p1 : Int))) (
  γ92 [dSq p0, .d (.int .u8 (UInt8.toNat (List.getD p1 (Int.toNat 0) 0) : Int))] [] [] fun r0 =>
  (rI r0)) none) (
 cond (decide ((List.length p1 : Int) ≥ (List.length p0 : Int))) (
 (rI (-1))) none))) := by kernel_rfl
end
abbrev X90 : aS := C90 gG (cT 92 aI)
theorem auG : X90 = aQ gG := by unfold X90 C90; rw [bK fun _ h => h]
theorem tH (p0 p1 : Str) : Le (Option.map aI (gT p0 p1)) (bD SE 90 [dSq p0, dSq p1] [] []) := by
 refine aY auG rfl ?_
 refine Le.trans ?_ (le_of_eq (T90 ..).symm)
 unfold gT
 refine lC ?_ ?_
 ·exact aF rfl
 ·refine lC ?_ ?_
  ·exact aF rfl
  ·refine lC ?_ ?_
   ·refine lF ?_
    refine lQ eX aZ (yK _ _) fun r0 _ => ?_
    exact aF rfl
   ·refine lF ?_
    exact aF rfl
section
variable (Γ : Fun) (γ90 : Gm (Int)) (Λ2 J : Lam)
def C88 : aS := bM (aQ Γ) 90 aI γ90
theorem T88 (p0 p1 : Str) : bS SE (C88 Γ γ90) Λ2 J 88 [dSq p0, dSq p1] [] [] =
 γ90 [dSq p0, dSq p1] [] [] fun r0 =>
 cond (decide (r0 ≥ 0)) (
 cond (decide (0 ≤ r0) && decide (r0 ≤ ((List.length p0) : Int))) (
  cond (decide (0 ≤ (w6 (r0 + (List.length p1 : Int)))) && decide ((w6 (r0 + (List.length p1 : Int))) ≤ ((List.length p0) : Int))) (
  (some (.ret [dSq (cH p0 none (some r0)), dSq (cH p0 (some (w6 (r0 + (List.length p1 : Int)))) none), dBq true] [] []))) none) none) (
 (some (cO (p0, [], false)))) := by kernel_rfl
end
abbrev X88 : aS := C88 gG (cT 90 aI)
theorem at6 : X88 = aQ gG := by unfold X88 C88; rw [bK fun _ h => h]
theorem adi (p0 p1 : Str) : Le (Option.map cO (pN p0 p1)) (bD SE 88 [dSq p0, dSq p1] [] []) := by
 refine aY at6 rfl ?_
 refine Le.trans ?_ (le_of_eq (T88 ..).symm)
 unfold pN
 refine lQ eX aZ (tH _ _) fun r0 _ => ?_
 refine lC ?_ ?_
 ·refine lF ?_
  refine lF ?_
  exact aF rfl
 ·exact aF rfl
section
variable (Γ : Fun) (γ88 : Gm (Str × Str × Bool)) (Λ2 J : Lam)
def C84 : aS := bM (aQ Γ) 88 cO γ88
theorem T84 (p0 p1 : Str) : bS SE (C84 Γ γ88) Λ2 J 84 [dSq p0, dSq p1] [] [] =
 γ88 [dSq p0, dSq p1] [] [] fun r0 =>
 (some (cO (r0.1, r0.2.1, r0.2.2))) := by kernel_rfl
end
abbrev X84 : aS := C84 gG (cT 88 cO)
theorem auv : X84 = aQ gG := by unfold X84 C84; rw [bK fun _ h => h]
theorem ahl (p0 p1 : Str) : Le (Option.map cO (sF p0 p1)) (bD SE 84 [dSq p0, dSq p1] [] []) := by
 refine aY auv rfl ?_
 refine Le.trans ?_ (le_of_eq (T84 ..).symm)
 unfold sF
 refine lQ eX pK (adi _ _) fun r0 _ => ?_
 exact aF rfl
section
variable (Γ : Fun) (γ90 : Gm (Int)) (Λ2 J : Lam)
def C98 : aS := bM (aQ Γ) 90 aI γ90
theorem T98 (p0 p1 : Str) : bS SE (C98 Γ γ90) Λ2 J 98 [dSq p0, dSq p1] [] [] =
 γ90 [dSq p0, dSq p1] [] [] fun r0 =>
 (rI r0) := by kernel_rfl
end
abbrev X98 : aS := C98 gG (cT 90 aI)
theorem atF : X98 = aQ gG := by unfold X98 C98; rw [bK fun _ h => h]
theorem zA (p0 p1 : Str) : Le (Option.map aI (jH p0 p1)) (bD SE 98 [dSq p0, dSq p1] [] []) := by
 refine aY atF rfl ?_
 refine Le.trans ?_ (le_of_eq (T98 ..).symm)
 unfold jH
 refine lQ eX aZ (tH _ _) fun r0 _ => ?_
 exact aF rfl
def al1 (C : aS) (Λ2 J : Lam) (a0 a1 : Str) (a2 : Int) : Res := lab SE C Λ2 J 97 0 [1, 1, 1, 1, 0] (bU [(0, dSq a0), (1, dSq a1), (5, dIq a2)] [] [] [] [])
section
variable (Γ : Fun) (γ98 : Gm (Int)) (Λ2 J : Lam)
def C97 : aS := bM (aQ Γ) 98 aI γ98
theorem T97 (p0 p1 : Str) : bS SE (C97 Γ γ98) Λ2 J 97 [dSq p0, dSq p1] [] [] =
 cond ((List.length p1 : Int) == 0) (
 none) (
 cond ((List.length p1 : Int) == 1) (
 cond (decide (0 ≤ 0) && decide (0 < (List.length p1 : Int))) (
  (rI (Lib.countByte p0 (UInt8.ofNat (Int.toNat (UInt8.toNat (List.getD p1 (Int.toNat 0) 0) : Int))) : Int))) none) (
 al1 (C97 Γ γ98) Λ2 J p0 p1 0)) := by kernel_rfl
theorem asy (x0 x1 : Str) (x5 : Int) : eA SE (C97 Γ γ98) Λ2 J 97 0 [1, 1, 1, 1, 0] (bU [(0, dSq x0), (1, dSq x1), (5, dIq x5)] [] [] [] []) =
 γ98 [dSq x0, dSq x1] [] [] fun r0 =>
 cond (r0 == (-1)) (
 (rI x5)) (
 cond (decide (0 ≤ (w6 (r0 + (List.length x1 : Int)))) && decide ((w6 (r0 + (List.length x1 : Int))) ≤ ((List.length x0) : Int))) (
 al1 (C97 Γ γ98) Λ2 J (cH x0 (some (w6 (r0 + (List.length x1 : Int)))) none) x1 (w6 (x5 + 1))) none) := by kernel_rfl
end
abbrev X97 : aS := C97 gG (cT 98 aI)
theorem aq4 : X97 = aQ gG := by unfold X97 C97; rw [bK fun _ h => h]
abbrev asl := al1 X97 (dQ SE gG (SE.hl 97) (SE.hr 97)) (J0 SE X97)
theorem acG : ∀ (fu : Nat) (x0 x1 : Str) (x5 : Int), Le (Option.map aI (oN fu x0 x1 x5)) (asl x0 x1 x5) := by
 intro fu
 induction fu with
 | zero => intros; exact le_none
 | succ fu ih =>
  intro x0 x1 x5
  refine Le.trans ?_ (le_of_eq ((bX aq4).trans (asy ..)).symm)
  unfold oN
  refine lQ eX aZ (zA _ _) fun r0 _ => ?_
  refine lC ?_ ?_
  ·exact aF rfl
  ·refine lF ?_
   exact ih (cH x0 (some (w6 (r0 + (List.length x1 : Int)))) none) x1 (w6 (x5 + 1))
theorem afx (p0 p1 : Str) : Le (Option.map aI (oT p0 p1)) (bD SE 97 [dSq p0, dSq p1] [] []) := by
 refine aY aq4 rfl ?_
 refine Le.trans ?_ (le_of_eq (T97 ..).symm)
 unfold oT
 refine lC ?_ ?_
 ·exact le_none
 ·refine lC ?_ ?_
  ·refine lF ?_
   exact aF rfl
  ·exact acG fuel p0 p1 0
def aiU (C : aS) (Λ2 J : Lam) (a0 : Str) (a1 : Int) (a2 : List (List D)) : Res := lab SE C Λ2 J 91 0 [1, 1, 1, 1, 1, 1, 1, 1, 1, 0] (bU [(0, dSq a0), (9, .row 3009), (10, dIq a1)] [] [] [] [(3009, ⟨[.str], 9, 16, a2⟩)])
def ajp (C : aS) (Λ2 J : Lam) (a0 a1 : Str) (a2 a3 a4 : Int) (a5 : List (List D)) : Res := lab SE C Λ2 J 91 0 [1, 1, 1, 1, 1, 1, 1, 1, 0, 0] (bU [(0, dSq a0), (1, dSq a1), (2, dIq a2), (3, dIq a3), (9, .row 3009), (10, dIq a4)] [] [] [] [(3009, ⟨[.str], 9, 16, a5⟩)])
def al6 (C : aS) (Λ2 J : Lam) (a0 a1 : Str) (a2 a3 : Int) : Res := lab SE C Λ2 J 91 0 [1, 1, 1, 1, 0] (bU [(0, dSq a0), (1, dSq a1), (2, dIq a2), (3, dIq a3)] [] [] [] [])
section
variable (Γ : Fun) (γ97 γ98 : Gm (Int)) (Λ2 J : Lam)
def C91 : aS := bM (bM (aQ Γ) 97 aI γ97) 98 aI γ98
theorem T91 (p0 p1 : Str) (p2 p3 : Int) : bS SE (C91 Γ γ97 γ98) Λ2 J 91 [dSq p0, dSq p1, dIq p2, dIq p3] [] [] =
 cond (p3 == 0) (
 (some (.ret [.d (.sl [.str] (List.map bA []))] [] []))) (
 cond (p1 == ([] : Str)) (
 none) (
 cond (decide (p3 < 0)) (
 γ97 [dSq p0, dSq p1] [] [] fun r0 =>
 al6 (C91 Γ γ97 γ98) Λ2 J p0 p1 p2 (w6 (r0 + 1))) (
 al6 (C91 Γ γ97 γ98) Λ2 J p0 p1 p2 p3))) := by kernel_rfl
theorem aqV (x0 : Str) (x10 : Int) (w3009 : List Str) : eA SE (C91 Γ γ97 γ98) Λ2 J 91 0 [1, 1, 1, 1, 1, 1, 1, 1, 1, 0] (bU [(0, dSq x0), (9, .row 3009), (10, dIq x10)] [] [] [] [(3009, ⟨[.str], 9, 16, (List.map bA w3009)⟩)]) =
 cond (iB x10 (lM bA w3009 : Int)) (
 cond (decide (0 ≤ (w6 (x10 + 1))) && decide ((w6 (x10 + 1)) ≤ ((List.length (qP (List.map bA w3009) (Int.toNat x10) 0 [D.str x0])) : Int))) (
  (some (.ret [.d (.sl [.str] (List.take ((Int.toNat (w6 (x10 + 1))) - 0) (List.drop 0 (qP (List.map bA w3009) (Int.toNat x10) 0 [D.str x0]))))] [] []))) none) none := by kernel_rfl
theorem ap3 (x0 x1 : Str) (x2 x3 x10 : Int) (w3009 : List Str) : eA SE (C91 Γ γ97 γ98) Λ2 J 91 0 [1, 1, 1, 1, 1, 1, 1, 1, 0, 0] (bU [(0, dSq x0), (1, dSq x1), (2, dIq x2), (3, dIq x3), (9, .row 3009), (10, dIq x10)] [] [] [] [(3009, ⟨[.str], 9, 16, (List.map bA w3009)⟩)]) =
 cond (decide (x10 < x3)) (
 γ98 [dSq x0, dSq x1] [] [] fun r1 =>
 cond (decide (r1 < 0)) (
  aiU (C91 Γ γ97 γ98) Λ2 J x0 x10 (List.map bA w3009)) (
 cond (decide (0 ≤ (w6 (r1 + x2))) && decide ((w6 (r1 + x2)) ≤ ((List.length x0) : Int))) (
  cond (iB x10 (lM bA w3009 : Int)) (
  cond (decide (0 ≤ (w6 (r1 + (List.length x1 : Int)))) && decide ((w6 (r1 + (List.length x1 : Int))) ≤ ((List.length x0) : Int))) (
   ajp (C91 Γ γ97 γ98) Λ2 J (cH x0 (some (w6 (r1 + (List.length x1 : Int)))) none) x1 x2 x3 (w6 (x10 + 1)) ((qP (List.map bA w3009) (Int.toNat x10) 0 [D.str (cH x0 none (some (w6 (r1 + x2))))]))) none) none) none)) (
 aiU (C91 Γ γ97 γ98) Λ2 J x0 x10 (List.map bA w3009)) := by kernel_rfl
theorem asI (x0 x1 : Str) (x2 x3 : Int) : eA SE (C91 Γ γ97 γ98) Λ2 J 91 0 [1, 1, 1, 1, 0] (bU [(0, dSq x0), (1, dSq x1), (2, dIq x2), (3, dIq x3)] [] [] [] []) =
 cond (decide (0 ≤ (if (w6 ((List.length x0 : Int) + 1)) < x3 then (w6 ((List.length x0 : Int) + 1)) else x3)) && decide ((if (w6 ((List.length x0 : Int) + 1)) < x3 then (w6 ((List.length x0 : Int) + 1)) else x3) ≤ (if (w6 ((List.length x0 : Int) + 1)) < x3 then (w6 ((List.length x0 : Int) + 1)) else x3)) && decide ((if (w6 ((List.length x0 : Int) + 1)) < x3 then (w6 ((List.length x0 : Int) + 1)) else x3) * 16 ≤ 281474976710656)) (
 ajp (C91 Γ γ97 γ98) Λ2 J x0 x1 x2 ((w6 ((if (w6 ((List.length x0 : Int) + 1)) < x3 then (w6 ((List.length x0 : Int) + 1)) else x3) - 1))) 0 ((List.replicate (Int.toNat (if (w6 ((List.length x0 : Int) + 1)) < x3 then (w6 ((List.length x0 : Int) + 1)) else x3)) [D.str []]))) none := by kernel_rfl
end
abbrev X91 : aS := C91 gG (cT 97 aI) (cT 98 aI)
theorem ak3 : X91 = aQ gG := by unfold X91 C91; repeat rw [bK fun _ h => h]
abbrev aqk := aiU X91 (dQ SE gG (SE.hl 91) (SE.hr 91)) (J0 SE X91)
abbrev aqT := ajp X91 (dQ SE gG (SE.hl 91) (SE.hr 91)) (J0 SE X91)
abbrev asM := al6 X91 (dQ SE gG (SE.hl 91) (SE.hr 91)) (J0 SE X91)
theorem rM (x0 : Str) (x10 : Int) (w3009 : List Str) : Le (Option.map cB (iX x0 x10 w3009)) (aqk x0 x10 (List.map bA w3009)) := by
 refine Le.trans ?_ (le_of_eq ((bX ak3).trans (aqV ..)).symm)
 unfold iX
 refine lG (by simp only [EN]) ?_
 refine lG (by simp only [EN]) ?_
 exact aF (by first | rfl | simp only [EN, cB] <;> rfl)
theorem zQ : ∀ (fu : Nat) (x0 x1 : Str) (x2 x3 x10 : Int) (w3009 : List Str), Le (Option.map cB (fM fu x0 x1 x2 x3 x10 w3009)) (aqT x0 x1 x2 x3 x10 (List.map bA w3009)) := by
 intro fu
 induction fu with
 | zero => intros; exact le_none
 | succ fu ih =>
  intro x0 x1 x2 x3 x10 w3009
  refine Le.trans ?_ (le_of_eq ((bX ak3).trans (ap3 ..)).symm)
  unfold fM
  refine lC ?_ ?_
  ·refine lQ eX aZ (zA _ _) fun r1 _ => ?_
   refine lC ?_ ?_
   ·exact rM x0 x10 w3009
   ·refine lF ?_
    refine lG (by simp only [EN]) ?_
    refine lF ?_
    (try simp only [EN]); exact ih (cH x0 (some (w6 (r1 + (List.length x1 : Int)))) none) x1 x2 x3 (w6 (x10 + 1)) ((List.set w3009 (Int.toNat x10) (cH x0 none (some (w6 (r1 + x2))))))
  ·exact rM x0 x10 w3009
theorem rW (x0 x1 : Str) (x2 x3 : Int) : Le (Option.map cB (jL x0 x1 x2 x3)) (asM x0 x1 x2 x3) := by
 refine Le.trans ?_ (le_of_eq ((bX ak3).trans (asI ..)).symm)
 unfold jL
 refine lF ?_
 (try simp only [EN]); exact zQ fuel x0 x1 x2 ((w6 ((if (w6 ((List.length x0 : Int) + 1)) < x3 then (w6 ((List.length x0 : Int) + 1)) else x3) - 1))) 0 ((List.replicate (Int.toNat (if (w6 ((List.length x0 : Int) + 1)) < x3 then (w6 ((List.length x0 : Int) + 1)) else x3)) (default : Str)))
theorem acD (p0 p1 : Str) (p2 p3 : Int) : Le (Option.map cB (oM p0 p1 p2 p3)) (bD SE 91 [dSq p0, dSq p1, dIq p2, dIq p3] [] []) := by
 refine aY ak3 rfl ?_
 refine Le.trans ?_ (le_of_eq (T91 ..).symm)
 unfold oM
 refine lC ?_ ?_
 ·exact aF rfl
 ·refine lC ?_ ?_
  ·exact le_none
  ·refine lC ?_ ?_
   ·refine lQ eX aZ (afx _ _) fun r0 _ => ?_
    exact rW p0 p1 p2 (w6 (r0 + 1))
   ·exact rW p0 p1 p2 p3
section
variable (Γ : Fun) (γ91 : Gm ((List Str))) (Λ2 J : Lam)
def C89 : aS := bM (aQ Γ) 91 cB γ91
theorem T89 (p0 p1 : Str) : bS SE (C89 Γ γ91) Λ2 J 89 [dSq p0, dSq p1] [] [] =
 γ91 [dSq p0, dSq p1, dIq 0, dIq (-1)] [] [] fun r0 =>
 (some (cB r0)) := by kernel_rfl
end
abbrev X89 : aS := C89 gG (cT 91 cB)
theorem atG : X89 = aQ gG := by unfold X89 C89; rw [bK fun _ h => h]
theorem afl (p0 p1 : Str) : Le (Option.map cB (oV p0 p1)) (bD SE 89 [dSq p0, dSq p1] [] []) := by
 refine aY atG rfl ?_
 refine Le.trans ?_ (le_of_eq (T89 ..).symm)
 unfold oV
 refine lQ eX oF (acD _ _ _ _) fun r0 _ => ?_
 exact aF rfl
section
variable (Γ : Fun) (γ89 : Gm ((List Str))) (Λ2 J : Lam)
def C85 : aS := bM (aQ Γ) 89 cB γ89
theorem T85 (p0 : Str) : bS SE (C85 Γ γ89) Λ2 J 85 [dSq p0] [] [] =
 γ89 [dSq p0, dSq ([47] : Str)] [] [] fun r0 =>
 (some (cB r0)) := by kernel_rfl
end
abbrev X85 : aS := C85 gG (cT 89 cB)
theorem aui : X85 = aQ gG := by unfold X85 C85; rw [bK fun _ h => h]
theorem agH (p0 : Str) : Le (Option.map cB (qJ p0)) (bD SE 85 [dSq p0] [] []) := by
 refine aY aui rfl ?_
 refine Le.trans ?_ (le_of_eq (T85 ..).symm)
 unfold qJ
 refine lQ eX oF (afl _ _) fun r0 _ => ?_
 exact aF rfl
def adW (C : aS) (Λ2 J : Lam) (a0 : List (List D)) (a1 : Bool) (a2 : Int) (a3 : Str) (a4 : List (List D)) (a5 a6 : Int) (a7 : Str) (a8 : Nat) : Res := lab SE C Λ2 J 78 0 [1, 0, 1, 1, 1, 1, 0, 1, 0, 0, 1, 1, 0, 0, 1, 1, 0] (bU [(3, .d (.sl [.str] a0)), (4, dBq a1), (5, dIq a2), (6, dSq a3), (15, .d (.sl [.str] a4)), (16, dIq a5), (17, dIq a6), (23, .it 4000)] [] [] [(4000, (a7, a8))] [])
def alq (C : aS) (Λ2 J : Lam) (a0 : List (List D)) (a1 : Bool) (a2 : List (List D)) (a3 a4 : Int) : Res := lab SE C Λ2 J 78 0 [1, 0, 1, 1, 1, 1, 0, 1, 0] (bU [(3, .d (.sl [.str] a0)), (4, dBq a1), (15, .d (.sl [.str] a2)), (16, dIq a3), (17, dIq a4)] [] [] [] [])
section
variable (Γ : Fun) (γ81 : Gm (Bool)) (γ85 : Gm ((List Str))) (Λ2 J : Lam)
def C78 : aS := bM (bM (aQ Γ) 81 aK γ81) 85 cB γ85
theorem T78 (p0 : Str) : bS SE (C78 Γ γ81 γ85) Λ2 J 78 [dSq p0] [] [] =
 γ81 [dSq p0] [] [] fun r0 =>
 cond (!r0) (
 (rB false)) (
 γ85 [dSq p0] [] [] fun r1 =>
 alq (C78 Γ γ81 γ85) Λ2 J (List.map bA r1) true (List.map bA r1) (lM bA r1 : Int) 0) := by kernel_rfl
theorem arM (x3 : List Str) (x4 : Bool) (x5 : Int) (x6 : Str) (x15 : List Str) (x16 x17 : Int) (s4000 : Str) (i4000 : Nat) : eA SE (C78 Γ γ81 γ85) Λ2 J 78 0 [1, 0, 1, 1, 1, 1, 0, 1, 0, 0, 1, 1, 0, 0, 1, 1, 0] (bU [(3, .d (.sl [.str] (List.map bA x3))), (4, dBq x4), (5, dIq x5), (6, dSq x6), (15, .d (.sl [.str] (List.map bA x15))), (16, dIq x16), (17, dIq x17), (23, .it 4000)] [] [] [(4000, (s4000, i4000))] []) =
 cond (decide (i4000 < List.length s4000)) (
 cond (((dec s4000 i4000).1 : Int) == 43) (
  cond (!((List.length x6 : Int) == 1)) (
  (rB false)) (
  cond (((dec s4000 i4000).1 : Int) == 35) (
  cond (!((List.length x6 : Int) == 1)) (
   (rB false)) (
  cond (decide (x5 < (w6 ((lM bA x3 : Int) - 1)))) (
   (rB false)) (
  adW (C78 Γ γ81 γ85) Λ2 J (List.map bA x3) x4 x5 x6 (List.map bA x15) x16 x17 s4000 (i4000 + (dec s4000 i4000).2)))) (
  adW (C78 Γ γ81 γ85) Λ2 J (List.map bA x3) x4 x5 x6 (List.map bA x15) x16 x17 s4000 (i4000 + (dec s4000 i4000).2)))) (
 cond (((dec s4000 i4000).1 : Int) == 35) (
  cond (!((List.length x6 : Int) == 1)) (
  (rB false)) (
  cond (decide (x5 < (w6 ((lM bA x3 : Int) - 1)))) (
  (rB false)) (
  adW (C78 Γ γ81 γ85) Λ2 J (List.map bA x3) x4 x5 x6 (List.map bA x15) x16 x17 s4000 (i4000 + (dec s4000 i4000).2)))) (
 adW (C78 Γ γ81 γ85) Λ2 J (List.map bA x3) x4 x5 x6 (List.map bA x15) x16 x17 s4000 (i4000 + (dec s4000 i4000).2)))) (
 alq (C78 Γ γ81 γ85) Λ2 J (List.map bA x3) x4 (List.map bA x15) x16 (w6 (x17 + 1))) := by kernel_rfl
theorem asr (x3 : List Str) (x4 : Bool) (x15 : List Str) (x16 x17 : Int) : eA SE (C78 Γ γ81 γ85) Λ2 J 78 0 [1, 0, 1, 1, 1, 1, 0, 1, 0] (bU [(3, .d (.sl [.str] (List.map bA x3))), (4, dBq x4), (15, .d (.sl [.str] (List.map bA x15))), (16, dIq x16), (17, dIq x17)] [] [] [] []) =
 cond (decide (x17 < x16)) (
 cond (iB x17 (lM bA x15 : Int)) (
  adW (C78 Γ γ81 γ85) Λ2 J (List.map bA x3) x4 x17 ((bZ (cE bA x15 x17 0))) (List.map bA x15) x16 x17 ((bZ (cE bA x15 x17 0))) 0) none) (
 (rB x4)) := by kernel_rfl
end
abbrev X78 : aS := C78 gG (cT 81 aK) (cT 85 cB)
theorem anO : X78 = aQ gG := by unfold X78 C78; repeat rw [bK fun _ h => h]
abbrev asE := adW X78 (dQ SE gG (SE.hl 78) (SE.hr 78)) (J0 SE X78)
abbrev aoW := alq X78 (dQ SE gG (SE.hl 78) (SE.hr 78)) (J0 SE X78)
theorem adb : ∀ (fu : Nat) (k6 : (List Str) → Bool → (List Str) → Int → Int → Option (Bool)) (hk6 : ∀ (x3 : List Str) (x4 : Bool) (x15 : List Str) (x16 x17 : Int), Le (Option.map aK (k6 x3 x4 x15 x16 x17)) (aoW (List.map bA x3) x4 (List.map bA x15) x16 x17)) (x3 : List Str) (x4 : Bool) (x5 : Int) (x6 : Str) (x15 : List Str) (x16 x17 : Int) (s4000 : Str) (i4000 : Nat), Le (Option.map aK (eY fu k6 x3 x4 x5 x6 x15 x16 x17 s4000 i4000)) (asE (List.map bA x3) x4 x5 x6 (List.map bA x15) x16 x17 s4000 i4000) := by
 intro fu
 induction fu with
 | zero => intros; exact le_none
 | succ fu ih =>
  intro k6 hk6 x3 x4 x5 x6 x15 x16 x17 s4000 i4000
  refine Le.trans ?_ (le_of_eq ((bX anO).trans (arM ..)).symm)
  unfold eY
  refine lC ?_ ?_
  ·refine lC ?_ ?_
   ·refine lC ?_ ?_
    ·exact aF rfl
    ·refine lC ?_ ?_
     ·refine lC ?_ ?_
      ·exact aF rfl
      ·refine lD (by simp only [EN]) ?_ ?_
       ·exact aF rfl
       ·exact ih _ hk6 x3 x4 x5 x6 x15 x16 x17 s4000 (i4000 + (dec s4000 i4000).2)
     ·exact ih _ hk6 x3 x4 x5 x6 x15 x16 x17 s4000 (i4000 + (dec s4000 i4000).2)
   ·refine lC ?_ ?_
    ·refine lC ?_ ?_
     ·exact aF rfl
     ·refine lD (by simp only [EN]) ?_ ?_
      ·exact aF rfl
      ·exact ih _ hk6 x3 x4 x5 x6 x15 x16 x17 s4000 (i4000 + (dec s4000 i4000).2)
    ·exact ih _ hk6 x3 x4 x5 x6 x15 x16 x17 s4000 (i4000 + (dec s4000 i4000).2)
  ·exact hk6 x3 x4 x15 x16 (w6 (x17 + 1))
theorem adg : ∀ (fu : Nat) (x3 : List Str) (x4 : Bool) (x15 : List Str) (x16 x17 : Int), Le (Option.map aK (iS fu x3 x4 x15 x16 x17)) (aoW (List.map bA x3) x4 (List.map bA x15) x16 x17) := by
 intro fu
 induction fu with
 | zero => intros; exact le_none
 | succ fu ih =>
  intro x3 x4 x15 x16 x17
  refine Le.trans ?_ (le_of_eq ((bX anO).trans (asr ..)).symm)
  unfold iS
  refine lC ?_ ?_
  ·refine lG (by simp only [EN]) ?_
   (try simp only [EN]); exact adb fuel _ (ih) x3 x4 x17 (List.getD x15 (Int.toNat x17) default) x15 x16 x17 (List.getD x15 (Int.toNat x17) default) 0
  ·exact aF rfl
theorem zY (p0 : Str) : Le (Option.map aK (nR p0)) (bD SE 78 [dSq p0] [] []) := by
 refine aY anO rfl ?_
 refine Le.trans ?_ (le_of_eq (T78 ..).symm)
 unfold nR
 refine lQ eX bC (aa0 _) fun r0 _ => ?_
 refine lC ?_ ?_
 ·exact aF rfl
 ·refine lQ eX oF (agH _) fun r1 _ => ?_
  (try simp only [EN]); exact adg fuel r1 true r1 (List.length r1 : Int) 0
section
variable (Γ : Fun) (γ86 : Gm (Bool)) (Λ2 J : Lam)
def C79 : aS := bM (aQ Γ) 86 aK γ86
theorem T79 (p0 p1 : Str) : bS SE (C79 Γ γ86) Λ2 J 79 [dSq p0, dSq p1] [] [] =
 γ86 [dSq p0, dSq p1] [] [] fun r0 =>
 (rB r0) := by kernel_rfl
end
abbrev X79 : aS := C79 gG (cT 86 aK)
theorem auo : X79 = aQ gG := by unfold X79 C79; rw [bK fun _ h => h]
theorem tN (p0 p1 : Str) : Le (Option.map aK (jF p0 p1)) (bD SE 79 [dSq p0, dSq p1] [] []) := by
 refine aY auo rfl ?_
 refine Le.trans ?_ (le_of_eq (T79 ..).symm)
 unfold jF
 refine lQ eX bC (qM _ _) fun r0 _ => ?_
 exact aF rfl
section
variable (Γ : Fun) (γ83 : Gm (Str × Bool)) (γ84 : Gm (Str × Str × Bool)) (γ67 γ78 γ79 : Gm (Bool)) (Λ2 J : Lam)
def C77 : aS := bM (bM (bM (bM (bM (aQ Γ) 83 cR γ83) 84 cO γ84) 67 aK γ67) 78 aK γ78) 79 aK γ79
theorem T77 (p0 : Str) : bS SE (C77 Γ γ83 γ84 γ67 γ78 γ79) Λ2 J 77 [dSq p0] [] [] =
 γ83 [dSq p0, dSq ([36, 115, 104, 97, 114, 101, 47] : Str)] [] [] fun r0 =>
 cond (!r0.2) (
 (some (cO (([], [], false))))) (
 γ84 [dSq r0.1, dSq ([47] : Str)] [] [] fun r1 =>
 cond (!r1.2.2) (
 (some (cO (([], [], false))))) (
 γ67 [dSq r1.1] [] [] fun r2 =>
 cond (!r2) (
 (some (cO (([], [], false))))) (
 γ78 [dSq r1.2.1] [] [] fun r3 =>
 cond (!r3) (
 (some (cO (([], [], false))))) (
 γ79 [dSq r1.2.1, dSq ([36, 115, 104, 97, 114, 101, 47] : Str)] [] [] fun r4 =>
 cond r4 (
 (some (cO (([], [], false))))) (
 (some (cO (r1.1, r1.2.1, true)))))))) := by kernel_rfl
end
abbrev X77 : aS := C77 gG (cT 83 cR) (cT 84 cO) (cT 67 aK) (cT 78 aK) (cT 79 aK)
theorem aub : X77 = aQ gG := by unfold X77 C77; repeat rw [bK fun _ h => h]
theorem afZ (p0 : Str) : Le (Option.map cO (qL p0)) (bD SE 77 [dSq p0] [] []) := by
 refine aY aub rfl ?_
 refine Le.trans ?_ (le_of_eq (T77 ..).symm)
 unfold qL
 refine lQ eX pQ (ack _ _) fun r0 _ => ?_
 refine lC ?_ ?_
 ·exact aF rfl
 ·refine lQ eX pK (ahl _ _) fun r1 _ => ?_
  refine lC ?_ ?_
  ·exact aF rfl
  ·refine lQ eX bC (sH _) fun r2 _ => ?_
   refine lC ?_ ?_
   ·exact aF rfl
   ·refine lQ eX bC (zY _) fun r3 _ => ?_
    refine lC ?_ ?_
    ·exact aF rfl
    ·refine lQ eX bC (tN _ _) fun r4 _ => ?_
     refine lC ?_ ?_
     ·exact aF rfl
     ·exact aF rfl
section
variable (Γ : Fun) (γ77 : Gm (Str × Str × Bool)) (γ78 γ79 : Gm (Bool)) (Λ2 J : Lam)
def C70 : aS := bM (bM (bM (aQ Γ) 77 cO γ77) 78 aK γ78) 79 aK γ79
theorem T70 (p0 : Str) : bS SE (C70 Γ γ77 γ78 γ79) Λ2 J 70 [dSq p0] [] [] =
 γ77 [dSq p0] [] [] fun r0 =>
 cond r0.2.2 (
 (some (.ret [dBq true, dBq true] [] []))) (
 γ78 [dSq p0] [] [] fun r1 =>
 cond r1 (
 γ79 [dSq p0, dSq ([36, 115, 104, 97, 114, 101, 47] : Str)] [] [] fun r2 =>
 (some (.ret [dBq (!r2), dBq false] [] []))) (
 (some (.ret [dBq false, dBq false] [] [])))) := by kernel_rfl
end
abbrev X70 : aS := C70 gG (cT 77 cO) (cT 78 aK) (cT 79 aK)
theorem ato : X70 = aQ gG := by unfold X70 C70; repeat rw [bK fun _ h => h]
theorem yI (p0 : Str) : Le (Option.map fT (mL p0)) (bD SE 70 [dSq p0] [] []) := by
 refine aY ato rfl ?_
 refine Le.trans ?_ (le_of_eq (T70 ..).symm)
 unfold mL
 refine lQ eX pK (afZ _) fun r0 _ => ?_
 refine lC ?_ ?_
 ·exact aF rfl
 ·refine lQ eX bC (zY _) fun r1 _ => ?_
  refine lC ?_ ?_
  ·refine lQ eX bC (tN _ _) fun r2 _ => ?_
   exact aF rfl
  ·exact aF rfl
def ait (C : aS) (Λ2 J : Lam) (a0 : List (List D)) (a1 a2 : Int) : Res := lab SE C Λ2 J 53 0 [1, 1, 0, 1, 0] (bU [(18, .d (.sl aG.ks a0)), (19, dIq a1), (20, dIq a2)] [] [] [] [])
section
variable (Γ : Fun) (γ69 : Gm (Int)) (γ70 : Gm (Bool × Bool)) (γ46 : Gm (Bool)) (Λ2 J : Lam)
def C53 : aS := bM (bM (bM (aQ Γ) 69 aI γ69) 70 fT γ70) 46 aK γ46
theorem T53 (p0 : aA) : bS SE (C53 Γ γ69 γ70 γ46) Λ2 J 53 [aA.av p0] [] [] =
 γ69 [dIq p0.ID, dIq (lM aG.enc p0.Subs : Int)] [] [] fun r0 =>
 cond (r0 != 0) (
 (rI r0)) (
 ait (C53 Γ γ69 γ70 γ46) Λ2 J (List.map aG.enc p0.Subs) (lM aG.enc p0.Subs : Int) 0) := by kernel_rfl
theorem ast (x18 : List aG) (x19 x20 : Int) : eA SE (C53 Γ γ69 γ70 γ46) Λ2 J 53 0 [1, 1, 0, 1, 0] (bU [(18, .d (.sl aG.ks (List.map aG.enc x18))), (19, dIq x19), (20, dIq x20)] [] [] [] []) =
 cond (decide (x20 < x19)) (
 cond (iB x20 (lM aG.enc x18 : Int)) (
  γ70 [dSq (bZ (cE aG.enc x18 x20 0))] [] [] fun r1 =>
  cond (!r1.1) (
  (rI 13)) (
  γ46 [dIq (aX (cE aG.enc x18 x20 1)), dIq 0, dIq 2] [] [] fun r2 =>
  cond (!r2) (
  (rI 14)) (
  cond (cG (cE aG.enc x18 x20 2)) (
  cond r1.2 (
   (rI 28)) (
  ait (C53 Γ γ69 γ70 γ46) Λ2 J (List.map aG.enc x18) x19 (w6 (x20 + 1)))) (
  ait (C53 Γ γ69 γ70 γ46) Λ2 J (List.map aG.enc x18) x19 (w6 (x20 + 1)))))) none) (
 (rI 0)) := by kernel_rfl
end
abbrev X53 : aS := C53 gG (cT 69 aI) (cT 70 fT) (cT 46 aK)
theorem aqw : X53 = aQ gG := by unfold X53 C53; repeat rw [bK fun _ h => h]
abbrev ar0 := ait X53 (dQ SE gG (SE.hl 53) (SE.hr 53)) (J0 SE X53)
theorem aaB : ∀ (fu : Nat) (x18 : List aG) (x19 x20 : Int), Le (Option.map aI (eK fu x18 x19 x20)) (ar0 (List.map aG.enc x18) x19 x20) := by
 intro fu
 induction fu with
 | zero => intros; exact le_none
 | succ fu ih =>
  intro x18 x19 x20
  refine Le.trans ?_ (le_of_eq ((bX aqw).trans (ast ..)).symm)
  unfold eK
  refine lC ?_ ?_
  ·refine lG (by simp only [EN]) ?_
   refine lQ eX wV (by (try simp only [EN]); exact yI ((List.getD x18 (Int.toNat x20) default).Filter)) fun r1 _ => ?_
   refine lC ?_ ?_
   ·exact aF rfl
   ·refine lQ eX bC (by (try simp only [EN]); exact eH ((List.getD x18 (Int.toNat x20) default).Level) 0 2) fun r2 _ => ?_
    refine lC ?_ ?_
    ·exact aF rfl
    ·refine lD (by simp only [EN]) ?_ ?_
     ·refine lC ?_ ?_
      ·exact aF rfl
      ·exact ih x18 x19 (w6 (x20 + 1))
     ·exact ih x18 x19 (w6 (x20 + 1))
  ·exact aF rfl
theorem acF (p0 : aA) : Le (Option.map aI (mE p0)) (bD SE 53 [aA.av p0] [] []) := by
 refine aY aqw rfl ?_
 refine Le.trans ?_ (le_of_eq (T53 ..).symm)
 unfold mE
 refine lQ eX aZ (by (try simp only [EN]); exact rO p0.ID (List.length p0.Subs : Int)) fun r0 _ => ?_
 refine lC ?_ ?_
 ·exact aF rfl
 ·(try simp only [EN]); exact aaB fuel p0.Subs (List.length p0.Subs : Int) 0
def alm (C : aS) (Λ2 J : Lam) (a0 : List (List D)) (a1 a2 : Int) : Res := lab SE C Λ2 J 54 0 [1, 1, 0, 1, 0] (bU [(16, .d (.sl [.int .i64] a0)), (17, dIq a1), (18, dIq a2)] [] [] [] [])
section
variable (Γ : Fun) (γ69 : Gm (Int)) (γ50 : Gm (Bool)) (Λ2 J : Lam)
def C54 : aS := bM (bM (aQ Γ) 69 aI γ69) 50 aK γ50
theorem T54 (p0 : aA) : bS SE (C54 Γ γ69 γ50) Λ2 J 54 [aA.av p0] [] [] =
 γ69 [dIq p0.ID, dIq (lM eI p0.Codes : Int)] [] [] fun r0 =>
 cond (r0 != 0) (
 (rI r0)) (
 alm (C54 Γ γ69 γ50) Λ2 J (List.map eI p0.Codes) (lM eI p0.Codes : Int) 0) := by kernel_rfl
theorem asa (x16 : List Int) (x17 x18 : Int) : eA SE (C54 Γ γ69 γ50) Λ2 J 54 0 [1, 1, 0, 1, 0] (bU [(16, .d (.sl [.int .i64] (List.map eI x16))), (17, dIq x17), (18, dIq x18)] [] [] [] []) =
 cond (decide (x18 < x17)) (
 cond (iB x18 (lM eI x16 : Int)) (
  γ50 [dIq (aX (cE eI x16 x18 0))] [] [] fun r1 =>
  cond (!r1) (
  (rI 1)) (
  alm (C54 Γ γ69 γ50) Λ2 J (List.map eI x16) x17 (w6 (x18 + 1)))) none) (
 (rI 0)) := by kernel_rfl
end
abbrev X54 : aS := C54 gG (cT 69 aI) (cT 50 aK)
theorem aqr : X54 = aQ gG := by unfold X54 C54; repeat rw [bK fun _ h => h]
abbrev asb := alm X54 (dQ SE gG (SE.hl 54) (SE.hr 54)) (J0 SE X54)
theorem acQ : ∀ (fu : Nat) (x16 : List Int) (x17 x18 : Int), Le (Option.map aI (gX fu x16 x17 x18)) (asb (List.map eI x16) x17 x18) := by
 intro fu
 induction fu with
 | zero => intros; exact le_none
 | succ fu ih =>
  intro x16 x17 x18
  refine Le.trans ?_ (le_of_eq ((bX aqr).trans (asa ..)).symm)
  unfold gX
  refine lC ?_ ?_
  ·refine lG (by simp only [EN]) ?_
   refine lQ eX bC (by (try simp only [EN]); exact uZ (List.getD x16 (Int.toNat x18) default)) fun r1 _ => ?_
   refine lC ?_ ?_
   ·exact aF rfl
   ·exact ih x16 x17 (w6 (x18 + 1))
  ·exact aF rfl
theorem zV (p0 : aA) : Le (Option.map aI (nJ p0)) (bD SE 54 [aA.av p0] [] []) := by
 refine aY aqr rfl ?_
 refine Le.trans ?_ (le_of_eq (T54 ..).symm)
 unfold nJ
 refine lQ eX aZ (by (try simp only [EN]); exact rO p0.ID (List.length p0.Codes : Int)) fun r0 _ => ?_
 refine lC ?_ ?_
 ·exact aF rfl
 ·(try simp only [EN]); exact acQ fuel p0.Codes (List.length p0.Codes : Int) 0
def alY (C : aS) (Λ2 J : Lam) (a0 : List (List D)) (a1 a2 : Int) : Res := lab SE C Λ2 J 55 0 [1, 1, 0, 1, 0] (bU [(18, .d (.sl [.str] a0)), (19, dIq a1), (20, dIq a2)] [] [] [] [])
section
variable (Γ : Fun) (γ69 : Gm (Int)) (γ70 : Gm (Bool × Bool)) (Λ2 J : Lam)
def C55 : aS := bM (bM (aQ Γ) 69 aI γ69) 70 fT γ70
theorem T55 (p0 : aA) : bS SE (C55 Γ γ69 γ70) Λ2 J 55 [aA.av p0] [] [] =
 γ69 [dIq p0.ID, dIq (lM bA p0.Filters : Int)] [] [] fun r0 =>
 cond (r0 != 0) (
 (rI r0)) (
 alY (C55 Γ γ69 γ70) Λ2 J (List.map bA p0.Filters) (lM bA p0.Filters : Int) 0) := by kernel_rfl
theorem asD (x18 : List Str) (x19 x20 : Int) : eA SE (C55 Γ γ69 γ70) Λ2 J 55 0 [1, 1, 0, 1, 0] (bU [(18, .d (.sl [.str] (List.map bA x18))), (19, dIq x19), (20, dIq x20)] [] [] [] []) =
 cond (decide (x20 < x19)) (
 cond (iB x20 (lM bA x18 : Int)) (
  γ70 [dSq (bZ (cE bA x18 x20 0))] [] [] fun r1 =>
  cond (!r1.1) (
  (rI 13)) (
  alY (C55 Γ γ69 γ70) Λ2 J (List.map bA x18) x19 (w6 (x20 + 1)))) none) (
 (rI 0)) := by kernel_rfl
end
abbrev X55 : aS := C55 gG (cT 69 aI) (cT 70 fT)
theorem aq5 : X55 = aQ gG := by unfold X55 C55; repeat rw [bK fun _ h => h]
abbrev ash := alY X55 (dQ SE gG (SE.hl 55) (SE.hr 55)) (J0 SE X55)
theorem zE : ∀ (fu : Nat) (x18 : List Str) (x19 x20 : Int), Le (Option.map aI (eO fu x18 x19 x20)) (ash (List.map bA x18) x19 x20) := by
 intro fu
 induction fu with
 | zero => intros; exact le_none
 | succ fu ih =>
  intro x18 x19 x20
  refine Le.trans ?_ (le_of_eq ((bX aq5).trans (asD ..)).symm)
  unfold eO
  refine lC ?_ ?_
  ·refine lG (by simp only [EN]) ?_
   refine lQ eX wV (by (try simp only [EN]); exact yI (List.getD x18 (Int.toNat x20) default)) fun r1 _ => ?_
   refine lC ?_ ?_
   ·exact aF rfl
   ·exact ih x18 x19 (w6 (x20 + 1))
  ·exact aF rfl
theorem aby (p0 : aA) : Le (Option.map aI (j9 p0)) (bD SE 55 [aA.av p0] [] []) := by
 refine aY aq5 rfl ?_
 refine Le.trans ?_ (le_of_eq (T55 ..).symm)
 unfold j9
 refine lQ eX aZ (by (try simp only [EN]); exact rO p0.ID (List.length p0.Filters : Int)) fun r0 _ => ?_
 refine lC ?_ ?_
 ·exact aF rfl
 ·(try simp only [EN]); exact zE fuel p0.Filters (List.length p0.Filters : Int) 0
section
variable (Γ : Fun) (γ46 : Gm (Bool)) (γ48 : Gm (aA)) (γ47 : Gm (Bool)) (γ49 : Gm (Int)) (γ50 : Gm (Bool)) (γ51 γ52 γ53 γ54 γ55 : Gm (Int)) (Λ2 J : Lam)
def C33 : aS := bM (bM (bM (bM (bM (bM (bM (bM (bM (bM (aQ Γ) 46 aK γ46) 48 kL γ48) 47 aK γ47) 49 aI γ49) 50 aK γ50) 51 aI γ51) 52 aI γ52) 53 aI γ53) 54 aI γ54) 55 aI γ55
theorem T33 (p0 : aA) : bS SE (C33 Γ γ46 γ48 γ47 γ49 γ50 γ51 γ52 γ53 γ54 γ55) Λ2 J 33 [aA.av p0] [] [] =
 γ46 [dIq p0.Kind, dIq 1, dIq 14] [] [] fun r0 =>
 cond (!r0) (
 (rI 10)) (
 γ48 [aA.av p0] [] [] fun r1 =>
 γ47 [aA.av p0, aA.av r1] [] [] fun r2 =>
 cond (!r2) (
 (rI 28)) (
 cond (p0.Kind == 1) (
 γ49 [aA.av p0] [] [] fun r3 =>
 (rI r3)) (
 cond (p0.Kind == 2) (
 γ50 [dIq p0.Code] [] [] fun r4 =>
 cond (!r4) (
  (rI 1)) (
 cond p0.Present (
  cond (p0.Code != 0) (
  (rI 28)) (
  (rI 0))) (
 (rI 0)))) (
 cond (p0.Kind == 14) (
 γ50 [dIq p0.Code] [] [] fun r5 =>
 cond (!r5) (
  (rI 1)) (
 cond p0.Present (
  cond (p0.Code != 0) (
  (rI 28)) (
  (rI 0))) (
 (rI 0)))) (
 cond (p0.Kind == 3) (
 γ51 [aA.av p0] [] [] fun r6 =>
 (rI r6)) (
 cond (p0.Kind == 4) (
 γ52 [dIq p0.ID] [] [] fun r7 =>
 (rI r7)) (
 cond (p0.Kind == 5) (
 γ52 [dIq p0.ID] [] [] fun r8 =>
 (rI r8)) (
 cond (p0.Kind == 6) (
 γ52 [dIq p0.ID] [] [] fun r9 =>
 (rI r9)) (
 cond (p0.Kind == 7) (
 γ52 [dIq p0.ID] [] [] fun r10 =>
 (rI r10)) (
 cond (p0.Kind == 8) (
 γ53 [aA.av p0] [] [] fun r11 =>
 (rI r11)) (
 cond (p0.Kind == 9) (
 γ54 [aA.av p0] [] [] fun r12 =>
 (rI r12)) (
 cond (p0.Kind == 11) (
 γ54 [aA.av p0] [] [] fun r13 =>
 (rI r13)) (
 cond (p0.Kind == 10) (
 γ55 [aA.av p0] [] [] fun r14 =>
 (rI r14)) (
 (rI 0))))))))))))))) := by kernel_rfl
end
abbrev X33 : aS := C33 gG (cT 46 aK) (cT 48 kL) (cT 47 aK) (cT 49 aI) (cT 50 aK) (cT 51 aI) (cT 52 aI) (cT 53 aI) (cT 54 aI) (cT 55 aI)
theorem atW : X33 = aQ gG := by unfold X33 C33; repeat rw [bK fun _ h => h]
theorem uD (p0 : aA) : Le (Option.map aI (gJ p0)) (bD SE 33 [aA.av p0] [] []) := by
 refine aY atW rfl ?_
 refine Le.trans ?_ (le_of_eq (T33 ..).symm)
 unfold gJ
 refine lQ eX bC (eH _ _ _) fun r0 _ => ?_
 refine lC ?_ ?_
 ·exact aF rfl
 ·refine lQ eX afV (ag5 _) fun r1 _ => ?_
  refine lQ eX bC (ahv _ _) fun r2 _ => ?_
  refine lC ?_ ?_
  ·exact aF rfl
  ·refine lC ?_ ?_
   ·refine lQ eX aZ (aew _) fun r3 _ => ?_
    exact aF rfl
   ·refine lC ?_ ?_
    ·refine lQ eX bC (uZ _) fun r4 _ => ?_
     refine lC ?_ ?_
     ·exact aF rfl
     ·refine lC ?_ ?_
      ·refine lC ?_ ?_
       ·exact aF rfl
       ·exact aF rfl
      ·exact aF rfl
    ·refine lC ?_ ?_
     ·refine lQ eX bC (uZ _) fun r5 _ => ?_
      refine lC ?_ ?_
      ·exact aF rfl
      ·refine lC ?_ ?_
       ·refine lC ?_ ?_
        ·exact aF rfl
        ·exact aF rfl
       ·exact aF rfl
     ·refine lC ?_ ?_
      ·refine lQ eX aZ (aex _) fun r6 _ => ?_
       exact aF rfl
      ·refine lC ?_ ?_
       ·refine lQ eX aZ (mU _) fun r7 _ => ?_
        exact aF rfl
       ·refine lC ?_ ?_
        ·refine lQ eX aZ (mU _) fun r8 _ => ?_
         exact aF rfl
        ·refine lC ?_ ?_
         ·refine lQ eX aZ (mU _) fun r9 _ => ?_
          exact aF rfl
         ·refine lC ?_ ?_
          ·refine lQ eX aZ (mU _) fun r10 _ => ?_
           exact aF rfl
          ·refine lC ?_ ?_
           ·refine lQ eX aZ (acF _) fun r11 _ => ?_
            exact aF rfl
           ·refine lC ?_ ?_
            ·refine lQ eX aZ (zV _) fun r12 _ => ?_
             exact aF rfl
            ·refine lC ?_ ?_
             ·refine lQ eX aZ (zV _) fun r13 _ => ?_
              exact aF rfl
             ·refine lC ?_ ?_
              ·refine lQ eX aZ (aby _) fun r14 _ => ?_
               exact aF rfl
              ·exact aF rfl
section
variable (Γ : Fun)  (Λ2 J : Lam)
def C26 : aS := aQ Γ
theorem T26 (p0 : List Int) (p1 : Int) : bS SE (C26 Γ) Λ2 J 26 [.d (.sl [.int .u8] (List.map (aJ .u8) p0)), dIq p1] [] [] =
 cond (decide (0 ≤ (lM (aJ .u8) p0 : Int)) && decide ((lM (aJ .u8) p0 : Int) ≤ (w6 ((lM (aJ .u8) p0 : Int) + p1))) && decide ((w6 ((lM (aJ .u8) p0 : Int) + p1)) * 1 ≤ 281474976710656)) (
 (some (.ret [.row 0] [] [⟨[.int .u8], 5, 1, (List.take (List.length (List.replicate (Int.toNat (lM (aJ .u8) p0 : Int)) [D.int .u8 0])) (List.map (aJ .u8) p0) ++ List.drop (min (lM (aJ .u8) p0) (List.length (List.replicate (Int.toNat (lM (aJ .u8) p0 : Int)) [D.int .u8 0]))) (List.replicate (Int.toNat (lM (aJ .u8) p0 : Int)) [D.int .u8 0]))⟩]))) none := by kernel_rfl
end
abbrev X26 : aS := C26 gG
theorem atz : X26 = aQ gG := rfl
theorem wK (p0 : List Int) (p1 : Int) : Le (Option.map aP (n8 p0 p1)) (bD SE 26 [.d (.sl [.int .u8] (List.map (aJ .u8) p0)), dIq p1] [] []) := by
 refine aY atz rfl ?_
 refine Le.trans ?_ (le_of_eq (T26 ..).symm)
 unfold n8
 refine lG (by simp only [EN]) ?_
 exact aF (by first | rfl | simp only [EN, aP] <;> rfl)
section
variable (Γ : Fun)  (Λ2 J : Lam)
def C39 : aS := aQ Γ
theorem T39 (p0 : Int) : bS SE (C39 Γ) Λ2 J 39 [dIq p0] [] [] =
 (some (.ret [.d (.int .u64 (bP .xor .u64 (shl .u64 (IntKind.wrap .u64 p0) 1) (IntKind.wrap .u64 (shr .i64 p0 63))))] [] [])) := by kernel_rfl
end
abbrev X39 : aS := C39 gG
theorem auC : X39 = aQ gG := rfl
theorem ajh (p0 : Int) : Le (Option.map gM (wE p0)) (bD SE 39 [dIq p0] [] []) := by
 refine aY auC rfl ?_
 refine Le.trans ?_ (le_of_eq (T39 ..).symm)
 unfold wE
 exact aF rfl
def alh (C : aS) (Λ2 J : Lam) (a0 : Int) (a1 : List (List D)) : Res := lab SE C Λ2 J 25 0 [1, 1, 0, 0] (bU [(0, .row 3000), (5, .d (.int .u64 a0))] [] [] [] [(3000, ⟨[.int .u8], 5, 1, a1⟩)])
section
variable (Γ : Fun) (γ39 : Gm (Int)) (Λ2 J : Lam)
def C25 : aS := bM (aQ Γ) 39 gM γ39
theorem T25 (p0 : List Int) (p1 : Int) : bS SE (C25 Γ γ39) Λ2 J 25 [.row 2000000000, dIq p1] [] [⟨[.int .u8], 5, 1, (List.map (aJ .u8) p0)⟩] =
 γ39 [dIq p1] [] [] fun r0 =>
 alh (C25 Γ γ39) Λ2 J r0 (List.map (aJ .u8) p0) := by kernel_rfl
theorem arH (x5 : Int) (w3000 : List Int) : eA SE (C25 Γ γ39) Λ2 J 25 0 [1, 1, 0, 0] (bU [(0, .row 3000), (5, .d (.int .u64 x5))] [] [] [] [(3000, ⟨[.int .u8], 5, 1, (List.map (aJ .u8) w3000)⟩)]) =
 cond (decide (x5 > 127)) (
 cond (decide ((lM (aJ .u8) w3000 + lM (aJ .u8) [(bP .or .u8 (IntKind.wrap .u8 (bP .and .u64 x5 127)) 128)]) * 1 ≤ 140737488355328)) (
  alh (C25 Γ γ39) Λ2 J (shr .u64 x5 7) (((List.map (aJ .u8) w3000) ++ (List.map (aJ .u8) [(bP .or .u8 (IntKind.wrap .u8 (bP .and .u64 x5 127)) 128)])))) none) (
 cond (decide ((lM (aJ .u8) w3000 + lM (aJ .u8) [(IntKind.wrap .u8 x5)]) * 1 ≤ 140737488355328)) (
 (some (.ret [.row 0] [] [⟨[.int .u8], 5, 1, ((List.map (aJ .u8) w3000) ++ (List.map (aJ .u8) [(IntKind.wrap .u8 x5)]))⟩]))) none) := by kernel_rfl
end
abbrev X25 : aS := C25 gG (cT 39 gM)
theorem aqC : X25 = aQ gG := by unfold X25 C25; rw [bK fun _ h => h]
abbrev arC := alh X25 (dQ SE gG (SE.hl 25) (SE.hr 25)) (J0 SE X25)
theorem ahg : ∀ (fu : Nat) (x5 : Int) (w3000 : List Int), Le (Option.map aP (lT fu x5 w3000)) (arC x5 (List.map (aJ .u8) w3000)) := by
 intro fu
 induction fu with
 | zero => intros; exact le_none
 | succ fu ih =>
  intro x5 w3000
  refine Le.trans ?_ (le_of_eq ((bX aqC).trans (arH ..)).symm)
  unfold lT
  refine lC ?_ ?_
  ·refine lG (by simp only [EN]) ?_
   (try simp only [EN]); exact ih (shr .u64 x5 7) (w3000 ++ [(bP .or .u8 (IntKind.wrap .u8 (bP .and .u64 x5 127)) 128)])
  ·refine lG (by simp only [EN]) ?_
   exact aF (by first | rfl | simp only [EN, aP] <;> rfl)
theorem vP (p0 : List Int) (p1 : Int) : Le (Option.map aP (m8 p0 p1)) (bD SE 25 [.row 2000000000, dIq p1] [] [⟨[.int .u8], 5, 1, (List.map (aJ .u8) p0)⟩]) := by
 refine aY aqC rfl ?_
 refine Le.trans ?_ (le_of_eq (T25 ..).symm)
 unfold m8
 refine lQ eX acu (ajh _) fun r0 _ => ?_
 exact ahg fuel r0 p0
section
variable (Γ : Fun) (γ26 γ25 : Gm ((List Int))) (Λ2 J : Lam)
def C17 : aS := bM (bM (aQ Γ) 26 aP γ26) 25 aP γ25
theorem T17 (p0 : List Int) (p1 : Int) : bS SE (C17 Γ γ26 γ25) Λ2 J 17 [.d (.sl [.int .u8] (List.map (aJ .u8) p0)), dIq p1] [] [] =
 γ26 [.d (.sl [.int .u8] (List.map (aJ .u8) p0)), dIq 10] [] [] fun r0 =>
 γ25 [.row 2000000000, dIq p1] [] [⟨[.int .u8], 5, 1, (List.map (aJ .u8) r0)⟩] fun r1 =>
 (some (aP r1)) := by kernel_rfl
end
abbrev X17 : aS := C17 gG (cT 26 aP) (cT 25 aP)
theorem atw : X17 = aQ gG := by unfold X17 C17; repeat rw [bK fun _ h => h]
theorem bR (p0 : List Int) (p1 : Int) : Le (Option.map aP (bT p0 p1)) (bD SE 17 [.d (.sl [.int .u8] (List.map (aJ .u8) p0)), dIq p1] [] []) := by
 refine aY atw rfl ?_
 refine Le.trans ?_ (le_of_eq (T17 ..).symm)
 unfold bT
 refine lQ eX aU (wK _ _) fun r0 _ => ?_
 refine lQ eX aU (vP _ _) fun r1 _ => ?_
 exact aF rfl
section
variable (Γ : Fun) (γ26 γ25 : Gm ((List Int))) (Λ2 J : Lam)
def C56 : aS := bM (bM (aQ Γ) 26 aP γ26) 25 aP γ25
theorem T56 (p0 : List Int) (p1 : Str) : bS SE (C56 Γ γ26 γ25) Λ2 J 56 [.d (.sl [.int .u8] (List.map (aJ .u8) p0)), dSq p1] [] [] =
 γ26 [.d (.sl [.int .u8] (List.map (aJ .u8) p0)), dIq (w6 (10 + (List.length p1 : Int)))] [] [] fun r0 =>
 γ25 [.row 2000000000, dIq (List.length p1 : Int)] [] [⟨[.int .u8], 5, 1, (List.map (aJ .u8) r0)⟩] fun r1 =>
 cond (decide ((lM (aJ .u8) r1 + List.length (eS p1)) * 1 ≤ 140737488355328)) (
 (some (.ret [.row 0] [] [⟨[.int .u8], 5, 1, ((List.map (aJ .u8) r1) ++ (eS p1))⟩]))) none := by kernel_rfl
end
abbrev X56 : aS := C56 gG (cT 26 aP) (cT 25 aP)
theorem atH : X56 = aQ gG := by unfold X56 C56; repeat rw [bK fun _ h => h]
theorem gW (p0 : List Int) (p1 : Str) : Le (Option.map aP (fO p0 p1)) (bD SE 56 [.d (.sl [.int .u8] (List.map (aJ .u8) p0)), dSq p1] [] []) := by
 refine aY atH rfl ?_
 refine Le.trans ?_ (le_of_eq (T56 ..).symm)
 unfold fO
 refine lQ eX aU (wK _ _) fun r0 _ => ?_
 refine lQ eX aU (vP _ _) fun r1 _ => ?_
 refine lG (by simp only [EN]) ?_
 exact aF (by first | rfl | simp only [EN, aP] <;> rfl)
def aoR (C : aS) (Λ2 J : Lam) (a0 : List (List D)) (a1 a2 a3 : Int) (a4 : Bool) : Res := lab SE C Λ2 J 35 0 [1, 1, 0, 1, 0, 0, 1, 0, 0, 0] (bU [(0, .d (.sl [.bool] a0)), (3, dIq a1), (4, dIq a2), (10, dIq a3), (11, dBq a4)] [] [] [] [])
def aiJ (C : aS) (Λ2 J : Lam) (a0 : List (List D)) (a1 a2 : Int) : Res := lab SE C Λ2 J 35 0 [1, 1, 0, 1, 0] (bU [(0, .d (.sl [.bool] a0)), (3, dIq a1), (4, dIq a2)] [] [] [] [])
section
variable (Γ : Fun)  (Λ2 J : Lam)
def C35 : aS := aQ Γ
theorem T35 (p0 : List Bool) : bS SE (C35 Γ) Λ2 J 35 [.d (.sl [.bool] (List.map hO p0))] [] [] =
 aiJ (C35 Γ) Λ2 J (List.map hO p0) 0 0 := by kernel_rfl
theorem arp (x0 : List Bool) (x3 x4 x10 : Int) (x11 : Bool) : eA SE (C35 Γ) Λ2 J 35 0 [1, 1, 0, 1, 0, 0, 1, 0, 0, 0] (bU [(0, .d (.sl [.bool] (List.map hO x0))), (3, dIq x3), (4, dIq x4), (10, dIq x10), (11, dBq x11)] [] [] [] []) =
 cond (iB x4 (lM hO x0 : Int)) (
 cond (cG (cE hO x0 x4 0)) (
  cond (decide (0 ≤ x4)) (
  aiJ (C35 Γ) Λ2 J (List.map hO x0) (bP .or .i64 x3 (shl .i64 1 x4)) (w6 (x4 + 1))) none) (
 aiJ (C35 Γ) Λ2 J (List.map hO x0) x3 (w6 (x4 + 1)))) none := by kernel_rfl
theorem arI (x0 : List Bool) (x3 x4 : Int) : eA SE (C35 Γ) Λ2 J 35 0 [1, 1, 0, 1, 0] (bU [(0, .d (.sl [.bool] (List.map hO x0))), (3, dIq x3), (4, dIq x4)] [] [] [] []) =
 cond (decide (x4 < (lM hO x0 : Int))) (
 cond (decide (x4 < 32)) (
  aoR (C35 Γ) Λ2 J (List.map hO x0) x3 x4 x4 (decide (x4 < 32))) (
 (rI x3))) (
 (rI x3)) := by kernel_rfl
end
abbrev X35 : aS := C35 gG
theorem an5 : X35 = aQ gG := rfl
abbrev ari := aoR X35 (dQ SE gG (SE.hl 35) (SE.hr 35)) (J0 SE X35)
abbrev aoP := aiJ X35 (dQ SE gG (SE.hl 35) (SE.hr 35)) (J0 SE X35)
theorem afu (k3 : (List Bool) → Int → Int → Option (Int)) (hk3 : ∀ (x0 : List Bool) (x3 x4 : Int), Le (Option.map aI (k3 x0 x3 x4)) (aoP (List.map hO x0) x3 x4)) (x0 : List Bool) (x3 x4 x10 : Int) (x11 : Bool) : Le (Option.map aI (wM k3 x0 x3 x4 x10 x11)) (ari (List.map hO x0) x3 x4 x10 x11) := by
 refine Le.trans ?_ (le_of_eq ((bX an5).trans (arp ..)).symm)
 unfold wM
 refine lG (by simp only [EN]) ?_
 refine lD (by simp only [EN]) ?_ ?_
 ·refine lF ?_
  exact hk3 x0 (bP .or .i64 x3 (shl .i64 1 x4)) (w6 (x4 + 1))
 ·exact hk3 x0 x3 (w6 (x4 + 1))
theorem afr : ∀ (fu : Nat) (x0 : List Bool) (x3 x4 : Int), Le (Option.map aI (sG fu x0 x3 x4)) (aoP (List.map hO x0) x3 x4) := by
 intro fu
 induction fu with
 | zero => intros; exact le_none
 | succ fu ih =>
  intro x0 x3 x4
  refine Le.trans ?_ (le_of_eq ((bX an5).trans (arI ..)).symm)
  unfold sG
  refine lD (by simp only [EN]) ?_ ?_
  ·refine lC ?_ ?_
   ·exact afu _ (ih) x0 x3 x4 x4 (decide (x4 < 32))
   ·exact aF rfl
  ·exact aF rfl
theorem o6 (p0 : List Bool) : Le (Option.map aI (jX p0)) (bD SE 35 [.d (.sl [.bool] (List.map hO p0))] [] []) := by
 refine aY an5 rfl ?_
 refine Le.trans ?_ (le_of_eq (T35 ..).symm)
 unfold jX
 exact afr fuel p0 0 0
def ale (C : aS) (Λ2 J : Lam) (a0 : List (List D)) (a1 a2 : Int) (a3 : List (List D)) : Res := lab SE C Λ2 J 36 0 [1, 1, 1, 1, 1, 1, 1, 0, 1, 0] (bU [(5, .row 3005), (45, .d (.sl aB.ks a0)), (46, dIq a1), (47, dIq a2)] [] [] [] [(3005, ⟨[.int .u8], 5, 1, a3⟩)])
section
variable (Γ : Fun) (γ56 γ17 : Gm ((List Int))) (γ35 : Gm (Int)) (Λ2 J : Lam)
def C36 : aS := bM (bM (bM (aQ Γ) 56 aP γ56) 17 aP γ17) 35 aI γ35
theorem T36 (p0 : List Int) (p1 : aE) : bS SE (C36 Γ γ56 γ17 γ35) Λ2 J 36 [.d (.sl [.int .u8] (List.map (aJ .u8) p0)), aE.av p1] [] [] =
 γ56 [.d (.sl [.int .u8] (List.map (aJ .u8) p0)), dSq p1.Topic] [] [] fun r0 =>
 γ56 [.d (.sl [.int .u8] (List.map (aJ .u8) r0)), dSq p1.Payload] [] [] fun r1 =>
 γ17 [.d (.sl [.int .u8] (List.map (aJ .u8) r1)), dIq p1.Level] [] [] fun r2 =>
 γ35 [.d (.sl [.bool] (List.map hO [p1.Retain]))] [] [] fun r3 =>
 γ17 [.d (.sl [.int .u8] (List.map (aJ .u8) r2)), dIq r3] [] [] fun r4 =>
 γ17 [.d (.sl [.int .u8] (List.map (aJ .u8) r4)), dIq p1.Priority] [] [] fun r5 =>
 γ17 [.d (.sl [.int .u8] (List.map (aJ .u8) r5)), dIq p1.Expires] [] [] fun r6 =>
 γ56 [.d (.sl [.int .u8] (List.map (aJ .u8) r6)), dSq p1.From] [] [] fun r7 =>
 γ17 [.d (.sl [.int .u8] (List.map (aJ .u8) r7)), dIq p1.Seq] [] [] fun r8 =>
 γ17 [.d (.sl [.int .u8] (List.map (aJ .u8) r8)), dIq (lM aB.enc p1.Props : Int)] [] [] fun r9 =>
 ale (C36 Γ γ56 γ17 γ35) Λ2 J (List.map aB.enc p1.Props) (lM aB.enc p1.Props : Int) 0 (List.map (aJ .u8) r9) := by kernel_rfl
theorem asU (x45 : List aB) (x46 x47 : Int) (w3005 : List Int) : eA SE (C36 Γ γ56 γ17 γ35) Λ2 J 36 0 [1, 1, 1, 1, 1, 1, 1, 0, 1, 0] (bU [(5, .row 3005), (45, .d (.sl aB.ks (List.map aB.enc x45))), (46, dIq x46), (47, dIq x47)] [] [] [] [(3005, ⟨[.int .u8], 5, 1, (List.map (aJ .u8) w3005)⟩)]) =
 cond (decide (x47 < x46)) (
 cond (iB x47 (lM aB.enc x45 : Int)) (
  γ56 [.d (.sl [.int .u8] (List.map (aJ .u8) w3005)), dSq (bZ (cE aB.enc x45 x47 0))] [] [] fun r10 =>
  γ56 [.d (.sl [.int .u8] (List.map (aJ .u8) r10)), dSq (bZ (cE aB.enc x45 x47 1))] [] [] fun r11 =>
  ale (C36 Γ γ56 γ17 γ35) Λ2 J (List.map aB.enc x45) x46 (w6 (x47 + 1)) (List.map (aJ .u8) r11)) none) (
 (some (aP w3005))) := by kernel_rfl
end
abbrev X36 : aS := C36 gG (cT 56 aP) (cT 17 aP) (cT 35 aI)
theorem aqO : X36 = aQ gG := by unfold X36 C36; repeat rw [bK fun _ h => h]
abbrev asJ := ale X36 (dQ SE gG (SE.hl 36) (SE.hr 36)) (J0 SE X36)
theorem aeB : ∀ (fu : Nat) (x45 : List aB) (x46 x47 : Int) (w3005 : List Int), Le (Option.map aP (iA fu x45 x46 x47 w3005)) (asJ (List.map aB.enc x45) x46 x47 (List.map (aJ .u8) w3005)) := by
 intro fu
 induction fu with
 | zero => intros; exact le_none
 | succ fu ih =>
  intro x45 x46 x47 w3005
  refine Le.trans ?_ (le_of_eq ((bX aqO).trans (asU ..)).symm)
  unfold iA
  refine lC ?_ ?_
  ·refine lG (by simp only [EN]) ?_
   refine lQ eX aU (by (try simp only [EN]); exact gW w3005 ((List.getD x45 (Int.toNat x47) default).Key)) fun r10 _ => ?_
   refine lQ eX aU (by (try simp only [EN]); exact gW r10 ((List.getD x45 (Int.toNat x47) default).Value)) fun r11 _ => ?_
   exact ih x45 x46 (w6 (x47 + 1)) r11
  ·exact aF rfl
theorem abd (p0 : List Int) (p1 : aE) : Le (Option.map aP (m0 p0 p1)) (bD SE 36 [.d (.sl [.int .u8] (List.map (aJ .u8) p0)), aE.av p1] [] []) := by
 refine aY aqO rfl ?_
 refine Le.trans ?_ (le_of_eq (T36 ..).symm)
 unfold m0
 refine lQ eX aU (gW _ _) fun r0 _ => ?_
 refine lQ eX aU (gW _ _) fun r1 _ => ?_
 refine lQ eX aU (bR _ _) fun r2 _ => ?_
 refine lQ eX aZ (o6 _) fun r3 _ => ?_
 refine lQ eX aU (bR _ _) fun r4 _ => ?_
 refine lQ eX aU (bR _ _) fun r5 _ => ?_
 refine lQ eX aU (bR _ _) fun r6 _ => ?_
 refine lQ eX aU (gW _ _) fun r7 _ => ?_
 refine lQ eX aU (bR _ _) fun r8 _ => ?_
 refine lQ eX aU (by (try simp only [EN]); exact bR r8 (List.length p1.Props : Int)) fun r9 _ => ?_
 (try simp only [EN]); exact aeB fuel p1.Props (List.length p1.Props : Int) 0 r9
def ak7 (C : aS) (Λ2 J : Lam) (a0 a1 : Int) (a2 : List D) (a3 a4 : List (List D)) : Res := lab SE C Λ2 J 34 0 [1, 1, 1, 0, 1, 0] (bU [(3, .ptr 1000000000 0), (5, .row 3005), (30, .row 3030), (31, dIq a0), (32, dIq a1)] [⟨58, (List.map AV.d a2)⟩] [] [] [(3005, ⟨[.int .u8], 5, 1, a3⟩), (3030, ⟨[.int .i64], 3, 8, a4⟩)])
section
variable (Γ : Fun) (γ56 : Gm ((List Int))) (γ35 : Gm (Int)) (γ17 γ36 : Gm ((List Int))) (Λ2 J : Lam)
def C34 : aS := bM (bM (bM (bM (aQ Γ) 56 aP γ56) 35 aI γ35) 17 aP γ17) 36 aP γ36
theorem T34 (p0 : List Int) (p1 : aA) : bS SE (C34 Γ γ56 γ35 γ17 γ36) Λ2 J 34 [.d (.sl [.int .u8] (List.map (aJ .u8) p0)), aA.av p1] [] [] =
 γ56 [.d (.sl [.int .u8] (List.map (aJ .u8) p0)), dSq p1.Client] [] [] fun r0 =>
 γ56 [.d (.sl [.int .u8] (List.map (aJ .u8) r0)), dSq p1.User] [] [] fun r1 =>
 γ35 [.d (.sl [.bool] (List.map hO [p1.Clean, p1.Will.Set]))] [] [] fun r2 =>
 γ17 [.d (.sl [.int .u8] (List.map (aJ .u8) r1)), dIq r2] [] [] fun r3 =>
 ak7 (C34 Γ γ56 γ35 γ17 γ36) Λ2 J (lM eI [p1.Keep, p1.Expiry, p1.Window] : Int) 0 (aA.enc p1) (List.map (aJ .u8) r3) (List.map eI [p1.Keep, p1.Expiry, p1.Window]) := by kernel_rfl
theorem arF (x31 x32 : Int) (b0 : aA) (w3005 w3030 : List Int) : eA SE (C34 Γ γ56 γ35 γ17 γ36) Λ2 J 34 0 [1, 1, 1, 0, 1, 0] (bU [(3, .ptr 1000000000 0), (5, .row 3005), (30, .row 3030), (31, dIq x31), (32, dIq x32)] [⟨58, (List.map AV.d (aA.enc b0))⟩] [] [] [(3005, ⟨[.int .u8], 5, 1, (List.map (aJ .u8) w3005)⟩), (3030, ⟨[.int .i64], 3, 8, (List.map eI w3030)⟩)]) =
 cond (decide (x32 < x31)) (
 cond (iB x32 (lM eI w3030 : Int)) (
  γ17 [.d (.sl [.int .u8] (List.map (aJ .u8) w3005)), dIq (aX (cE eI w3030 x32 0))] [] [] fun r4 =>
  ak7 (C34 Γ γ56 γ35 γ17 γ36) Λ2 J x31 (w6 (x32 + 1)) (aA.enc b0) (List.map (aJ .u8) r4) (List.map eI w3030)) none) (
 cond b0.Will.Set (
 γ17 [.d (.sl [.int .u8] (List.map (aJ .u8) w3005)), dIq b0.Will.Delay] [] [] fun r5 =>
 γ36 [.d (.sl [.int .u8] (List.map (aJ .u8) r5)), aE.av b0.Will.Message] [] [] fun r6 =>
 (some (aP r6))) (
 (some (aP w3005)))) := by kernel_rfl
end
abbrev X34 : aS := C34 gG (cT 56 aP) (cT 35 aI) (cT 17 aP) (cT 36 aP)
theorem aql : X34 = aQ gG := by unfold X34 C34; repeat rw [bK fun _ h => h]
abbrev asd := ak7 X34 (dQ SE gG (SE.hl 34) (SE.hr 34)) (J0 SE X34)
theorem adS : ∀ (fu : Nat) (x31 x32 : Int) (b0 : aA) (w3005 w3030 : List Int), Le (Option.map aP (iM fu x31 x32 b0 w3005 w3030)) (asd x31 x32 (aA.enc b0) (List.map (aJ .u8) w3005) (List.map eI w3030)) := by
 intro fu
 induction fu with
 | zero => intros; exact le_none
 | succ fu ih =>
  intro x31 x32 b0 w3005 w3030
  refine Le.trans ?_ (le_of_eq ((bX aql).trans (arF ..)).symm)
  unfold iM
  refine lC ?_ ?_
  ·refine lG (by simp only [EN]) ?_
   refine lQ eX aU (by (try simp only [EN]); exact bR w3005 (List.getD w3030 (Int.toNat x32) default)) fun r4 _ => ?_
   exact ih x31 (w6 (x32 + 1)) b0 r4 w3030
  ·refine lC ?_ ?_
   ·refine lQ eX aU (bR _ _) fun r5 _ => ?_
    refine lQ eX aU (abd _ _) fun r6 _ => ?_
    exact aF rfl
   ·exact aF rfl
theorem agG (p0 : List Int) (p1 : aA) : Le (Option.map aP (p7 p0 p1)) (bD SE 34 [.d (.sl [.int .u8] (List.map (aJ .u8) p0)), aA.av p1] [] []) := by
 refine aY aql rfl ?_
 refine Le.trans ?_ (le_of_eq (T34 ..).symm)
 unfold p7
 refine lQ eX aU (gW _ _) fun r0 _ => ?_
 refine lQ eX aU (gW _ _) fun r1 _ => ?_
 refine lQ eX aZ (o6 _) fun r2 _ => ?_
 refine lQ eX aU (bR _ _) fun r3 _ => ?_
 (try simp only [EN]); exact adS fuel (List.length [p1.Keep, p1.Expiry, p1.Window] : Int) 0 p1 r3 [p1.Keep, p1.Expiry, p1.Window]
def alK (C : aS) (Λ2 J : Lam) (a0 : List (List D)) (a1 a2 : Int) (a3 : List (List D)) : Res := lab SE C Λ2 J 37 0 [1, 1, 0, 1, 0] (bU [(5, .row 3005), (12, .d (.sl aG.ks a0)), (13, dIq a1), (14, dIq a2)] [] [] [] [(3005, ⟨[.int .u8], 5, 1, a3⟩)])
section
variable (Γ : Fun) (γ17 γ56 : Gm ((List Int))) (γ35 : Gm (Int)) (Λ2 J : Lam)
def C37 : aS := bM (bM (bM (aQ Γ) 17 aP γ17) 56 aP γ56) 35 aI γ35
theorem T37 (p0 : List Int) (p1 : List aG) : bS SE (C37 Γ γ17 γ56 γ35) Λ2 J 37 [.d (.sl [.int .u8] (List.map (aJ .u8) p0)), .d (.sl aG.ks (List.map aG.enc p1))] [] [] =
 γ17 [.d (.sl [.int .u8] (List.map (aJ .u8) p0)), dIq (lM aG.enc p1 : Int)] [] [] fun r0 =>
 alK (C37 Γ γ17 γ56 γ35) Λ2 J (List.map aG.enc p1) (lM aG.enc p1 : Int) 0 (List.map (aJ .u8) r0) := by kernel_rfl
theorem arX (x12 : List aG) (x13 x14 : Int) (w3005 : List Int) : eA SE (C37 Γ γ17 γ56 γ35) Λ2 J 37 0 [1, 1, 0, 1, 0] (bU [(5, .row 3005), (12, .d (.sl aG.ks (List.map aG.enc x12))), (13, dIq x13), (14, dIq x14)] [] [] [] [(3005, ⟨[.int .u8], 5, 1, (List.map (aJ .u8) w3005)⟩)]) =
 cond (decide (x14 < x13)) (
 cond (iB x14 (lM aG.enc x12 : Int)) (
  γ56 [.d (.sl [.int .u8] (List.map (aJ .u8) w3005)), dSq (bZ (cE aG.enc x12 x14 0))] [] [] fun r1 =>
  γ17 [.d (.sl [.int .u8] (List.map (aJ .u8) r1)), dIq (aX (cE aG.enc x12 x14 1))] [] [] fun r2 =>
  γ35 [.d (.sl [.bool] [[D.bool (cG (cE aG.enc x12 x14 2))]])] [] [] fun r3 =>
  γ17 [.d (.sl [.int .u8] (List.map (aJ .u8) r2)), dIq r3] [] [] fun r4 =>
  alK (C37 Γ γ17 γ56 γ35) Λ2 J (List.map aG.enc x12) x13 (w6 (x14 + 1)) (List.map (aJ .u8) r4)) none) (
 (some (aP w3005))) := by kernel_rfl
end
abbrev X37 : aS := C37 gG (cT 17 aP) (cT 56 aP) (cT 35 aI)
theorem aqp : X37 = aQ gG := by unfold X37 C37; repeat rw [bK fun _ h => h]
abbrev asR := alK X37 (dQ SE gG (SE.hl 37) (SE.hr 37)) (J0 SE X37)
theorem yC : ∀ (fu : Nat) (x12 : List aG) (x13 x14 : Int) (w3005 : List Int), Le (Option.map aP (fE fu x12 x13 x14 w3005)) (asR (List.map aG.enc x12) x13 x14 (List.map (aJ .u8) w3005)) := by
 intro fu
 induction fu with
 | zero => intros; exact le_none
 | succ fu ih =>
  intro x12 x13 x14 w3005
  refine Le.trans ?_ (le_of_eq ((bX aqp).trans (arX ..)).symm)
  unfold fE
  refine lC ?_ ?_
  ·refine lG (by simp only [EN]) ?_
   refine lQ eX aU (by (try simp only [EN]); exact gW w3005 ((List.getD x12 (Int.toNat x14) default).Filter)) fun r1 _ => ?_
   refine lQ eX aU (by (try simp only [EN]); exact bR r1 ((List.getD x12 (Int.toNat x14) default).Level)) fun r2 _ => ?_
   refine lQ eX aZ (by (try simp only [EN]); exact o6 [(List.getD x12 (Int.toNat x14) default).NoLocal]) fun r3 _ => ?_
   refine lQ eX aU (bR _ _) fun r4 _ => ?_
   exact ih x12 x13 (w6 (x14 + 1)) r4
  ·exact aF rfl
theorem aa7 (p0 : List Int) (p1 : List aG) : Le (Option.map aP (j8 p0 p1)) (bD SE 37 [.d (.sl [.int .u8] (List.map (aJ .u8) p0)), .d (.sl aG.ks (List.map aG.enc p1))] [] []) := by
 refine aY aqp rfl ?_
 refine Le.trans ?_ (le_of_eq (T37 ..).symm)
 unfold j8
 refine lQ eX aU (by (try simp only [EN]); exact bR p0 (List.length p1 : Int)) fun r0 _ => ?_
 (try simp only [EN]); exact yC fuel p1 (List.length p1 : Int) 0 r0
def ak9 (C : aS) (Λ2 J : Lam) (a0 : List (List D)) (a1 a2 : Int) (a3 : List (List D)) : Res := lab SE C Λ2 J 38 0 [1, 1, 0, 1, 0] (bU [(5, .row 3005), (13, .d (.sl [.str] a0)), (14, dIq a1), (15, dIq a2)] [] [] [] [(3005, ⟨[.int .u8], 5, 1, a3⟩)])
section
variable (Γ : Fun) (γ26 γ25 : Gm ((List Int))) (Λ2 J : Lam)
def C38 : aS := bM (bM (aQ Γ) 26 aP γ26) 25 aP γ25
theorem T38 (p0 : List Int) (p1 : List Str) : bS SE (C38 Γ γ26 γ25) Λ2 J 38 [.d (.sl [.int .u8] (List.map (aJ .u8) p0)), .d (.sl [.str] (List.map bA p1))] [] [] =
 γ26 [.d (.sl [.int .u8] (List.map (aJ .u8) p0)), dIq 10] [] [] fun r0 =>
 γ25 [.row 2000000000, dIq (lM bA p1 : Int)] [] [⟨[.int .u8], 5, 1, (List.map (aJ .u8) r0)⟩] fun r1 =>
 ak9 (C38 Γ γ26 γ25) Λ2 J (List.map bA p1) (lM bA p1 : Int) 0 (List.map (aJ .u8) r1) := by kernel_rfl
theorem asW (x13 : List Str) (x14 x15 : Int) (w3005 : List Int) : eA SE (C38 Γ γ26 γ25) Λ2 J 38 0 [1, 1, 0, 1, 0] (bU [(5, .row 3005), (13, .d (.sl [.str] (List.map bA x13))), (14, dIq x14), (15, dIq x15)] [] [] [] [(3005, ⟨[.int .u8], 5, 1, (List.map (aJ .u8) w3005)⟩)]) =
 cond (decide (x15 < x14)) (
 cond (iB x15 (lM bA x13 : Int)) (
  γ25 [.row 2000000000, dIq (List.length (bZ (cE bA x13 x15 0)) : Int)] [] [⟨[.int .u8], 5, 1, (List.map (aJ .u8) w3005)⟩] fun r2 =>
  cond (decide ((lM (aJ .u8) r2 + List.length (eS (bZ (cE bA x13 x15 0)))) * 1 ≤ 140737488355328)) (
  ak9 (C38 Γ γ26 γ25) Λ2 J (List.map bA x13) x14 (w6 (x15 + 1)) (((List.map (aJ .u8) r2) ++ (eS (bZ (cE bA x13 x15 0)))))) none) none) (
 (some (aP w3005))) := by kernel_rfl
end
abbrev X38 : aS := C38 gG (cT 26 aP) (cT 25 aP)
theorem aq1 : X38 = aQ gG := by unfold X38 C38; repeat rw [bK fun _ h => h]
abbrev arO := ak9 X38 (dQ SE gG (SE.hl 38) (SE.hr 38)) (J0 SE X38)
theorem acH : ∀ (fu : Nat) (x13 : List Str) (x14 x15 : Int) (w3005 : List Int), Le (Option.map aP (hU fu x13 x14 x15 w3005)) (arO (List.map bA x13) x14 x15 (List.map (aJ .u8) w3005)) := by
 intro fu
 induction fu with
 | zero => intros; exact le_none
 | succ fu ih =>
  intro x13 x14 x15 w3005
  refine Le.trans ?_ (le_of_eq ((bX aq1).trans (asW ..)).symm)
  unfold hU
  refine lC ?_ ?_
  ·refine lG (by simp only [EN]) ?_
   refine lQ eX aU (by (try simp only [EN]); exact vP w3005 (List.length (List.getD x13 (Int.toNat x15) default) : Int)) fun r2 _ => ?_
   refine lG (by simp only [EN]) ?_
   (try simp only [EN]); exact ih x13 x14 (w6 (x15 + 1)) (r2 ++ (ofStr (List.getD x13 (Int.toNat x15) default)))
  ·exact aF rfl
theorem afz (p0 : List Int) (p1 : List Str) : Le (Option.map aP (oZ p0 p1)) (bD SE 38 [.d (.sl [.int .u8] (List.map (aJ .u8) p0)), .d (.sl [.str] (List.map bA p1))] [] []) := by
 refine aY aq1 rfl ?_
 refine Le.trans ?_ (le_of_eq (T38 ..).symm)
 unfold oZ
 refine lQ eX aU (wK _ _) fun r0 _ => ?_
 refine lQ eX aU (by (try simp only [EN]); exact vP r0 (List.length p1 : Int)) fun r1 _ => ?_
 (try simp only [EN]); exact acH fuel p1 (List.length p1 : Int) 0 r1
end Te
end PX
