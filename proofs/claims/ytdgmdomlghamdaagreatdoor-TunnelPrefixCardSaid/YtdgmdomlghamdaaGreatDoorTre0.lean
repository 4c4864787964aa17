import Derived.Test.YtdgmdomlghamdaaGreatDoorTab
set_option linter.unusedVariables false
set_option linter.unusedSimpArgs false
set_option maxRecDepth 100000
noncomputable section
namespace PX
open Go
open Md
namespace Te
abbrev cE {α : Type} (f : α → List D) (l : List α) (i : Int) (k : Nat) : D := cellAt (elemAt (List.map f l) (Int.toNat i)) k
abbrev lM {α : Type} (f : α → List D) (l : List α) : Nat := List.length (List.map f l)
abbrev iB (i n : Int) : Bool := decide (0 ≤ i) && decide (i < n)
abbrev w6 (x : Int) : Int := IntKind.wrap .i64 x
abbrev eI : Int → List D := aN .i64
theorem lGe {R : Type} {e : R → Out} {c c' : Bool} {a : Option R} {a' : Res} (h1 : Le (a.map e) a') (hc : c = c' := by simp only [EN]) : Le ((cond c a none).map e) (cond c' a' none) := lG hc h1
theorem lDe {R : Type} {e : R → Out} {c c' : Bool} {a b : Option R} {a' b' : Res} (h1 : Le (a.map e) a') (h2 : Le (b.map e) b') (hc : c = c' := by simp only [EN]) : Le ((cond c a b).map e) (cond c' a' b') := lD hc h1 h2
abbrev dIq (n : Int) : AV := .d (.int .i64 n)
abbrev dSq (s : Str) : AV := .d (.str s)
abbrev dBq (b : Bool) : AV := .d (.bool b)
abbrev rB (b : Bool) : Res := some (.ret [.d (.bool b)] [] [])
abbrev rI (n : Int) : Res := some (.ret [.d (.int .i64 n)] [] [])
theorem lQ {g : FuncId} {R S : Type} {out : R → Out} {e : S → Out} {x : Option R} {M : R → Option S} {a : List AV} {b : List Bx} {r : List Rw} {κ : R → Res} (hg : ∀ y, good g (out y)) (hi : ∀ y z, out y = out z → y = z) (h : Le (x.map out) (bH SE g a b r)) (hk : ∀ y, x = some y → Le ((M y).map e) (κ y)) : Le ((x.bind M).map e) (aky SE good g out a b r κ) := ay3 (good := good) hg hi h hk
abbrev zMq : aF := aF.mk [] [] 0 false 0 0 [] 0 []
abbrev zWq : aY := aY.mk false 0 zMq
abbrev zPq : aA := aA.mk 0 0 false zMq [] [] false 0 0 0 zWq false 0 [] [] []
section
variable (Γ : Fun)  (Λ2 J : Lam)
def C15 : aS := aT Γ
theorem T15 (p0 : Int) : bL SE (C15 Γ) Λ2 J 15 [dIq p0] [] [] =
 (some (.ret [aI.av (aI.mk p0 0 0 false)] [] [])) := by kernel_rfl
end
abbrev X15 : aS := C15 gG
theorem aFC : X15 = aT gG := rfl
theorem aaD (p0 : Int) : Le (Option.map eG (uF p0)) (bH SE 15 [dIq p0] [] []) := by
 refine aZ aFC rfl ?_
 refine Le.trans ?_ (le_of_eq (T15 ..).symm)
 unfold uF
 exact aG rfl
section
variable (Γ : Fun)  (Λ2 J : Lam)
def C85 : aS := aT Γ
theorem T85 (p0 p1 p2 : Int) : bL SE (C85 Γ) Λ2 J 85 [dIq p0, dIq p1, dIq p2] [] [] =
 cond (decide (p0 ≥ p1)) (
 (rB (decide (p0 ≤ p2)))) (
 (rB false)) := by kernel_rfl
end
abbrev X85 : aS := C85 gG
theorem aF6 : X85 = aT gG := rfl
theorem gU (p0 p1 p2 : Int) : Le (Option.map packet_is_out (iP p0 p1 p2)) (bH SE 85 [dIq p0, dIq p1, dIq p2] [] []) := by
 refine aZ aF6 rfl ?_
 refine Le.trans ?_ (le_of_eq (T85 ..).symm)
 unfold iP
 refine lC ?_ ?_
 ·exact aG rfl
 ·exact aG rfl
section
variable (Γ : Fun)  (Λ2 J : Lam)
def C87 : aS := aT Γ
theorem T87 (p0 : aA) : bL SE (C87 Γ) Λ2 J 87 [aA.av p0] [] [] =
 cond (p0.Kind == 1) (
 (some (eF ((aA.mk p0.Kind 0 false zMq p0.Client p0.User p0.Clean p0.Keep p0.Expiry p0.Window p0.Will false 0 [] [] []))))) (
 cond (p0.Kind == 2) (
 (some (eF ((aA.mk p0.Kind 0 false zMq [] [] false 0 0 0 zWq p0.Present p0.Code [] [] []))))) (
 cond (p0.Kind == 3) (
 (some (eF ((aA.mk p0.Kind p0.ID p0.Dup p0.Message [] [] false 0 0 0 zWq false 0 [] [] []))))) (
 cond (p0.Kind == 4) (
 (some (eF ((aA.mk p0.Kind p0.ID false zMq [] [] false 0 0 0 zWq false 0 [] [] []))))) (
 cond (p0.Kind == 5) (
 (some (eF ((aA.mk p0.Kind p0.ID false zMq [] [] false 0 0 0 zWq false 0 [] [] []))))) (
 cond (p0.Kind == 6) (
 (some (eF ((aA.mk p0.Kind p0.ID false zMq [] [] false 0 0 0 zWq false 0 [] [] []))))) (
 cond (p0.Kind == 7) (
 (some (eF ((aA.mk p0.Kind p0.ID false zMq [] [] false 0 0 0 zWq false 0 [] [] []))))) (
 cond (p0.Kind == 8) (
 (some (eF ((aA.mk p0.Kind p0.ID false zMq [] [] false 0 0 0 zWq false 0 p0.Subs [] []))))) (
 cond (p0.Kind == 9) (
 (some (eF ((aA.mk p0.Kind p0.ID false zMq [] [] false 0 0 0 zWq false 0 [] [] p0.Codes))))) (
 cond (p0.Kind == 11) (
 (some (eF ((aA.mk p0.Kind p0.ID false zMq [] [] false 0 0 0 zWq false 0 [] [] p0.Codes))))) (
 cond (p0.Kind == 10) (
 (some (eF ((aA.mk p0.Kind p0.ID false zMq [] [] false 0 0 0 zWq false 0 [] p0.Filters []))))) (
 cond (p0.Kind == 14) (
 (some (eF ((aA.mk p0.Kind 0 false zMq [] [] false 0 0 0 zWq false p0.Code [] [] []))))) (
 (some (eF ((aA.mk p0.Kind 0 false zMq [] [] false 0 0 0 zWq false 0 [] [] [])))))))))))))))) := by kernel_rfl
end
abbrev X87 : aS := C87 gG
theorem aHe : X87 = aT gG := rfl
theorem anO (p0 : aA) : Le (Option.map eF (xF p0)) (bH SE 87 [aA.av p0] [] []) := by
 refine aZ aHe rfl ?_
 refine Le.trans ?_ (le_of_eq (T87 ..).symm)
 unfold xF
 refine lC ?_ ?_
 ·exact aG rfl
 ·refine lC ?_ ?_
  ·exact aG rfl
  ·refine lC ?_ ?_
   ·exact aG rfl
   ·refine lC ?_ ?_
    ·exact aG rfl
    ·refine lC ?_ ?_
     ·exact aG rfl
     ·refine lC ?_ ?_
      ·exact aG rfl
      ·refine lC ?_ ?_
       ·exact aG rfl
       ·refine lC ?_ ?_
        ·exact aG rfl
        ·refine lC ?_ ?_
         ·exact aG rfl
         ·refine lC ?_ ?_
          ·exact aG rfl
          ·refine lC ?_ ?_
           ·exact aG rfl
           ·refine lC ?_ ?_
            ·exact aG rfl
            ·exact aG rfl
section
variable (Γ : Fun)  (Λ2 J : Lam)
def aBs : aS := aT Γ
theorem aGm (p0 : aA) : bL SE (aBs Γ) Λ2 J 113 [aA.av p0] [] [] =
 (some (.ret [cO.av (cO.mk p0.Kind p0.ID p0.Keep p0.Expiry p0.Window p0.Code p0.Will.Delay p0.Dup p0.Clean p0.Present p0.Will.Set p0.Client p0.User)] [] [])) := by kernel_rfl
end
abbrev aGo : aS := aBs gG
theorem aEE : aGo = aT gG := rfl
theorem adE (p0 : aA) : Le (Option.map m0 (vA p0)) (bH SE 113 [aA.av p0] [] []) := by
 refine aZ aEE rfl ?_
 refine Le.trans ?_ (le_of_eq (aGm ..).symm)
 unfold vA
 exact aG rfl
def ap9 (C : aS) (Λ2 J : Lam) (a0 : List (List D)) (a1 a2 : Int) (a3 : List D) : Res := lab SE C Λ2 J 114 0 [1, 1, 0, 1, 0] (bA [(3, .ptr 1000000000 0), (71, .d (.sl aB.ks a0)), (72, dIq a1), (73, dIq a2)] [⟨47, (List.map AV.d a3)⟩] [] [] [])
def avR (C : aS) (Λ2 J : Lam) (a0 a1 : List D) : Res := lab SE C Λ2 J 114 0 [1, 1, 0, 0] (bA [(2, .ptr 1000000000 0), (3, .ptr 1000000001 0)] [⟨47, (List.map AV.d a0)⟩, ⟨47, (List.map AV.d a1)⟩] [] [] [])
section
variable (Γ : Fun)  (Λ2 J : Lam)
def alK : aS := aT Γ
theorem aGr (p0 p1 : aF) : bL SE (alK Γ) Λ2 J 114 [aF.av p0, aF.av p1] [] [] =
 cond (!(p0.Topic == p1.Topic)) (
 (rB false)) (
 cond (!(p0.Payload == p1.Payload)) (
 (rB false)) (
 cond (p0.Level != p1.Level) (
 (rB false)) (
 cond (p0.Retain != p1.Retain) (
 (rB false)) (
 cond (p0.Priority != p1.Priority) (
 (rB false)) (
 cond (p0.Expires != p1.Expires) (
 (rB false)) (
 cond (!(p0.From == p1.From)) (
 (rB false)) (
 cond (p0.Seq != p1.Seq) (
 (rB false)) (
 cond ((lM aB.enc p0.Props : Int) != (lM aB.enc p1.Props : Int)) (
 (rB false)) (
 avR (alK Γ) Λ2 J (aF.enc p0) (aF.enc p1)))))))))) := by kernel_rfl
theorem aAE (x71 : List aB) (x72 x73 : Int) (b0 : aF) : cJ SE (alK Γ) Λ2 J 114 0 [1, 1, 0, 1, 0] (bA [(3, .ptr 1000000000 0), (71, .d (.sl aB.ks (List.map aB.enc x71))), (72, dIq x72), (73, dIq x73)] [⟨47, (List.map AV.d (aF.enc b0))⟩] [] [] []) =
 cond (decide (x73 < x72)) (
 cond (iB x73 (lM aB.enc x71 : Int)) (
  cond (iB x73 (lM aB.enc b0.Props : Int)) (
  cond (!(((bQ (cE aB.enc x71 x73 0)) == (bQ (cE aB.enc b0.Props x73 0))) && (((bQ (cE aB.enc x71 x73 1)) == (bQ (cE aB.enc b0.Props x73 1))) && true))) (
   (rB false)) (
  ap9 (alK Γ) Λ2 J (List.map aB.enc x71) x72 (w6 (x73 + 1)) (aF.enc b0))) none) none) (
 (rB true)) := by kernel_rfl
theorem aAi (b0 b1 : aF) : cJ SE (alK Γ) Λ2 J 114 0 [1, 1, 0, 0] (bA [(2, .ptr 1000000000 0), (3, .ptr 1000000001 0)] [⟨47, (List.map AV.d (aF.enc b0))⟩, ⟨47, (List.map AV.d (aF.enc b1))⟩] [] [] []) =
 ap9 (alK Γ) Λ2 J (List.map aB.enc b0.Props) (lM aB.enc b0.Props : Int) 0 (aF.enc b1) := by kernel_rfl
end
abbrev ark : aS := alK gG
theorem as9 : ark = aT gG := rfl
abbrev aBv := ap9 ark (cC SE gG (SE.hl 114) (SE.hr 114)) (J0 SE ark)
abbrev aCg := avR ark (cC SE gG (SE.hl 114) (SE.hr 114)) (J0 SE ark)
theorem aj6 : ∀ (fu : Nat) (x71 : List aB) (x72 x73 : Int) (b0 : aF), Le (Option.map packet_is_out (nV fu x71 x72 x73 b0)) (aBv (List.map aB.enc x71) x72 x73 (aF.enc b0)) := by
 intro fu
 induction fu with
 | zero => intros; exact le_none
 | succ fu ih =>
  intro x71 x72 x73 b0
  refine Le.trans ?_ (le_of_eq ((bD as9).trans (aAE ..)).symm)
  unfold nV
  refine lC ?_ ?_
  ·refine lGe ?_
   refine lGe ?_
   refine lDe ?_ ?_
   ·exact aG rfl
   ·exact ih x71 x72 (w6 (x73 + 1)) b0
  ·exact aG rfl
theorem ai4 (b0 b1 : aF) : Le (Option.map packet_is_out (yC b0 b1)) (aCg (aF.enc b0) (aF.enc b1)) := by
 refine Le.trans ?_ (le_of_eq ((bD as9).trans (aAi ..)).symm)
 unfold yC
 (try simp only [EN]); exact aj6 fuel b0.Props (List.length b0.Props : Int) 0 b1
theorem xS (p0 p1 : aF) : Le (Option.map packet_is_out (p9 p0 p1)) (bH SE 114 [aF.av p0, aF.av p1] [] []) := by
 refine aZ as9 rfl ?_
 refine Le.trans ?_ (le_of_eq (aGr ..).symm)
 unfold p9
 refine lC ?_ ?_
 ·exact aG rfl
 ·refine lC ?_ ?_
  ·exact aG rfl
  ·refine lC ?_ ?_
   ·exact aG rfl
   ·refine lC ?_ ?_
    ·exact aG rfl
    ·refine lC ?_ ?_
     ·exact aG rfl
     ·refine lC ?_ ?_
      ·exact aG rfl
      ·refine lC ?_ ?_
       ·exact aG rfl
       ·refine lC ?_ ?_
        ·exact aG rfl
        ·refine lDe ?_ ?_
         ·exact aG rfl
         ·exact ai4 p0 p1
def are (C : aS) (Λ2 J : Lam) (a0 a1 : List (List D)) (a2 a3 : Int) : Res := lab SE C Λ2 J 115 0 [1, 1, 0, 1, 0] (bA [(1, .d (.sl aH.ks a0)), (12, .d (.sl aH.ks a1)), (13, dIq a2), (14, dIq a3)] [] [] [] [])
section
variable (Γ : Fun)  (Λ2 J : Lam)
def aq3 : aS := aT Γ
theorem aFV (p0 p1 : List aH) : bL SE (aq3 Γ) Λ2 J 115 [.d (.sl aH.ks (List.map aH.enc p0)), .d (.sl aH.ks (List.map aH.enc p1))] [] [] =
 cond ((lM aH.enc p0 : Int) != (lM aH.enc p1 : Int)) (
 (rB false)) (
 are (aq3 Γ) Λ2 J (List.map aH.enc p1) (List.map aH.enc p0) (lM aH.enc p0 : Int) 0) := by kernel_rfl
theorem azv (x1 x12 : List aH) (x13 x14 : Int) : cJ SE (aq3 Γ) Λ2 J 115 0 [1, 1, 0, 1, 0] (bA [(1, .d (.sl aH.ks (List.map aH.enc x1))), (12, .d (.sl aH.ks (List.map aH.enc x12))), (13, dIq x13), (14, dIq x14)] [] [] [] []) =
 cond (decide (x14 < x13)) (
 cond (iB x14 (lM aH.enc x12 : Int)) (
  cond (iB x14 (lM aH.enc x1 : Int)) (
  cond (!(((bQ (cE aH.enc x12 x14 0)) == (bQ (cE aH.enc x1 x14 0))) && (((bC (cE aH.enc x12 x14 1)) == (bC (cE aH.enc x1 x14 1))) && (((cF (cE aH.enc x12 x14 2)) == (cF (cE aH.enc x1 x14 2))) && true)))) (
   (rB false)) (
  are (aq3 Γ) Λ2 J (List.map aH.enc x1) (List.map aH.enc x12) x13 (w6 (x14 + 1)))) none) none) (
 (rB true)) := by kernel_rfl
end
abbrev awv : aS := aq3 gG
theorem ax6 : awv = aT gG := rfl
abbrev azE := are awv (cC SE gG (SE.hl 115) (SE.hr 115)) (J0 SE awv)
theorem akO : ∀ (fu : Nat) (x1 x12 : List aH) (x13 x14 : Int), Le (Option.map packet_is_out (pC fu x1 x12 x13 x14)) (azE (List.map aH.enc x1) (List.map aH.enc x12) x13 x14) := by
 intro fu
 induction fu with
 | zero => intros; exact le_none
 | succ fu ih =>
  intro x1 x12 x13 x14
  refine Le.trans ?_ (le_of_eq ((bD ax6).trans (azv ..)).symm)
  unfold pC
  refine lC ?_ ?_
  ·refine lGe ?_
   refine lGe ?_
   refine lDe ?_ ?_
   ·exact aG rfl
   ·exact ih x1 x12 x13 (w6 (x14 + 1))
  ·exact aG rfl
theorem ann (p0 p1 : List aH) : Le (Option.map packet_is_out (aal p0 p1)) (bH SE 115 [.d (.sl aH.ks (List.map aH.enc p0)), .d (.sl aH.ks (List.map aH.enc p1))] [] []) := by
 refine aZ ax6 rfl ?_
 refine Le.trans ?_ (le_of_eq (aFV ..).symm)
 unfold aal
 refine lDe ?_ ?_
 ·exact aG rfl
 ·(try simp only [EN]); exact akO fuel p1 p0 (List.length p0 : Int) 0
def aqp (C : aS) (Λ2 J : Lam) (a0 a1 : List (List D)) (a2 a3 : Int) : Res := lab SE C Λ2 J 116 0 [1, 1, 0, 1, 0] (bA [(1, .d (.sl [.str] a0)), (12, .d (.sl [.str] a1)), (13, dIq a2), (14, dIq a3)] [] [] [] [])
section
variable (Γ : Fun)  (Λ2 J : Lam)
def aqV : aS := aT Γ
theorem aHq (p0 p1 : List Str) : bL SE (aqV Γ) Λ2 J 116 [.d (.sl [.str] (List.map bB p0)), .d (.sl [.str] (List.map bB p1))] [] [] =
 cond ((lM bB p0 : Int) != (lM bB p1 : Int)) (
 (rB false)) (
 aqp (aqV Γ) Λ2 J (List.map bB p1) (List.map bB p0) (lM bB p0 : Int) 0) := by kernel_rfl
theorem aBY (x1 x12 : List Str) (x13 x14 : Int) : cJ SE (aqV Γ) Λ2 J 116 0 [1, 1, 0, 1, 0] (bA [(1, .d (.sl [.str] (List.map bB x1))), (12, .d (.sl [.str] (List.map bB x12))), (13, dIq x13), (14, dIq x14)] [] [] [] []) =
 cond (decide (x14 < x13)) (
 cond (iB x14 (lM bB x12 : Int)) (
  cond (iB x14 (lM bB x1 : Int)) (
  cond (!((bQ (cE bB x12 x14 0)) == (bQ (cE bB x1 x14 0)))) (
   (rB false)) (
  aqp (aqV Γ) Λ2 J (List.map bB x1) (List.map bB x12) x13 (w6 (x14 + 1)))) none) none) (
 (rB true)) := by kernel_rfl
end
abbrev aw2 : aS := aqV gG
theorem axZ : aw2 = aT gG := rfl
abbrev aAh := aqp aw2 (cC SE gG (SE.hl 116) (SE.hr 116)) (J0 SE aw2)
theorem aka : ∀ (fu : Nat) (x1 x12 : List Str) (x13 x14 : Int), Le (Option.map packet_is_out (nQ fu x1 x12 x13 x14)) (aAh (List.map bB x1) (List.map bB x12) x13 x14) := by
 intro fu
 induction fu with
 | zero => intros; exact le_none
 | succ fu ih =>
  intro x1 x12 x13 x14
  refine Le.trans ?_ (le_of_eq ((bD axZ).trans (aBY ..)).symm)
  unfold nQ
  refine lC ?_ ?_
  ·refine lGe ?_
   refine lGe ?_
   refine lDe ?_ ?_
   ·exact aG rfl
   ·exact ih x1 x12 x13 (w6 (x14 + 1))
  ·exact aG rfl
theorem amo (p0 p1 : List Str) : Le (Option.map packet_is_out (yZ p0 p1)) (bH SE 116 [.d (.sl [.str] (List.map bB p0)), .d (.sl [.str] (List.map bB p1))] [] []) := by
 refine aZ axZ rfl ?_
 refine Le.trans ?_ (le_of_eq (aHq ..).symm)
 unfold yZ
 refine lDe ?_ ?_
 ·exact aG rfl
 ·(try simp only [EN]); exact aka fuel p1 p0 (List.length p0 : Int) 0
def apw (C : aS) (Λ2 J : Lam) (a0 a1 : List (List D)) (a2 a3 : Int) : Res := lab SE C Λ2 J 117 0 [1, 1, 0, 1, 0] (bA [(1, .d (.sl [.int .i64] a0)), (12, .d (.sl [.int .i64] a1)), (13, dIq a2), (14, dIq a3)] [] [] [] [])
section
variable (Γ : Fun)  (Λ2 J : Lam)
def aqa : aS := aT Γ
theorem aFH (p0 p1 : List Int) : bL SE (aqa Γ) Λ2 J 117 [.d (.sl [.int .i64] (List.map eI p0)), .d (.sl [.int .i64] (List.map eI p1))] [] [] =
 cond ((lM eI p0 : Int) != (lM eI p1 : Int)) (
 (rB false)) (
 apw (aqa Γ) Λ2 J (List.map eI p1) (List.map eI p0) (lM eI p0 : Int) 0) := by kernel_rfl
theorem aBQ (x1 x12 : List Int) (x13 x14 : Int) : cJ SE (aqa Γ) Λ2 J 117 0 [1, 1, 0, 1, 0] (bA [(1, .d (.sl [.int .i64] (List.map eI x1))), (12, .d (.sl [.int .i64] (List.map eI x12))), (13, dIq x13), (14, dIq x14)] [] [] [] []) =
 cond (decide (x14 < x13)) (
 cond (iB x14 (lM eI x12 : Int)) (
  cond (iB x14 (lM eI x1 : Int)) (
  cond ((bC (cE eI x12 x14 0)) != (bC (cE eI x1 x14 0))) (
   (rB false)) (
  apw (aqa Γ) Λ2 J (List.map eI x1) (List.map eI x12) x13 (w6 (x14 + 1)))) none) none) (
 (rB true)) := by kernel_rfl
end
abbrev aw8 : aS := aqa gG
theorem ayt : aw8 = aT gG := rfl
abbrev aBx := apw aw8 (cC SE gG (SE.hl 117) (SE.hr 117)) (J0 SE aw8)
theorem ahZ : ∀ (fu : Nat) (x1 x12 : List Int) (x13 x14 : Int), Le (Option.map packet_is_out (lT fu x1 x12 x13 x14)) (aBx (List.map eI x1) (List.map eI x12) x13 x14) := by
 intro fu
 induction fu with
 | zero => intros; exact le_none
 | succ fu ih =>
  intro x1 x12 x13 x14
  refine Le.trans ?_ (le_of_eq ((bD ayt).trans (aBQ ..)).symm)
  unfold lT
  refine lC ?_ ?_
  ·refine lGe ?_
   refine lGe ?_
   refine lDe ?_ ?_
   ·exact aG rfl
   ·exact ih x1 x12 x13 (w6 (x14 + 1))
  ·exact aG rfl
theorem akP (p0 p1 : List Int) : Le (Option.map packet_is_out (vI p0 p1)) (bH SE 117 [.d (.sl [.int .i64] (List.map eI p0)), .d (.sl [.int .i64] (List.map eI p1))] [] []) := by
 refine aZ ayt rfl ?_
 refine Le.trans ?_ (le_of_eq (aFH ..).symm)
 unfold vI
 refine lDe ?_ ?_
 ·exact aG rfl
 ·(try simp only [EN]); exact ahZ fuel p1 p0 (List.length p0 : Int) 0
section
variable (Γ : Fun) (γ113 : Gm (cO)) (γ114 γ115 γ116 γ117 : Gm (Bool)) (Λ2 J : Lam)
def C86 : aS := bG (bG (bG (bG (bG (aT Γ) 113 m0 γ113) 114 packet_is_out γ114) 115 packet_is_out γ115) 116 packet_is_out γ116) 117 packet_is_out γ117
theorem T86 (p0 p1 : aA) : bL SE (C86 Γ γ113 γ114 γ115 γ116 γ117) Λ2 J 86 [aA.av p0, aA.av p1] [] [] =
 γ113 [aA.av p0] [] [] fun r0 =>
 γ113 [aA.av p1] [] [] fun r1 =>
 cond ((r0.kind == r1.kind) && ((r0.id == r1.id) && ((r0.keep == r1.keep) && ((r0.expiry == r1.expiry) && ((r0.window == r1.window) && ((r0.code == r1.code) && ((r0.delay == r1.delay) && ((r0.dup == r1.dup) && ((r0.clean == r1.clean) && ((r0.present == r1.present) && ((r0.set_ == r1.set_) && ((r0.client == r1.client) && ((r0.user == r1.user) && true))))))))))))) (
 γ114 [aF.av p0.Message, aF.av p1.Message] [] [] fun r2 =>
 cond r2 (
  γ114 [aF.av p0.Will.Message, aF.av p1.Will.Message] [] [] fun r3 =>
  cond r3 (
  γ115 [.d (.sl aH.ks (List.map aH.enc p0.Subs)), .d (.sl aH.ks (List.map aH.enc p1.Subs))] [] [] fun r4 =>
  cond r4 (
   γ116 [.d (.sl [.str] (List.map bB p0.Filters)), .d (.sl [.str] (List.map bB p1.Filters))] [] [] fun r5 =>
   cond r5 (
   γ117 [.d (.sl [.int .i64] (List.map eI p0.Codes)), .d (.sl [.int .i64] (List.map eI p1.Codes))] [] [] fun r6 =>
   (rB r6)) (
   (rB false))) (
  (rB false))) (
  (rB false))) (
 (rB false))) (
 (rB false)) := by kernel_rfl
end
abbrev X86 : aS := C86 gG (cT 113 m0) (cT 114 packet_is_out) (cT 115 packet_is_out) (cT 116 packet_is_out) (cT 117 packet_is_out)
theorem aG6 : X86 = aT gG := by unfold X86 C86; repeat rw [bJ fun _ h => h]
theorem anF (p0 p1 : aA) : Le (Option.map packet_is_out (aav p0 p1)) (bH SE 86 [aA.av p0, aA.av p1] [] []) := by
 refine aZ aG6 rfl ?_
 refine Le.trans ?_ (le_of_eq (T86 ..).symm)
 unfold aav
 refine lQ eX adg (adE _) fun r0 _ => ?_
 refine lQ eX adg (adE _) fun r1 _ => ?_
 refine lC ?_ ?_
 ·refine lQ eX packet_is_inj (xS _ _) fun r2 _ => ?_
  refine lC ?_ ?_
  ·refine lQ eX packet_is_inj (xS _ _) fun r3 _ => ?_
   refine lC ?_ ?_
   ·refine lQ eX packet_is_inj (ann _ _) fun r4 _ => ?_
    refine lC ?_ ?_
    ·refine lQ eX packet_is_inj (amo _ _) fun r5 _ => ?_
     refine lC ?_ ?_
     ·refine lQ eX packet_is_inj (akP _ _) fun r6 _ => ?_
      exact aG rfl
     ·exact aG rfl
    ·exact aG rfl
   ·exact aG rfl
  ·exact aG rfl
 ·exact aG rfl
def aql (C : aS) (Λ2 J : Lam) (a0 a1 : Int) (a2 : Bool) (a3 : Str) (a4 : Nat) : Res := lab SE C Λ2 J 118 0 [1, 1, 0, 1, 0, 0, 1, 1, 0, 1, 1, 0] (bA [(3, dIq a0), (4, .d (.int .i32 a1)), (5, dBq a2), (15, .it 4000)] [] [] [(4000, (a3, a4))] [])
def ajE (C : aS) (Λ2 J : Lam) (a0 : Str) (a1 : Nat) : Res := lab SE C Λ2 J 118 0 [1, 1, 0, 1, 0] (bA [(15, .it 4000)] [] [] [(4000, (a0, a1))] [])
def auL (C : aS) (Λ2 J : Lam) (a0 : Str) : Res := lab SE C Λ2 J 118 0 [1, 1, 0, 0] (bA [(0, dSq a0)] [] [] [] [])
section
variable (Γ : Fun)  (Λ2 J : Lam)
def ado : aS := aT Γ
theorem aHg (p0 : Str) : bL SE (ado Γ) Λ2 J 118 [dSq p0] [] [] =
 cond (decide ((List.length p0 : Int) < 1)) (
 (rB false)) (
 cond (decide ((List.length p0 : Int) > 16)) (
 (rB false)) (
 auL (ado Γ) Λ2 J p0)) := by kernel_rfl
theorem aB8 (x3 x4 : Int) (x5 : Bool) (s4000 : Str) (i4000 : Nat) : cJ SE (ado Γ) Λ2 J 118 0 [1, 1, 0, 1, 0, 0, 1, 1, 0, 1, 1, 0] (bA [(3, dIq x3), (4, .d (.int .i32 x4)), (5, dBq x5), (15, .it 4000)] [] [] [(4000, (s4000, i4000))] []) =
 cond (!x5) (
 cond (x3 == 0) (
  (rB false)) (
 cond (x4 != 45) (
  cond (decide (x4 < 48)) (
  (rB false)) (
  cond (decide (x4 > 57)) (
  (rB false)) (
  ajE (ado Γ) Λ2 J s4000 i4000))) (
 ajE (ado Γ) Λ2 J s4000 i4000))) (
 ajE (ado Γ) Λ2 J s4000 i4000) := by kernel_rfl
theorem aAl (s4000 : Str) (i4000 : Nat) : cJ SE (ado Γ) Λ2 J 118 0 [1, 1, 0, 1, 0] (bA [(15, .it 4000)] [] [] [(4000, (s4000, i4000))] []) =
 cond (decide (i4000 < List.length s4000)) (
 cond (decide (((dec s4000 i4000).1 : Int) ≥ 97)) (
  aql (ado Γ) Λ2 J (i4000 : Int) ((dec s4000 i4000).1 : Int) (decide (((dec s4000 i4000).1 : Int) ≤ 122)) s4000 (i4000 + (dec s4000 i4000).2)) (
 aql (ado Γ) Λ2 J (i4000 : Int) ((dec s4000 i4000).1 : Int) false s4000 (i4000 + (dec s4000 i4000).2))) (
 (rB true)) := by kernel_rfl
theorem aAF (x0 : Str) : cJ SE (ado Γ) Λ2 J 118 0 [1, 1, 0, 0] (bA [(0, dSq x0)] [] [] [] []) =
 ajE (ado Γ) Λ2 J x0 0 := by kernel_rfl
end
abbrev alv : aS := ado gG
theorem apn : alv = aT gG := rfl
abbrev aBE := aql alv (cC SE gG (SE.hl 118) (SE.hr 118)) (J0 SE alv)
abbrev auH := ajE alv (cC SE gG (SE.hl 118) (SE.hr 118)) (J0 SE alv)
abbrev azD := auL alv (cC SE gG (SE.hl 118) (SE.hr 118)) (J0 SE alv)
theorem aeS (k4 : Str → Nat → Option (Bool)) (hk4 : ∀ (s4000 : Str) (i4000 : Nat), Le (Option.map packet_is_out (k4 s4000 i4000)) (auH s4000 i4000)) (x3 x4 : Int) (x5 : Bool) (s4000 : Str) (i4000 : Nat) : Le (Option.map packet_is_out (qV k4 x3 x4 x5 s4000 i4000)) (aBE x3 x4 x5 s4000 i4000) := by
 refine Le.trans ?_ (le_of_eq ((bD apn).trans (aB8 ..)).symm)
 unfold qV
 refine lC ?_ ?_
 ·refine lC ?_ ?_
  ·exact aG rfl
  ·refine lC ?_ ?_
   ·refine lC ?_ ?_
    ·exact aG rfl
    ·refine lC ?_ ?_
     ·exact aG rfl
     ·exact hk4 s4000 i4000
   ·exact hk4 s4000 i4000
 ·exact hk4 s4000 i4000
theorem alI : ∀ (fu : Nat) (s4000 : Str) (i4000 : Nat), Le (Option.map packet_is_out (mN fu s4000 i4000)) (auH s4000 i4000) := by
 intro fu
 induction fu with
 | zero => intros; exact le_none
 | succ fu ih =>
  intro s4000 i4000
  refine Le.trans ?_ (le_of_eq ((bD apn).trans (aAl ..)).symm)
  unfold mN
  refine lC ?_ ?_
  ·refine lC ?_ ?_
   ·exact aeS _ (ih) (i4000 : Int) ((dec s4000 i4000).1 : Int) (decide (((dec s4000 i4000).1 : Int) ≤ 122)) s4000 (i4000 + (dec s4000 i4000).2)
   ·exact aeS _ (ih) (i4000 : Int) ((dec s4000 i4000).1 : Int) false s4000 (i4000 + (dec s4000 i4000).2)
  ·exact aG rfl
theorem alQ (x0 : Str) : Le (Option.map packet_is_out (aaA x0)) (azD x0) := by
 refine Le.trans ?_ (le_of_eq ((bD apn).trans (aAF ..)).symm)
 unfold aaA
 exact alI fuel x0 0
theorem aaH (p0 : Str) : Le (Option.map packet_is_out (pJ p0)) (bH SE 118 [dSq p0] [] []) := by
 refine aZ apn rfl ?_
 refine Le.trans ?_ (le_of_eq (aHg ..).symm)
 unfold pJ
 refine lC ?_ ?_
 ·exact aG rfl
 ·refine lC ?_ ?_
  ·exact aG rfl
  ·exact alQ p0
def ams (C : aS) (Λ2 J : Lam) (a0 : Int) (a1 : Str) (a2 : Nat) : Res := lab SE C Λ2 J 139 0 [1, 1, 1, 0, 1, 0] (bA [(3, dIq a0), (15, .it 4000)] [] [] [(4000, (a1, a2))] [])
def au6 (C : aS) (Λ2 J : Lam) (a0 : Str) : Res := lab SE C Λ2 J 139 0 [1, 1, 0] (bA [(0, dSq a0)] [] [] [] [])
section
variable (Γ : Fun)  (Λ2 J : Lam)
def aiY : aS := aT Γ
theorem aGd (p0 : Str) : bL SE (aiY Γ) Λ2 J 139 [dSq p0] [] [] =
 cond (decide ((List.length p0 : Int) < 1)) (
 (rB false)) (
 cond (decide ((List.length p0 : Int) > 64)) (
 (rB false)) (
 au6 (aiY Γ) Λ2 J p0)) := by kernel_rfl
theorem aCv (x3 : Int) (s4000 : Str) (i4000 : Nat) : cJ SE (aiY Γ) Λ2 J 139 0 [1, 1, 1, 0, 1, 0] (bA [(3, dIq x3), (15, .it 4000)] [] [] [(4000, (s4000, i4000))] []) =
 cond (decide (i4000 < List.length s4000)) (
 cond (((dec s4000 i4000).1 : Int) == 0) (
  (rB false)) (
 cond (((dec s4000 i4000).1 : Int) == 47) (
  ams (aiY Γ) Λ2 J (w6 (x3 + 1)) s4000 (i4000 + (dec s4000 i4000).2)) (
 ams (aiY Γ) Λ2 J x3 s4000 (i4000 + (dec s4000 i4000).2)))) (
 (rB (decide (x3 ≤ 8)))) := by kernel_rfl
theorem aBS (x0 : Str) : cJ SE (aiY Γ) Λ2 J 139 0 [1, 1, 0] (bA [(0, dSq x0)] [] [] [] []) =
 ams (aiY Γ) Λ2 J 1 x0 0 := by kernel_rfl
end
abbrev aqq : aS := aiY gG
theorem atD : aqq = aT gG := rfl
abbrev azO := ams aqq (cC SE gG (SE.hl 139) (SE.hr 139)) (J0 SE aqq)
abbrev aBM := au6 aqq (cC SE gG (SE.hl 139) (SE.hr 139)) (J0 SE aqq)
theorem akT : ∀ (fu : Nat) (x3 : Int) (s4000 : Str) (i4000 : Nat), Le (Option.map packet_is_out (lI fu x3 s4000 i4000)) (azO x3 s4000 i4000) := by
 intro fu
 induction fu with
 | zero => intros; exact le_none
 | succ fu ih =>
  intro x3 s4000 i4000
  refine Le.trans ?_ (le_of_eq ((bD atD).trans (aCv ..)).symm)
  unfold lI
  refine lC ?_ ?_
  ·refine lC ?_ ?_
   ·exact aG rfl
   ·refine lC ?_ ?_
    ·exact ih (w6 (x3 + 1)) s4000 (i4000 + (dec s4000 i4000).2)
    ·exact ih x3 s4000 (i4000 + (dec s4000 i4000).2)
  ·exact aG rfl
theorem akN (x0 : Str) : Le (Option.map packet_is_out (zM x0)) (aBM x0) := by
 refine Le.trans ?_ (le_of_eq ((bD atD).trans (aBS ..)).symm)
 unfold zM
 exact akT fuel 1 x0 0
theorem agW (p0 : Str) : Le (Option.map packet_is_out (xJ p0)) (bH SE 139 [dSq p0] [] []) := by
 refine aZ atD rfl ?_
 refine Le.trans ?_ (le_of_eq (aGd ..).symm)
 unfold xJ
 refine lC ?_ ?_
 ·exact aG rfl
 ·refine lC ?_ ?_
  ·exact aG rfl
  ·exact akN p0
def aqC (C : aS) (Λ2 J : Lam) (a0 : Str) (a1 : Nat) : Res := lab SE C Λ2 J 132 0 [1, 1, 0, 1, 0] (bA [(9, .it 4000)] [] [] [(4000, (a0, a1))] [])
section
variable (Γ : Fun) (γ139 : Gm (Bool)) (Λ2 J : Lam)
def anv : aS := bG (aT Γ) 139 packet_is_out γ139
theorem aHU (p0 : Str) : bL SE (anv Γ γ139) Λ2 J 132 [dSq p0] [] [] =
 γ139 [dSq p0] [] [] fun r0 =>
 cond (!r0) (
 (rB false)) (
 aqC (anv Γ γ139) Λ2 J p0 0) := by kernel_rfl
theorem azR (s4000 : Str) (i4000 : Nat) : cJ SE (anv Γ γ139) Λ2 J 132 0 [1, 1, 0, 1, 0] (bA [(9, .it 4000)] [] [] [(4000, (s4000, i4000))] []) =
 cond (decide (i4000 < List.length s4000)) (
 cond (((dec s4000 i4000).1 : Int) == 43) (
  (rB false)) (
 cond (((dec s4000 i4000).1 : Int) == 35) (
  (rB false)) (
 aqC (anv Γ γ139) Λ2 J s4000 (i4000 + (dec s4000 i4000).2)))) (
 (rB true)) := by kernel_rfl
end
abbrev asZ : aS := anv gG (cT 139 packet_is_out)
theorem ax9 : asZ = aT gG := by unfold asZ anv; rw [bJ fun _ h => h]
abbrev aBl := aqC asZ (cC SE gG (SE.hl 132) (SE.hr 132)) (J0 SE asZ)
theorem akK : ∀ (fu : Nat) (s4000 : Str) (i4000 : Nat), Le (Option.map packet_is_out (mV fu s4000 i4000)) (aBl s4000 i4000) := by
 intro fu
 induction fu with
 | zero => intros; exact le_none
 | succ fu ih =>
  intro s4000 i4000
  refine Le.trans ?_ (le_of_eq ((bD ax9).trans (azR ..)).symm)
  unfold mV
  refine lC ?_ ?_
  ·refine lC ?_ ?_
   ·exact aG rfl
   ·refine lC ?_ ?_
    ·exact aG rfl
    ·exact ih s4000 (i4000 + (dec s4000 i4000).2)
  ·exact aG rfl
theorem ano (p0 : Str) : Le (Option.map packet_is_out (aak p0)) (bH SE 132 [dSq p0] [] []) := by
 refine aZ ax9 rfl ?_
 refine Le.trans ?_ (le_of_eq (aHU ..).symm)
 unfold aak
 refine lQ eX packet_is_inj (agW _) fun r0 _ => ?_
 refine lC ?_ ?_
 ·exact aG rfl
 ·exact akK fuel p0 0
section
variable (Γ : Fun)  (Λ2 J : Lam)
def aA5 : aS := aT Γ
theorem aHT (p0 p1 : Int) : bL SE (aA5 Γ) Λ2 J 133 [dIq p0, dIq p1] [] [] =
 cond (decide (p0 ≥ 0)) (
 (rB (decide (p0 ≤ p1)))) (
 (rB false)) := by kernel_rfl
end
abbrev aHS : aS := aA5 gG
theorem aEv : aHS = aT gG := rfl
theorem wY (p0 p1 : Int) : Le (Option.map packet_is_out (rV p0 p1)) (bH SE 133 [dIq p0, dIq p1] [] []) := by
 refine aZ aEv rfl ?_
 refine Le.trans ?_ (le_of_eq (aHT ..).symm)
 unfold rV
 refine lC ?_ ?_
 ·exact aG rfl
 ·exact aG rfl
def abv (C : aS) (Λ2 J : Lam) (a0 : Str) (a1 : Int) : Res := lab SE C Λ2 J 140 0 [1, 1, 0, 1, 0] (bA [(0, dSq a0), (3, dIq a1)] [] [] [] [])
def auG (C : aS) (Λ2 J : Lam) (a0 : Str) : Res := lab SE C Λ2 J 140 0 [1, 1, 0, 0] (bA [(0, dSq a0)] [] [] [] [])
section
variable (Γ : Fun)  (Λ2 J : Lam)
def acj : aS := aT Γ
theorem aGE (p0 : Str) : bL SE (acj Γ) Λ2 J 140 [dSq p0] [] [] =
 cond (decide ((List.length p0 : Int) < 1)) (
 (rB false)) (
 cond (decide ((List.length p0 : Int) > 16)) (
 (rB false)) (
 auG (acj Γ) Λ2 J p0)) := by kernel_rfl
theorem aBw (x0 : Str) (x3 : Int) : cJ SE (acj Γ) Λ2 J 140 0 [1, 1, 0, 1, 0] (bA [(0, dSq x0), (3, dIq x3)] [] [] [] []) =
 cond (decide (x3 < (List.length x0 : Int))) (
 cond (iB x3 (List.length x0 : Int)) (
  cond (decide ((UInt8.toNat (List.getD x0 (Int.toNat x3) 0) : Int) < 97)) (
  cond (decide ((UInt8.toNat (List.getD x0 (Int.toNat x3) 0) : Int) < 48)) (
   cond ((UInt8.toNat (List.getD x0 (Int.toNat x3) 0) : Int) != 45) (
   (rB false)) (
   abv (acj Γ) Λ2 J x0 (w6 (x3 + 1)))) (
  cond (decide ((UInt8.toNat (List.getD x0 (Int.toNat x3) 0) : Int) > 57)) (
   cond ((UInt8.toNat (List.getD x0 (Int.toNat x3) 0) : Int) != 45) (
   (rB false)) (
   abv (acj Γ) Λ2 J x0 (w6 (x3 + 1)))) (
  abv (acj Γ) Λ2 J x0 (w6 (x3 + 1))))) (
  cond (decide ((UInt8.toNat (List.getD x0 (Int.toNat x3) 0) : Int) > 122)) (
  cond (decide ((UInt8.toNat (List.getD x0 (Int.toNat x3) 0) : Int) < 48)) (
   cond ((UInt8.toNat (List.getD x0 (Int.toNat x3) 0) : Int) != 45) (
   (rB false)) (
   abv (acj Γ) Λ2 J x0 (w6 (x3 + 1)))) (
  cond (decide ((UInt8.toNat (List.getD x0 (Int.toNat x3) 0) : Int) > 57)) (
   cond ((UInt8.toNat (List.getD x0 (Int.toNat x3) 0) : Int) != 45) (
   (rB false)) (
   abv (acj Γ) Λ2 J x0 (w6 (x3 + 1)))) (
  abv (acj Γ) Λ2 J x0 (w6 (x3 + 1))))) (
  abv (acj Γ) Λ2 J x0 (w6 (x3 + 1))))) none) (
 (rB true)) := by kernel_rfl
theorem aBi (x0 : Str) : cJ SE (acj Γ) Λ2 J 140 0 [1, 1, 0, 0] (bA [(0, dSq x0)] [] [] [] []) =
 abv (acj Γ) Λ2 J x0 0 := by kernel_rfl
end
abbrev aqH : aS := acj gG
theorem at7 : aqH = aT gG := rfl
abbrev aCG := abv aqH (cC SE gG (SE.hl 140) (SE.hr 140)) (J0 SE aqH)
abbrev aBL := auG aqH (cC SE gG (SE.hl 140) (SE.hr 140)) (J0 SE aqH)
theorem akS : ∀ (fu : Nat) (x0 : Str) (x3 : Int), Le (Option.map packet_is_out (gQ fu x0 x3)) (aCG x0 x3) := by
 intro fu
 induction fu with
 | zero => intros; exact le_none
 | succ fu ih =>
  intro x0 x3
  refine Le.trans ?_ (le_of_eq ((bD at7).trans (aBw ..)).symm)
  unfold gQ
  refine lC ?_ ?_
  ·refine lF ?_
   refine lC ?_ ?_
   ·refine lC ?_ ?_
    ·refine lC ?_ ?_
     ·exact aG rfl
     ·exact ih x0 (w6 (x3 + 1))
    ·refine lC ?_ ?_
     ·refine lC ?_ ?_
      ·exact aG rfl
      ·exact ih x0 (w6 (x3 + 1))
     ·exact ih x0 (w6 (x3 + 1))
   ·refine lC ?_ ?_
    ·refine lC ?_ ?_
     ·refine lC ?_ ?_
      ·exact aG rfl
      ·exact ih x0 (w6 (x3 + 1))
     ·refine lC ?_ ?_
      ·refine lC ?_ ?_
       ·exact aG rfl
       ·exact ih x0 (w6 (x3 + 1))
      ·exact ih x0 (w6 (x3 + 1))
    ·exact ih x0 (w6 (x3 + 1))
  ·exact aG rfl
theorem akR (x0 : Str) : Le (Option.map packet_is_out (zT x0)) (aBL x0) := by
 refine Le.trans ?_ (le_of_eq ((bD at7).trans (aBi ..)).symm)
 unfold zT
 exact akS fuel x0 0
theorem anC (p0 : Str) : Le (Option.map packet_is_out (aay p0)) (bH SE 140 [dSq p0] [] []) := by
 refine aZ at7 rfl ?_
 refine Le.trans ?_ (le_of_eq (aGE ..).symm)
 unfold aay
 refine lC ?_ ?_
 ·exact aG rfl
 ·refine lC ?_ ?_
  ·exact aG rfl
  ·exact akR p0
def amy (C : aS) (Λ2 J : Lam) (a0 a1 : List (List D)) (a2 a3 : Int) : Res := lab SE C Λ2 J 134 0 [1, 1, 0, 1, 0] (bA [(0, .d (.sl aB.ks a0)), (8, .d (.sl aB.ks a1)), (9, dIq a2), (10, dIq a3)] [] [] [] [])
section
variable (Γ : Fun) (γ140 : Gm (Bool)) (Λ2 J : Lam)
def alO : aS := bG (aT Γ) 140 packet_is_out γ140
theorem aHH (p0 : List aB) : bL SE (alO Γ γ140) Λ2 J 134 [.d (.sl aB.ks (List.map aB.enc p0))] [] [] =
 cond (decide ((lM aB.enc p0 : Int) > 8)) (
 (rI 5)) (
 amy (alO Γ γ140) Λ2 J (List.map aB.enc p0) (List.map aB.enc p0) (lM aB.enc p0 : Int) 0) := by kernel_rfl
theorem aAu (x0 x8 : List aB) (x9 x10 : Int) : cJ SE (alO Γ γ140) Λ2 J 134 0 [1, 1, 0, 1, 0] (bA [(0, .d (.sl aB.ks (List.map aB.enc x0))), (8, .d (.sl aB.ks (List.map aB.enc x8))), (9, dIq x9), (10, dIq x10)] [] [] [] []) =
 cond (decide (x10 < x9)) (
 cond (iB x10 (lM aB.enc x8 : Int)) (
  γ140 [dSq (bQ (cE aB.enc x8 x10 0))] [] [] fun r0 =>
  cond (!r0) (
  (rI 16)) (
  cond (decide ((List.length (bQ (cE aB.enc x8 x10 1)) : Int) > 160)) (
  (rI 5)) (
  cond (decide (x10 > 0)) (
  cond (iB (w6 (x10 - 1)) (lM aB.enc x0 : Int)) (
   cond (Op.bytesLess (bQ (cE aB.enc x8 x10 0)) (bQ (cE aB.enc x0 (w6 (x10 - 1)) 0)) || (bQ (cE aB.enc x8 x10 0)) == (bQ (cE aB.enc x0 (w6 (x10 - 1)) 0))) (
   (rI 16)) (
   amy (alO Γ γ140) Λ2 J (List.map aB.enc x0) (List.map aB.enc x8) x9 (w6 (x10 + 1)))) none) (
  amy (alO Γ γ140) Λ2 J (List.map aB.enc x0) (List.map aB.enc x8) x9 (w6 (x10 + 1)))))) none) (
 (rI 0)) := by kernel_rfl
end
abbrev atw : aS := alO gG (cT 140 packet_is_out)
theorem axU : atw = aT gG := by unfold atw alO; rw [bJ fun _ h => h]
abbrev aAZ := amy atw (cC SE gG (SE.hl 134) (SE.hr 134)) (J0 SE atw)
theorem aiG : ∀ (fu : Nat) (x0 x8 : List aB) (x9 x10 : Int), Le (Option.map aJ (lA fu x0 x8 x9 x10)) (aAZ (List.map aB.enc x0) (List.map aB.enc x8) x9 x10) := by
 intro fu
 induction fu with
 | zero => intros; exact le_none
 | succ fu ih =>
  intro x0 x8 x9 x10
  refine Le.trans ?_ (le_of_eq ((bD axU).trans (aAu ..)).symm)
  unfold lA
  refine lC ?_ ?_
  ·refine lGe ?_
   refine lQ eX packet_is_inj (by (try simp only [EN]); exact anC ((List.getD x8 (Int.toNat x10) default).Key)) fun r0 _ => ?_
   refine lC ?_ ?_
   ·exact aG rfl
   ·refine lDe ?_ ?_
    ·exact aG rfl
    ·refine lC ?_ ?_
     ·refine lGe ?_
      refine lDe ?_ ?_
      ·exact aG rfl
      ·exact ih x0 x8 x9 (w6 (x10 + 1))
     ·exact ih x0 x8 x9 (w6 (x10 + 1))
  ·exact aG rfl
theorem aek (p0 : List aB) : Le (Option.map aJ (tK p0)) (bH SE 134 [.d (.sl aB.ks (List.map aB.enc p0))] [] []) := by
 refine aZ axU rfl ?_
 refine Le.trans ?_ (le_of_eq (aHH ..).symm)
 unfold tK
 refine lDe ?_ ?_
 ·exact aG rfl
 ·(try simp only [EN]); exact aiG fuel p0 p0 (List.length p0 : Int) 0
section
variable (Γ : Fun) (γ132 γ133 γ118 : Gm (Bool)) (γ134 : Gm (Int)) (Λ2 J : Lam)
def axz : aS := bG (bG (bG (bG (aT Γ) 132 packet_is_out γ132) 133 packet_is_out γ133) 118 packet_is_out γ118) 134 aJ γ134
theorem aFP (p0 : aF) : bL SE (axz Γ γ132 γ133 γ118 γ134) Λ2 J 119 [aF.av p0] [] [] =
 γ132 [dSq p0.Topic] [] [] fun r0 =>
 cond (!r0) (
 (rI 12)) (
 cond (decide ((List.length p0.Payload : Int) > 256)) (
 (rI 5)) (
 γ133 [dIq p0.Level, dIq 2] [] [] fun r1 =>
 cond (!r1) (
 (rI 14)) (
 γ133 [dIq p0.Priority, dIq 9] [] [] fun r2 =>
 cond (!r2) (
 (rI 1)) (
 γ133 [dIq p0.Expires, dIq 1099511627776] [] [] fun r3 =>
 cond (!r3) (
 (rI 1)) (
 cond (!(p0.From == ([] : Str))) (
 γ118 [dSq p0.From] [] [] fun r4 =>
 cond (!r4) (
  (rI 11)) (
 γ133 [dIq p0.Seq, dIq 1099511627776] [] [] fun r5 =>
 cond (!r5) (
  (rI 1)) (
 γ134 [.d (.sl aB.ks (List.map aB.enc p0.Props))] [] [] fun r6 =>
 (rI r6)))) (
 γ133 [dIq p0.Seq, dIq 1099511627776] [] [] fun r7 =>
 cond (!r7) (
 (rI 1)) (
 γ134 [.d (.sl aB.ks (List.map aB.enc p0.Props))] [] [] fun r8 =>
 (rI r8)))))))) := by kernel_rfl
end
abbrev azK : aS := axz gG (cT 132 packet_is_out) (cT 133 packet_is_out) (cT 118 packet_is_out) (cT 134 aJ)
theorem aDk : azK = aT gG := by unfold azK axz; repeat rw [bJ fun _ h => h]
theorem sJ (p0 : aF) : Le (Option.map aJ (j4 p0)) (bH SE 119 [aF.av p0] [] []) := by
 refine aZ aDk rfl ?_
 refine Le.trans ?_ (le_of_eq (aFP ..).symm)
 unfold j4
 refine lQ eX packet_is_inj (ano _) fun r0 _ => ?_
 refine lC ?_ ?_
 ·exact aG rfl
 ·refine lC ?_ ?_
  ·exact aG rfl
  ·refine lQ eX packet_is_inj (wY _ _) fun r1 _ => ?_
   refine lC ?_ ?_
   ·exact aG rfl
   ·refine lQ eX packet_is_inj (wY _ _) fun r2 _ => ?_
    refine lC ?_ ?_
    ·exact aG rfl
    ·refine lQ eX packet_is_inj (wY _ _) fun r3 _ => ?_
     refine lC ?_ ?_
     ·exact aG rfl
     ·refine lC ?_ ?_
      ·refine lQ eX packet_is_inj (aaH _) fun r4 _ => ?_
       refine lC ?_ ?_
       ·exact aG rfl
       ·refine lQ eX packet_is_inj (wY _ _) fun r5 _ => ?_
        refine lC ?_ ?_
        ·exact aG rfl
        ·refine lQ eX bE (aek _) fun r6 _ => ?_
         exact aG rfl
      ·refine lQ eX packet_is_inj (wY _ _) fun r7 _ => ?_
       refine lC ?_ ?_
       ·exact aG rfl
       ·refine lQ eX bE (aek _) fun r8 _ => ?_
        exact aG rfl
section
variable (Γ : Fun) (γ118 γ85 γ114 : Gm (Bool)) (γ119 : Gm (Int)) (Λ2 J : Lam)
def C88 : aS := bG (bG (bG (bG (aT Γ) 118 packet_is_out γ118) 85 packet_is_out γ85) 114 packet_is_out γ114) 119 aJ γ119
theorem T88 (p0 : aA) : bL SE (C88 Γ γ118 γ85 γ114 γ119) Λ2 J 88 [aA.av p0] [] [] =
 γ118 [dSq p0.Client] [] [] fun r0 =>
 cond (!r0) (
 (rI 11)) (
 cond (!(p0.User == ([] : Str))) (
 γ118 [dSq p0.User] [] [] fun r1 =>
 cond (!r1) (
  (rI 11)) (
 γ85 [dIq p0.Keep, dIq 0, dIq 1099511627776] [] [] fun r2 =>
 cond (!r2) (
  (rI 1)) (
 γ85 [dIq p0.Expiry, dIq 0, dIq 1099511627776] [] [] fun r3 =>
 cond (!r3) (
  (rI 1)) (
 γ85 [dIq p0.Window, dIq 1, dIq 32] [] [] fun r4 =>
 cond (!r4) (
  (rI 1)) (
 cond (!p0.Will.Set) (
  cond (p0.Will.Delay != 0) (
  (rI 28)) (
  γ114 [aF.av p0.Will.Message, .agg [dSq [], dSq [], dIq 0, dBq false, dIq 0, dIq 0, dSq [], dIq 0, .d (.sl aB.ks (List.map aB.enc []))]] [] [] fun r5 =>
  cond (!r5) (
  (rI 28)) (
  cond (!p0.Will.Set) (
  (rI 0)) (
  γ85 [dIq p0.Will.Delay, dIq 0, dIq 1099511627776] [] [] fun r6 =>
  cond (!r6) (
  (rI 1)) (
  γ119 [aF.av p0.Will.Message] [] [] fun r7 =>
  (rI r7)))))) (
 cond (!p0.Will.Set) (
  (rI 0)) (
 γ85 [dIq p0.Will.Delay, dIq 0, dIq 1099511627776] [] [] fun r8 =>
 cond (!r8) (
  (rI 1)) (
 γ119 [aF.av p0.Will.Message] [] [] fun r9 =>
 (rI r9))))))))) (
 γ85 [dIq p0.Keep, dIq 0, dIq 1099511627776] [] [] fun r10 =>
 cond (!r10) (
 (rI 1)) (
 γ85 [dIq p0.Expiry, dIq 0, dIq 1099511627776] [] [] fun r11 =>
 cond (!r11) (
 (rI 1)) (
 γ85 [dIq p0.Window, dIq 1, dIq 32] [] [] fun r12 =>
 cond (!r12) (
 (rI 1)) (
 cond (!p0.Will.Set) (
 cond (p0.Will.Delay != 0) (
  (rI 28)) (
 γ114 [aF.av p0.Will.Message, .agg [dSq [], dSq [], dIq 0, dBq false, dIq 0, dIq 0, dSq [], dIq 0, .d (.sl aB.ks (List.map aB.enc []))]] [] [] fun r13 =>
 cond (!r13) (
  (rI 28)) (
 cond (!p0.Will.Set) (
  (rI 0)) (
 γ85 [dIq p0.Will.Delay, dIq 0, dIq 1099511627776] [] [] fun r14 =>
 cond (!r14) (
  (rI 1)) (
 γ119 [aF.av p0.Will.Message] [] [] fun r15 =>
 (rI r15)))))) (
 cond (!p0.Will.Set) (
 (rI 0)) (
 γ85 [dIq p0.Will.Delay, dIq 0, dIq 1099511627776] [] [] fun r16 =>
 cond (!r16) (
 (rI 1)) (
 γ119 [aF.av p0.Will.Message] [] [] fun r17 =>
 (rI r17))))))))) := by kernel_rfl
end
abbrev X88 : aS := C88 gG (cT 118 packet_is_out) (cT 85 packet_is_out) (cT 114 packet_is_out) (cT 119 aJ)
theorem aGQ : X88 = aT gG := by unfold X88 C88; repeat rw [bJ fun _ h => h]
theorem akQ (p0 : aA) : Le (Option.map aJ (vE p0)) (bH SE 88 [aA.av p0] [] []) := by
 refine aZ aGQ rfl ?_
 refine Le.trans ?_ (le_of_eq (T88 ..).symm)
 unfold vE
 refine lQ eX packet_is_inj (aaH _) fun r0 _ => ?_
 refine lC ?_ ?_
 ·exact aG rfl
 ·refine lC ?_ ?_
  ·refine lQ eX packet_is_inj (aaH _) fun r1 _ => ?_
   refine lC ?_ ?_
   ·exact aG rfl
   ·refine lQ eX packet_is_inj (gU _ _ _) fun r2 _ => ?_
    refine lC ?_ ?_
    ·exact aG rfl
    ·refine lQ eX packet_is_inj (gU _ _ _) fun r3 _ => ?_
     refine lC ?_ ?_
     ·exact aG rfl
     ·refine lQ eX packet_is_inj (gU _ _ _) fun r4 _ => ?_
      refine lC ?_ ?_
      ·exact aG rfl
      ·refine lC ?_ ?_
       ·refine lC ?_ ?_
        ·exact aG rfl
        ·refine lQ eX packet_is_inj (by (try simp only [EN]); exact xS p0.Will.Message (zMq)) fun r5 _ => ?_
         refine lC ?_ ?_
         ·exact aG rfl
         ·refine lC ?_ ?_
          ·exact aG rfl
          ·refine lQ eX packet_is_inj (gU _ _ _) fun r6 _ => ?_
           refine lC ?_ ?_
           ·exact aG rfl
           ·refine lQ eX bE (sJ _) fun r7 _ => ?_
            exact aG rfl
       ·refine lC ?_ ?_
        ·exact aG rfl
        ·refine lQ eX packet_is_inj (gU _ _ _) fun r8 _ => ?_
         refine lC ?_ ?_
         ·exact aG rfl
         ·refine lQ eX bE (sJ _) fun r9 _ => ?_
          exact aG rfl
  ·refine lQ eX packet_is_inj (gU _ _ _) fun r10 _ => ?_
   refine lC ?_ ?_
   ·exact aG rfl
   ·refine lQ eX packet_is_inj (gU _ _ _) fun r11 _ => ?_
    refine lC ?_ ?_
    ·exact aG rfl
    ·refine lQ eX packet_is_inj (gU _ _ _) fun r12 _ => ?_
     refine lC ?_ ?_
     ·exact aG rfl
     ·refine lC ?_ ?_
      ·refine lC ?_ ?_
       ·exact aG rfl
       ·refine lQ eX packet_is_inj (by (try simp only [EN]); exact xS p0.Will.Message (zMq)) fun r13 _ => ?_
        refine lC ?_ ?_
        ·exact aG rfl
        ·refine lC ?_ ?_
         ·exact aG rfl
         ·refine lQ eX packet_is_inj (gU _ _ _) fun r14 _ => ?_
          refine lC ?_ ?_
          ·exact aG rfl
          ·refine lQ eX bE (sJ _) fun r15 _ => ?_
           exact aG rfl
      ·refine lC ?_ ?_
       ·exact aG rfl
       ·refine lQ eX packet_is_inj (gU _ _ _) fun r16 _ => ?_
        refine lC ?_ ?_
        ·exact aG rfl
        ·refine lQ eX bE (sJ _) fun r17 _ => ?_
         exact aG rfl
section
variable (Γ : Fun) (γ85 : Gm (Bool)) (Λ2 J : Lam)
def C89 : aS := bG (aT Γ) 85 packet_is_out γ85
theorem T89 (p0 : Int) : bL SE (C89 Γ γ85) Λ2 J 89 [dIq p0] [] [] =
 γ85 [dIq p0, dIq 0, dIq 29] [] [] fun r0 =>
 (rB r0) := by kernel_rfl
end
abbrev X89 : aS := C89 gG (cT 85 packet_is_out)
theorem aGl : X89 = aT gG := by unfold X89 C89; rw [bJ fun _ h => h]
theorem acA (p0 : Int) : Le (Option.map packet_is_out (uI p0)) (bH SE 89 [dIq p0] [] []) := by
 refine aZ aGl rfl ?_
 refine Le.trans ?_ (le_of_eq (T89 ..).symm)
 unfold uI
 refine lQ eX packet_is_inj (gU _ _ _) fun r0 _ => ?_
 exact aG rfl
section
variable (Γ : Fun) (γ85 : Gm (Bool)) (Λ2 J : Lam)
def C91 : aS := bG (aT Γ) 85 packet_is_out γ85
theorem T91 (p0 : Int) : bL SE (C91 Γ γ85) Λ2 J 91 [dIq p0] [] [] =
 γ85 [dIq p0, dIq 1, dIq 65535] [] [] fun r0 =>
 cond (!r0) (
 (rI 15)) (
 (rI 0)) := by kernel_rfl
end
abbrev X91 : aS := C91 gG (cT 85 packet_is_out)
theorem aGB : X91 = aT gG := by unfold X91 C91; rw [bJ fun _ h => h]
theorem uE (p0 : Int) : Le (Option.map aJ (nU p0)) (bH SE 91 [dIq p0] [] []) := by
 refine aZ aGB rfl ?_
 refine Le.trans ?_ (le_of_eq (T91 ..).symm)
 unfold nU
 refine lQ eX packet_is_inj (gU _ _ _) fun r0 _ => ?_
 refine lC ?_ ?_
 ·exact aG rfl
 ·exact aG rfl
section
variable (Γ : Fun) (γ119 γ91 : Gm (Int)) (Λ2 J : Lam)
def C90 : aS := bG (bG (aT Γ) 119 aJ γ119) 91 aJ γ91
theorem T90 (p0 : aA) : bL SE (C90 Γ γ119 γ91) Λ2 J 90 [aA.av p0] [] [] =
 γ119 [aF.av p0.Message] [] [] fun r0 =>
 cond (r0 != 0) (
 (rI r0)) (
 cond (p0.Message.Level != 0) (
 γ91 [dIq p0.ID] [] [] fun r1 =>
 (rI r1)) (
 cond (p0.ID != 0) (
 (rI 15)) (
 cond p0.Dup (
 (rI 28)) (
 (rI 0))))) := by kernel_rfl
end
abbrev X90 : aS := C90 gG (cT 119 aJ) (cT 91 aJ)
theorem aHK : X90 = aT gG := by unfold X90 C90; repeat rw [bJ fun _ h => h]
theorem akI (p0 : aA) : Le (Option.map aJ (vP p0)) (bH SE 90 [aA.av p0] [] []) := by
 refine aZ aHK rfl ?_
 refine Le.trans ?_ (le_of_eq (T90 ..).symm)
 unfold vP
 refine lQ eX bE (sJ _) fun r0 _ => ?_
 refine lC ?_ ?_
 ·exact aG rfl
 ·refine lC ?_ ?_
  ·refine lQ eX bE (uE _) fun r1 _ => ?_
   exact aG rfl
  ·refine lC ?_ ?_
   ·exact aG rfl
   ·refine lC ?_ ?_
    ·exact aG rfl
    ·exact aG rfl
section
variable (Γ : Fun) (γ85 : Gm (Bool)) (Λ2 J : Lam)
def axy : aS := bG (aT Γ) 85 packet_is_out γ85
theorem aGb (p0 p1 : Int) : bL SE (axy Γ γ85) Λ2 J 120 [dIq p0, dIq p1] [] [] =
 γ85 [dIq p0, dIq 1, dIq 65535] [] [] fun r0 =>
 cond (!r0) (
 (rI 15)) (
 cond (p1 == 0) (
 (rI 1)) (
 cond (decide (p1 > 32)) (
 (rI 5)) (
 (rI 0)))) := by kernel_rfl
end
abbrev aB4 : aS := axy gG (cT 85 packet_is_out)
theorem aD7 : aB4 = aT gG := by unfold aB4 axy; rw [bJ fun _ h => h]
theorem aai (p0 p1 : Int) : Le (Option.map aJ (o7 p0 p1)) (bH SE 120 [dIq p0, dIq p1] [] []) := by
 refine aZ aD7 rfl ?_
 refine Le.trans ?_ (le_of_eq (aGb ..).symm)
 unfold o7
 refine lQ eX packet_is_inj (gU _ _ _) fun r0 _ => ?_
 refine lC ?_ ?_
 ·exact aG rfl
 ·refine lC ?_ ?_
  ·exact aG rfl
  ·refine lC ?_ ?_
   ·exact aG rfl
   ·exact aG rfl
section
variable (Γ : Fun)  (Λ2 J : Lam)
def azY : aS := aT Γ
theorem aHw (p0 p1 : Str) : bL SE (azY Γ) Λ2 J 144 [dSq p0, dSq p1] [] [] =
 cond (decide ((List.length p0 : Int) ≥ (List.length p1 : Int))) (
 cond (decide (0 ≤ (List.length p1 : Int)) && decide ((List.length p1 : Int) ≤ ((List.length p0) : Int))) (
  (rB ((cH p0 none (some (List.length p1 : Int))) == p1))) none) (
 (rB false)) := by kernel_rfl
end
abbrev aGF : aS := azY gG
theorem aEn : aGF = aT gG := rfl
theorem y7 (p0 p1 : Str) : Le (Option.map packet_is_out (kO p0 p1)) (bH SE 144 [dSq p0, dSq p1] [] []) := by
 refine aZ aEn rfl ?_
 refine Le.trans ?_ (le_of_eq (aHw ..).symm)
 unfold kO
 refine lC ?_ ?_
 ·refine lF ?_
  exact aG rfl
 ·exact aG rfl
section
variable (Γ : Fun) (γ144 : Gm (Bool)) (Λ2 J : Lam)
def awY : aS := bG (aT Γ) 144 packet_is_out γ144
theorem aFG (p0 p1 : Str) : bL SE (awY Γ γ144) Λ2 J 145 [dSq p0, dSq p1] [] [] =
 γ144 [dSq p0, dSq p1] [] [] fun r0 =>
 cond (!r0) (
 (some (.ret [dSq p0, dBq false] [] []))) (
 cond (decide (0 ≤ (List.length p1 : Int)) && decide ((List.length p1 : Int) ≤ ((List.length p0) : Int))) (
 (some (.ret [dSq (cH p0 (some (List.length p1 : Int)) none), dBq true] [] []))) none) := by kernel_rfl
end
abbrev aCc : aS := awY gG (cT 144 packet_is_out)
theorem aDf : aCc = aT gG := by unfold aCc awY; rw [bJ fun _ h => h]
theorem aeJ (p0 p1 : Str) : Le (Option.map eB (qC p0 p1)) (bH SE 145 [dSq p0, dSq p1] [] []) := by
 refine aZ aDf rfl ?_
 refine Le.trans ?_ (le_of_eq (aFG ..).symm)
 unfold qC
 refine lQ eX packet_is_inj (y7 _ _) fun r0 _ => ?_
 refine lC ?_ ?_
 ·exact aG rfl
 ·refine lF ?_
  exact aG rfl
section
variable (Γ : Fun) (γ145 : Gm (Str × Bool)) (Λ2 J : Lam)
def axm : aS := bG (aT Γ) 145 eB γ145
theorem aGq (p0 p1 : Str) : bL SE (axm Γ γ145) Λ2 J 141 [dSq p0, dSq p1] [] [] =
 γ145 [dSq p0, dSq p1] [] [] fun r0 =>
 (some (.ret [dSq r0.1, dBq r0.2] [] [])) := by kernel_rfl
end
abbrev aB5 : aS := axm gG (cT 145 eB)
theorem aDE : aB5 = aT gG := by unfold aB5 axm; rw [bJ fun _ h => h]
theorem aik (p0 p1 : Str) : Le (Option.map eB (rE p0 p1)) (bH SE 141 [dSq p0, dSq p1] [] []) := by
 refine aZ aDE rfl ?_
 refine Le.trans ?_ (le_of_eq (aGq ..).symm)
 unfold rE
 refine lQ eX xU (aeJ _ _) fun r0 _ => ?_
 exact aG rfl
section
variable (Γ : Fun)  (Λ2 J : Lam)
def aAC : aS := aT Γ
theorem aFR (p0 : Str) (p1 : Int) : bL SE (aAC Γ) Λ2 J 150 [dSq p0, .d (.int .u8 p1)] [] [] =
 (rI (Lib.indexByte p0 (UInt8.ofNat (Int.toNat p1)) : Int)) := by kernel_rfl
end
abbrev aGu : aS := aAC gG
theorem aE6 : aGu = aT gG := rfl
theorem aeu (p0 : Str) (p1 : Int) : Le (Option.map aJ (vF p0 p1)) (bH SE 150 [dSq p0, .d (.int .u8 p1)] [] []) := by
 refine aZ aE6 rfl ?_
 refine Le.trans ?_ (le_of_eq (aFR ..).symm)
 unfold vF
 exact aG rfl
section
variable (Γ : Fun) (γ150 : Gm (Int)) (Λ2 J : Lam)
def aw3 : aS := bG (aT Γ) 150 aJ γ150
theorem aFO (p0 p1 : Str) : bL SE (aw3 Γ γ150) Λ2 J 148 [dSq p0, dSq p1] [] [] =
 cond ((List.length p1 : Int) == 0) (
 (rI 0)) (
 cond (p1 == p0) (
 (rI 0)) (
 cond ((List.length p1 : Int) == 1) (
 cond (decide (0 ≤ 0) && decide (0 < (List.length p1 : Int))) (
  γ150 [dSq p0, .d (.int .u8 (UInt8.toNat (List.getD p1 (Int.toNat 0) 0) : Int))] [] [] fun r0 =>
  (rI r0)) none) (
 cond (decide ((List.length p1 : Int) ≥ (List.length p0 : Int))) (
 (rI (-1))) none))) := by kernel_rfl
end
abbrev aB9 : aS := aw3 gG (cT 150 aJ)
theorem aD8 : aB9 = aT gG := by unfold aB9 aw3; rw [bJ fun _ h => h]
theorem abw (p0 p1 : Str) : Le (Option.map aJ (lY p0 p1)) (bH SE 148 [dSq p0, dSq p1] [] []) := by
 refine aZ aD8 rfl ?_
 refine Le.trans ?_ (le_of_eq (aFO ..).symm)
 unfold lY
 refine lC ?_ ?_
 ·exact aG rfl
 ·refine lC ?_ ?_
  ·exact aG rfl
  ·refine lC ?_ ?_
   ·refine lF ?_
    refine lQ eX bE (aeu _ _) fun r0 _ => ?_
    exact aG rfl
   ·refine lF ?_
    exact aG rfl
section
variable (Γ : Fun) (γ148 : Gm (Int)) (Λ2 J : Lam)
def av3 : aS := bG (aT Γ) 148 aJ γ148
theorem aHu (p0 p1 : Str) : bL SE (av3 Γ γ148) Λ2 J 146 [dSq p0, dSq p1] [] [] =
 γ148 [dSq p0, dSq p1] [] [] fun r0 =>
 cond (decide (r0 ≥ 0)) (
 cond (decide (0 ≤ r0) && decide (r0 ≤ ((List.length p0) : Int))) (
  cond (decide (0 ≤ (w6 (r0 + (List.length p1 : Int)))) && decide ((w6 (r0 + (List.length p1 : Int))) ≤ ((List.length p0) : Int))) (
  (some (.ret [dSq (cH p0 none (some r0)), dSq (cH p0 (some (w6 (r0 + (List.length p1 : Int)))) none), dBq true] [] []))) none) none) (
 (some (cM (p0, [], false)))) := by kernel_rfl
end
abbrev az5 : aS := av3 gG (cT 148 aJ)
theorem aEb : az5 = aT gG := by unfold az5 av3; rw [bJ fun _ h => h]
theorem aiT (p0 p1 : Str) : Le (Option.map cM (xY p0 p1)) (bH SE 146 [dSq p0, dSq p1] [] []) := by
 refine aZ aEb rfl ?_
 refine Le.trans ?_ (le_of_eq (aHu ..).symm)
 unfold xY
 refine lQ eX bE (abw _ _) fun r0 _ => ?_
 refine lC ?_ ?_
 ·refine lF ?_
  refine lF ?_
  exact aG rfl
 ·exact aG rfl
section
variable (Γ : Fun) (γ146 : Gm (Str × Str × Bool)) (Λ2 J : Lam)
def awR : aS := bG (aT Γ) 146 cM γ146
theorem aHI (p0 p1 : Str) : bL SE (awR Γ γ146) Λ2 J 142 [dSq p0, dSq p1] [] [] =
 γ146 [dSq p0, dSq p1] [] [] fun r0 =>
 (some (cM (r0.1, r0.2.1, r0.2.2))) := by kernel_rfl
end
abbrev aBt : aS := awR gG (cT 146 cM)
theorem aEJ : aBt = aT gG := by unfold aBt awR; rw [bJ fun _ h => h]
theorem anP (p0 p1 : Str) : Le (Option.map cM (aat p0 p1)) (bH SE 142 [dSq p0, dSq p1] [] []) := by
 refine aZ aEJ rfl ?_
 refine Le.trans ?_ (le_of_eq (aHI ..).symm)
 unfold aat
 refine lQ eX oV (aiT _ _) fun r0 _ => ?_
 exact aG rfl
section
variable (Γ : Fun) (γ148 : Gm (Int)) (Λ2 J : Lam)
def awd : aS := bG (aT Γ) 148 aJ γ148
theorem aG1 (p0 p1 : Str) : bL SE (awd Γ γ148) Λ2 J 156 [dSq p0, dSq p1] [] [] =
 γ148 [dSq p0, dSq p1] [] [] fun r0 =>
 (rI r0) := by kernel_rfl
end
abbrev aAx : aS := awd gG (cT 148 aJ)
theorem aD4 : aAx = aT gG := by unfold aAx awd; rw [bJ fun _ h => h]
theorem ae6 (p0 p1 : Str) : Le (Option.map aJ (oO p0 p1)) (bH SE 156 [dSq p0, dSq p1] [] []) := by
 refine aZ aD4 rfl ?_
 refine Le.trans ?_ (le_of_eq (aG1 ..).symm)
 unfold oO
 refine lQ eX bE (abw _ _) fun r0 _ => ?_
 exact aG rfl
def aqr (C : aS) (Λ2 J : Lam) (a0 a1 : Str) (a2 : Int) : Res := lab SE C Λ2 J 155 0 [1, 1, 1, 1, 0] (bA [(0, dSq a0), (1, dSq a1), (5, dIq a2)] [] [] [] [])
section
variable (Γ : Fun) (γ156 : Gm (Int)) (Λ2 J : Lam)
def anr : aS := bG (aT Γ) 156 aJ γ156
theorem aGj (p0 p1 : Str) : bL SE (anr Γ γ156) Λ2 J 155 [dSq p0, dSq p1] [] [] =
 cond ((List.length p1 : Int) == 0) (
 none) (
 cond ((List.length p1 : Int) == 1) (
 cond (decide (0 ≤ 0) && decide (0 < (List.length p1 : Int))) (
  (rI (Lib.countByte p0 (UInt8.ofNat (Int.toNat (UInt8.toNat (List.getD p1 (Int.toNat 0) 0) : Int))) : Int))) none) (
 aqr (anr Γ γ156) Λ2 J p0 p1 0)) := by kernel_rfl
theorem aAT (x0 x1 : Str) (x5 : Int) : cJ SE (anr Γ γ156) Λ2 J 155 0 [1, 1, 1, 1, 0] (bA [(0, dSq x0), (1, dSq x1), (5, dIq x5)] [] [] [] []) =
 γ156 [dSq x0, dSq x1] [] [] fun r0 =>
 cond (r0 == (-1)) (
 (rI x5)) (
 cond (decide (0 ≤ (w6 (r0 + (List.length x1 : Int)))) && decide ((w6 (r0 + (List.length x1 : Int))) ≤ ((List.length x0) : Int))) (
 aqr (anr Γ γ156) Λ2 J (cH x0 (some (w6 (r0 + (List.length x1 : Int)))) none) x1 (w6 (x5 + 1))) none) := by kernel_rfl
end
abbrev at1 : aS := anr gG (cT 156 aJ)
theorem ayv : at1 = aT gG := by unfold at1 anr; rw [bJ fun _ h => h]
abbrev aCA := aqr at1 (cC SE gG (SE.hl 155) (SE.hr 155)) (J0 SE at1)
theorem aiN : ∀ (fu : Nat) (x0 x1 : Str) (x5 : Int), Le (Option.map aJ (wO fu x0 x1 x5)) (aCA x0 x1 x5) := by
 intro fu
 induction fu with
 | zero => intros; exact le_none
 | succ fu ih =>
  intro x0 x1 x5
  refine Le.trans ?_ (le_of_eq ((bD ayv).trans (aAT ..)).symm)
  unfold wO
  refine lQ eX bE (ae6 _ _) fun r0 _ => ?_
  refine lC ?_ ?_
  ·exact aG rfl
  ·refine lF ?_
   exact ih (cH x0 (some (w6 (r0 + (List.length x1 : Int)))) none) x1 (w6 (x5 + 1))
theorem alL (p0 p1 : Str) : Le (Option.map aJ (wU p0 p1)) (bH SE 155 [dSq p0, dSq p1] [] []) := by
 refine aZ ayv rfl ?_
 refine Le.trans ?_ (le_of_eq (aGj ..).symm)
 unfold wU
 refine lC ?_ ?_
 ·exact le_none
 ·refine lC ?_ ?_
  ·refine lF ?_
   exact aG rfl
  ·exact aiN fuel p0 p1 0
def an7 (C : aS) (Λ2 J : Lam) (a0 : Str) (a1 : Int) (a2 : List (List D)) : Res := lab SE C Λ2 J 149 0 [1, 1, 1, 1, 1, 1, 1, 1, 1, 0] (bA [(0, dSq a0), (9, .row 3009), (10, dIq a1)] [] [] [] [(3009, ⟨[.str], 9, 16, a2⟩)])
def anU (C : aS) (Λ2 J : Lam) (a0 a1 : Str) (a2 a3 a4 : Int) (a5 : List (List D)) : Res := lab SE C Λ2 J 149 0 [1, 1, 1, 1, 1, 1, 1, 1, 0, 0] (bA [(0, dSq a0), (1, dSq a1), (2, dIq a2), (3, dIq a3), (9, .row 3009), (10, dIq a4)] [] [] [] [(3009, ⟨[.str], 9, 16, a5⟩)])
def apK (C : aS) (Λ2 J : Lam) (a0 a1 : Str) (a2 a3 : Int) : Res := lab SE C Λ2 J 149 0 [1, 1, 1, 1, 0] (bA [(0, dSq a0), (1, dSq a1), (2, dIq a2), (3, dIq a3)] [] [] [] [])
section
variable (Γ : Fun) (γ155 γ156 : Gm (Int)) (Λ2 J : Lam)
def adx : aS := bG (bG (aT Γ) 155 aJ γ155) 156 aJ γ156
theorem aFN (p0 p1 : Str) (p2 p3 : Int) : bL SE (adx Γ γ155 γ156) Λ2 J 149 [dSq p0, dSq p1, dIq p2, dIq p3] [] [] =
 cond (p3 == 0) (
 (some (.ret [.d (.sl [.str] (List.map bB []))] [] []))) (
 cond (p1 == ([] : Str)) (
 none) (
 cond (decide (p3 < 0)) (
 γ155 [dSq p0, dSq p1] [] [] fun r0 =>
 apK (adx Γ γ155 γ156) Λ2 J p0 p1 p2 (w6 (r0 + 1))) (
 apK (adx Γ γ155 γ156) Λ2 J p0 p1 p2 p3))) := by kernel_rfl
theorem ayW (x0 : Str) (x10 : Int) (w3009 : List Str) : cJ SE (adx Γ γ155 γ156) Λ2 J 149 0 [1, 1, 1, 1, 1, 1, 1, 1, 1, 0] (bA [(0, dSq x0), (9, .row 3009), (10, dIq x10)] [] [] [] [(3009, ⟨[.str], 9, 16, (List.map bB w3009)⟩)]) =
 cond (iB x10 (lM bB w3009 : Int)) (
 cond (decide (0 ≤ (w6 (x10 + 1))) && decide ((w6 (x10 + 1)) ≤ ((List.length (xM (List.map bB w3009) (Int.toNat x10) 0 [D.str x0])) : Int))) (
  (some (.ret [.d (.sl [.str] (List.take ((Int.toNat (w6 (x10 + 1))) - 0) (List.drop 0 (xM (List.map bB w3009) (Int.toNat x10) 0 [D.str x0]))))] [] []))) none) none := by kernel_rfl
theorem ay6 (x0 x1 : Str) (x2 x3 x10 : Int) (w3009 : List Str) : cJ SE (adx Γ γ155 γ156) Λ2 J 149 0 [1, 1, 1, 1, 1, 1, 1, 1, 0, 0] (bA [(0, dSq x0), (1, dSq x1), (2, dIq x2), (3, dIq x3), (9, .row 3009), (10, dIq x10)] [] [] [] [(3009, ⟨[.str], 9, 16, (List.map bB w3009)⟩)]) =
 cond (decide (x10 < x3)) (
 γ156 [dSq x0, dSq x1] [] [] fun r1 =>
 cond (decide (r1 < 0)) (
  an7 (adx Γ γ155 γ156) Λ2 J x0 x10 (List.map bB w3009)) (
 cond (decide (0 ≤ (w6 (r1 + x2))) && decide ((w6 (r1 + x2)) ≤ ((List.length x0) : Int))) (
  cond (iB x10 (lM bB w3009 : Int)) (
  cond (decide (0 ≤ (w6 (r1 + (List.length x1 : Int)))) && decide ((w6 (r1 + (List.length x1 : Int))) ≤ ((List.length x0) : Int))) (
   anU (adx Γ γ155 γ156) Λ2 J (cH x0 (some (w6 (r1 + (List.length x1 : Int)))) none) x1 x2 x3 (w6 (x10 + 1)) ((xM (List.map bB w3009) (Int.toNat x10) 0 [D.str (cH x0 none (some (w6 (r1 + x2))))]))) none) none) none)) (
 an7 (adx Γ γ155 γ156) Λ2 J x0 x10 (List.map bB w3009)) := by kernel_rfl
theorem aAw (x0 x1 : Str) (x2 x3 : Int) : cJ SE (adx Γ γ155 γ156) Λ2 J 149 0 [1, 1, 1, 1, 0] (bA [(0, dSq x0), (1, dSq x1), (2, dIq x2), (3, dIq x3)] [] [] [] []) =
 cond (decide (0 ≤ (if (w6 ((List.length x0 : Int) + 1)) < x3 then (w6 ((List.length x0 : Int) + 1)) else x3)) && decide ((if (w6 ((List.length x0 : Int) + 1)) < x3 then (w6 ((List.length x0 : Int) + 1)) else x3) ≤ (if (w6 ((List.length x0 : Int) + 1)) < x3 then (w6 ((List.length x0 : Int) + 1)) else x3)) && decide ((if (w6 ((List.length x0 : Int) + 1)) < x3 then (w6 ((List.length x0 : Int) + 1)) else x3) * 16 ≤ 281474976710656)) (
 anU (adx Γ γ155 γ156) Λ2 J x0 x1 x2 ((w6 ((if (w6 ((List.length x0 : Int) + 1)) < x3 then (w6 ((List.length x0 : Int) + 1)) else x3) - 1))) 0 ((List.replicate (Int.toNat (if (w6 ((List.length x0 : Int) + 1)) < x3 then (w6 ((List.length x0 : Int) + 1)) else x3)) [D.str []]))) none := by kernel_rfl
end
abbrev ajA : aS := adx gG (cT 155 aJ) (cT 156 aJ)
theorem apr : ajA = aT gG := by unfold ajA adx; repeat rw [bJ fun _ h => h]
abbrev ayI := an7 ajA (cC SE gG (SE.hl 149) (SE.hr 149)) (J0 SE ajA)
abbrev ayZ := anU ajA (cC SE gG (SE.hl 149) (SE.hr 149)) (J0 SE ajA)
abbrev aBg := apK ajA (cC SE gG (SE.hl 149) (SE.hr 149)) (J0 SE ajA)
theorem aab (x0 : Str) (x10 : Int) (w3009 : List Str) : Le (Option.map cY (nI x0 x10 w3009)) (ayI x0 x10 (List.map bB w3009)) := by
 refine Le.trans ?_ (le_of_eq ((bD apr).trans (ayW ..)).symm)
 unfold nI
 refine lGe ?_
 refine lGe ?_
 exact aG (by first | rfl | simp only [EN, cY] <;> rfl)
theorem afk : ∀ (fu : Nat) (x0 x1 : Str) (x2 x3 x10 : Int) (w3009 : List Str), Le (Option.map cY (jV fu x0 x1 x2 x3 x10 w3009)) (ayZ x0 x1 x2 x3 x10 (List.map bB w3009)) := by
 intro fu
 induction fu with
 | zero => intros; exact le_none
 | succ fu ih =>
  intro x0 x1 x2 x3 x10 w3009
  refine Le.trans ?_ (le_of_eq ((bD apr).trans (ay6 ..)).symm)
  unfold jV
  refine lC ?_ ?_
  ·refine lQ eX bE (ae6 _ _) fun r1 _ => ?_
   refine lC ?_ ?_
   ·exact aab x0 x10 w3009
   ·refine lF ?_
    refine lGe ?_
    refine lF ?_
    (try simp only [EN]); exact ih (cH x0 (some (w6 (r1 + (List.length x1 : Int)))) none) x1 x2 x3 (w6 (x10 + 1)) ((List.set w3009 (Int.toNat x10) (cH x0 none (some (w6 (r1 + x2))))))
  ·exact aab x0 x10 w3009
theorem aax (x0 x1 : Str) (x2 x3 : Int) : Le (Option.map cY (oU x0 x1 x2 x3)) (aBg x0 x1 x2 x3) := by
 refine Le.trans ?_ (le_of_eq ((bD apr).trans (aAw ..)).symm)
 unfold oU
 refine lF ?_
 (try simp only [EN]); exact afk fuel x0 x1 x2 ((w6 ((if (w6 ((List.length x0 : Int) + 1)) < x3 then (w6 ((List.length x0 : Int) + 1)) else x3) - 1))) 0 ((List.replicate (Int.toNat (if (w6 ((List.length x0 : Int) + 1)) < x3 then (w6 ((List.length x0 : Int) + 1)) else x3)) (default : Str)))
theorem aiH (p0 p1 : Str) (p2 p3 : Int) : Le (Option.map cY (wK p0 p1 p2 p3)) (bH SE 149 [dSq p0, dSq p1, dIq p2, dIq p3] [] []) := by
 refine aZ apr rfl ?_
 refine Le.trans ?_ (le_of_eq (aFN ..).symm)
 unfold wK
 refine lC ?_ ?_
 ·exact aG rfl
 ·refine lC ?_ ?_
  ·exact le_none
  ·refine lC ?_ ?_
   ·refine lQ eX bE (alL _ _) fun r0 _ => ?_
    exact aax p0 p1 p2 (w6 (r0 + 1))
   ·exact aax p0 p1 p2 p3
section
variable (Γ : Fun) (γ149 : Gm ((List Str))) (Λ2 J : Lam)
def awI : aS := bG (aT Γ) 149 cY γ149
theorem aHr (p0 p1 : Str) : bL SE (awI Γ γ149) Λ2 J 147 [dSq p0, dSq p1] [] [] =
 γ149 [dSq p0, dSq p1, dIq 0, dIq (-1)] [] [] fun r0 =>
 (some (cY r0)) := by kernel_rfl
end
abbrev aB3 : aS := awI gG (cT 149 cY)
theorem aEB : aB3 = aT gG := by unfold aB3 awI; rw [bJ fun _ h => h]
theorem alZ (p0 p1 : Str) : Le (Option.map cY (w7 p0 p1)) (bH SE 147 [dSq p0, dSq p1] [] []) := by
 refine aZ aEB rfl ?_
 refine Le.trans ?_ (le_of_eq (aHr ..).symm)
 unfold w7
 refine lQ eX vY (aiH _ _ _ _) fun r0 _ => ?_
 exact aG rfl
section
variable (Γ : Fun) (γ147 : Gm ((List Str))) (Λ2 J : Lam)
def axI : aS := bG (aT Γ) 147 cY γ147
theorem aHt (p0 : Str) : bL SE (axI Γ γ147) Λ2 J 143 [dSq p0] [] [] =
 γ147 [dSq p0, dSq ([47] : Str)] [] [] fun r0 =>
 (some (cY r0)) := by kernel_rfl
end
abbrev aBf : aS := axI gG (cT 147 cY)
theorem aDT : aBf = aT gG := by unfold aBf axI; rw [bJ fun _ h => h]
theorem am4 (p0 : Str) : Le (Option.map cY (yS p0)) (bH SE 143 [dSq p0] [] []) := by
 refine aZ aDT rfl ?_
 refine Le.trans ?_ (le_of_eq (aHt ..).symm)
 unfold yS
 refine lQ eX vY (alZ _ _) fun r0 _ => ?_
 exact aG rfl
def ahy (C : aS) (Λ2 J : Lam) (a0 : List (List D)) (a1 : Bool) (a2 : Int) (a3 : Str) (a4 : List (List D)) (a5 a6 : Int) (a7 : Str) (a8 : Nat) : Res := lab SE C Λ2 J 136 0 [1, 0, 1, 1, 1, 1, 0, 1, 0, 0, 1, 1, 0, 0, 1, 1, 0] (bA [(3, .d (.sl [.str] a0)), (4, dBq a1), (5, dIq a2), (6, dSq a3), (15, .d (.sl [.str] a4)), (16, dIq a5), (17, dIq a6), (23, .it 4000)] [] [] [(4000, (a7, a8))] [])
def aqP (C : aS) (Λ2 J : Lam) (a0 : List (List D)) (a1 : Bool) (a2 : List (List D)) (a3 a4 : Int) : Res := lab SE C Λ2 J 136 0 [1, 0, 1, 1, 1, 1, 0, 1, 0] (bA [(3, .d (.sl [.str] a0)), (4, dBq a1), (15, .d (.sl [.str] a2)), (16, dIq a3), (17, dIq a4)] [] [] [] [])
section
variable (Γ : Fun) (γ139 : Gm (Bool)) (γ143 : Gm ((List Str))) (Λ2 J : Lam)
def adu : aS := bG (bG (aT Γ) 139 packet_is_out γ139) 143 cY γ143
theorem aG0 (p0 : Str) : bL SE (adu Γ γ139 γ143) Λ2 J 136 [dSq p0] [] [] =
 γ139 [dSq p0] [] [] fun r0 =>
 cond (!r0) (
 (rB false)) (
 γ143 [dSq p0] [] [] fun r1 =>
 aqP (adu Γ γ139 γ143) Λ2 J (List.map bB r1) true (List.map bB r1) (lM bB r1 : Int) 0) := by kernel_rfl
theorem aAq (x3 : List Str) (x4 : Bool) (x5 : Int) (x6 : Str) (x15 : List Str) (x16 x17 : Int) (s4000 : Str) (i4000 : Nat) : cJ SE (adu Γ γ139 γ143) Λ2 J 136 0 [1, 0, 1, 1, 1, 1, 0, 1, 0, 0, 1, 1, 0, 0, 1, 1, 0] (bA [(3, .d (.sl [.str] (List.map bB x3))), (4, dBq x4), (5, dIq x5), (6, dSq x6), (15, .d (.sl [.str] (List.map bB x15))), (16, dIq x16), (17, dIq x17), (23, .it 4000)] [] [] [(4000, (s4000, i4000))] []) =
 cond (decide (i4000 < List.length s4000)) (
 cond (((dec s4000 i4000).1 : Int) == 43) (
  cond (!((List.length x6 : Int) == 1)) (
  (rB false)) (
  cond (((dec s4000 i4000).1 : Int) == 35) (
  cond (!((List.length x6 : Int) == 1)) (
   (rB false)) (
  cond (decide (x5 < (w6 ((lM bB x3 : Int) - 1)))) (
   (rB false)) (
  ahy (adu Γ γ139 γ143) Λ2 J (List.map bB x3) x4 x5 x6 (List.map bB x15) x16 x17 s4000 (i4000 + (dec s4000 i4000).2)))) (
  ahy (adu Γ γ139 γ143) Λ2 J (List.map bB x3) x4 x5 x6 (List.map bB x15) x16 x17 s4000 (i4000 + (dec s4000 i4000).2)))) (
 cond (((dec s4000 i4000).1 : Int) == 35) (
  cond (!((List.length x6 : Int) == 1)) (
  (rB false)) (
  cond (decide (x5 < (w6 ((lM bB x3 : Int) - 1)))) (
  (rB false)) (
  ahy (adu Γ γ139 γ143) Λ2 J (List.map bB x3) x4 x5 x6 (List.map bB x15) x16 x17 s4000 (i4000 + (dec s4000 i4000).2)))) (
 ahy (adu Γ γ139 γ143) Λ2 J (List.map bB x3) x4 x5 x6 (List.map bB x15) x16 x17 s4000 (i4000 + (dec s4000 i4000).2)))) (
 aqP (adu Γ γ139 γ143) Λ2 J (List.map bB x3) x4 (List.map bB x15) x16 (w6 (x17 + 1))) := by kernel_rfl
theorem aBo (x3 : List Str) (x4 : Bool) (x15 : List Str) (x16 x17 : Int) : cJ SE (adu Γ γ139 γ143) Λ2 J 136 0 [1, 0, 1, 1, 1, 1, 0, 1, 0] (bA [(3, .d (.sl [.str] (List.map bB x3))), (4, dBq x4), (15, .d (.sl [.str] (List.map bB x15))), (16, dIq x16), (17, dIq x17)] [] [] [] []) =
 cond (decide (x17 < x16)) (
 cond (iB x17 (lM bB x15 : Int)) (
  ahy (adu Γ γ139 γ143) Λ2 J (List.map bB x3) x4 x17 ((bQ (cE bB x15 x17 0))) (List.map bB x15) x16 x17 ((bQ (cE bB x15 x17 0))) 0) none) (
 (rB x4)) := by kernel_rfl
end
abbrev anS : aS := adu gG (cT 139 packet_is_out) (cT 143 cY)
theorem atp : anS = aT gG := by unfold anS adu; repeat rw [bJ fun _ h => h]
abbrev aAV := ahy anS (cC SE gG (SE.hl 136) (SE.hr 136)) (J0 SE anS)
abbrev avb := aqP anS (cC SE gG (SE.hl 136) (SE.hr 136)) (J0 SE anS)
theorem ajq : ∀ (fu : Nat) (k6 : (List Str) → Bool → (List Str) → Int → Int → Option (Bool)) (hk6 : ∀ (x3 : List Str) (x4 : Bool) (x15 : List Str) (x16 x17 : Int), Le (Option.map packet_is_out (k6 x3 x4 x15 x16 x17)) (avb (List.map bB x3) x4 (List.map bB x15) x16 x17)) (x3 : List Str) (x4 : Bool) (x5 : Int) (x6 : Str) (x15 : List Str) (x16 x17 : Int) (s4000 : Str) (i4000 : Nat), Le (Option.map packet_is_out (iR fu k6 x3 x4 x5 x6 x15 x16 x17 s4000 i4000)) (aAV (List.map bB x3) x4 x5 x6 (List.map bB x15) x16 x17 s4000 i4000) := by
 intro fu
 induction fu with
 | zero => intros; exact le_none
 | succ fu ih =>
  intro k6 hk6 x3 x4 x5 x6 x15 x16 x17 s4000 i4000
  refine Le.trans ?_ (le_of_eq ((bD atp).trans (aAq ..)).symm)
  unfold iR
  refine lC ?_ ?_
  ·refine lC ?_ ?_
   ·refine lC ?_ ?_
    ·exact aG rfl
    ·refine lC ?_ ?_
     ·refine lC ?_ ?_
      ·exact aG rfl
      ·refine lDe ?_ ?_
       ·exact aG rfl
       ·exact ih _ hk6 x3 x4 x5 x6 x15 x16 x17 s4000 (i4000 + (dec s4000 i4000).2)
     ·exact ih _ hk6 x3 x4 x5 x6 x15 x16 x17 s4000 (i4000 + (dec s4000 i4000).2)
   ·refine lC ?_ ?_
    ·refine lC ?_ ?_
     ·exact aG rfl
     ·refine lDe ?_ ?_
      ·exact aG rfl
      ·exact ih _ hk6 x3 x4 x5 x6 x15 x16 x17 s4000 (i4000 + (dec s4000 i4000).2)
    ·exact ih _ hk6 x3 x4 x5 x6 x15 x16 x17 s4000 (i4000 + (dec s4000 i4000).2)
  ·exact hk6 x3 x4 x15 x16 (w6 (x17 + 1))
theorem ajD : ∀ (fu : Nat) (x3 : List Str) (x4 : Bool) (x15 : List Str) (x16 x17 : Int), Le (Option.map packet_is_out (oC fu x3 x4 x15 x16 x17)) (avb (List.map bB x3) x4 (List.map bB x15) x16 x17) := by
 intro fu
 induction fu with
 | zero => intros; exact le_none
 | succ fu ih =>
  intro x3 x4 x15 x16 x17
  refine Le.trans ?_ (le_of_eq ((bD atp).trans (aBo ..)).symm)
  unfold oC
  refine lC ?_ ?_
  ·refine lGe ?_
   (try simp only [EN]); exact ajq fuel _ (ih) x3 x4 x17 (List.getD x15 (Int.toNat x17) default) x15 x16 x17 (List.getD x15 (Int.toNat x17) default) 0
  ·exact aG rfl
theorem afS (p0 : Str) : Le (Option.map packet_is_out (vC p0)) (bH SE 136 [dSq p0] [] []) := by
 refine aZ atp rfl ?_
 refine Le.trans ?_ (le_of_eq (aG0 ..).symm)
 unfold vC
 refine lQ eX packet_is_inj (agW _) fun r0 _ => ?_
 refine lC ?_ ?_
 ·exact aG rfl
 ·refine lQ eX vY (am4 _) fun r1 _ => ?_
  (try simp only [EN]); exact ajD fuel r1 true r1 (List.length r1 : Int) 0
section
variable (Γ : Fun) (γ144 : Gm (Bool)) (Λ2 J : Lam)
def aww : aS := bG (aT Γ) 144 packet_is_out γ144
theorem aGG (p0 p1 : Str) : bL SE (aww Γ γ144) Λ2 J 137 [dSq p0, dSq p1] [] [] =
 γ144 [dSq p0, dSq p1] [] [] fun r0 =>
 (rB r0) := by kernel_rfl
end
abbrev azV : aS := aww gG (cT 144 packet_is_out)
theorem aEr : azV = aT gG := by unfold azV aww; rw [bJ fun _ h => h]
theorem abn (p0 p1 : Str) : Le (Option.map packet_is_out (oF p0 p1)) (bH SE 137 [dSq p0, dSq p1] [] []) := by
 refine aZ aEr rfl ?_
 refine Le.trans ?_ (le_of_eq (aGG ..).symm)
 unfold oF
 refine lQ eX packet_is_inj (y7 _ _) fun r0 _ => ?_
 exact aG rfl
section
variable (Γ : Fun) (γ141 : Gm (Str × Bool)) (γ142 : Gm (Str × Str × Bool)) (γ118 γ136 γ137 : Gm (Bool)) (Λ2 J : Lam)
def aw1 : aS := bG (bG (bG (bG (bG (aT Γ) 141 eB γ141) 142 cM γ142) 118 packet_is_out γ118) 136 packet_is_out γ136) 137 packet_is_out γ137
theorem aGP (p0 : Str) : bL SE (aw1 Γ γ141 γ142 γ118 γ136 γ137) Λ2 J 135 [dSq p0] [] [] =
 γ141 [dSq p0, dSq ([36, 115, 104, 97, 114, 101, 47] : Str)] [] [] fun r0 =>
 cond (!r0.2) (
 (some (cM (([], [], false))))) (
 γ142 [dSq r0.1, dSq ([47] : Str)] [] [] fun r1 =>
 cond (!r1.2.2) (
 (some (cM (([], [], false))))) (
 γ118 [dSq r1.1] [] [] fun r2 =>
 cond (!r2) (
 (some (cM (([], [], false))))) (
 γ136 [dSq r1.2.1] [] [] fun r3 =>
 cond (!r3) (
 (some (cM (([], [], false))))) (
 γ137 [dSq r1.2.1, dSq ([36, 115, 104, 97, 114, 101, 47] : Str)] [] [] fun r4 =>
 cond r4 (
 (some (cM (([], [], false))))) (
 (some (cM (r1.1, r1.2.1, true)))))))) := by kernel_rfl
end
abbrev aCK : aS := aw1 gG (cT 141 eB) (cT 142 cM) (cT 118 packet_is_out) (cT 136 packet_is_out) (cT 137 packet_is_out)
theorem aET : aCK = aT gG := by unfold aCK aw1; repeat rw [bJ fun _ h => h]
theorem am3 (p0 : Str) : Le (Option.map cM (yV p0)) (bH SE 135 [dSq p0] [] []) := by
 refine aZ aET rfl ?_
 refine Le.trans ?_ (le_of_eq (aGP ..).symm)
 unfold yV
 refine lQ eX xU (aik _ _) fun r0 _ => ?_
 refine lC ?_ ?_
 ·exact aG rfl
 ·refine lQ eX oV (anP _ _) fun r1 _ => ?_
  refine lC ?_ ?_
  ·exact aG rfl
  ·refine lQ eX packet_is_inj (aaH _) fun r2 _ => ?_
   refine lC ?_ ?_
   ·exact aG rfl
   ·refine lQ eX packet_is_inj (afS _) fun r3 _ => ?_
    refine lC ?_ ?_
    ·exact aG rfl
    ·refine lQ eX packet_is_inj (abn _ _) fun r4 _ => ?_
     refine lC ?_ ?_
     ·exact aG rfl
     ·exact aG rfl
section
variable (Γ : Fun) (γ135 : Gm (Str × Str × Bool)) (γ136 γ137 : Gm (Bool)) (Λ2 J : Lam)
def axv : aS := bG (bG (bG (aT Γ) 135 cM γ135) 136 packet_is_out γ136) 137 packet_is_out γ137
theorem aHk (p0 : Str) : bL SE (axv Γ γ135 γ136 γ137) Λ2 J 121 [dSq p0] [] [] =
 γ135 [dSq p0] [] [] fun r0 =>
 cond r0.2.2 (
 (some (.ret [dBq true, dBq true] [] []))) (
 γ136 [dSq p0] [] [] fun r1 =>
 cond r1 (
 γ137 [dSq p0, dSq ([36, 115, 104, 97, 114, 101, 47] : Str)] [] [] fun r2 =>
 (some (.ret [dBq (!r2), dBq false] [] []))) (
 (some (.ret [dBq false, dBq false] [] [])))) := by kernel_rfl
end
abbrev azM : aS := axv gG (cT 135 cM) (cT 136 packet_is_out) (cT 137 packet_is_out)
theorem aEK : azM = aT gG := by unfold azM axv; repeat rw [bJ fun _ h => h]
theorem ae0 (p0 : Str) : Le (Option.map kE (tM p0)) (bH SE 121 [dSq p0] [] []) := by
 refine aZ aEK rfl ?_
 refine Le.trans ?_ (le_of_eq (aHk ..).symm)
 unfold tM
 refine lQ eX oV (am3 _) fun r0 _ => ?_
 refine lC ?_ ?_
 ·exact aG rfl
 ·refine lQ eX packet_is_inj (afS _) fun r1 _ => ?_
  refine lC ?_ ?_
  ·refine lQ eX packet_is_inj (abn _ _) fun r2 _ => ?_
   exact aG rfl
  ·exact aG rfl
def apm (C : aS) (Λ2 J : Lam) (a0 : List (List D)) (a1 a2 : Int) : Res := lab SE C Λ2 J 92 0 [1, 1, 0, 1, 0] (bA [(18, .d (.sl aH.ks a0)), (19, dIq a1), (20, dIq a2)] [] [] [] [])
section
variable (Γ : Fun) (γ120 : Gm (Int)) (γ121 : Gm (Bool × Bool)) (γ85 : Gm (Bool)) (Λ2 J : Lam)
def C92 : aS := bG (bG (bG (aT Γ) 120 aJ γ120) 121 kE γ121) 85 packet_is_out γ85
theorem T92 (p0 : aA) : bL SE (C92 Γ γ120 γ121 γ85) Λ2 J 92 [aA.av p0] [] [] =
 γ120 [dIq p0.ID, dIq (lM aH.enc p0.Subs : Int)] [] [] fun r0 =>
 cond (r0 != 0) (
 (rI r0)) (
 apm (C92 Γ γ120 γ121 γ85) Λ2 J (List.map aH.enc p0.Subs) (lM aH.enc p0.Subs : Int) 0) := by kernel_rfl
theorem aDx (x18 : List aH) (x19 x20 : Int) : cJ SE (C92 Γ γ120 γ121 γ85) Λ2 J 92 0 [1, 1, 0, 1, 0] (bA [(18, .d (.sl aH.ks (List.map aH.enc x18))), (19, dIq x19), (20, dIq x20)] [] [] [] []) =
 cond (decide (x20 < x19)) (
 cond (iB x20 (lM aH.enc x18 : Int)) (
  γ121 [dSq (bQ (cE aH.enc x18 x20 0))] [] [] fun r1 =>
  cond (!r1.1) (
  (rI 13)) (
  γ85 [dIq (bC (cE aH.enc x18 x20 1)), dIq 0, dIq 2] [] [] fun r2 =>
  cond (!r2) (
  (rI 14)) (
  cond (cF (cE aH.enc x18 x20 2)) (
  cond r1.2 (
   (rI 28)) (
  apm (C92 Γ γ120 γ121 γ85) Λ2 J (List.map aH.enc x18) x19 (w6 (x20 + 1)))) (
  apm (C92 Γ γ120 γ121 γ85) Λ2 J (List.map aH.enc x18) x19 (w6 (x20 + 1)))))) none) (
 (rI 0)) := by kernel_rfl
end
abbrev X92 : aS := C92 gG (cT 120 aJ) (cT 121 kE) (cT 85 packet_is_out)
theorem azT : X92 = aT gG := by unfold X92 C92; repeat rw [bJ fun _ h => h]
abbrev aE2 := apm X92 (cC SE gG (SE.hl 92) (SE.hr 92)) (J0 SE X92)
theorem agJ : ∀ (fu : Nat) (x18 : List aH) (x19 x20 : Int), Le (Option.map aJ (hI fu x18 x19 x20)) (aE2 (List.map aH.enc x18) x19 x20) := by
 intro fu
 induction fu with
 | zero => intros; exact le_none
 | succ fu ih =>
  intro x18 x19 x20
  refine Le.trans ?_ (le_of_eq ((bD azT).trans (aDx ..)).symm)
  unfold hI
  refine lC ?_ ?_
  ·refine lGe ?_
   refine lQ eX adD (by (try simp only [EN]); exact ae0 ((List.getD x18 (Int.toNat x20) default).Filter)) fun r1 _ => ?_
   refine lC ?_ ?_
   ·exact aG rfl
   ·refine lQ eX packet_is_inj (by (try simp only [EN]); exact gU ((List.getD x18 (Int.toNat x20) default).Level) 0 2) fun r2 _ => ?_
    refine lC ?_ ?_
    ·exact aG rfl
    ·refine lDe ?_ ?_
     ·refine lC ?_ ?_
      ·exact aG rfl
      ·exact ih x18 x19 (w6 (x20 + 1))
     ·exact ih x18 x19 (w6 (x20 + 1))
  ·exact aG rfl
theorem aiO (p0 : aA) : Le (Option.map aJ (sV p0)) (bH SE 92 [aA.av p0] [] []) := by
 refine aZ azT rfl ?_
 refine Le.trans ?_ (le_of_eq (T92 ..).symm)
 unfold sV
 refine lQ eX bE (by (try simp only [EN]); exact aai p0.ID (List.length p0.Subs : Int)) fun r0 _ => ?_
 refine lC ?_ ?_
 ·exact aG rfl
 ·(try simp only [EN]); exact agJ fuel p0.Subs (List.length p0.Subs : Int) 0
def asQ (C : aS) (Λ2 J : Lam) (a0 : List (List D)) (a1 a2 : Int) : Res := lab SE C Λ2 J 93 0 [1, 1, 0, 1, 0] (bA [(16, .d (.sl [.int .i64] a0)), (17, dIq a1), (18, dIq a2)] [] [] [] [])
section
variable (Γ : Fun) (γ120 : Gm (Int)) (γ89 : Gm (Bool)) (Λ2 J : Lam)
def C93 : aS := bG (bG (aT Γ) 120 aJ γ120) 89 packet_is_out γ89
theorem T93 (p0 : aA) : bL SE (C93 Γ γ120 γ89) Λ2 J 93 [aA.av p0] [] [] =
 γ120 [dIq p0.ID, dIq (lM eI p0.Codes : Int)] [] [] fun r0 =>
 cond (r0 != 0) (
 (rI r0)) (
 asQ (C93 Γ γ120 γ89) Λ2 J (List.map eI p0.Codes) (lM eI p0.Codes : Int) 0) := by kernel_rfl
theorem aFl (x16 : List Int) (x17 x18 : Int) : cJ SE (C93 Γ γ120 γ89) Λ2 J 93 0 [1, 1, 0, 1, 0] (bA [(16, .d (.sl [.int .i64] (List.map eI x16))), (17, dIq x17), (18, dIq x18)] [] [] [] []) =
 cond (decide (x18 < x17)) (
 cond (iB x18 (lM eI x16 : Int)) (
  γ89 [dIq (bC (cE eI x16 x18 0))] [] [] fun r1 =>
  cond (!r1) (
  (rI 1)) (
  asQ (C93 Γ γ120 γ89) Λ2 J (List.map eI x16) x17 (w6 (x18 + 1)))) none) (
 (rI 0)) := by kernel_rfl
end
abbrev X93 : aS := C93 gG (cT 120 aJ) (cT 89 packet_is_out)
theorem aCI : X93 = aT gG := by unfold X93 C93; repeat rw [bJ fun _ h => h]
abbrev aDc := asQ X93 (cC SE gG (SE.hl 93) (SE.hr 93)) (J0 SE X93)
theorem ajt : ∀ (fu : Nat) (x16 : List Int) (x17 x18 : Int), Le (Option.map aJ (mA fu x16 x17 x18)) (aDc (List.map eI x16) x17 x18) := by
 intro fu
 induction fu with
 | zero => intros; exact le_none
 | succ fu ih =>
  intro x16 x17 x18
  refine Le.trans ?_ (le_of_eq ((bD aCI).trans (aFl ..)).symm)
  unfold mA
  refine lC ?_ ?_
  ·refine lGe ?_
   refine lQ eX packet_is_inj (by (try simp only [EN]); exact acA (List.getD x16 (Int.toNat x18) default)) fun r1 _ => ?_
   refine lC ?_ ?_
   ·exact aG rfl
   ·exact ih x16 x17 (w6 (x18 + 1))
  ·exact aG rfl
theorem afX (p0 : aA) : Le (Option.map aJ (uZ p0)) (bH SE 93 [aA.av p0] [] []) := by
 refine aZ aCI rfl ?_
 refine Le.trans ?_ (le_of_eq (T93 ..).symm)
 unfold uZ
 refine lQ eX bE (by (try simp only [EN]); exact aai p0.ID (List.length p0.Codes : Int)) fun r0 _ => ?_
 refine lC ?_ ?_
 ·exact aG rfl
 ·(try simp only [EN]); exact ajt fuel p0.Codes (List.length p0.Codes : Int) 0
def asY (C : aS) (Λ2 J : Lam) (a0 : List (List D)) (a1 a2 : Int) : Res := lab SE C Λ2 J 94 0 [1, 1, 0, 1, 0] (bA [(18, .d (.sl [.str] a0)), (19, dIq a1), (20, dIq a2)] [] [] [] [])
section
variable (Γ : Fun) (γ120 : Gm (Int)) (γ121 : Gm (Bool × Bool)) (Λ2 J : Lam)
def C94 : aS := bG (bG (aT Γ) 120 aJ γ120) 121 kE γ121
theorem T94 (p0 : aA) : bL SE (C94 Γ γ120 γ121) Λ2 J 94 [aA.av p0] [] [] =
 γ120 [dIq p0.ID, dIq (lM bB p0.Filters : Int)] [] [] fun r0 =>
 cond (r0 != 0) (
 (rI r0)) (
 asY (C94 Γ γ120 γ121) Λ2 J (List.map bB p0.Filters) (lM bB p0.Filters : Int) 0) := by kernel_rfl
theorem aEq (x18 : List Str) (x19 x20 : Int) : cJ SE (C94 Γ γ120 γ121) Λ2 J 94 0 [1, 1, 0, 1, 0] (bA [(18, .d (.sl [.str] (List.map bB x18))), (19, dIq x19), (20, dIq x20)] [] [] [] []) =
 cond (decide (x20 < x19)) (
 cond (iB x20 (lM bB x18 : Int)) (
  γ121 [dSq (bQ (cE bB x18 x20 0))] [] [] fun r1 =>
  cond (!r1.1) (
  (rI 13)) (
  asY (C94 Γ γ120 γ121) Λ2 J (List.map bB x18) x19 (w6 (x20 + 1)))) none) (
 (rI 0)) := by kernel_rfl
end
abbrev X94 : aS := C94 gG (cT 120 aJ) (cT 121 kE)
theorem aAs : X94 = aT gG := by unfold X94 C94; repeat rw [bJ fun _ h => h]
abbrev aDv := asY X94 (cC SE gG (SE.hl 94) (SE.hr 94)) (J0 SE X94)
theorem aew : ∀ (fu : Nat) (x18 : List Str) (x19 x20 : Int), Le (Option.map aJ (hU fu x18 x19 x20)) (aDv (List.map bB x18) x19 x20) := by
 intro fu
 induction fu with
 | zero => intros; exact le_none
 | succ fu ih =>
  intro x18 x19 x20
  refine Le.trans ?_ (le_of_eq ((bD aAs).trans (aEq ..)).symm)
  unfold hU
  refine lC ?_ ?_
  ·refine lGe ?_
   refine lQ eX adD (by (try simp only [EN]); exact ae0 (List.getD x18 (Int.toNat x20) default)) fun r1 _ => ?_
   refine lC ?_ ?_
   ·exact aG rfl
   ·exact ih x18 x19 (w6 (x20 + 1))
  ·exact aG rfl
theorem ag9 (p0 : aA) : Le (Option.map aJ (pV p0)) (bH SE 94 [aA.av p0] [] []) := by
 refine aZ aAs rfl ?_
 refine Le.trans ?_ (le_of_eq (T94 ..).symm)
 unfold pV
 refine lQ eX bE (by (try simp only [EN]); exact aai p0.ID (List.length p0.Filters : Int)) fun r0 _ => ?_
 refine lC ?_ ?_
 ·exact aG rfl
 ·(try simp only [EN]); exact aew fuel p0.Filters (List.length p0.Filters : Int) 0
section
variable (Γ : Fun) (γ85 : Gm (Bool)) (γ87 : Gm (aA)) (γ86 : Gm (Bool)) (γ88 : Gm (Int)) (γ89 : Gm (Bool)) (γ90 γ91 γ92 γ93 γ94 : Gm (Int)) (Λ2 J : Lam)
def C59 : aS := bG (bG (bG (bG (bG (bG (bG (bG (bG (bG (aT Γ) 85 packet_is_out γ85) 87 eF γ87) 86 packet_is_out γ86) 88 aJ γ88) 89 packet_is_out γ89) 90 aJ γ90) 91 aJ γ91) 92 aJ γ92) 93 aJ γ93) 94 aJ γ94
theorem T59 (p0 : aA) : bL SE (C59 Γ γ85 γ87 γ86 γ88 γ89 γ90 γ91 γ92 γ93 γ94) Λ2 J 59 [aA.av p0] [] [] =
 γ85 [dIq p0.Kind, dIq 1, dIq 14] [] [] fun r0 =>
 cond (!r0) (
 (rI 10)) (
 γ87 [aA.av p0] [] [] fun r1 =>
 γ86 [aA.av p0, aA.av r1] [] [] fun r2 =>
 cond (!r2) (
 (rI 28)) (
 cond (p0.Kind == 1) (
 γ88 [aA.av p0] [] [] fun r3 =>
 (rI r3)) (
 cond (p0.Kind == 2) (
 γ89 [dIq p0.Code] [] [] fun r4 =>
 cond (!r4) (
  (rI 1)) (
 cond p0.Present (
  cond (p0.Code != 0) (
  (rI 28)) (
  (rI 0))) (
 (rI 0)))) (
 cond (p0.Kind == 14) (
 γ89 [dIq p0.Code] [] [] fun r5 =>
 cond (!r5) (
  (rI 1)) (
 cond p0.Present (
  cond (p0.Code != 0) (
  (rI 28)) (
  (rI 0))) (
 (rI 0)))) (
 cond (p0.Kind == 3) (
 γ90 [aA.av p0] [] [] fun r6 =>
 (rI r6)) (
 cond (p0.Kind == 4) (
 γ91 [dIq p0.ID] [] [] fun r7 =>
 (rI r7)) (
 cond (p0.Kind == 5) (
 γ91 [dIq p0.ID] [] [] fun r8 =>
 (rI r8)) (
 cond (p0.Kind == 6) (
 γ91 [dIq p0.ID] [] [] fun r9 =>
 (rI r9)) (
 cond (p0.Kind == 7) (
 γ91 [dIq p0.ID] [] [] fun r10 =>
 (rI r10)) (
 cond (p0.Kind == 8) (
 γ92 [aA.av p0] [] [] fun r11 =>
 (rI r11)) (
 cond (p0.Kind == 9) (
 γ93 [aA.av p0] [] [] fun r12 =>
 (rI r12)) (
 cond (p0.Kind == 11) (
 γ93 [aA.av p0] [] [] fun r13 =>
 (rI r13)) (
 cond (p0.Kind == 10) (
 γ94 [aA.av p0] [] [] fun r14 =>
 (rI r14)) (
 (rI 0))))))))))))))) := by kernel_rfl
end
abbrev X59 : aS := C59 gG (cT 85 packet_is_out) (cT 87 eF) (cT 86 packet_is_out) (cT 88 aJ) (cT 89 packet_is_out) (cT 90 aJ) (cT 91 aJ) (cT 92 aJ) (cT 93 aJ) (cT 94 aJ)
theorem aFJ : X59 = aT gG := by unfold X59 C59; repeat rw [bJ fun _ h => h]
theorem abm (p0 : aA) : Le (Option.map aJ (kY p0)) (bH SE 59 [aA.av p0] [] []) := by
 refine aZ aFJ rfl ?_
 refine Le.trans ?_ (le_of_eq (T59 ..).symm)
 unfold kY
 refine lQ eX packet_is_inj (gU _ _ _) fun r0 _ => ?_
 refine lC ?_ ?_
 ·exact aG rfl
 ·refine lQ eX af0 (anO _) fun r1 _ => ?_
  refine lQ eX packet_is_inj (anF _ _) fun r2 _ => ?_
  refine lC ?_ ?_
  ·exact aG rfl
  ·refine lC ?_ ?_
   ·refine lQ eX bE (akQ _) fun r3 _ => ?_
    exact aG rfl
   ·refine lC ?_ ?_
    ·refine lQ eX packet_is_inj (acA _) fun r4 _ => ?_
     refine lC ?_ ?_
     ·exact aG rfl
     ·refine lC ?_ ?_
      ·refine lC ?_ ?_
       ·exact aG rfl
       ·exact aG rfl
      ·exact aG rfl
    ·refine lC ?_ ?_
     ·refine lQ eX packet_is_inj (acA _) fun r5 _ => ?_
      refine lC ?_ ?_
      ·exact aG rfl
      ·refine lC ?_ ?_
       ·refine lC ?_ ?_
        ·exact aG rfl
        ·exact aG rfl
       ·exact aG rfl
     ·refine lC ?_ ?_
      ·refine lQ eX bE (akI _) fun r6 _ => ?_
       exact aG rfl
      ·refine lC ?_ ?_
       ·refine lQ eX bE (uE _) fun r7 _ => ?_
        exact aG rfl
       ·refine lC ?_ ?_
        ·refine lQ eX bE (uE _) fun r8 _ => ?_
         exact aG rfl
        ·refine lC ?_ ?_
         ·refine lQ eX bE (uE _) fun r9 _ => ?_
          exact aG rfl
         ·refine lC ?_ ?_
          ·refine lQ eX bE (uE _) fun r10 _ => ?_
           exact aG rfl
          ·refine lC ?_ ?_
           ·refine lQ eX bE (aiO _) fun r11 _ => ?_
            exact aG rfl
           ·refine lC ?_ ?_
            ·refine lQ eX bE (afX _) fun r12 _ => ?_
             exact aG rfl
            ·refine lC ?_ ?_
             ·refine lQ eX bE (afX _) fun r13 _ => ?_
              exact aG rfl
             ·refine lC ?_ ?_
              ·refine lQ eX bE (ag9 _) fun r14 _ => ?_
               exact aG rfl
              ·exact aG rfl
section
variable (Γ : Fun)  (Λ2 J : Lam)
def C34 : aS := aT Γ
theorem T34 (p0 : List Int) (p1 : Int) : bL SE (C34 Γ) Λ2 J 34 [.d (.sl [.int .u8] (List.map (aN .u8) p0)), dIq p1] [] [] =
 cond (decide (0 ≤ (lM (aN .u8) p0 : Int)) && decide ((lM (aN .u8) p0 : Int) ≤ (w6 ((lM (aN .u8) p0 : Int) + p1))) && decide ((w6 ((lM (aN .u8) p0 : Int) + p1)) * 1 ≤ 281474976710656)) (
 (some (.ret [.row 0] [] [⟨[.int .u8], 5, 1, (List.take (List.length (List.replicate (Int.toNat (lM (aN .u8) p0 : Int)) [D.int .u8 0])) (List.map (aN .u8) p0) ++ List.drop (min (lM (aN .u8) p0) (List.length (List.replicate (Int.toNat (lM (aN .u8) p0 : Int)) [D.int .u8 0]))) (List.replicate (Int.toNat (lM (aN .u8) p0 : Int)) [D.int .u8 0]))⟩]))) none := by kernel_rfl
end
abbrev X34 : aS := C34 gG
theorem aG2 : X34 = aT gG := rfl
theorem adv (p0 : List Int) (p1 : Int) : Le (Option.map aR (wC p0 p1)) (bH SE 34 [.d (.sl [.int .u8] (List.map (aN .u8) p0)), dIq p1] [] []) := by
 refine aZ aG2 rfl ?_
 refine Le.trans ?_ (le_of_eq (T34 ..).symm)
 unfold wC
 refine lGe ?_
 exact aG (by first | rfl | simp only [EN, aR] <;> rfl)
section
variable (Γ : Fun)  (Λ2 J : Lam)
def C65 : aS := aT Γ
theorem T65 (p0 : Int) : bL SE (C65 Γ) Λ2 J 65 [dIq p0] [] [] =
 (some (.ret [.d (.int .u64 (bY .xor .u64 (shl .u64 (IntKind.wrap .u64 p0) 1) (IntKind.wrap .u64 (shr .i64 p0 63))))] [] [])) := by kernel_rfl
end
abbrev X65 : aS := C65 gG
theorem aG4 : X65 = aT gG := rfl
theorem aq2 (p0 : Int) : Le (Option.map lH (acV p0)) (bH SE 65 [dIq p0] [] []) := by
 refine aZ aG4 rfl ?_
 refine Le.trans ?_ (le_of_eq (T65 ..).symm)
 unfold acV
 exact aG rfl
def ata (C : aS) (Λ2 J : Lam) (a0 : Int) (a1 : List (List D)) : Res := lab SE C Λ2 J 33 0 [1, 1, 0, 0] (bA [(0, .row 3000), (5, .d (.int .u64 a0))] [] [] [] [(3000, ⟨[.int .u8], 5, 1, a1⟩)])
section
variable (Γ : Fun) (γ65 : Gm (Int)) (Λ2 J : Lam)
def C33 : aS := bG (aT Γ) 65 lH γ65
theorem T33 (p0 : List Int) (p1 : Int) : bL SE (C33 Γ γ65) Λ2 J 33 [.row 2000000000, dIq p1] [] [⟨[.int .u8], 5, 1, (List.map (aN .u8) p0)⟩] =
 γ65 [dIq p1] [] [] fun r0 =>
 ata (C33 Γ γ65) Λ2 J r0 (List.map (aN .u8) p0) := by kernel_rfl
theorem aFe (x5 : Int) (w3000 : List Int) : cJ SE (C33 Γ γ65) Λ2 J 33 0 [1, 1, 0, 0] (bA [(0, .row 3000), (5, .d (.int .u64 x5))] [] [] [] [(3000, ⟨[.int .u8], 5, 1, (List.map (aN .u8) w3000)⟩)]) =
 cond (decide (x5 > 127)) (
 cond (decide ((lM (aN .u8) w3000 + lM (aN .u8) [(bY .or .u8 (IntKind.wrap .u8 (bY .and .u64 x5 127)) 128)]) * 1 ≤ 140737488355328)) (
  ata (C33 Γ γ65) Λ2 J (shr .u64 x5 7) (((List.map (aN .u8) w3000) ++ (List.map (aN .u8) [(bY .or .u8 (IntKind.wrap .u8 (bY .and .u64 x5 127)) 128)])))) none) (
 cond (decide ((lM (aN .u8) w3000 + lM (aN .u8) [(IntKind.wrap .u8 x5)]) * 1 ≤ 140737488355328)) (
 (some (.ret [.row 0] [] [⟨[.int .u8], 5, 1, ((List.map (aN .u8) w3000) ++ (List.map (aN .u8) [(IntKind.wrap .u8 x5)]))⟩]))) none) := by kernel_rfl
end
abbrev X33 : aS := C33 gG (cT 65 lH)
theorem az9 : X33 = aT gG := by unfold X33 C33; rw [bJ fun _ h => h]
abbrev aDd := ata X33 (cC SE gG (SE.hl 33) (SE.hr 33)) (J0 SE X33)
theorem an1 : ∀ (fu : Nat) (x5 : Int) (w3000 : List Int), Le (Option.map aR (sG fu x5 w3000)) (aDd x5 (List.map (aN .u8) w3000)) := by
 intro fu
 induction fu with
 | zero => intros; exact le_none
 | succ fu ih =>
  intro x5 w3000
  refine Le.trans ?_ (le_of_eq ((bD az9).trans (aFe ..)).symm)
  unfold sG
  refine lC ?_ ?_
  ·refine lGe ?_
   (try simp only [EN]); exact ih (shr .u64 x5 7) (w3000 ++ [(bY .or .u8 (IntKind.wrap .u8 (bY .and .u64 x5 127)) 128)])
  ·refine lGe ?_
   exact aG (by first | rfl | simp only [EN, aR] <;> rfl)
theorem acK (p0 : List Int) (p1 : Int) : Le (Option.map aR (uJ p0 p1)) (bH SE 33 [.row 2000000000, dIq p1] [] [⟨[.int .u8], 5, 1, (List.map (aN .u8) p0)⟩]) := by
 refine aZ az9 rfl ?_
 refine Le.trans ?_ (le_of_eq (T33 ..).symm)
 unfold uJ
 refine lQ eX ait (aq2 _) fun r0 _ => ?_
 exact an1 fuel r0 p0
section
variable (Γ : Fun) (γ34 γ33 : Gm ((List Int))) (Λ2 J : Lam)
def C20 : aS := bG (bG (aT Γ) 34 aR γ34) 33 aR γ33
theorem T20 (p0 : List Int) (p1 : Int) : bL SE (C20 Γ γ34 γ33) Λ2 J 20 [.d (.sl [.int .u8] (List.map (aN .u8) p0)), dIq p1] [] [] =
 γ34 [.d (.sl [.int .u8] (List.map (aN .u8) p0)), dIq 10] [] [] fun r0 =>
 γ33 [.row 2000000000, dIq p1] [] [⟨[.int .u8], 5, 1, (List.map (aN .u8) r0)⟩] fun r1 =>
 (some (aR r1)) := by kernel_rfl
end
abbrev X20 : aS := C20 gG (cT 34 aR) (cT 33 aR)
theorem aGt : X20 = aT gG := by unfold X20 C20; repeat rw [bJ fun _ h => h]
theorem cI (p0 : List Int) (p1 : Int) : Le (Option.map aR (cL p0 p1)) (bH SE 20 [.d (.sl [.int .u8] (List.map (aN .u8) p0)), dIq p1] [] []) := by
 refine aZ aGt rfl ?_
 refine Le.trans ?_ (le_of_eq (T20 ..).symm)
 unfold cL
 refine lQ eX aX (adv _ _) fun r0 _ => ?_
 refine lQ eX aX (acK _ _) fun r1 _ => ?_
 exact aG rfl
section
variable (Γ : Fun) (γ34 γ33 : Gm ((List Int))) (Λ2 J : Lam)
def C95 : aS := bG (bG (aT Γ) 34 aR γ34) 33 aR γ33
theorem T95 (p0 : List Int) (p1 : Str) : bL SE (C95 Γ γ34 γ33) Λ2 J 95 [.d (.sl [.int .u8] (List.map (aN .u8) p0)), dSq p1] [] [] =
 γ34 [.d (.sl [.int .u8] (List.map (aN .u8) p0)), dIq (w6 (10 + (List.length p1 : Int)))] [] [] fun r0 =>
 γ33 [.row 2000000000, dIq (List.length p1 : Int)] [] [⟨[.int .u8], 5, 1, (List.map (aN .u8) r0)⟩] fun r1 =>
 cond (decide ((lM (aN .u8) r1 + List.length (gB p1)) * 1 ≤ 140737488355328)) (
 (some (.ret [.row 0] [] [⟨[.int .u8], 5, 1, ((List.map (aN .u8) r1) ++ (gB p1))⟩]))) none := by kernel_rfl
end
abbrev X95 : aS := C95 gG (cT 34 aR) (cT 33 aR)
theorem aGH : X95 = aT gG := by unfold X95 C95; repeat rw [bJ fun _ h => h]
theorem mD (p0 : List Int) (p1 : Str) : Le (Option.map aR (j6 p0 p1)) (bH SE 95 [.d (.sl [.int .u8] (List.map (aN .u8) p0)), dSq p1] [] []) := by
 refine aZ aGH rfl ?_
 refine Le.trans ?_ (le_of_eq (T95 ..).symm)
 unfold j6
 refine lQ eX aX (adv _ _) fun r0 _ => ?_
 refine lQ eX aX (acK _ _) fun r1 _ => ?_
 refine lGe ?_
 exact aG (by first | rfl | simp only [EN, aR] <;> rfl)
def ayo (C : aS) (Λ2 J : Lam) (a0 : List (List D)) (a1 a2 a3 : Int) (a4 : Bool) : Res := lab SE C Λ2 J 61 0 [1, 1, 0, 1, 0, 0, 1, 0, 0, 0] (bA [(0, .d (.sl [.bool] a0)), (3, dIq a1), (4, dIq a2), (10, dIq a3), (11, dBq a4)] [] [] [] [])
def apt (C : aS) (Λ2 J : Lam) (a0 : List (List D)) (a1 a2 : Int) : Res := lab SE C Λ2 J 61 0 [1, 1, 0, 1, 0] (bA [(0, .d (.sl [.bool] a0)), (3, dIq a1), (4, dIq a2)] [] [] [] [])
section
variable (Γ : Fun)  (Λ2 J : Lam)
def C61 : aS := aT Γ
theorem T61 (p0 : List Bool) : bL SE (C61 Γ) Λ2 J 61 [.d (.sl [.bool] (List.map gY p0))] [] [] =
 apt (C61 Γ) Λ2 J (List.map gY p0) 0 0 := by kernel_rfl
theorem aEX (x0 : List Bool) (x3 x4 x10 : Int) (x11 : Bool) : cJ SE (C61 Γ) Λ2 J 61 0 [1, 1, 0, 1, 0, 0, 1, 0, 0, 0] (bA [(0, .d (.sl [.bool] (List.map gY x0))), (3, dIq x3), (4, dIq x4), (10, dIq x10), (11, dBq x11)] [] [] [] []) =
 cond (iB x4 (lM gY x0 : Int)) (
 cond (cF (cE gY x0 x4 0)) (
  cond (decide (0 ≤ x4)) (
  apt (C61 Γ) Λ2 J (List.map gY x0) (bY .or .i64 x3 (shl .i64 1 x4)) (w6 (x4 + 1))) none) (
 apt (C61 Γ) Λ2 J (List.map gY x0) x3 (w6 (x4 + 1)))) none := by kernel_rfl
theorem aFk (x0 : List Bool) (x3 x4 : Int) : cJ SE (C61 Γ) Λ2 J 61 0 [1, 1, 0, 1, 0] (bA [(0, .d (.sl [.bool] (List.map gY x0))), (3, dIq x3), (4, dIq x4)] [] [] [] []) =
 cond (decide (x4 < (lM gY x0 : Int))) (
 cond (decide (x4 < 32)) (
  ayo (C61 Γ) Λ2 J (List.map gY x0) x3 x4 x4 (decide (x4 < 32))) (
 (rI x3))) (
 (rI x3)) := by kernel_rfl
end
abbrev X61 : aS := C61 gG
theorem awf : X61 = aT gG := rfl
abbrev aDj := ayo X61 (cC SE gG (SE.hl 61) (SE.hr 61)) (J0 SE X61)
abbrev axS := apt X61 (cC SE gG (SE.hl 61) (SE.hr 61)) (J0 SE X61)
theorem alS (k3 : (List Bool) → Int → Int → Option (Int)) (hk3 : ∀ (x0 : List Bool) (x3 x4 : Int), Le (Option.map aJ (k3 x0 x3 x4)) (axS (List.map gY x0) x3 x4)) (x0 : List Bool) (x3 x4 x10 : Int) (x11 : Bool) : Le (Option.map aJ (adq k3 x0 x3 x4 x10 x11)) (aDj (List.map gY x0) x3 x4 x10 x11) := by
 refine Le.trans ?_ (le_of_eq ((bD awf).trans (aEX ..)).symm)
 unfold adq
 refine lGe ?_
 refine lDe ?_ ?_
 ·refine lF ?_
  exact hk3 x0 (bY .or .i64 x3 (shl .i64 1 x4)) (w6 (x4 + 1))
 ·exact hk3 x0 x3 (w6 (x4 + 1))
theorem alX : ∀ (fu : Nat) (x0 : List Bool) (x3 x4 : Int), Le (Option.map aJ (aaz fu x0 x3 x4)) (axS (List.map gY x0) x3 x4) := by
 intro fu
 induction fu with
 | zero => intros; exact le_none
 | succ fu ih =>
  intro x0 x3 x4
  refine Le.trans ?_ (le_of_eq ((bD awf).trans (aFk ..)).symm)
  unfold aaz
  refine lDe ?_ ?_
  ·refine lC ?_ ?_
   ·exact alS _ (ih) x0 x3 x4 x4 (decide (x4 < 32))
   ·exact aG rfl
  ·exact aG rfl
theorem xC (p0 : List Bool) : Le (Option.map aJ (pN p0)) (bH SE 61 [.d (.sl [.bool] (List.map gY p0))] [] []) := by
 refine aZ awf rfl ?_
 refine Le.trans ?_ (le_of_eq (T61 ..).symm)
 unfold pN
 exact alX fuel p0 0 0
def atZ (C : aS) (Λ2 J : Lam) (a0 : List (List D)) (a1 a2 : Int) (a3 : List (List D)) : Res := lab SE C Λ2 J 62 0 [1, 1, 1, 1, 1, 1, 1, 0, 1, 0] (bA [(5, .row 3005), (45, .d (.sl aB.ks a0)), (46, dIq a1), (47, dIq a2)] [] [] [] [(3005, ⟨[.int .u8], 5, 1, a3⟩)])
section
variable (Γ : Fun) (γ95 γ20 : Gm ((List Int))) (γ61 : Gm (Int)) (Λ2 J : Lam)
def C62 : aS := bG (bG (bG (aT Γ) 95 aR γ95) 20 aR γ20) 61 aJ γ61
theorem T62 (p0 : List Int) (p1 : aF) : bL SE (C62 Γ γ95 γ20 γ61) Λ2 J 62 [.d (.sl [.int .u8] (List.map (aN .u8) p0)), aF.av p1] [] [] =
 γ95 [.d (.sl [.int .u8] (List.map (aN .u8) p0)), dSq p1.Topic] [] [] fun r0 =>
 γ95 [.d (.sl [.int .u8] (List.map (aN .u8) r0)), dSq p1.Payload] [] [] fun r1 =>
 γ20 [.d (.sl [.int .u8] (List.map (aN .u8) r1)), dIq p1.Level] [] [] fun r2 =>
 γ61 [.d (.sl [.bool] (List.map gY [p1.Retain]))] [] [] fun r3 =>
 γ20 [.d (.sl [.int .u8] (List.map (aN .u8) r2)), dIq r3] [] [] fun r4 =>
 γ20 [.d (.sl [.int .u8] (List.map (aN .u8) r4)), dIq p1.Priority] [] [] fun r5 =>
 γ20 [.d (.sl [.int .u8] (List.map (aN .u8) r5)), dIq p1.Expires] [] [] fun r6 =>
 γ95 [.d (.sl [.int .u8] (List.map (aN .u8) r6)), dSq p1.From] [] [] fun r7 =>
 γ20 [.d (.sl [.int .u8] (List.map (aN .u8) r7)), dIq p1.Seq] [] [] fun r8 =>
 γ20 [.d (.sl [.int .u8] (List.map (aN .u8) r8)), dIq (lM aB.enc p1.Props : Int)] [] [] fun r9 =>
 atZ (C62 Γ γ95 γ20 γ61) Λ2 J (List.map aB.enc p1.Props) (lM aB.enc p1.Props : Int) 0 (List.map (aN .u8) r9) := by kernel_rfl
theorem aER (x45 : List aB) (x46 x47 : Int) (w3005 : List Int) : cJ SE (C62 Γ γ95 γ20 γ61) Λ2 J 62 0 [1, 1, 1, 1, 1, 1, 1, 0, 1, 0] (bA [(5, .row 3005), (45, .d (.sl aB.ks (List.map aB.enc x45))), (46, dIq x46), (47, dIq x47)] [] [] [] [(3005, ⟨[.int .u8], 5, 1, (List.map (aN .u8) w3005)⟩)]) =
 cond (decide (x47 < x46)) (
 cond (iB x47 (lM aB.enc x45 : Int)) (
  γ95 [.d (.sl [.int .u8] (List.map (aN .u8) w3005)), dSq (bQ (cE aB.enc x45 x47 0))] [] [] fun r10 =>
  γ95 [.d (.sl [.int .u8] (List.map (aN .u8) r10)), dSq (bQ (cE aB.enc x45 x47 1))] [] [] fun r11 =>
  atZ (C62 Γ γ95 γ20 γ61) Λ2 J (List.map aB.enc x45) x46 (w6 (x47 + 1)) (List.map (aN .u8) r11)) none) (
 (some (aR w3005))) := by kernel_rfl
end
abbrev X62 : aS := C62 gG (cT 95 aR) (cT 20 aR) (cT 61 aJ)
theorem aBK : X62 = aT gG := by unfold X62 C62; repeat rw [bJ fun _ h => h]
abbrev aEM := atZ X62 (cC SE gG (SE.hl 62) (SE.hr 62)) (J0 SE X62)
theorem akU : ∀ (fu : Nat) (x45 : List aB) (x46 x47 : Int) (w3005 : List Int), Le (Option.map aR (nA fu x45 x46 x47 w3005)) (aEM (List.map aB.enc x45) x46 x47 (List.map (aN .u8) w3005)) := by
 intro fu
 induction fu with
 | zero => intros; exact le_none
 | succ fu ih =>
  intro x45 x46 x47 w3005
  refine Le.trans ?_ (le_of_eq ((bD aBK).trans (aER ..)).symm)
  unfold nA
  refine lC ?_ ?_
  ·refine lGe ?_
   refine lQ eX aX (by (try simp only [EN]); exact mD w3005 ((List.getD x45 (Int.toNat x47) default).Key)) fun r10 _ => ?_
   refine lQ eX aX (by (try simp only [EN]); exact mD r10 ((List.getD x45 (Int.toNat x47) default).Value)) fun r11 _ => ?_
   exact ih x45 x46 (w6 (x47 + 1)) r11
  ·exact aG rfl
theorem ahn (p0 : List Int) (p1 : aF) : Le (Option.map aR (uS p0 p1)) (bH SE 62 [.d (.sl [.int .u8] (List.map (aN .u8) p0)), aF.av p1] [] []) := by
 refine aZ aBK rfl ?_
 refine Le.trans ?_ (le_of_eq (T62 ..).symm)
 unfold uS
 refine lQ eX aX (mD _ _) fun r0 _ => ?_
 refine lQ eX aX (mD _ _) fun r1 _ => ?_
 refine lQ eX aX (cI _ _) fun r2 _ => ?_
 refine lQ eX bE (xC _) fun r3 _ => ?_
 refine lQ eX aX (cI _ _) fun r4 _ => ?_
 refine lQ eX aX (cI _ _) fun r5 _ => ?_
 refine lQ eX aX (cI _ _) fun r6 _ => ?_
 refine lQ eX aX (mD _ _) fun r7 _ => ?_
 refine lQ eX aX (cI _ _) fun r8 _ => ?_
 refine lQ eX aX (by (try simp only [EN]); exact cI r8 (List.length p1.Props : Int)) fun r9 _ => ?_
 (try simp only [EN]); exact akU fuel p1.Props (List.length p1.Props : Int) 0 r9
def asL (C : aS) (Λ2 J : Lam) (a0 a1 : Int) (a2 : List D) (a3 a4 : List (List D)) : Res := lab SE C Λ2 J 60 0 [1, 1, 1, 0, 1, 0] (bA [(3, .ptr 1000000000 0), (5, .row 3005), (30, .row 3030), (31, dIq a0), (32, dIq a1)] [⟨53, (List.map AV.d a2)⟩] [] [] [(3005, ⟨[.int .u8], 5, 1, a3⟩), (3030, ⟨[.int .i64], 3, 8, a4⟩)])
section
variable (Γ : Fun) (γ95 : Gm ((List Int))) (γ61 : Gm (Int)) (γ20 γ62 : Gm ((List Int))) (Λ2 J : Lam)
def C60 : aS := bG (bG (bG (bG (aT Γ) 95 aR γ95) 61 aJ γ61) 20 aR γ20) 62 aR γ62
theorem T60 (p0 : List Int) (p1 : aA) : bL SE (C60 Γ γ95 γ61 γ20 γ62) Λ2 J 60 [.d (.sl [.int .u8] (List.map (aN .u8) p0)), aA.av p1] [] [] =
 γ95 [.d (.sl [.int .u8] (List.map (aN .u8) p0)), dSq p1.Client] [] [] fun r0 =>
 γ95 [.d (.sl [.int .u8] (List.map (aN .u8) r0)), dSq p1.User] [] [] fun r1 =>
 γ61 [.d (.sl [.bool] (List.map gY [p1.Clean, p1.Will.Set]))] [] [] fun r2 =>
 γ20 [.d (.sl [.int .u8] (List.map (aN .u8) r1)), dIq r2] [] [] fun r3 =>
 asL (C60 Γ γ95 γ61 γ20 γ62) Λ2 J (lM eI [p1.Keep, p1.Expiry, p1.Window] : Int) 0 (aA.enc p1) (List.map (aN .u8) r3) (List.map eI [p1.Keep, p1.Expiry, p1.Window]) := by kernel_rfl
theorem aE4 (x31 x32 : Int) (b0 : aA) (w3005 w3030 : List Int) : cJ SE (C60 Γ γ95 γ61 γ20 γ62) Λ2 J 60 0 [1, 1, 1, 0, 1, 0] (bA [(3, .ptr 1000000000 0), (5, .row 3005), (30, .row 3030), (31, dIq x31), (32, dIq x32)] [⟨53, (List.map AV.d (aA.enc b0))⟩] [] [] [(3005, ⟨[.int .u8], 5, 1, (List.map (aN .u8) w3005)⟩), (3030, ⟨[.int .i64], 3, 8, (List.map eI w3030)⟩)]) =
 cond (decide (x32 < x31)) (
 cond (iB x32 (lM eI w3030 : Int)) (
  γ20 [.d (.sl [.int .u8] (List.map (aN .u8) w3005)), dIq (bC (cE eI w3030 x32 0))] [] [] fun r4 =>
  asL (C60 Γ γ95 γ61 γ20 γ62) Λ2 J x31 (w6 (x32 + 1)) (aA.enc b0) (List.map (aN .u8) r4) (List.map eI w3030)) none) (
 cond b0.Will.Set (
 γ20 [.d (.sl [.int .u8] (List.map (aN .u8) w3005)), dIq b0.Will.Delay] [] [] fun r5 =>
 γ62 [.d (.sl [.int .u8] (List.map (aN .u8) r5)), aF.av b0.Will.Message] [] [] fun r6 =>
 (some (aR r6))) (
 (some (aR w3005)))) := by kernel_rfl
end
abbrev X60 : aS := C60 gG (cT 95 aR) (cT 61 aJ) (cT 20 aR) (cT 62 aR)
theorem aAM : X60 = aT gG := by unfold X60 C60; repeat rw [bJ fun _ h => h]
abbrev aEY := asL X60 (cC SE gG (SE.hl 60) (SE.hr 60)) (J0 SE X60)
theorem ajH : ∀ (fu : Nat) (x31 x32 : Int) (b0 : aA) (w3005 w3030 : List Int), Le (Option.map aR (nZ fu x31 x32 b0 w3005 w3030)) (aEY x31 x32 (aA.enc b0) (List.map (aN .u8) w3005) (List.map eI w3030)) := by
 intro fu
 induction fu with
 | zero => intros; exact le_none
 | succ fu ih =>
  intro x31 x32 b0 w3005 w3030
  refine Le.trans ?_ (le_of_eq ((bD aAM).trans (aE4 ..)).symm)
  unfold nZ
  refine lC ?_ ?_
  ·refine lGe ?_
   refine lQ eX aX (by (try simp only [EN]); exact cI w3005 (List.getD w3030 (Int.toNat x32) default)) fun r4 _ => ?_
   exact ih x31 (w6 (x32 + 1)) b0 r4 w3030
  ·refine lC ?_ ?_
   ·refine lQ eX aX (cI _ _) fun r5 _ => ?_
    refine lQ eX aX (ahn _ _) fun r6 _ => ?_
    exact aG rfl
   ·exact aG rfl
theorem amI (p0 : List Int) (p1 : aA) : Le (Option.map aR (yF p0 p1)) (bH SE 60 [.d (.sl [.int .u8] (List.map (aN .u8) p0)), aA.av p1] [] []) := by
 refine aZ aAM rfl ?_
 refine Le.trans ?_ (le_of_eq (T60 ..).symm)
 unfold yF
 refine lQ eX aX (mD _ _) fun r0 _ => ?_
 refine lQ eX aX (mD _ _) fun r1 _ => ?_
 refine lQ eX bE (xC _) fun r2 _ => ?_
 refine lQ eX aX (cI _ _) fun r3 _ => ?_
 (try simp only [EN]); exact ajH fuel (List.length [p1.Keep, p1.Expiry, p1.Window] : Int) 0 p1 r3 [p1.Keep, p1.Expiry, p1.Window]
def as3 (C : aS) (Λ2 J : Lam) (a0 : List (List D)) (a1 a2 : Int) (a3 : List (List D)) : Res := lab SE C Λ2 J 63 0 [1, 1, 0, 1, 0] (bA [(5, .row 3005), (12, .d (.sl aH.ks a0)), (13, dIq a1), (14, dIq a2)] [] [] [] [(3005, ⟨[.int .u8], 5, 1, a3⟩)])
section
variable (Γ : Fun) (γ20 γ95 : Gm ((List Int))) (γ61 : Gm (Int)) (Λ2 J : Lam)
def C63 : aS := bG (bG (bG (aT Γ) 20 aR γ20) 95 aR γ95) 61 aJ γ61
theorem T63 (p0 : List Int) (p1 : List aH) : bL SE (C63 Γ γ20 γ95 γ61) Λ2 J 63 [.d (.sl [.int .u8] (List.map (aN .u8) p0)), .d (.sl aH.ks (List.map aH.enc p1))] [] [] =
 γ20 [.d (.sl [.int .u8] (List.map (aN .u8) p0)), dIq (lM aH.enc p1 : Int)] [] [] fun r0 =>
 as3 (C63 Γ γ20 γ95 γ61) Λ2 J (List.map aH.enc p1) (lM aH.enc p1 : Int) 0 (List.map (aN .u8) r0) := by kernel_rfl
theorem aDB (x12 : List aH) (x13 x14 : Int) (w3005 : List Int) : cJ SE (C63 Γ γ20 γ95 γ61) Λ2 J 63 0 [1, 1, 0, 1, 0] (bA [(5, .row 3005), (12, .d (.sl aH.ks (List.map aH.enc x12))), (13, dIq x13), (14, dIq x14)] [] [] [] [(3005, ⟨[.int .u8], 5, 1, (List.map (aN .u8) w3005)⟩)]) =
 cond (decide (x14 < x13)) (
 cond (iB x14 (lM aH.enc x12 : Int)) (
  γ95 [.d (.sl [.int .u8] (List.map (aN .u8) w3005)), dSq (bQ (cE aH.enc x12 x14 0))] [] [] fun r1 =>
  γ20 [.d (.sl [.int .u8] (List.map (aN .u8) r1)), dIq (bC (cE aH.enc x12 x14 1))] [] [] fun r2 =>
  γ61 [.d (.sl [.bool] [[D.bool (cF (cE aH.enc x12 x14 2))]])] [] [] fun r3 =>
  γ20 [.d (.sl [.int .u8] (List.map (aN .u8) r2)), dIq r3] [] [] fun r4 =>
  as3 (C63 Γ γ20 γ95 γ61) Λ2 J (List.map aH.enc x12) x13 (w6 (x14 + 1)) (List.map (aN .u8) r4)) none) (
 (some (aR w3005))) := by kernel_rfl
end
abbrev X63 : aS := C63 gG (cT 20 aR) (cT 95 aR) (cT 61 aJ)
theorem aAH : X63 = aT gG := by unfold X63 C63; repeat rw [bJ fun _ h => h]
abbrev aE9 := as3 X63 (cC SE gG (SE.hl 63) (SE.hr 63)) (J0 SE X63)
theorem aeK : ∀ (fu : Nat) (x12 : List aH) (x13 x14 : Int) (w3005 : List Int), Le (Option.map aR (jI fu x12 x13 x14 w3005)) (aE9 (List.map aH.enc x12) x13 x14 (List.map (aN .u8) w3005)) := by
 intro fu
 induction fu with
 | zero => intros; exact le_none
 | succ fu ih =>
  intro x12 x13 x14 w3005
  refine Le.trans ?_ (le_of_eq ((bD aAH).trans (aDB ..)).symm)
  unfold jI
  refine lC ?_ ?_
  ·refine lGe ?_
   refine lQ eX aX (by (try simp only [EN]); exact mD w3005 ((List.getD x12 (Int.toNat x14) default).Filter)) fun r1 _ => ?_
   refine lQ eX aX (by (try simp only [EN]); exact cI r1 ((List.getD x12 (Int.toNat x14) default).Level)) fun r2 _ => ?_
   refine lQ eX bE (by (try simp only [EN]); exact xC [(List.getD x12 (Int.toNat x14) default).NoLocal]) fun r3 _ => ?_
   refine lQ eX aX (cI _ _) fun r4 _ => ?_
   exact ih x12 x13 (w6 (x14 + 1)) r4
  ·exact aG rfl
theorem ahl (p0 : List Int) (p1 : List aH) : Le (Option.map aR (p8 p0 p1)) (bH SE 63 [.d (.sl [.int .u8] (List.map (aN .u8) p0)), .d (.sl aH.ks (List.map aH.enc p1))] [] []) := by
 refine aZ aAH rfl ?_
 refine Le.trans ?_ (le_of_eq (T63 ..).symm)
 unfold p8
 refine lQ eX aX (by (try simp only [EN]); exact cI p0 (List.length p1 : Int)) fun r0 _ => ?_
 (try simp only [EN]); exact aeK fuel p1 (List.length p1 : Int) 0 r0
def atH (C : aS) (Λ2 J : Lam) (a0 : List (List D)) (a1 a2 : Int) (a3 : List (List D)) : Res := lab SE C Λ2 J 64 0 [1, 1, 0, 1, 0] (bA [(5, .row 3005), (13, .d (.sl [.str] a0)), (14, dIq a1), (15, dIq a2)] [] [] [] [(3005, ⟨[.int .u8], 5, 1, a3⟩)])
section
variable (Γ : Fun) (γ34 γ33 : Gm ((List Int))) (Λ2 J : Lam)
def C64 : aS := bG (bG (aT Γ) 34 aR γ34) 33 aR γ33
theorem T64 (p0 : List Int) (p1 : List Str) : bL SE (C64 Γ γ34 γ33) Λ2 J 64 [.d (.sl [.int .u8] (List.map (aN .u8) p0)), .d (.sl [.str] (List.map bB p1))] [] [] =
 γ34 [.d (.sl [.int .u8] (List.map (aN .u8) p0)), dIq 10] [] [] fun r0 =>
 γ33 [.row 2000000000, dIq (lM bB p1 : Int)] [] [⟨[.int .u8], 5, 1, (List.map (aN .u8) r0)⟩] fun r1 =>
 atH (C64 Γ γ34 γ33) Λ2 J (List.map bB p1) (lM bB p1 : Int) 0 (List.map (aN .u8) r1) := by kernel_rfl
theorem aD5 (x13 : List Str) (x14 x15 : Int) (w3005 : List Int) : cJ SE (C64 Γ γ34 γ33) Λ2 J 64 0 [1, 1, 0, 1, 0] (bA [(5, .row 3005), (13, .d (.sl [.str] (List.map bB x13))), (14, dIq x14), (15, dIq x15)] [] [] [] [(3005, ⟨[.int .u8], 5, 1, (List.map (aN .u8) w3005)⟩)]) =
 cond (decide (x15 < x14)) (
 cond (iB x15 (lM bB x13 : Int)) (
  γ33 [.row 2000000000, dIq (List.length (bQ (cE bB x13 x15 0)) : Int)] [] [⟨[.int .u8], 5, 1, (List.map (aN .u8) w3005)⟩] fun r2 =>
  cond (decide ((lM (aN .u8) r2 + List.length (gB (bQ (cE bB x13 x15 0)))) * 1 ≤ 140737488355328)) (
  atH (C64 Γ γ34 γ33) Λ2 J (List.map bB x13) x14 (w6 (x15 + 1)) (((List.map (aN .u8) r2) ++ (gB (bQ (cE bB x13 x15 0)))))) none) none) (
 (some (aR w3005))) := by kernel_rfl
end
abbrev X64 : aS := C64 gG (cT 34 aR) (cT 33 aR)
theorem azw : X64 = aT gG := by unfold X64 C64; repeat rw [bJ fun _ h => h]
abbrev aC7 := atH X64 (cC SE gG (SE.hl 64) (SE.hr 64)) (J0 SE X64)
theorem aiC : ∀ (fu : Nat) (x13 : List Str) (x14 x15 : Int) (w3005 : List Int), Le (Option.map aR (mO fu x13 x14 x15 w3005)) (aC7 (List.map bB x13) x14 x15 (List.map (aN .u8) w3005)) := by
 intro fu
 induction fu with
 | zero => intros; exact le_none
 | succ fu ih =>
  intro x13 x14 x15 w3005
  refine Le.trans ?_ (le_of_eq ((bD azw).trans (aD5 ..)).symm)
  unfold mO
  refine lC ?_ ?_
  ·refine lGe ?_
   refine lQ eX aX (by (try simp only [EN]); exact acK w3005 (List.length (List.getD x13 (Int.toNat x15) default) : Int)) fun r2 _ => ?_
   refine lGe ?_
   (try simp only [EN]); exact ih x13 x14 (w6 (x15 + 1)) (r2 ++ (ofStr (List.getD x13 (Int.toNat x15) default)))
  ·exact aG rfl
theorem alP (p0 : List Int) (p1 : List Str) : Le (Option.map aR (wT p0 p1)) (bH SE 64 [.d (.sl [.int .u8] (List.map (aN .u8) p0)), .d (.sl [.str] (List.map bB p1))] [] []) := by
 refine aZ azw rfl ?_
 refine Le.trans ?_ (le_of_eq (T64 ..).symm)
 unfold wT
 refine lQ eX aX (adv _ _) fun r0 _ => ?_
 refine lQ eX aX (by (try simp only [EN]); exact acK r0 (List.length p1 : Int)) fun r1 _ => ?_
 (try simp only [EN]); exact aiC fuel p1 (List.length p1 : Int) 0 r1
end Te
end PX
