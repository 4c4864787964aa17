import Derived.Test.YthjloglncbnhfaaGreatDoorTab
set_option linter.unusedVariables false
set_option linter.unusedSimpArgs false
set_option maxRecDepth 100000
noncomputable section
namespace PX
open Go
open Md
namespace Te
abbrev cE {α : Type} (f : α → List D) (l : List α) (i : Int) (k : Nat) : D := cellAt (elemAt (List.map f l) (Int.toNat i)) k
abbrev lM {α : Type} (f : α → List D) (l : List α) : Nat := List.length (List.map f l)
abbrev iB (i n : Int) : Bool := decide (0 ≤ i) && decide (i < n)
abbrev w6 (x : Int) : Int := IntKind.wrap .i64 x
abbrev eI : Int → List D := encI .i64
theorem lGe {R : Type} {e : R → Out} {c c' : Bool} {a : Option R} {a' : Res} (h1 : Le (a.map e) a') (hc : c = c' := by simp only [EN]) : Le ((cond c a none).map e) (cond c' a' none) := lG hc h1
theorem lDe {R : Type} {e : R → Out} {c c' : Bool} {a b : Option R} {a' b' : Res} (h1 : Le (a.map e) a') (h2 : Le (b.map e) b') (hc : c = c' := by simp only [EN]) : Le ((cond c a b).map e) (cond c' a' b') := lD hc h1 h2
abbrev dIq (n : Int) : AV := .d (.int .i64 n)
abbrev dSq (s : Str) : AV := .d (.str s)
abbrev dBq (b : Bool) : AV := .d (.bool b)
abbrev rB (b : Bool) : Res := some (.ret [.d (.bool b)] [] [])
abbrev rI (n : Int) : Res := some (.ret [.d (.int .i64 n)] [] [])
abbrev zMq : aB := aB.mk [] [] 0 false 0 0 [] 0 []
abbrev zWq : aT := aT.mk false 0 zMq
abbrev zPq : aA := aA.mk 0 0 false zMq [] [] false 0 0 0 zWq false 0 [] [] []
noncomputable def apY (L : bP) (κ : Tau) (a0 a1 : Int) (a2 : Bool) (a3 : Str) (a4 : Nat) : Res := L SE (K κ) κ.Λ κ.J 26 0 [1, 1, 0, 1, 0, 0, 1, 1, 0, 1, 1, 0] (bE [(3, dIq a0), (4, .d (.int .i32 a1)), (5, dBq a2), (15, .it 4000)] [] [] [(4000, (a3, a4))] [])
noncomputable def aii (L : bP) (κ : Tau) (a0 : Str) (a1 : Nat) : Res := L SE (K κ) κ.Λ κ.J 26 0 [1, 1, 0, 1, 0] (bE [(15, .it 4000)] [] [] [(4000, (a0, a1))] [])
noncomputable def as7 (L : bP) (κ : Tau) (a0 : Str) : Res := L SE (K κ) κ.Λ κ.J 26 0 [1, 1, 0, 0] (bE [(0, dSq a0)] [] [] [] [])
theorem ajH (k4 : Str → Nat → Option (Bool)) (hk4 : ∀ (s4000 : Str) (i4000 : Nat), Le (Option.map aD (k4 s4000 i4000)) (aii lab (kF 26) s4000 i4000)) (x3 x4 : Int) (x5 : Bool) (s4000 : Str) (i4000 : Nat) : Le (Option.map aD (pH k4 x3 x4 x5 s4000 i4000)) (apY lab (kF 26) x3 x4 x5 s4000 i4000) := by
 refine bF (t := fun κ =>
  cond (!x5) (
  cond (x3 == 0) (
   (rB false)) (
  cond (x4 != 45) (
   cond (decide (x4 < 48)) (
   (rB false)) (
   cond (decide (x4 > 57)) (
   (rB false)) (
   aii lab κ s4000 i4000))) (
  aii lab κ s4000 i4000))) (
  aii lab κ s4000 i4000)) (fun _ => by kernel_rfl) ?_
 unfold pH
 repeat' first | (with_reducible first | refine lC ?_ ?_ | exact hk4 _ _ | refine aI ?_) | rfl | (simp only [EN, aD] <;> rfl)
theorem ajn : ∀ (fu : Nat) (s4000 : Str) (i4000 : Nat), Le (Option.map aD (kS fu s4000 i4000)) (aii lab (kF 26) s4000 i4000) := by
 intro fu
 induction fu with
 | zero => intros; exact le_none
 | succ fu ih =>
  intro s4000 i4000
  refine bF (t := fun κ =>
  cond (decide (i4000 < List.length s4000)) (
  cond (decide (((dec s4000 i4000).1 : Int) ≥ 97)) (
   apY lab κ (i4000 : Int) ((dec s4000 i4000).1 : Int) (decide (((dec s4000 i4000).1 : Int) ≤ 122)) s4000 (i4000 + (dec s4000 i4000).2)) (
  apY lab κ (i4000 : Int) ((dec s4000 i4000).1 : Int) false s4000 (i4000 + (dec s4000 i4000).2))) (
  (rB true))) (fun _ => by kernel_rfl) ?_
  unfold kS
  repeat' first | (with_reducible first | refine lC ?_ ?_ | exact ajH _ (ih) _ _ _ _ _ | refine aI ?_) | rfl | (simp only [EN, aD] <;> rfl)
theorem ajI (x0 : Str) : Le (Option.map aD (yK x0)) (as7 lab (kF 26) x0) := by
 refine bF (t := fun κ =>
  aii lab κ x0 0) (fun _ => by kernel_rfl) ?_
 unfold yK
 exact ajn fuel x0 0
theorem vB (p0 : Str) : Le (Option.map aD (pU p0)) (aW SE 26 [dSq p0] [] []) := by
 refine aZ (t := fun κ =>
  cond (decide ((List.length p0 : Int) < 1)) (
  (rB false)) (
  cond (decide ((List.length p0 : Int) > 16)) (
  (rB false)) (
  as7 lab κ p0))) (fun _ => by kernel_rfl) ?_
 unfold pU
 refine lC ?_ ?_
 ·exact aI rfl
 ·refine lC ?_ ?_
  ·exact aI rfl
  ·exact ajI p0
theorem aej (p0 : Int) : Le (Option.map bH (kP p0)) (aW SE 27 [dIq p0] [] []) := by
 refine aZ (t := fun κ =>
  cond (decide (p0 < 0)) (
  (some (bH ((aG.mk (if 32 < 0 then 32 else 0) [] (aK.mk [] 0)))))) (
  (some (bH ((aG.mk (if 32 < p0 then 32 else p0) [] (aK.mk [] 0))))))) (fun _ => by kernel_rfl) ?_
 unfold kP
 refine lC ?_ ?_
 ·exact aI rfl
 ·exact aI rfl
theorem yJ (p0 : Str) (p1 : Int) : Le (Option.map lS (qC p0 p1)) (aW SE 7 [dSq p0, dIq p1] [] []) := by
 refine aZ (t := fun κ =>
  κ.t 26 aD [dSq p0] [] [] fun r0 =>
  cond (!r0) (
  (some (.ret [.nilp, dIq 11] [] []))) (
  cond (decide (p1 < 1)) (
  (some (.ret [.nilp, dIq 1] [] []))) (
  cond (decide (p1 > 32)) (
  (some (.ret [.nilp, dIq 1] [] []))) (
  κ.t 27 bH [dIq p1] [] [] fun r1 =>
  (some (.ret [.ptr 0 0, dIq 0] [⟨83, [dSq p0, dIq 0, dIq r1.Limit, .d (.sl aC.ks (List.map aC.enc r1.Items)), .d (.sl [.int .i64] (List.map eI r1.Pool.Used)), dIq r1.Pool.Last, .d (.sl [.int .i64] (List.map eI [])), .d (.sl aB.ks (List.map aB.enc [])), dIq 0, dIq 0]⟩] [])))))) (fun _ => by kernel_rfl) ?_
 unfold qC
 refine lQ eX aP (vB _) fun r0 _ => ?_
 refine lC ?_ ?_
 ·exact aI rfl
 ·refine lC ?_ ?_
  ·exact aI rfl
  ·refine lC ?_ ?_
   ·exact aI rfl
   ·refine lQ eX iF (aej _) fun r1 _ => ?_
    exact aI rfl
theorem kW (p0 : client_Client) : Le (Option.map dV (gD p0)) (aW SE 10 [.ptr 2000000000 0] [⟨83, (client_Client.avs p0)⟩] []) := by
 refine aZ (t := fun κ =>
  (some (.ret [dBq (p0.state == 2)] [⟨83, (client_Client.avs p0)⟩] []))) (fun _ => by kernel_rfl) ?_
 unfold gD
 exact aI rfl
theorem hI (p0 : client_Client) : Le (Option.map cU (eP p0)) (aW SE 11 [.ptr 2000000000 0] [⟨83, (client_Client.avs p0)⟩] []) := by
 refine aZ (t := fun κ =>
  (some (.ret [dIq (w6 ((lM aC.enc p0.out.Items : Int) + (lM aB.enc p0.waiting : Int)))] [⟨83, (client_Client.avs p0)⟩] []))) (fun _ => by kernel_rfl) ?_
 unfold eP
 exact aI (by first | rfl | simp only [EN, cU] <;> rfl)
theorem oJ (p0 : List aE) : Le (Option.map cJ (eA p0)) (aW SE 55 [.d (.sl aE.ks (List.map aE.enc p0))] [] []) := by
 refine aZ (t := fun κ =>
  cond (List.isEmpty (List.map aE.enc p0)) (
  abp (
   (some (.ret [.row 0] [] [⟨aE.ks, 92, 32, []⟩]))) (
   cond (decide ((lM aE.enc [] + lM aE.enc p0) * 32 ≤ 140737488355328)) (
   (some (cJ (([] : List aE) ++ p0)))) none)) (
  cond (decide ((lM aE.enc [] + lM aE.enc p0) * 32 ≤ 140737488355328)) (
  (some (cJ (([] : List aE) ++ p0)))) none)) (fun _ => by kernel_rfl) ?_
 unfold eA
 refine lDe ?_ ?_
 ·refine alN ?_ ?_
  ·exact aI rfl
  ·refine lGe ?_
   exact aI rfl
 ·refine lGe ?_
  exact aI rfl
theorem k8 (p0 : aB) : Le (Option.map cZ (kT p0)) (aW SE 30 [aB.av p0] [] []) := by
 refine aZ (t := fun κ =>
  κ.t 55 cJ [.d (.sl aE.ks (List.map aE.enc p0.Props))] [] [] fun r0 =>
  (some (cZ (aB.mk p0.Topic p0.Payload p0.Level p0.Retain p0.Priority p0.Expires p0.From p0.Seq r0)))) (fun _ => by kernel_rfl) ?_
 unfold kT
 refine lQ eX n9 (oJ _) fun r0 _ => ?_
 exact aI rfl
theorem eO (p0 p1 p2 : Int) : Le (Option.map aD (fW p0 p1 p2)) (aW SE 68 [dIq p0, dIq p1, dIq p2] [] []) := by
 refine aZ (t := fun κ =>
  cond (decide (p0 ≥ p1)) (
  (rB (decide (p0 ≤ p2)))) (
  (rB false))) (fun _ => by kernel_rfl) ?_
 unfold fW
 refine lC ?_ ?_
 ·exact aI rfl
 ·exact aI rfl
theorem akZ (p0 : aA) : Le (Option.map bR (vL p0)) (aW SE 70 [aA.av p0] [] []) := by
 refine aZ (t := fun κ =>
  cond (p0.Kind == 1) (
  (some (bR ((aA.mk p0.Kind 0 false zMq p0.Client p0.User p0.Clean p0.Keep p0.Expiry p0.Window p0.Will false 0 [] [] []))))) (
  cond (p0.Kind == 2) (
  (some (bR ((aA.mk p0.Kind 0 false zMq [] [] false 0 0 0 zWq p0.Present p0.Code [] [] []))))) (
  cond (p0.Kind == 3) (
  (some (bR ((aA.mk p0.Kind p0.ID p0.Dup p0.Message [] [] false 0 0 0 zWq false 0 [] [] []))))) (
  cond (p0.Kind == 4) (
  (some (bR ((aA.mk p0.Kind p0.ID false zMq [] [] false 0 0 0 zWq false 0 [] [] []))))) (
  cond (p0.Kind == 5) (
  (some (bR ((aA.mk p0.Kind p0.ID false zMq [] [] false 0 0 0 zWq false 0 [] [] []))))) (
  cond (p0.Kind == 6) (
  (some (bR ((aA.mk p0.Kind p0.ID false zMq [] [] false 0 0 0 zWq false 0 [] [] []))))) (
  cond (p0.Kind == 7) (
  (some (bR ((aA.mk p0.Kind p0.ID false zMq [] [] false 0 0 0 zWq false 0 [] [] []))))) (
  cond (p0.Kind == 8) (
  (some (bR ((aA.mk p0.Kind p0.ID false zMq [] [] false 0 0 0 zWq false 0 p0.Subs [] []))))) (
  cond (p0.Kind == 9) (
  (some (bR ((aA.mk p0.Kind p0.ID false zMq [] [] false 0 0 0 zWq false 0 [] [] p0.Codes))))) (
  cond (p0.Kind == 11) (
  (some (bR ((aA.mk p0.Kind p0.ID false zMq [] [] false 0 0 0 zWq false 0 [] [] p0.Codes))))) (
  cond (p0.Kind == 10) (
  (some (bR ((aA.mk p0.Kind p0.ID false zMq [] [] false 0 0 0 zWq false 0 [] p0.Filters []))))) (
  cond (p0.Kind == 14) (
  (some (bR ((aA.mk p0.Kind 0 false zMq [] [] false 0 0 0 zWq false p0.Code [] [] []))))) (
  (some (bR ((aA.mk p0.Kind 0 false zMq [] [] false 0 0 0 zWq false 0 [] [] []))))))))))))))))) (fun _ => by kernel_rfl) ?_
 unfold vL
 repeat' first | (with_reducible first | refine lC ?_ ?_ | refine aI ?_) | rfl | (simp only [EN, bR] <;> rfl)
theorem aiI (p0 : aA) : Le (Option.map lH (tN p0)) (aW SE 106 [aA.av p0] [] []) := by
 refine aZ (t := fun κ =>
  (some (.ret [bS.av (bS.mk p0.Kind p0.ID p0.Keep p0.Expiry p0.Window p0.Code p0.Will.Delay p0.Dup p0.Clean p0.Present p0.Will.Set p0.Client p0.User)] [] []))) (fun _ => by kernel_rfl) ?_
 unfold tN
 exact aI rfl
noncomputable def anf (L : bP) (κ : Tau) (a0 : List (List D)) (a1 a2 : Int) (a3 : List D) : Res := L SE (K κ) κ.Λ κ.J 107 0 [1, 1, 0, 1, 0] (bE [(3, .ptr 1000000000 0), (71, .d (.sl aE.ks a0)), (72, dIq a1), (73, dIq a2)] [⟨54, (List.map AV.d a3)⟩] [] [] [])
noncomputable def aqC (L : bP) (κ : Tau) (a0 a1 : List D) : Res := L SE (K κ) κ.Λ κ.J 107 0 [1, 1, 0, 0] (bE [(2, .ptr 1000000000 0), (3, .ptr 1000000001 0)] [⟨54, (List.map AV.d a0)⟩, ⟨54, (List.map AV.d a1)⟩] [] [] [])
theorem ahg : ∀ (fu : Nat) (x71 : List aE) (x72 x73 : Int) (b0 : aB), Le (Option.map aD (mJ fu x71 x72 x73 b0)) (anf lab (kF 107) (List.map aE.enc x71) x72 x73 (aB.enc b0)) := by
 intro fu
 induction fu with
 | zero => intros; exact le_none
 | succ fu ih =>
  intro x71 x72 x73 b0
  refine bF (t := fun κ =>
  cond (decide (x73 < x72)) (
  cond (iB x73 (lM aE.enc x71 : Int)) (
   cond (iB x73 (lM aE.enc b0.Props : Int)) (
   cond (!(((aU (cE aE.enc x71 x73 0)) == (aU (cE aE.enc b0.Props x73 0))) && (((aU (cE aE.enc x71 x73 1)) == (aU (cE aE.enc b0.Props x73 1))) && true))) (
    (rB false)) (
   anf lab κ (List.map aE.enc x71) x72 (w6 (x73 + 1)) (aB.enc b0))) none) none) (
  (rB true))) (fun _ => by kernel_rfl) ?_
  unfold mJ
  refine lC ?_ ?_
  ·refine lGe ?_
   refine lGe ?_
   refine lDe ?_ ?_
   ·exact aI rfl
   ·exact ih x71 x72 (w6 (x73 + 1)) b0
  ·exact aI rfl
theorem ahf (b0 b1 : aB) : Le (Option.map aD (vZ b0 b1)) (aqC lab (kF 107) (aB.enc b0) (aB.enc b1)) := by
 refine bF (t := fun κ =>
  anf lab κ (List.map aE.enc b0.Props) (lM aE.enc b0.Props : Int) 0 (aB.enc b1)) (fun _ => by kernel_rfl) ?_
 unfold vZ
 (try simp only [EN]); exact ahg fuel b0.Props (List.length b0.Props : Int) 0 b1
theorem aag (p0 p1 : aB) : Le (Option.map aD (oO p0 p1)) (aW SE 107 [aB.av p0, aB.av p1] [] []) := by
 refine aZ (t := fun κ =>
  cond (!(p0.Topic == p1.Topic)) (
  (rB false)) (
  cond (!(p0.Payload == p1.Payload)) (
  (rB false)) (
  cond (p0.Level != p1.Level) (
  (rB false)) (
  cond (p0.Retain != p1.Retain) (
  (rB false)) (
  cond (p0.Priority != p1.Priority) (
  (rB false)) (
  cond (p0.Expires != p1.Expires) (
  (rB false)) (
  cond (!(p0.From == p1.From)) (
  (rB false)) (
  cond (p0.Seq != p1.Seq) (
  (rB false)) (
  cond ((lM aE.enc p0.Props : Int) != (lM aE.enc p1.Props : Int)) (
  (rB false)) (
  aqC lab κ (aB.enc p0) (aB.enc p1))))))))))) (fun _ => by kernel_rfl) ?_
 unfold oO
 repeat' first | (with_reducible first | refine lC ?_ ?_ | refine lD ?_ ?_ ?_ | exact ahf _ _ | refine aI ?_) | rfl | (simp only [EN]; done) | (simp only [EN, aD] <;> rfl)
noncomputable def anM (L : bP) (κ : Tau) (a0 a1 : List (List D)) (a2 a3 : Int) : Res := L SE (K κ) κ.Λ κ.J 108 0 [1, 1, 0, 1, 0] (bE [(1, .d (.sl aN.ks a0)), (12, .d (.sl aN.ks a1)), (13, dIq a2), (14, dIq a3)] [] [] [] [])
theorem aiH : ∀ (fu : Nat) (x1 x12 : List aN) (x13 x14 : Int), Le (Option.map aD (n3 fu x1 x12 x13 x14)) (anM lab (kF 108) (List.map aN.enc x1) (List.map aN.enc x12) x13 x14) := by
 intro fu
 induction fu with
 | zero => intros; exact le_none
 | succ fu ih =>
  intro x1 x12 x13 x14
  refine bF (t := fun κ =>
  cond (decide (x14 < x13)) (
  cond (iB x14 (lM aN.enc x12 : Int)) (
   cond (iB x14 (lM aN.enc x1 : Int)) (
   cond (!(((aU (cE aN.enc x12 x14 0)) == (aU (cE aN.enc x1 x14 0))) && (((aL (cE aN.enc x12 x14 1)) == (aL (cE aN.enc x1 x14 1))) && (((bA (cE aN.enc x12 x14 2)) == (bA (cE aN.enc x1 x14 2))) && true)))) (
    (rB false)) (
   anM lab κ (List.map aN.enc x1) (List.map aN.enc x12) x13 (w6 (x14 + 1)))) none) none) (
  (rB true))) (fun _ => by kernel_rfl) ?_
  unfold n3
  refine lC ?_ ?_
  ·refine lGe ?_
   refine lGe ?_
   refine lDe ?_ ?_
   ·exact aI rfl
   ·exact ih x1 x12 x13 (w6 (x14 + 1))
  ·exact aI rfl
theorem alb (p0 p1 : List aN) : Le (Option.map aD (xV p0 p1)) (aW SE 108 [.d (.sl aN.ks (List.map aN.enc p0)), .d (.sl aN.ks (List.map aN.enc p1))] [] []) := by
 refine aZ (t := fun κ =>
  cond ((lM aN.enc p0 : Int) != (lM aN.enc p1 : Int)) (
  (rB false)) (
  anM lab κ (List.map aN.enc p1) (List.map aN.enc p0) (lM aN.enc p0 : Int) 0)) (fun _ => by kernel_rfl) ?_
 unfold xV
 refine lDe ?_ ?_
 ·exact aI rfl
 ·(try simp only [EN]); exact aiH fuel p1 p0 (List.length p0 : Int) 0
noncomputable def anD (L : bP) (κ : Tau) (a0 a1 : List (List D)) (a2 a3 : Int) : Res := L SE (K κ) κ.Λ κ.J 109 0 [1, 1, 0, 1, 0] (bE [(1, .d (.sl [.str] a0)), (12, .d (.sl [.str] a1)), (13, dIq a2), (14, dIq a3)] [] [] [] [])
theorem ahv : ∀ (fu : Nat) (x1 x12 : List Str) (x13 x14 : Int), Le (Option.map aD (mN fu x1 x12 x13 x14)) (anD lab (kF 109) (List.map bD x1) (List.map bD x12) x13 x14) := by
 intro fu
 induction fu with
 | zero => intros; exact le_none
 | succ fu ih =>
  intro x1 x12 x13 x14
  refine bF (t := fun κ =>
  cond (decide (x14 < x13)) (
  cond (iB x14 (lM bD x12 : Int)) (
   cond (iB x14 (lM bD x1 : Int)) (
   cond (!((aU (cE bD x12 x14 0)) == (aU (cE bD x1 x14 0)))) (
    (rB false)) (
   anD lab κ (List.map bD x1) (List.map bD x12) x13 (w6 (x14 + 1)))) none) none) (
  (rB true))) (fun _ => by kernel_rfl) ?_
  unfold mN
  refine lC ?_ ?_
  ·refine lGe ?_
   refine lGe ?_
   refine lDe ?_ ?_
   ·exact aI rfl
   ·exact ih x1 x12 x13 (w6 (x14 + 1))
  ·exact aI rfl
theorem akB (p0 p1 : List Str) : Le (Option.map aD (wQ p0 p1)) (aW SE 109 [.d (.sl [.str] (List.map bD p0)), .d (.sl [.str] (List.map bD p1))] [] []) := by
 refine aZ (t := fun κ =>
  cond ((lM bD p0 : Int) != (lM bD p1 : Int)) (
  (rB false)) (
  anD lab κ (List.map bD p1) (List.map bD p0) (lM bD p0 : Int) 0)) (fun _ => by kernel_rfl) ?_
 unfold wQ
 refine lDe ?_ ?_
 ·exact aI rfl
 ·(try simp only [EN]); exact ahv fuel p1 p0 (List.length p0 : Int) 0
noncomputable def an6 (L : bP) (κ : Tau) (a0 a1 : List (List D)) (a2 a3 : Int) : Res := L SE (K κ) κ.Λ κ.J 110 0 [1, 1, 0, 1, 0] (bE [(1, .d (.sl [.int .i64] a0)), (12, .d (.sl [.int .i64] a1)), (13, dIq a2), (14, dIq a3)] [] [] [] [])
theorem ags : ∀ (fu : Nat) (x1 x12 : List Int) (x13 x14 : Int), Le (Option.map aD (j7 fu x1 x12 x13 x14)) (an6 lab (kF 110) (List.map eI x1) (List.map eI x12) x13 x14) := by
 intro fu
 induction fu with
 | zero => intros; exact le_none
 | succ fu ih =>
  intro x1 x12 x13 x14
  refine bF (t := fun κ =>
  cond (decide (x14 < x13)) (
  cond (iB x14 (lM eI x12 : Int)) (
   cond (iB x14 (lM eI x1 : Int)) (
   cond ((aL (cE eI x12 x14 0)) != (aL (cE eI x1 x14 0))) (
    (rB false)) (
   an6 lab κ (List.map eI x1) (List.map eI x12) x13 (w6 (x14 + 1)))) none) none) (
  (rB true))) (fun _ => by kernel_rfl) ?_
  unfold j7
  refine lC ?_ ?_
  ·refine lGe ?_
   refine lGe ?_
   refine lDe ?_ ?_
   ·exact aI rfl
   ·exact ih x1 x12 x13 (w6 (x14 + 1))
  ·exact aI rfl
theorem aiL (p0 p1 : List Int) : Le (Option.map aD (tP p0 p1)) (aW SE 110 [.d (.sl [.int .i64] (List.map eI p0)), .d (.sl [.int .i64] (List.map eI p1))] [] []) := by
 refine aZ (t := fun κ =>
  cond ((lM eI p0 : Int) != (lM eI p1 : Int)) (
  (rB false)) (
  an6 lab κ (List.map eI p1) (List.map eI p0) (lM eI p0 : Int) 0)) (fun _ => by kernel_rfl) ?_
 unfold tP
 refine lDe ?_ ?_
 ·exact aI rfl
 ·(try simp only [EN]); exact ags fuel p1 p0 (List.length p0 : Int) 0
theorem alh (p0 p1 : aA) : Le (Option.map aD (xW p0 p1)) (aW SE 69 [aA.av p0, aA.av p1] [] []) := by
 refine aZ (t := fun κ =>
  κ.t 106 lH [aA.av p0] [] [] fun r0 =>
  κ.t 106 lH [aA.av p1] [] [] fun r1 =>
  cond ((r0.kind == r1.kind) && ((r0.id == r1.id) && ((r0.keep == r1.keep) && ((r0.expiry == r1.expiry) && ((r0.window == r1.window) && ((r0.code == r1.code) && ((r0.delay == r1.delay) && ((r0.dup == r1.dup) && ((r0.clean == r1.clean) && ((r0.present == r1.present) && ((r0.set_ == r1.set_) && ((r0.client == r1.client) && ((r0.user == r1.user) && true))))))))))))) (
  κ.t 107 aD [aB.av p0.Message, aB.av p1.Message] [] [] fun r2 =>
  cond r2 (
   κ.t 107 aD [aB.av p0.Will.Message, aB.av p1.Will.Message] [] [] fun r3 =>
   cond r3 (
   κ.t 108 aD [.d (.sl aN.ks (List.map aN.enc p0.Subs)), .d (.sl aN.ks (List.map aN.enc p1.Subs))] [] [] fun r4 =>
   cond r4 (
    κ.t 109 aD [.d (.sl [.str] (List.map bD p0.Filters)), .d (.sl [.str] (List.map bD p1.Filters))] [] [] fun r5 =>
    cond r5 (
    κ.t 110 aD [.d (.sl [.int .i64] (List.map eI p0.Codes)), .d (.sl [.int .i64] (List.map eI p1.Codes))] [] [] fun r6 =>
    (rB r6)) (
    (rB false))) (
   (rB false))) (
   (rB false))) (
  (rB false))) (
  (rB false))) (fun _ => by kernel_rfl) ?_
 unfold xW
 repeat' first | (with_reducible first | refine lC ?_ ?_ | refine lQ eX ahJ ?_ fun _ _ => ?_ | refine lQ eX aP ?_ fun _ _ => ?_ | refine lQ eX aP ?_ fun _ _ => ?_ | refine lQ eX aP ?_ fun _ _ => ?_ | refine lQ eX aP ?_ fun _ _ => ?_ | exact aiI _ | exact aag _ _ | exact alb _ _ | exact akB _ _ | exact aiL _ _ | refine aI ?_) | rfl | (simp only [EN, aD] <;> rfl)
noncomputable def am0 (L : bP) (κ : Tau) (a0 : Int) (a1 : Str) (a2 : Nat) : Res := L SE (K κ) κ.Λ κ.J 95 0 [1, 1, 1, 0, 1, 0] (bE [(3, dIq a0), (15, .it 4000)] [] [] [(4000, (a1, a2))] [])
noncomputable def atg (L : bP) (κ : Tau) (a0 : Str) : Res := L SE (K κ) κ.Λ κ.J 95 0 [1, 1, 0] (bE [(0, dSq a0)] [] [] [] [])
theorem aiP : ∀ (fu : Nat) (x3 : Int) (s4000 : Str) (i4000 : Nat), Le (Option.map aD (jY fu x3 s4000 i4000)) (am0 lab (kF 95) x3 s4000 i4000) := by
 intro fu
 induction fu with
 | zero => intros; exact le_none
 | succ fu ih =>
  intro x3 s4000 i4000
  refine bF (t := fun κ =>
  cond (decide (i4000 < List.length s4000)) (
  cond (((dec s4000 i4000).1 : Int) == 0) (
   (rB false)) (
  cond (((dec s4000 i4000).1 : Int) == 47) (
   am0 lab κ (w6 (x3 + 1)) s4000 (i4000 + (dec s4000 i4000).2)) (
  am0 lab κ x3 s4000 (i4000 + (dec s4000 i4000).2)))) (
  (rB (decide (x3 ≤ 8))))) (fun _ => by kernel_rfl) ?_
  unfold jY
  repeat' first | (with_reducible first | refine lC ?_ ?_ | exact ih _ _ _ | refine aI ?_) | rfl | (simp only [EN, aD] <;> rfl)
theorem aiO (x0 : Str) : Le (Option.map aD (xF x0)) (atg lab (kF 95) x0) := by
 refine bF (t := fun κ =>
  am0 lab κ 1 x0 0) (fun _ => by kernel_rfl) ?_
 unfold xF
 exact aiP fuel 1 x0 0
theorem afe (p0 : Str) : Le (Option.map aD (vI p0)) (aW SE 95 [dSq p0] [] []) := by
 refine aZ (t := fun κ =>
  cond (decide ((List.length p0 : Int) < 1)) (
  (rB false)) (
  cond (decide ((List.length p0 : Int) > 64)) (
  (rB false)) (
  atg lab κ p0))) (fun _ => by kernel_rfl) ?_
 unfold vI
 refine lC ?_ ?_
 ·exact aI rfl
 ·refine lC ?_ ?_
  ·exact aI rfl
  ·exact aiO p0
noncomputable def apC (L : bP) (κ : Tau) (a0 : Str) (a1 : Nat) : Res := L SE (K κ) κ.Λ κ.J 56 0 [1, 1, 0, 1, 0] (bE [(9, .it 4000)] [] [] [(4000, (a0, a1))] [])
theorem aiF : ∀ (fu : Nat) (s4000 : Str) (i4000 : Nat), Le (Option.map aD (lU fu s4000 i4000)) (apC lab (kF 56) s4000 i4000) := by
 intro fu
 induction fu with
 | zero => intros; exact le_none
 | succ fu ih =>
  intro s4000 i4000
  refine bF (t := fun κ =>
  cond (decide (i4000 < List.length s4000)) (
  cond (((dec s4000 i4000).1 : Int) == 43) (
   (rB false)) (
  cond (((dec s4000 i4000).1 : Int) == 35) (
   (rB false)) (
  apC lab κ s4000 (i4000 + (dec s4000 i4000).2)))) (
  (rB true))) (fun _ => by kernel_rfl) ?_
  unfold lU
  refine lC ?_ ?_
  ·refine lC ?_ ?_
   ·exact aI rfl
   ·refine lC ?_ ?_
    ·exact aI rfl
    ·exact ih s4000 (i4000 + (dec s4000 i4000).2)
  ·exact aI rfl
theorem alC (p0 : Str) : Le (Option.map aD (yD p0)) (aW SE 56 [dSq p0] [] []) := by
 refine aZ (t := fun κ =>
  κ.t 95 aD [dSq p0] [] [] fun r0 =>
  cond (!r0) (
  (rB false)) (
  apC lab κ p0 0)) (fun _ => by kernel_rfl) ?_
 unfold yD
 refine lQ eX aP (afe _) fun r0 _ => ?_
 refine lC ?_ ?_
 ·exact aI rfl
 ·exact aiF fuel p0 0
theorem amz (p0 p1 : Int) : Le (Option.map aD (pX p0 p1)) (aW SE 57 [dIq p0, dIq p1] [] []) := by
 refine aZ (t := fun κ =>
  cond (decide (p0 ≥ 0)) (
  (rB (decide (p0 ≤ p1)))) (
  (rB false))) (fun _ => by kernel_rfl) ?_
 unfold pX
 refine lC ?_ ?_
 ·exact aI rfl
 ·exact aI rfl
noncomputable def acg (L : bP) (κ : Tau) (a0 : Str) (a1 : Int) : Res := L SE (K κ) κ.Λ κ.J 96 0 [1, 1, 0, 1, 0] (bE [(0, dSq a0), (3, dIq a1)] [] [] [] [])
noncomputable def as6 (L : bP) (κ : Tau) (a0 : Str) : Res := L SE (K κ) κ.Λ κ.J 96 0 [1, 1, 0, 0] (bE [(0, dSq a0)] [] [] [] [])
theorem aiS : ∀ (fu : Nat) (x0 : Str) (x3 : Int), Le (Option.map aD (fJ fu x0 x3)) (acg lab (kF 96) x0 x3) := by
 intro fu
 induction fu with
 | zero => intros; exact le_none
 | succ fu ih =>
  intro x0 x3
  refine bF (t := fun κ =>
  cond (decide (x3 < (List.length x0 : Int))) (
  cond (iB x3 (List.length x0 : Int)) (
   cond (decide ((UInt8.toNat (List.getD x0 (Int.toNat x3) 0) : Int) < 97)) (
   cond (decide ((UInt8.toNat (List.getD x0 (Int.toNat x3) 0) : Int) < 48)) (
    cond ((UInt8.toNat (List.getD x0 (Int.toNat x3) 0) : Int) != 45) (
    (rB false)) (
    acg lab κ x0 (w6 (x3 + 1)))) (
   cond (decide ((UInt8.toNat (List.getD x0 (Int.toNat x3) 0) : Int) > 57)) (
    cond ((UInt8.toNat (List.getD x0 (Int.toNat x3) 0) : Int) != 45) (
    (rB false)) (
    acg lab κ x0 (w6 (x3 + 1)))) (
   acg lab κ x0 (w6 (x3 + 1))))) (
   cond (decide ((UInt8.toNat (List.getD x0 (Int.toNat x3) 0) : Int) > 122)) (
   cond (decide ((UInt8.toNat (List.getD x0 (Int.toNat x3) 0) : Int) < 48)) (
    cond ((UInt8.toNat (List.getD x0 (Int.toNat x3) 0) : Int) != 45) (
    (rB false)) (
    acg lab κ x0 (w6 (x3 + 1)))) (
   cond (decide ((UInt8.toNat (List.getD x0 (Int.toNat x3) 0) : Int) > 57)) (
    cond ((UInt8.toNat (List.getD x0 (Int.toNat x3) 0) : Int) != 45) (
    (rB false)) (
    acg lab κ x0 (w6 (x3 + 1)))) (
   acg lab κ x0 (w6 (x3 + 1))))) (
   acg lab κ x0 (w6 (x3 + 1))))) none) (
  (rB true))) (fun _ => by kernel_rfl) ?_
  unfold fJ
  repeat' first | (with_reducible first | refine lF ?_ | refine lC ?_ ?_ | exact ih _ _ | refine aI ?_) | rfl | (simp only [EN, aD] <;> rfl)
theorem aiR (x0 : Str) : Le (Option.map aD (xA x0)) (as6 lab (kF 96) x0) := by
 refine bF (t := fun κ =>
  acg lab κ x0 0) (fun _ => by kernel_rfl) ?_
 unfold xA
 exact aiS fuel x0 0
theorem afQ (p0 : Str) : Le (Option.map aD (xS p0)) (aW SE 96 [dSq p0] [] []) := by
 refine aZ (t := fun κ =>
  cond (decide ((List.length p0 : Int) < 1)) (
  (rB false)) (
  cond (decide ((List.length p0 : Int) > 16)) (
  (rB false)) (
  as6 lab κ p0))) (fun _ => by kernel_rfl) ?_
 unfold xS
 refine lC ?_ ?_
 ·exact aI rfl
 ·refine lC ?_ ?_
  ·exact aI rfl
  ·exact aiR p0
noncomputable def amY (L : bP) (κ : Tau) (a0 a1 : List (List D)) (a2 a3 : Int) : Res := L SE (K κ) κ.Λ κ.J 58 0 [1, 1, 0, 1, 0] (bE [(0, .d (.sl aE.ks a0)), (8, .d (.sl aE.ks a1)), (9, dIq a2), (10, dIq a3)] [] [] [] [])
theorem agX : ∀ (fu : Nat) (x0 x8 : List aE) (x9 x10 : Int), Le (Option.map aH (jV fu x0 x8 x9 x10)) (amY lab (kF 58) (List.map aE.enc x0) (List.map aE.enc x8) x9 x10) := by
 intro fu
 induction fu with
 | zero => intros; exact le_none
 | succ fu ih =>
  intro x0 x8 x9 x10
  refine bF (t := fun κ =>
  cond (decide (x10 < x9)) (
  cond (iB x10 (lM aE.enc x8 : Int)) (
   κ.t 96 aD [dSq (aU (cE aE.enc x8 x10 0))] [] [] fun r0 =>
   cond (!r0) (
   (rI 16)) (
   cond (decide ((List.length (aU (cE aE.enc x8 x10 1)) : Int) > 160)) (
   (rI 5)) (
   cond (decide (x10 > 0)) (
   cond (iB (w6 (x10 - 1)) (lM aE.enc x0 : Int)) (
    cond (Op.bytesLess (aU (cE aE.enc x8 x10 0)) (aU (cE aE.enc x0 (w6 (x10 - 1)) 0)) || (aU (cE aE.enc x8 x10 0)) == (aU (cE aE.enc x0 (w6 (x10 - 1)) 0))) (
    (rI 16)) (
    amY lab κ (List.map aE.enc x0) (List.map aE.enc x8) x9 (w6 (x10 + 1)))) none) (
   amY lab κ (List.map aE.enc x0) (List.map aE.enc x8) x9 (w6 (x10 + 1)))))) none) (
  (rI 0))) (fun _ => by kernel_rfl) ?_
  unfold jV
  repeat' first | (with_reducible first | refine lC ?_ ?_ | refine lQ eX aP ?_ fun _ _ => ?_ | refine lG ?_ ?_ | refine lD ?_ ?_ ?_ | exact afQ _ | exact ih _ _ _ _ | refine aI ?_) | rfl | (simp only [EN]; done) | (simp only [EN]; exact afQ _) | (simp only [EN, aH] <;> rfl)
theorem ajy (p0 : List aE) : Le (Option.map aH (rN p0)) (aW SE 58 [.d (.sl aE.ks (List.map aE.enc p0))] [] []) := by
 refine aZ (t := fun κ =>
  cond (decide ((lM aE.enc p0 : Int) > 8)) (
  (rI 5)) (
  amY lab κ (List.map aE.enc p0) (List.map aE.enc p0) (lM aE.enc p0 : Int) 0)) (fun _ => by kernel_rfl) ?_
 unfold rN
 refine lDe ?_ ?_
 ·exact aI rfl
 ·(try simp only [EN]); exact agX fuel p0 p0 (List.length p0 : Int) 0
theorem kY (p0 : aB) : Le (Option.map aH (g5 p0)) (aW SE 31 [aB.av p0] [] []) := by
 refine aZ (t := fun κ =>
  κ.t 56 aD [dSq p0.Topic] [] [] fun r0 =>
  cond (!r0) (
  (rI 12)) (
  cond (decide ((List.length p0.Payload : Int) > 256)) (
  (rI 5)) (
  κ.t 57 aD [dIq p0.Level, dIq 2] [] [] fun r1 =>
  cond (!r1) (
  (rI 14)) (
  κ.t 57 aD [dIq p0.Priority, dIq 9] [] [] fun r2 =>
  cond (!r2) (
  (rI 1)) (
  κ.t 57 aD [dIq p0.Expires, dIq 1099511627776] [] [] fun r3 =>
  cond (!r3) (
  (rI 1)) (
  cond (!(p0.From == ([] : Str))) (
  κ.t 26 aD [dSq p0.From] [] [] fun r4 =>
  cond (!r4) (
   (rI 11)) (
  κ.t 57 aD [dIq p0.Seq, dIq 1099511627776] [] [] fun r5 =>
  cond (!r5) (
   (rI 1)) (
  κ.t 58 aH [.d (.sl aE.ks (List.map aE.enc p0.Props))] [] [] fun r6 =>
  (rI r6)))) (
  κ.t 57 aD [dIq p0.Seq, dIq 1099511627776] [] [] fun r7 =>
  cond (!r7) (
  (rI 1)) (
  κ.t 58 aH [.d (.sl aE.ks (List.map aE.enc p0.Props))] [] [] fun r8 =>
  (rI r8))))))))) (fun _ => by kernel_rfl) ?_
 unfold g5
 repeat' first | (with_reducible first | refine lC ?_ ?_ | refine lQ eX aP ?_ fun _ _ => ?_ | refine lQ eX aP ?_ fun _ _ => ?_ | refine lQ eX aP ?_ fun _ _ => ?_ | refine lQ eX aX ?_ fun _ _ => ?_ | exact alC _ | exact amz _ _ | exact vB _ | exact ajy _ | refine aI ?_) | rfl | (simp only [EN, aH] <;> rfl)
theorem aiJ (p0 : aA) : Le (Option.map aH (tG p0)) (aW SE 71 [aA.av p0] [] []) := by
 refine aZ (t := fun κ =>
  κ.t 26 aD [dSq p0.Client] [] [] fun r0 =>
  cond (!r0) (
  (rI 11)) (
  cond (!(p0.User == ([] : Str))) (
  κ.t 26 aD [dSq p0.User] [] [] fun r1 =>
  cond (!r1) (
   (rI 11)) (
  κ.t 68 aD [dIq p0.Keep, dIq 0, dIq 1099511627776] [] [] fun r2 =>
  cond (!r2) (
   (rI 1)) (
  κ.t 68 aD [dIq p0.Expiry, dIq 0, dIq 1099511627776] [] [] fun r3 =>
  cond (!r3) (
   (rI 1)) (
  κ.t 68 aD [dIq p0.Window, dIq 1, dIq 32] [] [] fun r4 =>
  cond (!r4) (
   (rI 1)) (
  cond (!p0.Will.Set) (
   cond (p0.Will.Delay != 0) (
   (rI 28)) (
   κ.t 107 aD [aB.av p0.Will.Message, .agg [dSq [], dSq [], dIq 0, dBq false, dIq 0, dIq 0, dSq [], dIq 0, .d (.sl aE.ks (List.map aE.enc []))]] [] [] fun r5 =>
   cond (!r5) (
   (rI 28)) (
   cond (!p0.Will.Set) (
   (rI 0)) (
   κ.t 68 aD [dIq p0.Will.Delay, dIq 0, dIq 1099511627776] [] [] fun r6 =>
   cond (!r6) (
   (rI 1)) (
   κ.t 31 aH [aB.av p0.Will.Message] [] [] fun r7 =>
   (rI r7)))))) (
  cond (!p0.Will.Set) (
   (rI 0)) (
  κ.t 68 aD [dIq p0.Will.Delay, dIq 0, dIq 1099511627776] [] [] fun r8 =>
  cond (!r8) (
   (rI 1)) (
  κ.t 31 aH [aB.av p0.Will.Message] [] [] fun r9 =>
  (rI r9))))))))) (
  κ.t 68 aD [dIq p0.Keep, dIq 0, dIq 1099511627776] [] [] fun r10 =>
  cond (!r10) (
  (rI 1)) (
  κ.t 68 aD [dIq p0.Expiry, dIq 0, dIq 1099511627776] [] [] fun r11 =>
  cond (!r11) (
  (rI 1)) (
  κ.t 68 aD [dIq p0.Window, dIq 1, dIq 32] [] [] fun r12 =>
  cond (!r12) (
  (rI 1)) (
  cond (!p0.Will.Set) (
  cond (p0.Will.Delay != 0) (
   (rI 28)) (
  κ.t 107 aD [aB.av p0.Will.Message, .agg [dSq [], dSq [], dIq 0, dBq false, dIq 0, dIq 0, dSq [], dIq 0, .d (.sl aE.ks (List.map aE.enc []))]] [] [] fun r13 =>
  cond (!r13) (
   (rI 28)) (
  cond (!p0.Will.Set) (
   (rI 0)) (
  κ.t 68 aD [dIq p0.Will.Delay, dIq 0, dIq 1099511627776] [] [] fun r14 =>
  cond (!r14) (
   (rI 1)) (
  κ.t 31 aH [aB.av p0.Will.Message] [] [] fun r15 =>
  (rI r15)))))) (
  cond (!p0.Will.Set) (
  (rI 0)) (
  κ.t 68 aD [dIq p0.Will.Delay, dIq 0, dIq 1099511627776] [] [] fun r16 =>
  cond (!r16) (
  (rI 1)) (
  κ.t 31 aH [aB.av p0.Will.Message] [] [] fun r17 =>
  (rI r17)))))))))) (fun _ => by kernel_rfl) ?_
 unfold tG
 refine lQ eX aP (vB _) fun r0 _ => ?_
 refine lC ?_ ?_
 ·exact aI rfl
 ·refine lC ?_ ?_
  ·refine lQ eX aP (vB _) fun r1 _ => ?_
   refine lC ?_ ?_
   ·exact aI rfl
   ·refine lQ eX aP (eO _ _ _) fun r2 _ => ?_
    refine lC ?_ ?_
    ·exact aI rfl
    ·refine lQ eX aP (eO _ _ _) fun r3 _ => ?_
     refine lC ?_ ?_
     ·exact aI rfl
     ·refine lQ eX aP (eO _ _ _) fun r4 _ => ?_
      refine lC ?_ ?_
      ·exact aI rfl
      ·refine lC ?_ ?_
       ·refine lC ?_ ?_
        ·exact aI rfl
        ·refine lQ eX aP (by (try simp only [EN]); exact aag p0.Will.Message (zMq)) fun r5 _ => ?_
         refine lC ?_ ?_
         ·exact aI rfl
         ·refine lC ?_ ?_
          ·exact aI rfl
          ·refine lQ eX aP (eO _ _ _) fun r6 _ => ?_
           refine lC ?_ ?_
           ·exact aI rfl
           ·refine lQ eX aX (kY _) fun r7 _ => ?_
            exact aI rfl
       ·refine lC ?_ ?_
        ·exact aI rfl
        ·refine lQ eX aP (eO _ _ _) fun r8 _ => ?_
         refine lC ?_ ?_
         ·exact aI rfl
         ·refine lQ eX aX (kY _) fun r9 _ => ?_
          exact aI rfl
  ·refine lQ eX aP (eO _ _ _) fun r10 _ => ?_
   refine lC ?_ ?_
   ·exact aI rfl
   ·refine lQ eX aP (eO _ _ _) fun r11 _ => ?_
    refine lC ?_ ?_
    ·exact aI rfl
    ·refine lQ eX aP (eO _ _ _) fun r12 _ => ?_
     refine lC ?_ ?_
     ·exact aI rfl
     ·refine lC ?_ ?_
      ·refine lC ?_ ?_
       ·exact aI rfl
       ·refine lQ eX aP (by (try simp only [EN]); exact aag p0.Will.Message (zMq)) fun r13 _ => ?_
        refine lC ?_ ?_
        ·exact aI rfl
        ·refine lC ?_ ?_
         ·exact aI rfl
         ·refine lQ eX aP (eO _ _ _) fun r14 _ => ?_
          refine lC ?_ ?_
          ·exact aI rfl
          ·refine lQ eX aX (kY _) fun r15 _ => ?_
           exact aI rfl
      ·refine lC ?_ ?_
       ·exact aI rfl
       ·refine lQ eX aP (eO _ _ _) fun r16 _ => ?_
        refine lC ?_ ?_
        ·exact aI rfl
        ·refine lQ eX aX (kY _) fun r17 _ => ?_
         exact aI rfl
theorem aa0 (p0 : Int) : Le (Option.map aD (sR p0)) (aW SE 72 [dIq p0] [] []) := by
 refine aZ (t := fun κ =>
  κ.t 68 aD [dIq p0, dIq 0, dIq 29] [] [] fun r0 =>
  (rB r0)) (fun _ => by kernel_rfl) ?_
 unfold sR
 refine lQ eX aP (eO _ _ _) fun r0 _ => ?_
 exact aI rfl
theorem aeg (p0 : Int) : Le (Option.map aH (mP p0)) (aW SE 74 [dIq p0] [] []) := by
 refine aZ (t := fun κ =>
  κ.t 68 aD [dIq p0, dIq 1, dIq 65535] [] [] fun r0 =>
  cond (!r0) (
  (rI 15)) (
  (rI 0))) (fun _ => by kernel_rfl) ?_
 unfold mP
 refine lQ eX aP (eO _ _ _) fun r0 _ => ?_
 refine lC ?_ ?_
 ·exact aI rfl
 ·exact aI rfl
theorem aiN (p0 : aA) : Le (Option.map aH (tI p0)) (aW SE 73 [aA.av p0] [] []) := by
 refine aZ (t := fun κ =>
  κ.t 31 aH [aB.av p0.Message] [] [] fun r0 =>
  cond (r0 != 0) (
  (rI r0)) (
  cond (p0.Message.Level != 0) (
  κ.t 74 aH [dIq p0.ID] [] [] fun r1 =>
  (rI r1)) (
  cond (p0.ID != 0) (
  (rI 15)) (
  cond p0.Dup (
  (rI 28)) (
  (rI 0)))))) (fun _ => by kernel_rfl) ?_
 unfold tI
 repeat' first | (with_reducible first | refine lC ?_ ?_ | refine lQ eX aX ?_ fun _ _ => ?_ | refine lQ eX aX ?_ fun _ _ => ?_ | exact kY _ | exact aeg _ | refine aI ?_) | rfl | (simp only [EN, aH] <;> rfl)
theorem sZ (p0 p1 : Int) : Le (Option.map aH (n6 p0 p1)) (aW SE 111 [dIq p0, dIq p1] [] []) := by
 refine aZ (t := fun κ =>
  κ.t 68 aD [dIq p0, dIq 1, dIq 65535] [] [] fun r0 =>
  cond (!r0) (
  (rI 15)) (
  cond (p1 == 0) (
  (rI 1)) (
  cond (decide (p1 > 32)) (
  (rI 5)) (
  (rI 0))))) (fun _ => by kernel_rfl) ?_
 unfold n6
 refine lQ eX aP (eO _ _ _) fun r0 _ => ?_
 refine lC ?_ ?_
 ·exact aI rfl
 ·refine lC ?_ ?_
  ·exact aI rfl
  ·refine lC ?_ ?_
   ·exact aI rfl
   ·exact aI rfl
theorem wE (p0 p1 : Str) : Le (Option.map aD (jJ p0 p1)) (aW SE 160 [dSq p0, dSq p1] [] []) := by
 refine aZ (t := fun κ =>
  cond (decide ((List.length p0 : Int) ≥ (List.length p1 : Int))) (
  cond (decide (0 ≤ (List.length p1 : Int)) && decide ((List.length p1 : Int) ≤ ((List.length p0) : Int))) (
   (rB ((bQ p0 none (some (List.length p1 : Int))) == p1))) none) (
  (rB false))) (fun _ => by kernel_rfl) ?_
 unfold jJ
 refine lC ?_ ?_
 ·refine lF ?_
  exact aI rfl
 ·exact aI rfl
theorem ac8 (p0 p1 : Str) : Le (Option.map eC (oT p0 p1)) (aW SE 171 [dSq p0, dSq p1] [] []) := by
 refine aZ (t := fun κ =>
  κ.t 160 aD [dSq p0, dSq p1] [] [] fun r0 =>
  cond (!r0) (
  (some (.ret [dSq p0, dBq false] [] []))) (
  cond (decide (0 ≤ (List.length p1 : Int)) && decide ((List.length p1 : Int) ≤ ((List.length p0) : Int))) (
  (some (.ret [dSq (bQ p0 (some (List.length p1 : Int)) none), dBq true] [] []))) none)) (fun _ => by kernel_rfl) ?_
 unfold oT
 refine lQ eX aP (wE _ _) fun r0 _ => ?_
 refine lC ?_ ?_
 ·exact aI rfl
 ·refine lF ?_
  exact aI rfl
theorem agh (p0 p1 : Str) : Le (Option.map eC (pP p0 p1)) (aW SE 157 [dSq p0, dSq p1] [] []) := by
 refine aZ (t := fun κ =>
  κ.t 171 eC [dSq p0, dSq p1] [] [] fun r0 =>
  (some (.ret [dSq r0.1, dBq r0.2] [] []))) (fun _ => by kernel_rfl) ?_
 unfold pP
 refine lQ eX v7 (ac8 _ _) fun r0 _ => ?_
 exact aI rfl
theorem adj (p0 : Str) (p1 : Int) : Le (Option.map aH (tO p0 p1)) (aW SE 176 [dSq p0, .d (.int .u8 p1)] [] []) := by
 refine aZ (t := fun κ =>
  (rI (Lib.indexByte p0 (UInt8.ofNat (Int.toNat p1)) : Int))) (fun _ => by kernel_rfl) ?_
 unfold tO
 exact aI rfl
theorem aab (p0 p1 : Str) : Le (Option.map aH (j6 p0 p1)) (aW SE 174 [dSq p0, dSq p1] [] []) := by
 refine aZ (t := fun κ =>
  cond ((List.length p1 : Int) == 0) (
  (rI 0)) (
  cond (p1 == p0) (
  (rI 0)) (
  cond ((List.length p1 : Int) == 1) (
  cond (decide (0 ≤ 0) && decide (0 < (List.length p1 : Int))) (
   κ.t 176 aH [dSq p0, .d (.int .u8 (UInt8.toNat (List.getD p1 (Int.toNat 0) 0) : Int))] [] [] fun r0 =>
   (rI r0)) none) (
  cond (decide ((List.length p1 : Int) ≥ (List.length p0 : Int))) (
  (rI (-1))) none)))) (fun _ => by kernel_rfl) ?_
 unfold j6
 refine lC ?_ ?_
 ·exact aI rfl
 ·refine lC ?_ ?_
  ·exact aI rfl
  ·refine lC ?_ ?_
   ·refine lF ?_
    refine lQ eX aX (adj _ _) fun r0 _ => ?_
    exact aI rfl
   ·refine lF ?_
    exact aI rfl
theorem ah3 (p0 p1 : Str) : Le (Option.map bK (vY p0 p1)) (aW SE 172 [dSq p0, dSq p1] [] []) := by
 refine aZ (t := fun κ =>
  κ.t 174 aH [dSq p0, dSq p1] [] [] fun r0 =>
  cond (decide (r0 ≥ 0)) (
  cond (decide (0 ≤ r0) && decide (r0 ≤ ((List.length p0) : Int))) (
   cond (decide (0 ≤ (w6 (r0 + (List.length p1 : Int)))) && decide ((w6 (r0 + (List.length p1 : Int))) ≤ ((List.length p0) : Int))) (
   (some (.ret [dSq (bQ p0 none (some r0)), dSq (bQ p0 (some (w6 (r0 + (List.length p1 : Int)))) none), dBq true] [] []))) none) none) (
  (some (bK (p0, [], false))))) (fun _ => by kernel_rfl) ?_
 unfold vY
 refine lQ eX aX (aab _ _) fun r0 _ => ?_
 refine lC ?_ ?_
 ·refine lF ?_
  refine lF ?_
  exact aI rfl
 ·exact aI rfl
theorem ak7 (p0 p1 : Str) : Le (Option.map bK (xP p0 p1)) (aW SE 158 [dSq p0, dSq p1] [] []) := by
 refine aZ (t := fun κ =>
  κ.t 172 bK [dSq p0, dSq p1] [] [] fun r0 =>
  (some (bK (r0.1, r0.2.1, r0.2.2)))) (fun _ => by kernel_rfl) ?_
 unfold xP
 refine lQ eX nJ (ah3 _ _) fun r0 _ => ?_
 exact aI rfl
theorem adF (p0 p1 : Str) : Le (Option.map aH (nC p0 p1)) (aW SE 182 [dSq p0, dSq p1] [] []) := by
 refine aZ (t := fun κ =>
  κ.t 174 aH [dSq p0, dSq p1] [] [] fun r0 =>
  (rI r0)) (fun _ => by kernel_rfl) ?_
 unfold nC
 refine lQ eX aX (aab _ _) fun r0 _ => ?_
 exact aI rfl
noncomputable def aot (L : bP) (κ : Tau) (a0 a1 : Str) (a2 : Int) : Res := L SE (K κ) κ.Λ κ.J 181 0 [1, 1, 1, 1, 0] (bE [(0, dSq a0), (1, dSq a1), (5, dIq a2)] [] [] [] [])
theorem agM : ∀ (fu : Nat) (x0 x1 : Str) (x5 : Int), Le (Option.map aH (uE fu x0 x1 x5)) (aot lab (kF 181) x0 x1 x5) := by
 intro fu
 induction fu with
 | zero => intros; exact le_none
 | succ fu ih =>
  intro x0 x1 x5
  refine bF (t := fun κ =>
  κ.t 182 aH [dSq x0, dSq x1] [] [] fun r0 =>
  cond (r0 == (-1)) (
  (rI x5)) (
  cond (decide (0 ≤ (w6 (r0 + (List.length x1 : Int)))) && decide ((w6 (r0 + (List.length x1 : Int))) ≤ ((List.length x0) : Int))) (
  aot lab κ (bQ x0 (some (w6 (r0 + (List.length x1 : Int)))) none) x1 (w6 (x5 + 1))) none)) (fun _ => by kernel_rfl) ?_
  unfold uE
  refine lQ eX aX (adF _ _) fun r0 _ => ?_
  refine lC ?_ ?_
  ·exact aI rfl
  ·refine lF ?_
   exact ih (bQ x0 (some (w6 (r0 + (List.length x1 : Int)))) none) x1 (w6 (x5 + 1))
theorem ajK (p0 p1 : Str) : Le (Option.map aH (vD p0 p1)) (aW SE 181 [dSq p0, dSq p1] [] []) := by
 refine aZ (t := fun κ =>
  cond ((List.length p1 : Int) == 0) (
  none) (
  cond ((List.length p1 : Int) == 1) (
  cond (decide (0 ≤ 0) && decide (0 < (List.length p1 : Int))) (
   (rI (Lib.countByte p0 (UInt8.ofNat (Int.toNat (UInt8.toNat (List.getD p1 (Int.toNat 0) 0) : Int))) : Int))) none) (
  aot lab κ p0 p1 0))) (fun _ => by kernel_rfl) ?_
 unfold vD
 refine lC ?_ ?_
 ·exact le_none
 ·refine lC ?_ ?_
  ·refine lF ?_
   exact aI rfl
  ·exact agM fuel p0 p1 0
noncomputable def alF (L : bP) (κ : Tau) (a0 : Str) (a1 : Int) (a2 : List (List D)) : Res := L SE (K κ) κ.Λ κ.J 175 0 [1, 1, 1, 1, 1, 1, 1, 1, 1, 0] (bE [(0, dSq a0), (9, .row 3009), (10, dIq a1)] [] [] [] [(3009, ⟨[.str], 9, 16, a2⟩)])
noncomputable def alc (L : bP) (κ : Tau) (a0 a1 : Str) (a2 a3 a4 : Int) (a5 : List (List D)) : Res := L SE (K κ) κ.Λ κ.J 175 0 [1, 1, 1, 1, 1, 1, 1, 1, 0, 0] (bE [(0, dSq a0), (1, dSq a1), (2, dIq a2), (3, dIq a3), (9, .row 3009), (10, dIq a4)] [] [] [] [(3009, ⟨[.str], 9, 16, a5⟩)])
noncomputable def aoc (L : bP) (κ : Tau) (a0 a1 : Str) (a2 a3 : Int) : Res := L SE (K κ) κ.Λ κ.J 175 0 [1, 1, 1, 1, 0] (bE [(0, dSq a0), (1, dSq a1), (2, dIq a2), (3, dIq a3)] [] [] [] [])
theorem adN (x0 : Str) (x10 : Int) (w3009 : List Str) : Le (Option.map cD (mQ x0 x10 w3009)) (alF lab (kF 175) x0 x10 (List.map bD w3009)) := by
 refine bF (t := fun κ =>
  cond (iB x10 (lM bD w3009 : Int)) (
  cond (decide (0 ≤ (w6 (x10 + 1))) && decide ((w6 (x10 + 1)) ≤ ((List.length (aa9 (List.map bD w3009) (Int.toNat x10) 0 [D.str x0])) : Int))) (
   (some (.ret [.d (.sl [.str] (List.take ((Int.toNat (w6 (x10 + 1))) - 0) (List.drop 0 (aa9 (List.map bD w3009) (Int.toNat x10) 0 [D.str x0]))))] [] []))) none) none) (fun _ => by kernel_rfl) ?_
 unfold mQ
 refine lGe ?_
 refine lGe ?_
 exact aI (by first | rfl | simp only [EN, cD] <;> rfl)
theorem xG : ∀ (fu : Nat) (x0 x1 : Str) (x2 x3 x10 : Int) (w3009 : List Str), Le (Option.map cD (iK fu x0 x1 x2 x3 x10 w3009)) (alc lab (kF 175) x0 x1 x2 x3 x10 (List.map bD w3009)) := by
 intro fu
 induction fu with
 | zero => intros; exact le_none
 | succ fu ih =>
  intro x0 x1 x2 x3 x10 w3009
  refine bF (t := fun κ =>
  cond (decide (x10 < x3)) (
  κ.t 182 aH [dSq x0, dSq x1] [] [] fun r1 =>
  cond (decide (r1 < 0)) (
   alF lab κ x0 x10 (List.map bD w3009)) (
  cond (decide (0 ≤ (w6 (r1 + x2))) && decide ((w6 (r1 + x2)) ≤ ((List.length x0) : Int))) (
   cond (iB x10 (lM bD w3009 : Int)) (
   cond (decide (0 ≤ (w6 (r1 + (List.length x1 : Int)))) && decide ((w6 (r1 + (List.length x1 : Int))) ≤ ((List.length x0) : Int))) (
    alc lab κ (bQ x0 (some (w6 (r1 + (List.length x1 : Int)))) none) x1 x2 x3 (w6 (x10 + 1)) ((aa9 (List.map bD w3009) (Int.toNat x10) 0 [D.str (bQ x0 none (some (w6 (r1 + x2))))]))) none) none) none)) (
  alF lab κ x0 x10 (List.map bD w3009))) (fun _ => by kernel_rfl) ?_
  unfold iK
  repeat' first | (with_reducible first | refine lF ?_ | refine lC ?_ ?_ | refine lQ eX aX ?_ fun _ _ => ?_ | refine lG ?_ ?_ | exact adF _ _ | exact adN _ _ _ | exact ih _ _ _ _ _ _) | (simp only [EN]; done) | (simp only [EN]; exact ih _ _ _ _ _ _)
theorem xX (x0 x1 : Str) (x2 x3 : Int) : Le (Option.map cD (nI x0 x1 x2 x3)) (aoc lab (kF 175) x0 x1 x2 x3) := by
 refine bF (t := fun κ =>
  cond (decide (0 ≤ (if (w6 ((List.length x0 : Int) + 1)) < x3 then (w6 ((List.length x0 : Int) + 1)) else x3)) && decide ((if (w6 ((List.length x0 : Int) + 1)) < x3 then (w6 ((List.length x0 : Int) + 1)) else x3) ≤ (if (w6 ((List.length x0 : Int) + 1)) < x3 then (w6 ((List.length x0 : Int) + 1)) else x3)) && decide ((if (w6 ((List.length x0 : Int) + 1)) < x3 then (w6 ((List.length x0 : Int) + 1)) else x3) * 16 ≤ 281474976710656)) (
  alc lab κ x0 x1 x2 ((w6 ((if (w6 ((List.length x0 : Int) + 1)) < x3 then (w6 ((List.length x0 : Int) + 1)) else x3) - 1))) 0 ((List.replicate (Int.toNat (if (w6 ((List.length x0 : Int) + 1)) < x3 then (w6 ((List.length x0 : Int) + 1)) else x3)) [D.str []]))) none) (fun _ => by kernel_rfl) ?_
 unfold nI
 repeat' first | (with_reducible first | refine lF ?_ | exact xG fuel _ _ _ _ _ _) | (simp only [EN]; exact xG fuel _ _ _ _ _ _)
theorem agT (p0 p1 : Str) (p2 p3 : Int) : Le (Option.map cD (uP p0 p1 p2 p3)) (aW SE 175 [dSq p0, dSq p1, dIq p2, dIq p3] [] []) := by
 refine aZ (t := fun κ =>
  cond (p3 == 0) (
  (some (.ret [.d (.sl [.str] (List.map bD []))] [] []))) (
  cond (p1 == ([] : Str)) (
  none) (
  cond (decide (p3 < 0)) (
  κ.t 181 aH [dSq p0, dSq p1] [] [] fun r0 =>
  aoc lab κ p0 p1 p2 (w6 (r0 + 1))) (
  aoc lab κ p0 p1 p2 p3)))) (fun _ => by kernel_rfl) ?_
 unfold uP
 refine lC ?_ ?_
 ·exact aI rfl
 ·refine lC ?_ ?_
  ·exact le_none
  ·refine lC ?_ ?_
   ·refine lQ eX aX (ajK _ _) fun r0 _ => ?_
    exact xX p0 p1 p2 (w6 (r0 + 1))
   ·exact xX p0 p1 p2 p3
theorem ajt (p0 p1 : Str) : Le (Option.map cD (vA p0 p1)) (aW SE 173 [dSq p0, dSq p1] [] []) := by
 refine aZ (t := fun κ =>
  κ.t 175 cD [dSq p0, dSq p1, dIq 0, dIq (-1)] [] [] fun r0 =>
  (some (cD r0))) (fun _ => by kernel_rfl) ?_
 unfold vA
 refine lQ eX uV (agT _ _ _ _) fun r0 _ => ?_
 exact aI rfl
theorem akf (p0 : Str) : Le (Option.map cD (wG p0)) (aW SE 159 [dSq p0] [] []) := by
 refine aZ (t := fun κ =>
  κ.t 173 cD [dSq p0, dSq ([47] : Str)] [] [] fun r0 =>
  (some (cD r0))) (fun _ => by kernel_rfl) ?_
 unfold wG
 refine lQ eX uV (ajt _ _) fun r0 _ => ?_
 exact aI rfl
noncomputable def afF (L : bP) (κ : Tau) (a0 : List (List D)) (a1 : Bool) (a2 : Int) (a3 : Str) (a4 : List (List D)) (a5 a6 : Int) (a7 : Str) (a8 : Nat) : Res := L SE (K κ) κ.Λ κ.J 144 0 [1, 0, 1, 1, 1, 1, 0, 1, 0, 0, 1, 1, 0, 0, 1, 1, 0] (bE [(3, .d (.sl [.str] a0)), (4, dBq a1), (5, dIq a2), (6, dSq a3), (15, .d (.sl [.str] a4)), (16, dIq a5), (17, dIq a6), (23, .it 4000)] [] [] [(4000, (a7, a8))] [])
noncomputable def akh (L : bP) (κ : Tau) (a0 : List (List D)) (a1 : Bool) (a2 : List (List D)) (a3 a4 : Int) : Res := L SE (K κ) κ.Λ κ.J 144 0 [1, 0, 1, 1, 1, 1, 0, 1, 0] (bE [(3, .d (.sl [.str] a0)), (4, dBq a1), (15, .d (.sl [.str] a2)), (16, dIq a3), (17, dIq a4)] [] [] [] [])
theorem abw : ∀ (fu : Nat) (k6 : (List Str) → Bool → (List Str) → Int → Int → Option (Bool)) (hk6 : ∀ (x3 : List Str) (x4 : Bool) (x15 : List Str) (x16 x17 : Int), Le (Option.map aD (k6 x3 x4 x15 x16 x17)) (akh lab (kF 144) (List.map bD x3) x4 (List.map bD x15) x16 x17)) (x3 : List Str) (x4 : Bool) (x5 : Int) (x6 : Str) (x15 : List Str) (x16 x17 : Int) (s4000 : Str) (i4000 : Nat), Le (Option.map aD (gL fu k6 x3 x4 x5 x6 x15 x16 x17 s4000 i4000)) (afF lab (kF 144) (List.map bD x3) x4 x5 x6 (List.map bD x15) x16 x17 s4000 i4000) := by
 intro fu
 induction fu with
 | zero => intros; exact le_none
 | succ fu ih =>
  intro k6 hk6 x3 x4 x5 x6 x15 x16 x17 s4000 i4000
  refine bF (t := fun κ =>
  cond (decide (i4000 < List.length s4000)) (
  cond (((dec s4000 i4000).1 : Int) == 43) (
   cond (!((List.length x6 : Int) == 1)) (
   (rB false)) (
   cond (((dec s4000 i4000).1 : Int) == 35) (
   cond (!((List.length x6 : Int) == 1)) (
    (rB false)) (
   cond (decide (x5 < (w6 ((lM bD x3 : Int) - 1)))) (
    (rB false)) (
   afF lab κ (List.map bD x3) x4 x5 x6 (List.map bD x15) x16 x17 s4000 (i4000 + (dec s4000 i4000).2)))) (
   afF lab κ (List.map bD x3) x4 x5 x6 (List.map bD x15) x16 x17 s4000 (i4000 + (dec s4000 i4000).2)))) (
  cond (((dec s4000 i4000).1 : Int) == 35) (
   cond (!((List.length x6 : Int) == 1)) (
   (rB false)) (
   cond (decide (x5 < (w6 ((lM bD x3 : Int) - 1)))) (
   (rB false)) (
   afF lab κ (List.map bD x3) x4 x5 x6 (List.map bD x15) x16 x17 s4000 (i4000 + (dec s4000 i4000).2)))) (
  afF lab κ (List.map bD x3) x4 x5 x6 (List.map bD x15) x16 x17 s4000 (i4000 + (dec s4000 i4000).2)))) (
  akh lab κ (List.map bD x3) x4 (List.map bD x15) x16 (w6 (x17 + 1)))) (fun _ => by kernel_rfl) ?_
  unfold gL
  repeat' first | (with_reducible first | refine lC ?_ ?_ | refine lD ?_ ?_ ?_ | exact ih _ hk6 _ _ _ _ _ _ _ _ _ | exact hk6 _ _ _ _ _ | refine aI ?_) | rfl | (simp only [EN]; done) | (simp only [EN, aD] <;> rfl)
theorem ahY : ∀ (fu : Nat) (x3 : List Str) (x4 : Bool) (x15 : List Str) (x16 x17 : Int), Le (Option.map aD (mL fu x3 x4 x15 x16 x17)) (akh lab (kF 144) (List.map bD x3) x4 (List.map bD x15) x16 x17) := by
 intro fu
 induction fu with
 | zero => intros; exact le_none
 | succ fu ih =>
  intro x3 x4 x15 x16 x17
  refine bF (t := fun κ =>
  cond (decide (x17 < x16)) (
  cond (iB x17 (lM bD x15 : Int)) (
   afF lab κ (List.map bD x3) x4 x17 ((aU (cE bD x15 x17 0))) (List.map bD x15) x16 x17 ((aU (cE bD x15 x17 0))) 0) none) (
  (rB x4))) (fun _ => by kernel_rfl) ?_
  unfold mL
  repeat' first | (with_reducible first | refine lC ?_ ?_ | refine lG ?_ ?_ | exact abw fuel _ (ih) _ _ _ _ _ _ _ _ _ | refine aI ?_) | rfl | (simp only [EN]; done) | (simp only [EN]; exact abw fuel _ (ih) _ _ _ _ _ _ _ _ _) | (simp only [EN, aD] <;> rfl)
theorem aem (p0 : Str) : Le (Option.map aD (tB p0)) (aW SE 144 [dSq p0] [] []) := by
 refine aZ (t := fun κ =>
  κ.t 95 aD [dSq p0] [] [] fun r0 =>
  cond (!r0) (
  (rB false)) (
  κ.t 159 cD [dSq p0] [] [] fun r1 =>
  akh lab κ (List.map bD r1) true (List.map bD r1) (lM bD r1 : Int) 0)) (fun _ => by kernel_rfl) ?_
 unfold tB
 refine lQ eX aP (afe _) fun r0 _ => ?_
 refine lC ?_ ?_
 ·exact aI rfl
 ·refine lQ eX uV (akf _) fun r1 _ => ?_
  (try simp only [EN]); exact ahY fuel r1 true r1 (List.length r1 : Int) 0
theorem aac (p0 p1 : Str) : Le (Option.map aD (m8 p0 p1)) (aW SE 145 [dSq p0, dSq p1] [] []) := by
 refine aZ (t := fun κ =>
  κ.t 160 aD [dSq p0, dSq p1] [] [] fun r0 =>
  (rB r0)) (fun _ => by kernel_rfl) ?_
 unfold m8
 refine lQ eX aP (wE _ _) fun r0 _ => ?_
 exact aI rfl
theorem akW (p0 : Str) : Le (Option.map bK (wT p0)) (aW SE 143 [dSq p0] [] []) := by
 refine aZ (t := fun κ =>
  κ.t 157 eC [dSq p0, dSq ([36, 115, 104, 97, 114, 101, 47] : Str)] [] [] fun r0 =>
  cond (!r0.2) (
  (some (bK (([], [], false))))) (
  κ.t 158 bK [dSq r0.1, dSq ([47] : Str)] [] [] fun r1 =>
  cond (!r1.2.2) (
  (some (bK (([], [], false))))) (
  κ.t 26 aD [dSq r1.1] [] [] fun r2 =>
  cond (!r2) (
  (some (bK (([], [], false))))) (
  κ.t 144 aD [dSq r1.2.1] [] [] fun r3 =>
  cond (!r3) (
  (some (bK (([], [], false))))) (
  κ.t 145 aD [dSq r1.2.1, dSq ([36, 115, 104, 97, 114, 101, 47] : Str)] [] [] fun r4 =>
  cond r4 (
  (some (bK (([], [], false))))) (
  (some (bK (r1.1, r1.2.1, true))))))))) (fun _ => by kernel_rfl) ?_
 unfold wT
 repeat' first | (with_reducible first | refine lC ?_ ?_ | refine lQ eX v7 ?_ fun _ _ => ?_ | refine lQ eX nJ ?_ fun _ _ => ?_ | refine lQ eX aP ?_ fun _ _ => ?_ | refine lQ eX aP ?_ fun _ _ => ?_ | refine lQ eX aP ?_ fun _ _ => ?_ | exact agh _ _ | exact ak7 _ _ | exact vB _ | exact aem _ | exact aac _ _ | refine aI ?_) | rfl | (simp only [EN, bK] <;> rfl)
theorem uG (p0 : Str) : Le (Option.map mX (rP p0)) (aW SE 112 [dSq p0] [] []) := by
 refine aZ (t := fun κ =>
  κ.t 143 bK [dSq p0] [] [] fun r0 =>
  cond r0.2.2 (
  (some (.ret [dBq true, dBq true] [] []))) (
  κ.t 144 aD [dSq p0] [] [] fun r1 =>
  cond r1 (
  κ.t 145 aD [dSq p0, dSq ([36, 115, 104, 97, 114, 101, 47] : Str)] [] [] fun r2 =>
  (some (.ret [dBq (!r2), dBq false] [] []))) (
  (some (.ret [dBq false, dBq false] [] []))))) (fun _ => by kernel_rfl) ?_
 unfold rP
 refine lQ eX nJ (akW _) fun r0 _ => ?_
 refine lC ?_ ?_
 ·exact aI rfl
 ·refine lQ eX aP (aem _) fun r1 _ => ?_
  refine lC ?_ ?_
  ·refine lQ eX aP (aac _ _) fun r2 _ => ?_
   exact aI rfl
  ·exact aI rfl
noncomputable def amW (L : bP) (κ : Tau) (a0 : List (List D)) (a1 a2 : Int) : Res := L SE (K κ) κ.Λ κ.J 75 0 [1, 1, 0, 1, 0] (bE [(18, .d (.sl aN.ks a0)), (19, dIq a1), (20, dIq a2)] [] [] [] [])
theorem aeu : ∀ (fu : Nat) (x18 : List aN) (x19 x20 : Int), Le (Option.map aH (fQ fu x18 x19 x20)) (amW lab (kF 75) (List.map aN.enc x18) x19 x20) := by
 intro fu
 induction fu with
 | zero => intros; exact le_none
 | succ fu ih =>
  intro x18 x19 x20
  refine bF (t := fun κ =>
  cond (decide (x20 < x19)) (
  cond (iB x20 (lM aN.enc x18 : Int)) (
   κ.t 112 mX [dSq (aU (cE aN.enc x18 x20 0))] [] [] fun r1 =>
   cond (!r1.1) (
   (rI 13)) (
   κ.t 68 aD [dIq (aL (cE aN.enc x18 x20 1)), dIq 0, dIq 2] [] [] fun r2 =>
   cond (!r2) (
   (rI 14)) (
   cond (bA (cE aN.enc x18 x20 2)) (
   cond r1.2 (
    (rI 28)) (
   amW lab κ (List.map aN.enc x18) x19 (w6 (x20 + 1)))) (
   amW lab κ (List.map aN.enc x18) x19 (w6 (x20 + 1)))))) none) (
  (rI 0))) (fun _ => by kernel_rfl) ?_
  unfold fQ
  repeat' first | (with_reducible first | refine lC ?_ ?_ | refine lQ eX ab5 ?_ fun _ _ => ?_ | refine lQ eX aP ?_ fun _ _ => ?_ | refine lG ?_ ?_ | refine lD ?_ ?_ ?_ | exact uG _ | exact eO _ _ _ | exact ih _ _ _ | refine aI ?_) | rfl | (simp only [EN]; done) | (simp only [EN]; exact uG _) | (simp only [EN]; exact eO _ _ _) | (simp only [EN, aH] <;> rfl)
theorem agO (p0 : aA) : Le (Option.map aH (qR p0)) (aW SE 75 [aA.av p0] [] []) := by
 refine aZ (t := fun κ =>
  κ.t 111 aH [dIq p0.ID, dIq (lM aN.enc p0.Subs : Int)] [] [] fun r0 =>
  cond (r0 != 0) (
  (rI r0)) (
  amW lab κ (List.map aN.enc p0.Subs) (lM aN.enc p0.Subs : Int) 0)) (fun _ => by kernel_rfl) ?_
 unfold qR
 refine lQ eX aX (by (try simp only [EN]); exact sZ p0.ID (List.length p0.Subs : Int)) fun r0 _ => ?_
 refine lC ?_ ?_
 ·exact aI rfl
 ·(try simp only [EN]); exact aeu fuel p0.Subs (List.length p0.Subs : Int) 0
noncomputable def aqs (L : bP) (κ : Tau) (a0 : List (List D)) (a1 a2 : Int) : Res := L SE (K κ) κ.Λ κ.J 76 0 [1, 1, 0, 1, 0] (bE [(16, .d (.sl [.int .i64] a0)), (17, dIq a1), (18, dIq a2)] [] [] [] [])
theorem ah6 : ∀ (fu : Nat) (x16 : List Int) (x17 x18 : Int), Le (Option.map aH (kB fu x16 x17 x18)) (aqs lab (kF 76) (List.map eI x16) x17 x18) := by
 intro fu
 induction fu with
 | zero => intros; exact le_none
 | succ fu ih =>
  intro x16 x17 x18
  refine bF (t := fun κ =>
  cond (decide (x18 < x17)) (
  cond (iB x18 (lM eI x16 : Int)) (
   κ.t 72 aD [dIq (aL (cE eI x16 x18 0))] [] [] fun r1 =>
   cond (!r1) (
   (rI 1)) (
   aqs lab κ (List.map eI x16) x17 (w6 (x18 + 1)))) none) (
  (rI 0))) (fun _ => by kernel_rfl) ?_
  unfold kB
  repeat' first | (with_reducible first | refine lC ?_ ?_ | refine lQ eX aP ?_ fun _ _ => ?_ | refine lG ?_ ?_ | exact aa0 _ | exact ih _ _ _ | refine aI ?_) | rfl | (simp only [EN]; done) | (simp only [EN]; exact aa0 _) | (simp only [EN, aH] <;> rfl)
theorem ajY (p0 : aA) : Le (Option.map aH (tD p0)) (aW SE 76 [aA.av p0] [] []) := by
 refine aZ (t := fun κ =>
  κ.t 111 aH [dIq p0.ID, dIq (lM eI p0.Codes : Int)] [] [] fun r0 =>
  cond (r0 != 0) (
  (rI r0)) (
  aqs lab κ (List.map eI p0.Codes) (lM eI p0.Codes : Int) 0)) (fun _ => by kernel_rfl) ?_
 unfold tD
 refine lQ eX aX (by (try simp only [EN]); exact sZ p0.ID (List.length p0.Codes : Int)) fun r0 _ => ?_
 refine lC ?_ ?_
 ·exact aI rfl
 ·(try simp only [EN]); exact ah6 fuel p0.Codes (List.length p0.Codes : Int) 0
noncomputable def apq (L : bP) (κ : Tau) (a0 : List (List D)) (a1 a2 : Int) : Res := L SE (K κ) κ.Λ κ.J 77 0 [1, 1, 0, 1, 0] (bE [(18, .d (.sl [.str] a0)), (19, dIq a1), (20, dIq a2)] [] [] [] [])
theorem wD : ∀ (fu : Nat) (x18 : List Str) (x19 x20 : Int), Le (Option.map aH (fU fu x18 x19 x20)) (apq lab (kF 77) (List.map bD x18) x19 x20) := by
 intro fu
 induction fu with
 | zero => intros; exact le_none
 | succ fu ih =>
  intro x18 x19 x20
  refine bF (t := fun κ =>
  cond (decide (x20 < x19)) (
  cond (iB x20 (lM bD x18 : Int)) (
   κ.t 112 mX [dSq (aU (cE bD x18 x20 0))] [] [] fun r1 =>
   cond (!r1.1) (
   (rI 13)) (
   apq lab κ (List.map bD x18) x19 (w6 (x20 + 1)))) none) (
  (rI 0))) (fun _ => by kernel_rfl) ?_
  unfold fU
  repeat' first | (with_reducible first | refine lC ?_ ?_ | refine lQ eX ab5 ?_ fun _ _ => ?_ | refine lG ?_ ?_ | exact uG _ | exact ih _ _ _ | refine aI ?_) | rfl | (simp only [EN]; done) | (simp only [EN]; exact uG _) | (simp only [EN, aH] <;> rfl)
theorem afP (p0 : aA) : Le (Option.map aH (oK p0)) (aW SE 77 [aA.av p0] [] []) := by
 refine aZ (t := fun κ =>
  κ.t 111 aH [dIq p0.ID, dIq (lM bD p0.Filters : Int)] [] [] fun r0 =>
  cond (r0 != 0) (
  (rI r0)) (
  apq lab κ (List.map bD p0.Filters) (lM bD p0.Filters : Int) 0)) (fun _ => by kernel_rfl) ?_
 unfold oK
 repeat' first | (with_reducible first | refine lC ?_ ?_ | refine lQ eX aX ?_ fun _ _ => ?_ | exact sZ _ _ | exact wD fuel _ _ _ | refine aI ?_) | rfl | (simp only [EN]; exact sZ _ _) | (simp only [EN]; exact wD fuel _ _ _) | (simp only [EN, aH] <;> rfl)
theorem rR (p0 : aA) : Le (Option.map aH (mC p0)) (aW SE 38 [aA.av p0] [] []) := by
 refine aZ (t := fun κ =>
  κ.t 68 aD [dIq p0.Kind, dIq 1, dIq 14] [] [] fun r0 =>
  cond (!r0) (
  (rI 10)) (
  κ.t 70 bR [aA.av p0] [] [] fun r1 =>
  κ.t 69 aD [aA.av p0, aA.av r1] [] [] fun r2 =>
  cond (!r2) (
  (rI 28)) (
  cond (p0.Kind == 1) (
  κ.t 71 aH [aA.av p0] [] [] fun r3 =>
  (rI r3)) (
  cond (p0.Kind == 2) (
  κ.t 72 aD [dIq p0.Code] [] [] fun r4 =>
  cond (!r4) (
   (rI 1)) (
  cond p0.Present (
   cond (p0.Code != 0) (
   (rI 28)) (
   (rI 0))) (
  (rI 0)))) (
  cond (p0.Kind == 14) (
  κ.t 72 aD [dIq p0.Code] [] [] fun r5 =>
  cond (!r5) (
   (rI 1)) (
  cond p0.Present (
   cond (p0.Code != 0) (
   (rI 28)) (
   (rI 0))) (
  (rI 0)))) (
  cond (p0.Kind == 3) (
  κ.t 73 aH [aA.av p0] [] [] fun r6 =>
  (rI r6)) (
  cond (p0.Kind == 4) (
  κ.t 74 aH [dIq p0.ID] [] [] fun r7 =>
  (rI r7)) (
  cond (p0.Kind == 5) (
  κ.t 74 aH [dIq p0.ID] [] [] fun r8 =>
  (rI r8)) (
  cond (p0.Kind == 6) (
  κ.t 74 aH [dIq p0.ID] [] [] fun r9 =>
  (rI r9)) (
  cond (p0.Kind == 7) (
  κ.t 74 aH [dIq p0.ID] [] [] fun r10 =>
  (rI r10)) (
  cond (p0.Kind == 8) (
  κ.t 75 aH [aA.av p0] [] [] fun r11 =>
  (rI r11)) (
  cond (p0.Kind == 9) (
  κ.t 76 aH [aA.av p0] [] [] fun r12 =>
  (rI r12)) (
  cond (p0.Kind == 11) (
  κ.t 76 aH [aA.av p0] [] [] fun r13 =>
  (rI r13)) (
  cond (p0.Kind == 10) (
  κ.t 77 aH [aA.av p0] [] [] fun r14 =>
  (rI r14)) (
  (rI 0)))))))))))))))) (fun _ => by kernel_rfl) ?_
 unfold mC
 repeat' first | (with_reducible first | refine lC ?_ ?_ | refine lQ eX aP ?_ fun _ _ => ?_ | refine lQ eX ad7 ?_ fun _ _ => ?_ | refine lQ eX aP ?_ fun _ _ => ?_ | refine lQ eX aX ?_ fun _ _ => ?_ | refine lQ eX aP ?_ fun _ _ => ?_ | refine lQ eX aX ?_ fun _ _ => ?_ | refine lQ eX aX ?_ fun _ _ => ?_ | refine lQ eX aX ?_ fun _ _ => ?_ | refine lQ eX aX ?_ fun _ _ => ?_ | refine lQ eX aX ?_ fun _ _ => ?_ | exact eO _ _ _ | exact akZ _ | exact alh _ _ | exact aiJ _ | exact aa0 _ | exact aiN _ | exact aeg _ | exact agO _ | exact ajY _ | exact afP _ | refine aI ?_) | rfl | (simp only [EN, aH] <;> rfl)
theorem oD (p0 : client_Client) (p1 : Bool) (p2 : aT) : Le (Option.map aV (fP p0 p1 p2)) (aW SE 20 [.ptr 2000000000 0, dBq p1, aT.av p2] [⟨83, (client_Client.avs p0)⟩] []) := by
 refine aZ (t := fun κ =>
  cond (p0.state != 0) (
  (some (aV ([], 9, p0)))) (
  κ.t 30 cZ [aB.av p2.Message] [] [] fun r0 =>
  κ.t 38 aH [.agg [dIq 1, dIq 0, dBq false, dSq [], dSq [], dIq 0, dBq false, dIq 0, dIq 0, dSq [], dIq 0, .d (.sl aE.ks (List.map aE.enc [])), dSq p0.name, dSq [], dBq p1, dIq 0, dIq 1099511627776, dIq p0.out.Limit, dBq p2.Set, dIq p2.Delay, dSq r0.Topic, dSq r0.Payload, dIq r0.Level, dBq r0.Retain, dIq r0.Priority, dIq r0.Expires, dSq r0.From, dIq r0.Seq, .d (.sl aE.ks (List.map aE.enc r0.Props)), dBq false, dIq 0, .d (.sl aN.ks (List.map aN.enc [])), .d (.sl [.str] (List.map bD [])), .d (.sl [.int .i64] (List.map eI []))]] [] [] fun r1 =>
  cond (r1 != 0) (
  (some (aV ([], r1, p0)))) (
  (some (aV (([(aA.mk 1 0 false zMq p0.name [] p1 0 1099511627776 p0.out.Limit (aT.mk p2.Set p2.Delay r0) false 0 [] [] [])], 0, (client_Client.mk p0.name 1 p0.out p0.in_ p0.waiting p0.count p0.last)))))))) (fun _ => by kernel_rfl) ?_
 unfold fP
 repeat' first | (with_reducible first | refine lC ?_ ?_ | refine lQ eX iQ ?_ fun _ _ => ?_ | refine lQ eX aX ?_ fun _ _ => ?_ | exact k8 _ | exact rR _ | refine aI ?_) | rfl | (simp only [EN]; exact rR _) | (simp only [EN, aV] <;> rfl)
theorem ak0 (p0 : Int) : Le (Option.map aD (xY p0)) (aW SE 78 [dIq p0] [] []) := by
 refine aZ (t := fun κ =>
  κ.t 68 aD [dIq p0, dIq 3, dIq 7] [] [] fun r0 =>
  cond r0 (
  (rB true)) (
  (rB (p0 == 14)))) (fun _ => by kernel_rfl) ?_
 unfold xY
 refine lQ eX aP (eO _ _ _) fun r0 _ => ?_
 refine lC ?_ ?_
 ·exact aI rfl
 ·exact aI rfl
theorem ajs (p0 : Int) : Le (Option.map aD (vE p0)) (aW SE 39 [dIq p0] [] []) := by
 refine aZ (t := fun κ =>
  κ.t 78 aD [dIq p0] [] [] fun r0 =>
  cond r0 (
  (rB true)) (
  cond (p0 == 2) (
  (rB true)) (
  cond (p0 == 9) (
  (rB true)) (
  cond (p0 == 11) (
  (rB true)) (
  (rB (p0 == 13))))))) (fun _ => by kernel_rfl) ?_
 unfold vE
 repeat' first | (with_reducible first | refine lC ?_ ?_ | refine lQ eX aP ?_ fun _ _ => ?_ | exact ak0 _ | refine aI ?_) | rfl | (simp only [EN, aD] <;> rfl)
theorem aaO (p0 : client_Client) (p1 : Int) : Le (Option.map eR (kU p0 p1)) (aW SE 40 [.ptr 2000000000 0, dIq p1] [⟨83, (client_Client.avs p0)⟩] []) := by
 refine aZ (t := fun κ =>
  cond (p1 == 2) (
  (some (.ret [.fn 79 [.ptr 0 0] []] [⟨83, (client_Client.avs p0)⟩] []))) (
  cond (p1 == 3) (
  (some (.ret [.fn 80 [.ptr 0 0] []] [⟨83, (client_Client.avs p0)⟩] []))) (
  cond (p1 == 6) (
  (some (.ret [.fn 81 [.ptr 0 0] []] [⟨83, (client_Client.avs p0)⟩] []))) (
  cond (p1 == 4) (
  (some (.ret [.fn 82 [.ptr 0 0] []] [⟨83, (client_Client.avs p0)⟩] []))) (
  cond (p1 == 5) (
  (some (.ret [.fn 82 [.ptr 0 0] []] [⟨83, (client_Client.avs p0)⟩] []))) (
  cond (p1 == 7) (
  (some (.ret [.fn 82 [.ptr 0 0] []] [⟨83, (client_Client.avs p0)⟩] []))) (
  cond (p1 == 14) (
  (some (.ret [.fn 83 [.ptr 0 0] []] [⟨83, (client_Client.avs p0)⟩] []))) (
  (some (.ret [.fn 84 [.ptr 0 0] []] [⟨83, (client_Client.avs p0)⟩] [])))))))))) (fun _ => by kernel_rfl) ?_
 unfold kU
 repeat' first | (with_reducible first | refine lC ?_ ?_ | refine aI ?_) | rfl | (simp only [EN, eR] <;> rfl)
theorem wP (p0 : Int) : Le (Option.map bI (o8 p0)) (aW SE 146 [dIq p0] [] []) := by
 refine aZ (t := fun κ =>
  (some (bI ((aA.mk 6 p0 false zMq [] [] false 0 0 0 zWq false 0 [] [] []))))) (fun _ => by kernel_rfl) ?_
 unfold o8
 exact aI rfl
theorem sJ (p0 : aB) : Le (Option.map cZ (mR p0)) (aW SE 100 [aB.av p0] [] []) := by
 refine aZ (t := fun κ =>
  κ.t 55 cJ [.d (.sl aE.ks (List.map aE.enc p0.Props))] [] [] fun r0 =>
  (some (cZ (aB.mk p0.Topic p0.Payload p0.Level p0.Retain p0.Priority p0.Expires p0.From p0.Seq r0)))) (fun _ => by kernel_rfl) ?_
 unfold mR
 refine lQ eX n9 (oJ _) fun r0 _ => ?_
 exact aI rfl
theorem vS (p0 : aC) : Le (Option.map bI (n4 p0)) (aW SE 101 [aC.av p0] [] []) := by
 refine aZ (t := fun κ =>
  κ.t 100 cZ [aB.av p0.Message] [] [] fun r0 =>
  (some (bI ((aA.mk 3 p0.ID false r0 [] [] false 0 0 0 zWq false 0 [] [] []))))) (fun _ => by kernel_rfl) ?_
 unfold n4
 refine lQ eX iQ (sJ _) fun r0 _ => ?_
 exact aI rfl
noncomputable def ajU (L : bP) (κ : Tau) (a0 a1 : Int) (a2 : List D) (a3 : List (List D)) : Res := L SE (K κ) κ.Λ κ.J 113 0 [1, 1, 0, 1, 0] (bE [(1, .ptr 1000000000 0), (3, .row 3003), (9, dIq a0), (10, dIq a1)] [⟨31, (List.map AV.d a2)⟩] [] [] [(3003, ⟨aA.ks, 67, 416, a3⟩)])
theorem zJ : ∀ (fu : Nat) (x9 x10 : Int) (b0 : aG) (w3003 : List aA), Le (Option.map bZ (iD fu x9 x10 b0 w3003)) (ajU lab (kF 113) x9 x10 (aG.enc b0) (List.map aA.enc w3003)) := by
 intro fu
 induction fu with
 | zero => intros; exact le_none
 | succ fu ih =>
  intro x9 x10 b0 w3003
  refine bF (t := fun κ =>
  cond (decide (x10 < x9)) (
  cond (iB x10 (lM aC.enc b0.Items : Int)) (
   cond ((aL (cE aC.enc b0.Items x10 1)) == 2) (
   κ.t 146 bI [dIq (aL (cE aC.enc b0.Items x10 0))] [] [] fun r0 =>
   cond (decide ((lM aA.enc w3003 + lM aA.enc [r0]) * 416 ≤ 140737488355328)) (
    ajU lab κ x9 (w6 (x10 + 1)) (aG.enc b0) (((List.map aA.enc w3003) ++ (List.map aA.enc [r0])))) none) (
   κ.t 101 bI [.agg [dIq (aL (cE aC.enc b0.Items x10 0)), dIq (aL (cE aC.enc b0.Items x10 1)), dSq (aU (cE aC.enc b0.Items x10 2)), dSq (aU (cE aC.enc b0.Items x10 3)), dIq (aL (cE aC.enc b0.Items x10 4)), dBq (bA (cE aC.enc b0.Items x10 5)), dIq (aL (cE aC.enc b0.Items x10 6)), dIq (aL (cE aC.enc b0.Items x10 7)), dSq (aU (cE aC.enc b0.Items x10 8)), dIq (aL (cE aC.enc b0.Items x10 9)), .d (.sl aE.ks (dSl (cE aC.enc b0.Items x10 10)))]] [] [] fun r1 =>
   cond (decide ((lM aA.enc w3003 + lM aA.enc [(aA.mk r1.Kind r1.ID true r1.Message r1.Client r1.User r1.Clean r1.Keep r1.Expiry r1.Window r1.Will r1.Present r1.Code r1.Subs r1.Filters r1.Codes)]) * 416 ≤ 140737488355328)) (
   ajU lab κ x9 (w6 (x10 + 1)) (aG.enc b0) (((List.map aA.enc w3003) ++ (List.map aA.enc [(aA.mk r1.Kind r1.ID true r1.Message r1.Client r1.User r1.Clean r1.Keep r1.Expiry r1.Window r1.Will r1.Present r1.Code r1.Subs r1.Filters r1.Codes)])))) none)) none) (
  (some (bZ w3003)))) (fun _ => by kernel_rfl) ?_
  unfold iD
  repeat' first | (with_reducible first | refine lC ?_ ?_ | refine lQ eX gY ?_ fun _ _ => ?_ | refine lQ eX gY ?_ fun _ _ => ?_ | refine lG ?_ ?_ | refine lD ?_ ?_ ?_ | exact wP _ | exact ih _ _ _ _ | exact vS _ | refine aI ?_) | rfl | (simp only [EN]; done) | (simp only [EN]; exact wP _) | (simp only [EN]; exact ih _ _ _ _) | (simp only [EN]; exact vS _) | (simp only [EN, bZ] <;> rfl)
theorem ahR (p0 : aG) : Le (Option.map bZ (sM p0)) (aW SE 113 [aG.av p0] [] []) := by
 refine aZ (t := fun κ =>
  ajU lab κ (lM aC.enc p0.Items : Int) 0 (aG.enc p0) (List.map aA.enc [])) (fun _ => by kernel_rfl) ?_
 unfold sM
 repeat' first | (with_reducible first | exact zJ fuel _ _ _ _) | (simp only [EN]; exact zJ fuel _ _ _ _)
theorem ajk (p0 : aG) : Le (Option.map aH (uZ p0)) (aW SE 97 [aG.av p0] [] []) := by
 refine aZ (t := fun κ =>
  (rI (if 0 > (w6 (p0.Limit - (lM aC.enc p0.Items : Int))) then 0 else (w6 (p0.Limit - (lM aC.enc p0.Items : Int)))))) (fun _ => by kernel_rfl) ?_
 unfold uZ
 exact aI (by first | rfl | simp only [EN, aH] <;> rfl)
theorem amu (p0 : Int) : Le (Option.map aH (aaf p0)) (aW SE 138 [dIq p0] [] []) := by
 refine aZ (t := fun κ =>
  (rI (w6 ((Int.tmod p0 65535) + 1)))) (fun _ => by kernel_rfl) ?_
 unfold aaf
 exact aI rfl
theorem ab7 (p0 : Int) : Le (Option.map aD (tF p0)) (aW SE 155 [dIq p0] [] []) := by
 refine aZ (t := fun κ =>
  (rB (p0 != p0))) (fun _ => by kernel_rfl) ?_
 unfold tF
 exact aI rfl
theorem acP (p0 p1 : Int) : Le (Option.map aD (uW p0 p1)) (aW SE 139 [dIq p0, dIq p1] [] []) := by
 refine aZ (t := fun κ =>
  κ.t 155 aD [dIq p0] [] [] fun r0 =>
  cond r0 (
  κ.t 155 aD [dIq p1] [] [] fun r1 =>
  cond (!r1) (
   (rB true)) (
  (rB (decide (p0 < p1))))) (
  (rB (decide (p0 < p1))))) (fun _ => by kernel_rfl) ?_
 unfold uW
 refine lQ eX aP (ab7 _) fun r0 _ => ?_
 refine lC ?_ ?_
 ·refine lQ eX aP (ab7 _) fun r1 _ => ?_
  refine lC ?_ ?_
  ·exact aI rfl
  ·exact aI rfl
 ·exact aI rfl
theorem aaj (p0 : Int) : Le (Option.map aD (m7 p0)) (aW SE 140 [dIq p0] [] []) := by
 refine aZ (t := fun κ =>
  (rB (p0 != p0))) (fun _ => by kernel_rfl) ?_
 unfold m7
 exact aI rfl
noncomputable def akm (L : bP) (κ : Tau) (a0 : List (List D)) (a1 a2 a3 a4 : Int) : Res := L SE (K κ) κ.Λ κ.J 102 0 [1, 1, 1, 0, 0] (bE [(0, .d (.sl [.int .i64] a0)), (1, dIq a1), (6, dIq a2), (7, dIq a3), (8, dIq a4)] [] [] [] [])
theorem wF : ∀ (fu : Nat) (x0 : List Int) (x1 x6 x7 x8 : Int), Le (Option.map bW (cL fu x0 x1 x6 x7 x8)) (akm lab (kF 102) (List.map eI x0) x1 x6 x7 x8) := by
 intro fu
 induction fu with
 | zero => intros; exact le_none
 | succ fu ih =>
  intro x0 x1 x6 x7 x8
  refine bF (t := fun κ =>
  cond (decide (x7 < x8)) (
  cond (iB (w6 (shr .u64 (IntKind.wrap .u64 (w6 (x7 + x8))) 1)) (lM eI x0 : Int)) (
   κ.t 139 aD [dIq (aL (cE eI x0 (w6 (shr .u64 (IntKind.wrap .u64 (w6 (x7 + x8))) 1)) 0)), dIq x1] [] [] fun r0 =>
   cond r0 (
   akm lab κ (List.map eI x0) x1 x6 (w6 ((w6 (shr .u64 (IntKind.wrap .u64 (w6 (x7 + x8))) 1)) + 1)) x8) (
   akm lab κ (List.map eI x0) x1 x6 x7 (w6 (shr .u64 (IntKind.wrap .u64 (w6 (x7 + x8))) 1)))) none) (
  cond (decide (x7 < x6)) (
  cond (iB x7 (lM eI x0 : Int)) (
   cond ((aL (cE eI x0 x7 0)) == x1) (
   (some (.ret [dIq x7, dBq true] [] []))) (
   cond (iB x7 (lM eI x0 : Int)) (
   κ.t 140 aD [dIq (aL (cE eI x0 x7 0))] [] [] fun r1 =>
   cond r1 (
    κ.t 140 aD [dIq x1] [] [] fun r2 =>
    (some (.ret [dIq x7, dBq r2] [] []))) (
   (some (.ret [dIq x7, dBq false] [] [])))) none)) none) (
  (some (.ret [dIq x7, dBq false] [] []))))) (fun _ => by kernel_rfl) ?_
  unfold cL
  repeat' first | (with_reducible first | refine lC ?_ ?_ | refine lQ eX aP ?_ fun _ _ => ?_ | refine lQ eX aP ?_ fun _ _ => ?_ | refine lG ?_ ?_ | refine lD ?_ ?_ ?_ | exact acP _ _ | exact ih _ _ _ _ _ | exact aaj _ | refine aI ?_) | rfl | (simp only [EN]; done) | (simp only [EN]; exact acP _ _) | (simp only [EN]; exact aaj _) | (simp only [EN, bW] <;> rfl)
theorem fF (p0 : List Int) (p1 : Int) : Le (Option.map bW (cT p0 p1)) (aW SE 102 [.d (.sl [.int .i64] (List.map eI p0)), dIq p1] [] []) := by
 refine aZ (t := fun κ =>
  akm lab κ (List.map eI p0) p1 (lM eI p0 : Int) 0 (lM eI p0 : Int)) (fun _ => by kernel_rfl) ?_
 unfold cT
 (try simp only [EN]); exact wF fuel p0 p1 (List.length p0 : Int) 0 (List.length p0 : Int)
theorem eV (p0 : List Int) : Le (Option.map aR (dC p0)) (aW SE 62 [.d (.sl [.int .i64] (List.map eI p0))] [] []) := by
 refine aZ (t := fun κ =>
  cond (List.isEmpty (List.map eI p0)) (
  abp (
   (some (.ret [.row 0] [] [⟨[.int .i64], 3, 8, []⟩]))) (
   cond (decide ((lM eI [] + lM eI p0) * 8 ≤ 140737488355328)) (
   (some (aR (([] : List Int) ++ p0)))) none)) (
  cond (decide ((lM eI [] + lM eI p0) * 8 ≤ 140737488355328)) (
  (some (aR (([] : List Int) ++ p0)))) none)) (fun _ => by kernel_rfl) ?_
 unfold dC
 refine lDe ?_ ?_
 ·refine alN ?_ ?_
  ·exact aI rfl
  ·refine lGe ?_
   exact aI rfl
 ·refine lGe ?_
  exact aI rfl
theorem tX (p0 : List Int) (p1 : Int) (p2 : List Int) : Le (Option.map aR (hH p0 p1 p2)) (aW SE 104 [.row 2000000000, dIq p1, .row 2000000001] [] [⟨[.int .i64], 3, 8, (List.map eI p0)⟩, ⟨[.int .i64], 3, 8, (List.map eI p2)⟩]) := arw (f := 104) (enc := eI) rfl rfl p0 p1 p2
noncomputable def apF (L : bP) (κ : Tau) (a0 a1 a2 : Int) (a3 a4 : List D) : Res := L SE (K κ) κ.Λ κ.J 98 0 [1, 1, 1, 0, 1, 0] (bE [(1, .ptr 1000000000 0), (3, .ptr 1000000001 0), (5, dIq a0), (18, dIq a1), (19, dIq a2)] [⟨29, (List.map AV.d a3)⟩, ⟨29, (List.map AV.d a4)⟩] [] [] [])
theorem adw : ∀ (fu : Nat) (x5 x18 x19 : Int) (b0 b1 : aK), Le (Option.map dL (pG fu x5 x18 x19 b0 b1)) (apF lab (kF 98) x5 x18 x19 (aK.enc b0) (aK.enc b1)) := by
 intro fu
 induction fu with
 | zero => intros; exact le_none
 | succ fu ih =>
  intro x5 x18 x19 b0 b1
  refine bF (t := fun κ =>
  cond (decide (x19 < x18)) (
  κ.t 138 aH [dIq x5] [] [] fun r0 =>
  κ.t 102 bW [.d (.sl [.int .i64] (List.map eI b0.Used)), dIq r0] [] [] fun r1 =>
  cond (!r1.2) (
   κ.t 62 aR [.d (.sl [.int .i64] (List.map eI b0.Used))] [] [] fun r2 =>
   κ.t 104 aR [.row 2000000000, dIq r1.1, .row 2000000001] [] [⟨[.int .i64], 3, 8, (List.map eI r2)⟩, ⟨[.int .i64], 3, 8, (List.map eI [r0])⟩] fun r3 =>
   (some (dL (r0, (aK.mk r3 r0), 0)))) (
  apF lab κ r0 x18 (w6 (x19 + 1)) (aK.enc b0) (aK.enc b1))) (
  (some (dL (0, (aK.mk [] 0), 6))))) (fun _ => by kernel_rfl) ?_
  unfold pG
  refine lC ?_ ?_
  ·refine lQ eX aX (amu _) fun r0 _ => ?_
   refine lQ eX fA (fF _ _) fun r1 _ => ?_
   refine lC ?_ ?_
   ·refine lQ eX bU (eV _) fun r2 _ => ?_
    refine lQ eX bU (tX _ _ _) fun r3 _ => ?_
    exact aI rfl
   ·exact ih r0 x18 (w6 (x19 + 1)) b0 b1
  ·exact aI rfl
theorem amO (p0 : aK) : Le (Option.map dL (aaI p0)) (aW SE 98 [aK.av p0] [] []) := by
 refine aZ (t := fun κ =>
  cond (decide ((lM eI p0.Used : Int) ≥ 32)) (
  (some (dL (0, (aK.mk [] 0), 6)))) (
  apF lab κ p0.Last (w6 ((lM eI p0.Used : Int) + 1)) 0 (aK.enc p0) [D.sl [.int .i64] (List.map eI []), D.int .i64 0])) (fun _ => by kernel_rfl) ?_
 unfold aaI
 repeat' first | (with_reducible first | refine lD ?_ ?_ ?_ | exact adw fuel _ _ _ _ _ | refine aI ?_) | rfl | (simp only [EN]; done) | (simp only [EN]; exact adw fuel _ _ _ _ _) | (simp only [EN, dL] <;> rfl)
noncomputable def aqo (L : bP) (κ : Tau) (a0 : List (List D)) (a1 a2 : Int) (a3 a4 : List D) (a5 : List (List D)) : Res := L SE (K κ) κ.Λ κ.J 99 0 [1, 1, 0, 1, 0] (bE [(1, .ptr 1000000000 0), (2, .ptr 1000000001 0), (3, .row 3003), (12, .d (.sl aC.ks a0)), (13, dIq a1), (14, dIq a2)] [⟨31, (List.map AV.d a3)⟩, ⟨31, (List.map AV.d a4)⟩] [] [] [(3003, ⟨aC.ks, 139, 128, a5⟩)])
theorem aaA : ∀ (fu : Nat) (x12 : List aC) (x13 x14 : Int) (b0 b1 : aG) (w3003 : List aC), Le (Option.map bH (kA fu x12 x13 x14 b0 b1 w3003)) (aqo lab (kF 99) (List.map aC.enc x12) x13 x14 (aG.enc b0) (aG.enc b1) (List.map aC.enc w3003)) := by
 intro fu
 induction fu with
 | zero => intros; exact le_none
 | succ fu ih =>
  intro x12 x13 x14 b0 b1 w3003
  refine bF (t := fun κ =>
  cond (decide (x14 < x13)) (
  cond (iB x14 (lM aC.enc x12 : Int)) (
   κ.t 100 cZ [.agg [dSq (aU (cE aC.enc x12 x14 2)), dSq (aU (cE aC.enc x12 x14 3)), dIq (aL (cE aC.enc x12 x14 4)), dBq (bA (cE aC.enc x12 x14 5)), dIq (aL (cE aC.enc x12 x14 6)), dIq (aL (cE aC.enc x12 x14 7)), dSq (aU (cE aC.enc x12 x14 8)), dIq (aL (cE aC.enc x12 x14 9)), .d (.sl aE.ks (dSl (cE aC.enc x12 x14 10)))]] [] [] fun r0 =>
   cond (decide ((lM aC.enc w3003 + List.length [[D.int .i64 (aL (cE aC.enc x12 x14 0)), D.int .i64 (aL (cE aC.enc x12 x14 1)), D.str r0.Topic, D.str r0.Payload, D.int .i64 r0.Level, D.bool r0.Retain, D.int .i64 r0.Priority, D.int .i64 r0.Expires, D.str r0.From, D.int .i64 r0.Seq, D.sl aE.ks (List.map aE.enc r0.Props)]]) * 128 ≤ 140737488355328)) (
   aqo lab κ (List.map aC.enc x12) x13 (w6 (x14 + 1)) (aG.enc b0) (aG.enc b1) (((List.map aC.enc w3003) ++ [[D.int .i64 (aL (cE aC.enc x12 x14 0)), D.int .i64 (aL (cE aC.enc x12 x14 1)), D.str r0.Topic, D.str r0.Payload, D.int .i64 r0.Level, D.bool r0.Retain, D.int .i64 r0.Priority, D.int .i64 r0.Expires, D.str r0.From, D.int .i64 r0.Seq, D.sl aE.ks (List.map aE.enc r0.Props)]]))) none) none) (
  κ.t 62 aR [.d (.sl [.int .i64] (List.map eI b0.Pool.Used))] [] [] fun r1 =>
  (some (bH (aG.mk b0.Limit w3003 (aK.mk r1 b0.Pool.Last)))))) (fun _ => by kernel_rfl) ?_
  unfold kA
  repeat' first | (with_reducible first | refine lC ?_ ?_ | refine lQ eX iQ ?_ fun _ _ => ?_ | refine lQ eX bU ?_ fun _ _ => ?_ | refine lG ?_ ?_ | exact sJ _ | exact ih _ _ _ _ _ _ | exact eV _ | refine aI ?_) | rfl | (simp only [EN]; done) | (simp only [EN]; exact sJ _) | (simp only [EN]; exact ih _ _ _ _ _ _) | (simp only [EN, bH] <;> rfl)
theorem xM (p0 : aG) : Le (Option.map bH (iP p0)) (aW SE 99 [aG.av p0] [] []) := by
 refine aZ (t := fun κ =>
  cond (decide (0 ≤ 0) && decide (0 ≤ (w6 ((lM aC.enc p0.Items : Int) + 1))) && decide ((w6 ((lM aC.enc p0.Items : Int) + 1)) * 128 ≤ 281474976710656)) (
  aqo lab κ (List.map aC.enc p0.Items) (lM aC.enc p0.Items : Int) 0 (aG.enc p0) [D.int .i64 0, D.sl aC.ks (List.map aC.enc []), D.sl [.int .i64] (List.map eI []), D.int .i64 0] (List.map aC.enc [])) none) (fun _ => by kernel_rfl) ?_
 unfold iP
 repeat' first | (with_reducible first | refine lG ?_ ?_ | exact aaA fuel _ _ _ _ _ _) | (simp only [EN]; done) | (simp only [EN]; exact aaA fuel _ _ _ _ _ _)
theorem ab6 (p0 : aG) (p1 : aB) : Le (Option.map fH (qG p0 p1)) (aW SE 59 [aG.av p0, aB.av p1] [] []) := by
 refine aZ (t := fun κ =>
  cond (p1.Level == 0) (
  (some (fH (((aG.mk 0 [] (aK.mk [] 0)), zPq, 14))))) (
  κ.t 97 aH [aG.av p0] [] [] fun r0 =>
  cond (r0 == 0) (
  (some (fH (((aG.mk 0 [] (aK.mk [] 0)), zPq, 6))))) (
  κ.t 31 aH [aB.av p1] [] [] fun r1 =>
  cond (r1 != 0) (
  (some (fH (((aG.mk 0 [] (aK.mk [] 0)), zPq, r1))))) (
  κ.t 98 dL [aK.av p0.Pool] [] [] fun r2 =>
  cond (r2.2.2 != 0) (
  (some (fH (((aG.mk 0 [] (aK.mk [] 0)), zPq, r2.2.2))))) (
  κ.t 99 bH [aG.av p0] [] [] fun r3 =>
  κ.t 100 cZ [aB.av p1] [] [] fun r4 =>
  cond (decide ((lM aC.enc r3.Items + lM aC.enc [(aC.mk r2.1 1 r4)]) * 128 ≤ 140737488355328)) (
  κ.t 101 bI [aC.av (aC.mk r2.1 1 r4)] [] [] fun r5 =>
  (some (.ret [.agg [dIq r3.Limit, .row 0, .row 1, dIq r2.2.1.Last], .agg [dIq r5.Kind, dIq r5.ID, dBq r5.Dup, dSq r5.Message.Topic, dSq r5.Message.Payload, dIq r5.Message.Level, dBq r5.Message.Retain, dIq r5.Message.Priority, dIq r5.Message.Expires, dSq r5.Message.From, dIq r5.Message.Seq, .row 2, dSq r5.Client, dSq r5.User, dBq r5.Clean, dIq r5.Keep, dIq r5.Expiry, dIq r5.Window, dBq r5.Will.Set, dIq r5.Will.Delay, dSq r5.Will.Message.Topic, dSq r5.Will.Message.Payload, dIq r5.Will.Message.Level, dBq r5.Will.Message.Retain, dIq r5.Will.Message.Priority, dIq r5.Will.Message.Expires, dSq r5.Will.Message.From, dIq r5.Will.Message.Seq, .row 3, dBq r5.Present, dIq r5.Code, .row 4, .row 5, .row 6], dIq 0] [] [⟨aC.ks, 139, 128, ((List.map aC.enc r3.Items) ++ (List.map aC.enc [(aC.mk r2.1 1 r4)]))⟩, ⟨[.int .i64], 3, 8, (List.map eI r2.2.1.Used)⟩, ⟨aE.ks, 92, 32, (List.map aE.enc r5.Message.Props)⟩, ⟨aE.ks, 92, 32, (List.map aE.enc r5.Will.Message.Props)⟩, ⟨aN.ks, 75, 32, (List.map aN.enc r5.Subs)⟩, ⟨[.str], 9, 16, (List.map bD r5.Filters)⟩, ⟨[.int .i64], 3, 8, (List.map eI r5.Codes)⟩]))) none))))) (fun _ => by kernel_rfl) ?_
 unfold qG
 repeat' first | (with_reducible first | refine lC ?_ ?_ | refine lQ eX aX ?_ fun _ _ => ?_ | refine lQ eX aX ?_ fun _ _ => ?_ | refine lQ eX afC ?_ fun _ _ => ?_ | refine lQ eX iF ?_ fun _ _ => ?_ | refine lQ eX iQ ?_ fun _ _ => ?_ | refine lQ eX gY ?_ fun _ _ => ?_ | refine lG ?_ ?_ | exact ajk _ | exact kY _ | exact amO _ | exact xM _ | exact sJ _ | exact vS _ | refine aI ?_) | rfl | (simp only [EN]; done) | (simp only [EN, fH] <;> rfl)
noncomputable def apP (L : bP) (κ : Tau) (a0 : List (List D)) (a1 : Int) (a2 : Bool) (a3 : List D) (a4 : List (List D)) : Res := L SE (K κ) κ.Λ κ.J 33 1 [1, 0, 0, 0, 1, 0, 1, 1] (bE [(0, .ptr 2000000000 0), (1, .row 3001), (15, .ptr 2000000000 0), (16, .ptr 2000000000 0), (17, .ptr 2000000000 7), (18, .d (.sl aB.ks a0)), (19, dIq a1), (20, dBq a2)] [] [⟨83, (List.map AV.d a3)⟩] [] [(3001, ⟨aA.ks, 67, 416, a4⟩)])
noncomputable def ata (L : bP) (κ : Tau) (a0 : List (List D)) (a1 : Int) (a2 : Bool) (a3 : List D) (a4 : List (List D)) : Res := L SE (K κ) κ.Λ κ.J 33 1 [1, 0, 0, 0, 1, 0, 0] (bE [(0, .ptr 2000000000 0), (1, .row 3001), (15, .ptr 2000000000 0), (16, .ptr 2000000000 0), (17, .ptr 2000000000 7), (18, .d (.sl aB.ks a0)), (19, dIq a1), (20, dBq a2)] [] [⟨83, (List.map AV.d a3)⟩] [] [(3001, ⟨aA.ks, 67, 416, a4⟩)])
noncomputable def akH (L : bP) (κ : Tau) (a0 : List D) (a1 : List (List D)) : Res := L SE (K κ) κ.Λ κ.J 33 1 [1, 0, 0] (bE [(0, .ptr 2000000000 0), (1, .row 3001)] [] [⟨83, (List.map AV.d a0)⟩] [] [(3001, ⟨aA.ks, 67, 416, a1⟩)])
theorem tT (k1 : client_Client → (List aA) → Option ((List aA) × client_Client)) (hk1 : ∀ (q0 : client_Client) (w3001 : List aA), Le (Option.map bM (k1 q0 w3001)) (akH lab (kF 33) (client_Client.enc q0) (List.map aA.enc w3001))) (x18 : List aB) (x19 : Int) (x20 : Bool) (q0 : client_Client) (w3001 : List aA) : Le (Option.map bM (jE k1 x18 x19 x20 q0 w3001)) (apP lab (kF 33) (List.map aB.enc x18) x19 x20 (client_Client.enc q0) (List.map aA.enc w3001)) := by
 refine bF (t := fun κ =>
  cond (decide (0 ≤ 1) && decide (1 ≤ ((lM aB.enc q0.waiting) : Int))) (
  akH lab κ [D.str q0.name, D.int .i64 q0.state, D.int .i64 q0.out.Limit, D.sl aC.ks (List.map aC.enc q0.out.Items), D.sl [.int .i64] (List.map eI q0.out.Pool.Used), D.int .i64 q0.out.Pool.Last, D.sl [.int .i64] (List.map eI q0.in_.IDs), D.sl aB.ks (bQ (List.map aB.enc q0.waiting) (some 1) none), D.int .i64 q0.count, D.int .i64 q0.last] (List.map aA.enc w3001)) none) (fun _ => by kernel_rfl) ?_
 unfold jE
 repeat' first | (with_reducible first | refine lG ?_ ?_ | exact hk1 _ _) | (simp only [EN]; done) | (simp only [EN]; exact hk1 _ _)
theorem tR (k1 : client_Client → (List aA) → Option ((List aA) × client_Client)) (hk1 : ∀ (q0 : client_Client) (w3001 : List aA), Le (Option.map bM (k1 q0 w3001)) (akH lab (kF 33) (client_Client.enc q0) (List.map aA.enc w3001))) (x18 : List aB) (x19 : Int) (x20 : Bool) (q0 : client_Client) (w3001 : List aA) : Le (Option.map bM (lV k1 x18 x19 x20 q0 w3001)) (ata lab (kF 33) (List.map aB.enc x18) x19 x20 (client_Client.enc q0) (List.map aA.enc w3001)) := by
 refine bF (t := fun κ =>
  cond (decide (0 ≤ 0) && decide (0 < (lM aB.enc q0.waiting : Int))) (
  cond ((aL (cE aB.enc q0.waiting 0 2)) == 0) (
   κ.t 30 cZ [.agg [dSq (aU (cE aB.enc q0.waiting 0 0)), dSq (aU (cE aB.enc q0.waiting 0 1)), dIq (aL (cE aB.enc q0.waiting 0 2)), dBq (bA (cE aB.enc q0.waiting 0 3)), dIq (aL (cE aB.enc q0.waiting 0 4)), dIq (aL (cE aB.enc q0.waiting 0 5)), dSq (aU (cE aB.enc q0.waiting 0 6)), dIq (aL (cE aB.enc q0.waiting 0 7)), .d (.sl aE.ks (dSl (cE aB.enc q0.waiting 0 8)))]] [] [] fun r0 =>
   cond (decide ((lM aA.enc w3001 + List.length [[D.int .i64 3, D.int .i64 0, D.bool false, D.str r0.Topic, D.str r0.Payload, D.int .i64 r0.Level, D.bool r0.Retain, D.int .i64 r0.Priority, D.int .i64 r0.Expires, D.str r0.From, D.int .i64 r0.Seq, D.sl aE.ks (List.map aE.enc r0.Props), D.str [], D.str [], D.bool false, D.int .i64 0, D.int .i64 0, D.int .i64 0, D.bool false, D.int .i64 0, D.str [], D.str [], D.int .i64 0, D.bool false, D.int .i64 0, D.int .i64 0, D.str [], D.int .i64 0, D.sl aE.ks (List.map aE.enc []), D.bool false, D.int .i64 0, D.sl aN.ks (List.map aN.enc []), D.sl [.str] (List.map bD []), D.sl [.int .i64] (List.map eI [])]]) * 416 ≤ 140737488355328)) (
   apP lab κ (List.map aB.enc x18) x19 x20 (client_Client.enc q0) (((List.map aA.enc w3001) ++ [[D.int .i64 3, D.int .i64 0, D.bool false, D.str r0.Topic, D.str r0.Payload, D.int .i64 r0.Level, D.bool r0.Retain, D.int .i64 r0.Priority, D.int .i64 r0.Expires, D.str r0.From, D.int .i64 r0.Seq, D.sl aE.ks (List.map aE.enc r0.Props), D.str [], D.str [], D.bool false, D.int .i64 0, D.int .i64 0, D.int .i64 0, D.bool false, D.int .i64 0, D.str [], D.str [], D.int .i64 0, D.bool false, D.int .i64 0, D.int .i64 0, D.str [], D.int .i64 0, D.sl aE.ks (List.map aE.enc []), D.bool false, D.int .i64 0, D.sl aN.ks (List.map aN.enc []), D.sl [.str] (List.map bD []), D.sl [.int .i64] (List.map eI [])]]))) none) (
  κ.t 59 fH [aG.av q0.out, .agg [dSq (aU (cE aB.enc q0.waiting 0 0)), dSq (aU (cE aB.enc q0.waiting 0 1)), dIq (aL (cE aB.enc q0.waiting 0 2)), dBq (bA (cE aB.enc q0.waiting 0 3)), dIq (aL (cE aB.enc q0.waiting 0 4)), dIq (aL (cE aB.enc q0.waiting 0 5)), dSq (aU (cE aB.enc q0.waiting 0 6)), dIq (aL (cE aB.enc q0.waiting 0 7)), .d (.sl aE.ks (dSl (cE aB.enc q0.waiting 0 8)))]] [] [] fun r1 =>
  cond (r1.2.2 != 0) (
   (some (bM (w3001, q0)))) (
  cond (decide ((lM aA.enc w3001 + lM aA.enc [r1.2.1]) * 416 ≤ 140737488355328)) (
   apP lab κ (List.map aB.enc x18) x19 x20 (client_Client.enc (client_Client.mk q0.name q0.state r1.1 q0.in_ q0.waiting q0.count q0.last)) (((List.map aA.enc w3001) ++ (List.map aA.enc [r1.2.1])))) none))) none) (fun _ => by kernel_rfl) ?_
 unfold lV
 repeat' first | (with_reducible first | refine lC ?_ ?_ | refine lQ eX iQ ?_ fun _ _ => ?_ | refine lQ eX aha ?_ fun _ _ => ?_ | refine lG ?_ ?_ | refine lD ?_ ?_ ?_ | exact k8 _ | exact tT _ hk1 _ _ _ _ _ | exact ab6 _ _ | refine aI ?_) | rfl | (simp only [EN]; done) | (simp only [EN]; exact k8 _) | (simp only [EN]; exact tT _ hk1 _ _ _ _ _) | (simp only [EN]; exact ab6 _ _) | (simp only [EN, bM] <;> rfl)
theorem aa2 : ∀ (fu : Nat) (q0 : client_Client) (w3001 : List aA), Le (Option.map bM (fB fu q0 w3001)) (akH lab (kF 33) (client_Client.enc q0) (List.map aA.enc w3001)) := by
 intro fu
 induction fu with
 | zero => intros; exact le_none
 | succ fu ih =>
  intro q0 w3001
  refine bF (t := fun κ =>
  cond (q0.state == 2) (
  cond (decide ((lM aB.enc q0.waiting : Int) > 0)) (
   ata lab κ (List.map aB.enc q0.waiting) (lM aB.enc q0.waiting : Int) (decide ((lM aB.enc q0.waiting : Int) > 0)) (client_Client.enc q0) (List.map aA.enc w3001)) (
  (some (bM (w3001, q0))))) (
  (some (bM (w3001, q0))))) (fun _ => by kernel_rfl) ?_
  unfold fB
  repeat' first | (with_reducible first | refine lC ?_ ?_ | refine lD ?_ ?_ ?_ | exact tR _ (ih) _ _ _ _ _ | refine aI ?_) | rfl | (simp only [EN]; done) | (simp only [EN]; exact tR _ (ih) _ _ _ _ _) | (simp only [EN, bM] <;> rfl)
theorem gU (p0 : client_Client) (p1 : List aA) : Le (Option.map bM (cK p0 p1)) (aW SE 33 [.ptr 2000000000 0, .row 2000000000] [⟨83, (client_Client.avs p0)⟩] [⟨aA.ks, 67, 416, (List.map aA.enc p1)⟩]) := by
 refine aZ (t := fun κ =>
  akH lab κ (client_Client.enc p0) (List.map aA.enc p1)) (fun _ => by kernel_rfl) ?_
 unfold cK
 exact aa2 fuel p0 p1
noncomputable def amQ (L : bP) (κ : Tau) (a0 : List (List D)) (a1 a2 : Int) (a3 : List D) (a4 : List (List D)) : Res := L SE (K κ) κ.Λ κ.J 79 1 [1, 1, 1, 1, 1, 0, 1, 0] (bE [(0, .ptr 2000000000 0), (7, .row 3007), (32, .d (.sl aC.ks a0)), (33, dIq a1), (34, dIq a2)] [] [⟨83, (List.map AV.d a3)⟩] [] [(3007, ⟨aB.ks, 54, 112, a4⟩)])
theorem sG : ∀ (fu : Nat) (x32 : List aC) (x33 x34 : Int) (q0 : client_Client) (w3007 : List aB), Le (Option.map aO (cW fu x32 x33 x34 q0 w3007)) (amQ lab (kF 79) (List.map aC.enc x32) x33 x34 (client_Client.enc q0) (List.map aB.enc w3007)) := by
 intro fu
 induction fu with
 | zero => intros; exact le_none
 | succ fu ih =>
  intro x32 x33 x34 q0 w3007
  refine bF (t := fun κ =>
  cond (decide (x34 < x33)) (
  cond (iB x34 (lM aC.enc x32 : Int)) (
   cond ((aL (cE aC.enc x32 x34 1)) == 1) (
   κ.t 30 cZ [.agg [dSq (aU (cE aC.enc x32 x34 2)), dSq (aU (cE aC.enc x32 x34 3)), dIq (aL (cE aC.enc x32 x34 4)), dBq (bA (cE aC.enc x32 x34 5)), dIq (aL (cE aC.enc x32 x34 6)), dIq (aL (cE aC.enc x32 x34 7)), dSq (aU (cE aC.enc x32 x34 8)), dIq (aL (cE aC.enc x32 x34 9)), .d (.sl aE.ks (dSl (cE aC.enc x32 x34 10)))]] [] [] fun r2 =>
   cond (decide ((lM aB.enc w3007 + lM aB.enc [r2]) * 112 ≤ 140737488355328)) (
    amQ lab κ (List.map aC.enc x32) x33 (w6 (x34 + 1)) (client_Client.enc q0) (((List.map aB.enc w3007) ++ (List.map aB.enc [r2])))) none) (
   amQ lab κ (List.map aC.enc x32) x33 (w6 (x34 + 1)) (client_Client.enc q0) (List.map aB.enc w3007))) none) (
  cond (decide ((lM aB.enc w3007 + lM aB.enc q0.waiting) * 112 ≤ 140737488355328)) (
  κ.t 27 bH [dIq q0.out.Limit] [] [] fun r3 =>
  κ.t 33 bM [.ptr 2000000000 0, .row 2000000000] [⟨83, [dSq q0.name, dIq q0.state, dIq r3.Limit, .d (.sl aC.ks (List.map aC.enc r3.Items)), .d (.sl [.int .i64] (List.map eI r3.Pool.Used)), dIq r3.Pool.Last, .d (.sl [.int .i64] (List.map eI [])), .d (.sl aB.ks ((List.map aB.enc w3007) ++ (List.map aB.enc q0.waiting))), dIq q0.count, dIq q0.last]⟩] [⟨aA.ks, 67, 416, (List.map aA.enc [])⟩] fun r4 =>
  (some (aO (r4.1, [], 0, r4.2)))) none)) (fun _ => by kernel_rfl) ?_
  unfold cW
  repeat' first | (with_reducible first | refine lC ?_ ?_ | refine lQ eX iQ ?_ fun _ _ => ?_ | refine lQ eX iF ?_ fun _ _ => ?_ | refine lQ eX kV ?_ fun _ _ => ?_ | refine lG ?_ ?_ | refine lD ?_ ?_ ?_ | exact k8 _ | exact ih _ _ _ _ _ | exact aej _ | exact gU _ _ | refine aI ?_) | rfl | (simp only [EN]; done) | (simp only [EN]; exact k8 _) | (simp only [EN]; exact ih _ _ _ _ _) | (simp only [EN]; exact gU _ _) | (simp only [EN, aO] <;> rfl)
theorem abQ (p0 : client_Client) (p1 : aA) : Le (Option.map aO (hY p0 p1)) (aW SE 79 [.ptr 2000000000 0, aA.av p1] [⟨83, (client_Client.avs p0)⟩] []) := by
 refine aZ (t := fun κ =>
  cond (p1.Code != 0) (
  (some (aO ([], [], 0, (client_Client.mk p0.name 0 p0.out p0.in_ p0.waiting p0.count p0.last))))) (
  cond p1.Present (
  κ.t 113 bZ [aG.av p0.out] [] [] fun r0 =>
  κ.t 33 bM [.ptr 2000000000 0, .row 2000000000] [⟨83, (client_Client.avs (client_Client.mk p0.name 2 p0.out p0.in_ p0.waiting p0.count p0.last))⟩] [⟨aA.ks, 67, 416, (List.map aA.enc r0)⟩] fun r1 =>
  (some (aO (r1.1, [], 0, r1.2)))) (
  amQ lab κ (List.map aC.enc p0.out.Items) (lM aC.enc p0.out.Items : Int) 0 (client_Client.enc (client_Client.mk p0.name 2 p0.out p0.in_ p0.waiting p0.count p0.last)) (List.map aB.enc [])))) (fun _ => by kernel_rfl) ?_
 unfold hY
 repeat' first | (with_reducible first | refine lC ?_ ?_ | refine lQ eX vQ ?_ fun _ _ => ?_ | refine lQ eX kV ?_ fun _ _ => ?_ | exact ahR _ | exact gU _ _ | exact sG fuel _ _ _ _ _ | refine aI ?_) | rfl | (simp only [EN]; exact sG fuel _ _ _ _ _) | (simp only [EN, aO] <;> rfl)
theorem alv (p0 : aJ) (p1 : Int) : Le (Option.map aD (xO p0 p1)) (aW SE 61 [aJ.av p0, dIq p1] [] []) := by
 refine aZ (t := fun κ =>
  κ.t 102 bW [.d (.sl [.int .i64] (List.map eI p0.IDs)), dIq p1] [] [] fun r0 =>
  (rB r0.2)) (fun _ => by kernel_rfl) ?_
 unfold xO
 refine lQ eX fA (fF _ _) fun r0 _ => ?_
 exact aI rfl
theorem aeJ (p0 : List Int) (p1 : Int) : Le (Option.map aR (nK p0 p1)) (aW SE 63 [.d (.sl [.int .i64] (List.map eI p0)), dIq p1] [] []) := by
 refine aZ (t := fun κ =>
  κ.t 102 bW [.d (.sl [.int .i64] (List.map eI p0)), dIq p1] [] [] fun r0 =>
  cond r0.2 (
  κ.t 62 aR [.d (.sl [.int .i64] (List.map eI p0))] [] [] fun r1 =>
  (some (aR r1))) (
  κ.t 62 aR [.d (.sl [.int .i64] (List.map eI p0))] [] [] fun r2 =>
  κ.t 104 aR [.row 2000000000, dIq r0.1, .row 2000000001] [] [⟨[.int .i64], 3, 8, (List.map eI r2)⟩, ⟨[.int .i64], 3, 8, (List.map eI [p1])⟩] fun r3 =>
  (some (aR r3)))) (fun _ => by kernel_rfl) ?_
 unfold nK
 refine lQ eX fA (fF _ _) fun r0 _ => ?_
 refine lC ?_ ?_
 ·refine lQ eX bU (eV _) fun r1 _ => ?_
  exact aI rfl
 ·refine lQ eX bU (eV _) fun r2 _ => ?_
  refine lQ eX bU (tX _ _ _) fun r3 _ => ?_
  exact aI rfl
theorem ajA (p0 : aA) : Le (Option.map bT (vG p0)) (aW SE 64 [aA.av p0] [] []) := by
 refine aZ (t := fun κ =>
  cond (p0.Kind == 3) (
  cond (p0.Message.Level == 1) (
   (some (bT (((aA.mk 4 p0.ID false zMq [] [] false 0 0 0 zWq false 0 [] [] []), true))))) (
  cond (p0.Kind == 3) (
   cond (p0.Message.Level == 2) (
   (some (bT (((aA.mk 5 p0.ID false zMq [] [] false 0 0 0 zWq false 0 [] [] []), true))))) (
   cond (p0.Kind == 5) (
   (some (bT (((aA.mk 6 p0.ID false zMq [] [] false 0 0 0 zWq false 0 [] [] []), true))))) (
   cond (p0.Kind == 6) (
   (some (bT (((aA.mk 7 p0.ID false zMq [] [] false 0 0 0 zWq false 0 [] [] []), true))))) (
   cond (p0.Kind == 12) (
   (some (bT (((aA.mk 13 p0.ID false zMq [] [] false 0 0 0 zWq false 0 [] [] []), true))))) (
   (some (bT ((zPq, false))))))))) (
  cond (p0.Kind == 5) (
   (some (bT (((aA.mk 6 p0.ID false zMq [] [] false 0 0 0 zWq false 0 [] [] []), true))))) (
  cond (p0.Kind == 6) (
   (some (bT (((aA.mk 7 p0.ID false zMq [] [] false 0 0 0 zWq false 0 [] [] []), true))))) (
  cond (p0.Kind == 12) (
   (some (bT (((aA.mk 13 p0.ID false zMq [] [] false 0 0 0 zWq false 0 [] [] []), true))))) (
  (some (bT ((zPq, false)))))))))) (
  cond (p0.Kind == 3) (
  cond (p0.Message.Level == 2) (
   (some (bT (((aA.mk 5 p0.ID false zMq [] [] false 0 0 0 zWq false 0 [] [] []), true))))) (
  cond (p0.Kind == 5) (
   (some (bT (((aA.mk 6 p0.ID false zMq [] [] false 0 0 0 zWq false 0 [] [] []), true))))) (
  cond (p0.Kind == 6) (
   (some (bT (((aA.mk 7 p0.ID false zMq [] [] false 0 0 0 zWq false 0 [] [] []), true))))) (
  cond (p0.Kind == 12) (
   (some (bT (((aA.mk 13 p0.ID false zMq [] [] false 0 0 0 zWq false 0 [] [] []), true))))) (
  (some (bT ((zPq, false))))))))) (
  cond (p0.Kind == 5) (
  (some (bT (((aA.mk 6 p0.ID false zMq [] [] false 0 0 0 zWq false 0 [] [] []), true))))) (
  cond (p0.Kind == 6) (
  (some (bT (((aA.mk 7 p0.ID false zMq [] [] false 0 0 0 zWq false 0 [] [] []), true))))) (
  cond (p0.Kind == 12) (
  (some (bT (((aA.mk 13 p0.ID false zMq [] [] false 0 0 0 zWq false 0 [] [] []), true))))) (
  (some (bT ((zPq, false)))))))))) (fun _ => by kernel_rfl) ?_
 unfold vG
 repeat' first | (with_reducible first | refine lC ?_ ?_ | refine aI ?_) | rfl | (simp only [EN, bT] <;> rfl)
noncomputable def aow (L : bP) (κ : Tau) (a0 : Bool) (a1 a2 : List D) (a3 : List (List D)) : Res := L SE (K κ) κ.Λ κ.J 35 0 [1, 1, 1, 1, 1, 1, 1, 0] (bE [(3, .ptr 1000000000 0), (4, .ptr 1000000001 0), (9, dBq a0), (10, .ptr 1000000002 0)] [⟨67, (List.map AV.d a1)⟩, ⟨33, (List.map AV.d a2)⟩, ⟨33, [.row 50200]⟩] [] [] [(50200, ⟨[.int .i64], 3, 8, a3⟩)])
noncomputable def amX (L : bP) (κ : Tau) (a0 : Bool) (a1 a2 a3 : List D) : Res := L SE (K κ) κ.Λ κ.J 35 0 [1, 1, 1, 1, 1, 0] (bE [(2, .ptr 1000000000 0), (3, .ptr 1000000001 0), (4, .ptr 1000000002 0), (9, dBq a0)] [⟨33, (List.map AV.d a1)⟩, ⟨67, (List.map AV.d a2)⟩, ⟨33, (List.map AV.d a3)⟩] [] [] [])
noncomputable def ap1 (L : bP) (κ : Tau) (a0 : Bool) (a1 a2 a3 : List D) : Res := L SE (K κ) κ.Λ κ.J 35 0 [1, 1, 1, 1, 0, 0] (bE [(2, .ptr 1000000000 0), (3, .ptr 1000000001 0), (4, .ptr 1000000002 0), (9, dBq a0)] [⟨33, (List.map AV.d a1)⟩, ⟨67, (List.map AV.d a2)⟩, ⟨33, (List.map AV.d a3)⟩] [] [] [])
theorem yW (x9 : Bool) (b0 : aA) (b1 : aJ) (w50200 : List Int) : Le (Option.map dM (oE x9 b0 b1 w50200)) (aow lab (kF 35) x9 (aA.enc b0) (aJ.enc b1) (List.map eI w50200)) := by
 refine bF (t := fun κ =>
  κ.t 64 bT [aA.av b0] [] [] fun r4 =>
  cond (!r4.2) (
  (some (dM ((aJ.mk w50200), x9, [], 0)))) (
  (some (dM ((aJ.mk w50200), x9, [r4.1], 0))))) (fun _ => by kernel_rfl) ?_
 unfold oE
 refine lQ eX aiG (ajA _) fun r4 _ => ?_
 refine lC ?_ ?_
 ·exact aI rfl
 ·exact aI rfl
theorem uO (x9 : Bool) (b0 : aJ) (b1 : aA) (b2 : aJ) : Le (Option.map dM (mZ x9 b0 b1 b2)) (amX lab (kF 35) x9 (aJ.enc b0) (aA.enc b1) (aJ.enc b2)) := by
 refine bF (t := fun κ =>
  κ.t 62 aR [.d (.sl [.int .i64] (List.map eI b0.IDs))] [] [] fun r2 =>
  cond (b1.Message.Level == 2) (
  κ.t 63 aR [.d (.sl [.int .i64] (List.map eI b0.IDs)), dIq b1.ID] [] [] fun r3 =>
  aow lab κ x9 (aA.enc b1) (aJ.enc b2) (List.map eI r3)) (
  aow lab κ x9 (aA.enc b1) (aJ.enc b2) (List.map eI r2))) (fun _ => by kernel_rfl) ?_
 unfold mZ
 refine lQ eX bU (eV _) fun r2 _ => ?_
 refine lC ?_ ?_
 ·refine lQ eX bU (aeJ _ _) fun r3 _ => ?_
  exact yW x9 b1 b2 r3
 ·exact yW x9 b1 b2 r2
theorem zV (x9 : Bool) (b0 : aJ) (b1 : aA) (b2 : aJ) : Le (Option.map dM (pI x9 b0 b1 b2)) (ap1 lab (kF 35) x9 (aJ.enc b0) (aA.enc b1) (aJ.enc b2)) := by
 refine bF (t := fun κ =>
  cond (b1.Message.Level == 2) (
  cond x9 (
   cond (decide ((lM eI b0.IDs : Int) ≥ 32)) (
   (some (dM ((aJ.mk []), false, [], 6)))) (
   amX lab κ x9 (aJ.enc b0) (aA.enc b1) (aJ.enc b2))) (
  amX lab κ x9 (aJ.enc b0) (aA.enc b1) (aJ.enc b2))) (
  amX lab κ x9 (aJ.enc b0) (aA.enc b1) (aJ.enc b2))) (fun _ => by kernel_rfl) ?_
 unfold pI
 refine lC ?_ ?_
 ·refine lC ?_ ?_
  ·refine lDe ?_ ?_
   ·exact aI rfl
   ·exact uO x9 b0 b1 b2
  ·exact uO x9 b0 b1 b2
 ·exact uO x9 b0 b1 b2
theorem aiK (p0 : aJ) (p1 : aA) : Le (Option.map dM (tU p0 p1)) (aW SE 35 [aJ.av p0, aA.av p1] [] []) := by
 refine aZ (t := fun κ =>
  cond (p1.Kind != 3) (
  (some (dM ((aJ.mk []), false, [], 10)))) (
  κ.t 38 aH [aA.av p1] [] [] fun r0 =>
  cond (r0 != 0) (
  (some (dM ((aJ.mk []), false, [], r0)))) (
  cond (decide (p1.Message.Level < 2)) (
  ap1 lab κ true (aJ.enc p0) (aA.enc p1) [D.sl [.int .i64] (List.map eI [])]) (
  κ.t 61 aD [aJ.av p0, dIq p1.ID] [] [] fun r1 =>
  ap1 lab κ (!r1) (aJ.enc p0) (aA.enc p1) [D.sl [.int .i64] (List.map eI [])])))) (fun _ => by kernel_rfl) ?_
 unfold tU
 refine lC ?_ ?_
 ·exact aI rfl
 ·refine lQ eX aX (rR _) fun r0 _ => ?_
  refine lC ?_ ?_
  ·exact aI rfl
  ·refine lC ?_ ?_
   ·(try simp only [EN]); exact zV true p0 p1 (aJ.mk [])
   ·refine lQ eX aP (alv _ _) fun r1 _ => ?_
    (try simp only [EN]); exact zV (!r1) p0 p1 (aJ.mk [])
theorem aby (p0 : client_Client) (p1 : aA) : Le (Option.map aO (jR p0 p1)) (aW SE 80 [.ptr 2000000000 0, aA.av p1] [⟨83, (client_Client.avs p0)⟩] []) := by
 refine aZ (t := fun κ =>
  κ.t 35 dM [aJ.av p0.in_, aA.av p1] [] [] fun r0 =>
  cond (r0.2.2.2 != 0) (
  (some (aO ([], [], r0.2.2.2, p0)))) (
  cond (!r0.2.1) (
  (some (aO (r0.2.2.1, [], 0, (client_Client.mk p0.name p0.state p0.out r0.1 p0.waiting p0.count p0.last))))) (
  κ.t 30 cZ [aB.av p1.Message] [] [] fun r1 =>
  (some (aO (r0.2.2.1, [r1], 0, (client_Client.mk p0.name p0.state p0.out r0.1 p0.waiting p0.count p0.last))))))) (fun _ => by kernel_rfl) ?_
 unfold jR
 refine lQ eX ag8 (aiK _ _) fun r0 _ => ?_
 refine lC ?_ ?_
 ·exact aI rfl
 ·refine lC ?_ ?_
  ·exact aI rfl
  ·refine lQ eX iQ (k8 _) fun r1 _ => ?_
   exact aI rfl
theorem uC (p0 : List Int) (p1 p2 : Int) : Le (Option.map aR (jO p0 p1 p2)) (aW SE 103 [.row 2000000000, dIq p1, dIq p2] [] [⟨[.int .i64], 3, 8, (List.map eI p0)⟩]) := ame (f := 103) (enc := eI) rfl rfl p0 p1 p2
theorem adK (p0 : List Int) (p1 : Int) : Le (Option.map aR (mS p0 p1)) (aW SE 60 [.d (.sl [.int .i64] (List.map eI p0)), dIq p1] [] []) := by
 refine aZ (t := fun κ =>
  κ.t 62 aR [.d (.sl [.int .i64] (List.map eI p0))] [] [] fun r0 =>
  κ.t 102 bW [.d (.sl [.int .i64] (List.map eI r0)), dIq p1] [] [] fun r1 =>
  cond r1.2 (
  κ.t 103 aR [.row 2000000000, dIq r1.1, dIq (w6 (r1.1 + 1))] [] [⟨[.int .i64], 3, 8, (List.map eI r0)⟩] fun r2 =>
  (some (aR r2))) (
  (some (aR r0)))) (fun _ => by kernel_rfl) ?_
 unfold mS
 refine lQ eX bU (eV _) fun r0 _ => ?_
 refine lQ eX fA (fF _ _) fun r1 _ => ?_
 refine lC ?_ ?_
 ·refine lQ eX bU (uC _ _ _) fun r2 _ => ?_
  exact aI rfl
 ·exact aI rfl
end Te
end PX
