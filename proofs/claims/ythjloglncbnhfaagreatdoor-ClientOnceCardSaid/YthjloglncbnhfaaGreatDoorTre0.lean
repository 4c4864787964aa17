import Derived.Test.YthjloglncbnhfaaGreatDoorTab
set_option linter.unusedVariables false
set_option linter.unusedSimpArgs false
set_option maxRecDepth 100000
noncomputable section
namespace PX
open Go
open Md
namespace Te
abbrev cE {α : Type} (f : α → List D) (l : List α) (i : Int) (k : Nat) : D := cellAt (elemAt (List.map f l) (Int.toNat i)) k
abbrev lM {α : Type} (f : α → List D) (l : List α) : Nat := List.length (List.map f l)
abbrev iB (i n : Int) : Bool := decide (0 ≤ i) && decide (i < n)
abbrev w6 (x : Int) : Int := IntKind.wrap .i64 x
abbrev eI : Int → List D := encI .i64
theorem lGe {R : Type} {e : R → Out} {c c' : Bool} {a : Option R} {a' : Res} (h1 : Le (a.map e) a') (hc : c = c' := by simp only [EN]) : Le ((cond c a none).map e) (cond c' a' none) := lG hc h1
theorem lDe {R : Type} {e : R → Out} {c c' : Bool} {a b : Option R} {a' b' : Res} (h1 : Le (a.map e) a') (h2 : Le (b.map e) b') (hc : c = c' := by simp only [EN]) : Le ((cond c a b).map e) (cond c' a' b') := lD hc h1 h2
abbrev dIq (n : Int) : AV := .d (.int .i64 n)
abbrev dSq (s : Str) : AV := .d (.str s)
abbrev dBq (b : Bool) : AV := .d (.bool b)
abbrev rB (b : Bool) : Res := some (.ret [.d (.bool b)] [] [])
abbrev rI (n : Int) : Res := some (.ret [.d (.int .i64 n)] [] [])
abbrev zMq : aB := aB.mk [] [] 0 false 0 0 [] 0 []
abbrev zWq : aT := aT.mk false 0 zMq
abbrev zPq : aA := aA.mk 0 0 false zMq [] [] false 0 0 0 zWq false 0 [] [] []
noncomputable def aj8 (L : dK) (κ : Tau) (a0 a1 : Int) (a2 : Bool) (a3 : Str) (a4 : Nat) : Res := L SE (K κ) κ.Λ κ.J 26 0 [1, 1, 0, 1, 0, 0, 1, 1, 0, 1, 1, 0] (cL [(3, dIq a0), (4, .d (.int .i32 a1)), (5, dBq a2), (15, .it 4000)] [] [] [(4000, (a3, a4))] [])
noncomputable def acQ (L : dK) (κ : Tau) (a0 : Str) (a1 : Nat) : Res := L SE (K κ) κ.Λ κ.J 26 0 [1, 1, 0, 1, 0] (cL [(15, .it 4000)] [] [] [(4000, (a0, a1))] [])
noncomputable def amG (L : dK) (κ : Tau) (a0 : Str) : Res := L SE (K κ) κ.Λ κ.J 26 0 [1, 1, 0, 0] (cL [(0, dSq a0)] [] [] [] [])
theorem adJ (k4 : Str → Nat → Option (Bool)) (hk4 : ∀ (s4000 : Str) (i4000 : Nat), Le (Option.map aF (k4 s4000 i4000)) (acQ lab (kF 26) s4000 i4000)) (x3 x4 : Int) (x5 : Bool) (s4000 : Str) (i4000 : Nat) : Le (Option.map aF (kZ k4 x3 x4 x5 s4000 i4000)) (aj8 lab (kF 26) x3 x4 x5 s4000 i4000) := by
 refine cK (t := fun κ =>
  cond (!x5) (
  cond (x3 == 0) (
   (rB false)) (
  cond (x4 != 45) (
   cond (decide (x4 < 48)) (
   (rB false)) (
   cond (decide (x4 > 57)) (
   (rB false)) (
   acQ lab κ s4000 i4000))) (
  acQ lab κ s4000 i4000))) (
  acQ lab κ s4000 i4000)) (fun _ => by kernel_rfl) ?_
 unfold kZ
 repeat' first | (with_reducible first | refine lC ?_ ?_ | exact hk4 _ _ | refine aK ?_) | rfl | (simp only [EN, aF] <;> rfl)
theorem adV : ∀ (fu : Nat) (s4000 : Str) (i4000 : Nat), Le (Option.map aF (g8 fu s4000 i4000)) (acQ lab (kF 26) s4000 i4000) := by
 intro fu
 induction fu with
 | zero => intros; exact le_none
 | succ fu ih =>
  intro s4000 i4000
  refine cK (t := fun κ =>
  cond (decide (i4000 < List.length s4000)) (
  cond (decide (((dec s4000 i4000).1 : Int) ≥ 97)) (
   aj8 lab κ (i4000 : Int) ((dec s4000 i4000).1 : Int) (decide (((dec s4000 i4000).1 : Int) ≤ 122)) s4000 (i4000 + (dec s4000 i4000).2)) (
  aj8 lab κ (i4000 : Int) ((dec s4000 i4000).1 : Int) false s4000 (i4000 + (dec s4000 i4000).2))) (
  (rB true))) (fun _ => by kernel_rfl) ?_
  unfold g8
  repeat' first | (with_reducible first | refine lC ?_ ?_ | exact adJ _ (ih) _ _ _ _ _ | refine aK ?_) | rfl | (simp only [EN, aF] <;> rfl)
theorem adS (x0 : Str) : Le (Option.map aF (rO x0)) (amG lab (kF 26) x0) := by
 refine cK (t := fun κ =>
  acQ lab κ x0 0) (fun _ => by kernel_rfl) ?_
 unfold rO
 exact adV fuel x0 0
theorem oU (p0 : Str) : Le (Option.map aF (lJ p0)) (aV SE 26 [dSq p0] [] []) := by
 refine bD (t := fun κ =>
  cond (decide ((List.length p0 : Int) < 1)) (
  (rB false)) (
  cond (decide ((List.length p0 : Int) > 16)) (
  (rB false)) (
  amG lab κ p0))) (fun _ => by kernel_rfl) ?_
 unfold lJ
 refine lC ?_ ?_
 ·exact aK rfl
 ·refine lC ?_ ?_
  ·exact aK rfl
  ·exact adS p0
theorem zI (p0 : Int) : Le (Option.map bK (lX p0)) (aV SE 27 [dIq p0] [] []) := by
 refine bD (t := fun κ =>
  cond (decide (p0 < 0)) (
  (some (bK ((aG.mk (if 32 < 0 then 32 else 0) [] (aQ.mk [] 0)))))) (
  (some (bK ((aG.mk (if 32 < p0 then 32 else p0) [] (aQ.mk [] 0))))))) (fun _ => by kernel_rfl) ?_
 unfold lX
 refine lC ?_ ?_
 ·exact aK rfl
 ·exact aK rfl
theorem abn (p0 : Str) (p1 : Int) : Le (Option.map lO (qS p0 p1)) (aV SE 7 [dSq p0, dIq p1] [] []) := by
 refine bD (t := fun κ =>
  κ.t 26 aF [dSq p0] [] [] fun r0 =>
  cond (!r0) (
  (some (.ret [.nilp, dIq 11] [] []))) (
  cond (decide (p1 < 1)) (
  (some (.ret [.nilp, dIq 1] [] []))) (
  cond (decide (p1 > 32)) (
  (some (.ret [.nilp, dIq 1] [] []))) (
  κ.t 27 bK [dIq p1] [] [] fun r1 =>
  (some (.ret [.ptr 0 0, dIq 0] [⟨83, [dSq p0, dIq 0, dIq r1.Limit, .d (.sl aC.ks (List.map aC.enc r1.Items)), .d (.sl [.int .i64] (List.map eI r1.Pool.Used)), dIq r1.Pool.Last, .d (.sl [.int .i64] (List.map eI [])), .d (.sl aB.ks (List.map aB.enc [])), dIq 0, dIq 0]⟩] [])))))) (fun _ => by kernel_rfl) ?_
 unfold qS
 refine lQ eX aU (oU _) fun r0 _ => ?_
 refine lC ?_ ?_
 ·exact aK rfl
 ·refine lC ?_ ?_
  ·exact aK rfl
  ·refine lC ?_ ?_
   ·exact aK rfl
   ·refine lQ eX j5 (zI _) fun r1 _ => ?_
    exact aK rfl
theorem oM (p0 : client_Client) : Le (Option.map eJ (jW p0)) (aV SE 10 [.ptr 2000000000 0] [⟨83, (client_Client.avs p0)⟩] []) := by
 refine bD (t := fun κ =>
  (some (.ret [dBq (p0.state == 2)] [⟨83, (client_Client.avs p0)⟩] []))) (fun _ => by kernel_rfl) ?_
 unfold jW
 exact aK rfl
theorem gD (p0 : client_Client) : Le (Option.map cM (dC p0)) (aV SE 11 [.ptr 2000000000 0] [⟨83, (client_Client.avs p0)⟩] []) := by
 refine bD (t := fun κ =>
  (some (.ret [dIq (w6 ((lM aC.enc p0.out.Items : Int) + (lM aB.enc p0.waiting : Int)))] [⟨83, (client_Client.avs p0)⟩] []))) (fun _ => by kernel_rfl) ?_
 unfold dC
 exact aK (by first | rfl | simp only [EN, cM] <;> rfl)
theorem kK (p0 : List aE) : Le (Option.map bV (dD p0)) (aV SE 55 [.d (.sl aE.ks (List.map aE.enc p0))] [] []) := by
 refine bD (t := fun κ =>
  cond (List.isEmpty (List.map aE.enc p0)) (
  vA (
   (some (.ret [.row 0] [] [⟨aE.ks, 92, 32, []⟩]))) (
   cond (decide ((lM aE.enc [] + lM aE.enc p0) * 32 ≤ 140737488355328)) (
   (some (bV (([] : List aE) ++ p0)))) none)) (
  cond (decide ((lM aE.enc [] + lM aE.enc p0) * 32 ≤ 140737488355328)) (
  (some (bV (([] : List aE) ++ p0)))) none)) (fun _ => by kernel_rfl) ?_
 unfold dD
 refine lDe ?_ ?_
 ·refine afy ?_ ?_
  ·exact aK rfl
  ·refine lGe ?_
   exact aK rfl
 ·refine lGe ?_
  exact aK rfl
theorem iC (p0 : aB) : Le (Option.map cH (hH p0)) (aV SE 30 [aB.av p0] [] []) := by
 refine bD (t := fun κ =>
  κ.t 55 bV [.d (.sl aE.ks (List.map aE.enc p0.Props))] [] [] fun r0 =>
  (some (cH (aB.mk p0.Topic p0.Payload p0.Level p0.Retain p0.Priority p0.Expires p0.From p0.Seq r0)))) (fun _ => by kernel_rfl) ?_
 unfold hH
 refine lQ eX j9 (kK _) fun r0 _ => ?_
 exact aK rfl
theorem dM (p0 p1 p2 : Int) : Le (Option.map aF (eL p0 p1 p2)) (aV SE 68 [dIq p0, dIq p1, dIq p2] [] []) := by
 refine bD (t := fun κ =>
  cond (decide (p0 ≥ p1)) (
  (rB (decide (p0 ≤ p2)))) (
  (rB false))) (fun _ => by kernel_rfl) ?_
 unfold eL
 refine lC ?_ ?_
 ·exact aK rfl
 ·exact aK rfl
theorem afZ (p0 : aA) : Le (Option.map cD (o6 p0)) (aV SE 70 [aA.av p0] [] []) := by
 refine bD (t := fun κ =>
  cond (p0.Kind == 1) (
  (some (cD ((aA.mk p0.Kind 0 false zMq p0.Client p0.User p0.Clean p0.Keep p0.Expiry p0.Window p0.Will false 0 [] [] []))))) (
  cond (p0.Kind == 2) (
  (some (cD ((aA.mk p0.Kind 0 false zMq [] [] false 0 0 0 zWq p0.Present p0.Code [] [] []))))) (
  cond (p0.Kind == 3) (
  (some (cD ((aA.mk p0.Kind p0.ID p0.Dup p0.Message [] [] false 0 0 0 zWq false 0 [] [] []))))) (
  cond (p0.Kind == 4) (
  (some (cD ((aA.mk p0.Kind p0.ID false zMq [] [] false 0 0 0 zWq false 0 [] [] []))))) (
  cond (p0.Kind == 5) (
  (some (cD ((aA.mk p0.Kind p0.ID false zMq [] [] false 0 0 0 zWq false 0 [] [] []))))) (
  cond (p0.Kind == 6) (
  (some (cD ((aA.mk p0.Kind p0.ID false zMq [] [] false 0 0 0 zWq false 0 [] [] []))))) (
  cond (p0.Kind == 7) (
  (some (cD ((aA.mk p0.Kind p0.ID false zMq [] [] false 0 0 0 zWq false 0 [] [] []))))) (
  cond (p0.Kind == 8) (
  (some (cD ((aA.mk p0.Kind p0.ID false zMq [] [] false 0 0 0 zWq false 0 p0.Subs [] []))))) (
  cond (p0.Kind == 9) (
  (some (cD ((aA.mk p0.Kind p0.ID false zMq [] [] false 0 0 0 zWq false 0 [] [] p0.Codes))))) (
  cond (p0.Kind == 11) (
  (some (cD ((aA.mk p0.Kind p0.ID false zMq [] [] false 0 0 0 zWq false 0 [] [] p0.Codes))))) (
  cond (p0.Kind == 10) (
  (some (cD ((aA.mk p0.Kind p0.ID false zMq [] [] false 0 0 0 zWq false 0 [] p0.Filters []))))) (
  cond (p0.Kind == 14) (
  (some (cD ((aA.mk p0.Kind 0 false zMq [] [] false 0 0 0 zWq false p0.Code [] [] []))))) (
  (some (cD ((aA.mk p0.Kind 0 false zMq [] [] false 0 0 0 zWq false 0 [] [] []))))))))))))))))) (fun _ => by kernel_rfl) ?_
 unfold o6
 repeat' first | (with_reducible first | refine lC ?_ ?_ | refine aK ?_) | rfl | (simp only [EN, cD] <;> rfl)
theorem acW (p0 : aA) : Le (Option.map iH (nP p0)) (aV SE 106 [aA.av p0] [] []) := by
 refine bD (t := fun κ =>
  (some (.ret [bE.av (bE.mk p0.Kind p0.ID p0.Keep p0.Expiry p0.Window p0.Code p0.Will.Delay p0.Dup p0.Clean p0.Present p0.Will.Set p0.Client p0.User)] [] []))) (fun _ => by kernel_rfl) ?_
 unfold nP
 exact aK rfl
noncomputable def ahK (L : dK) (κ : Tau) (a0 : List (List D)) (a1 a2 : Int) (a3 : List D) : Res := L SE (K κ) κ.Λ κ.J 107 0 [1, 1, 0, 1, 0] (cL [(3, .ptr 1000000000 0), (71, .d (.sl aE.ks a0)), (72, dIq a1), (73, dIq a2)] [⟨54, (List.map AV.d a3)⟩] [] [] [])
noncomputable def akP (L : dK) (κ : Tau) (a0 a1 : List D) : Res := L SE (K κ) κ.Λ κ.J 107 0 [1, 1, 0, 0] (cL [(2, .ptr 1000000000 0), (3, .ptr 1000000001 0)] [⟨54, (List.map AV.d a0)⟩, ⟨54, (List.map AV.d a1)⟩] [] [] [])
theorem acn : ∀ (fu : Nat) (x71 : List aE) (x72 x73 : Int) (b0 : aB), Le (Option.map aF (jE fu x71 x72 x73 b0)) (ahK lab (kF 107) (List.map aE.enc x71) x72 x73 (aB.enc b0)) := by
 intro fu
 induction fu with
 | zero => intros; exact le_none
 | succ fu ih =>
  intro x71 x72 x73 b0
  refine cK (t := fun κ =>
  cond (decide (x73 < x72)) (
  cond (iB x73 (lM aE.enc x71 : Int)) (
   cond (iB x73 (lM aE.enc b0.Props : Int)) (
   cond (!(((aX (cE aE.enc x71 x73 0)) == (aX (cE aE.enc b0.Props x73 0))) && (((aX (cE aE.enc x71 x73 1)) == (aX (cE aE.enc b0.Props x73 1))) && true))) (
    (rB false)) (
   ahK lab κ (List.map aE.enc x71) x72 (w6 (x73 + 1)) (aB.enc b0))) none) none) (
  (rB true))) (fun _ => by kernel_rfl) ?_
  unfold jE
  refine lC ?_ ?_
  ·refine lGe ?_
   refine lGe ?_
   refine lDe ?_ ?_
   ·exact aK rfl
   ·exact ih x71 x72 (w6 (x73 + 1)) b0
  ·exact aK rfl
theorem abJ (b0 b1 : aB) : Le (Option.map aF (pF b0 b1)) (akP lab (kF 107) (aB.enc b0) (aB.enc b1)) := by
 refine cK (t := fun κ =>
  ahK lab κ (List.map aE.enc b0.Props) (lM aE.enc b0.Props : Int) 0 (aB.enc b1)) (fun _ => by kernel_rfl) ?_
 unfold pF
 (try simp only [EN]); exact acn fuel b0.Props (List.length b0.Props : Int) 0 b1
theorem tK (p0 p1 : aB) : Le (Option.map aF (kJ p0 p1)) (aV SE 107 [aB.av p0, aB.av p1] [] []) := by
 refine bD (t := fun κ =>
  cond (!(p0.Topic == p1.Topic)) (
  (rB false)) (
  cond (!(p0.Payload == p1.Payload)) (
  (rB false)) (
  cond (p0.Level != p1.Level) (
  (rB false)) (
  cond (p0.Retain != p1.Retain) (
  (rB false)) (
  cond (p0.Priority != p1.Priority) (
  (rB false)) (
  cond (p0.Expires != p1.Expires) (
  (rB false)) (
  cond (!(p0.From == p1.From)) (
  (rB false)) (
  cond (p0.Seq != p1.Seq) (
  (rB false)) (
  cond ((lM aE.enc p0.Props : Int) != (lM aE.enc p1.Props : Int)) (
  (rB false)) (
  akP lab κ (aB.enc p0) (aB.enc p1))))))))))) (fun _ => by kernel_rfl) ?_
 unfold kJ
 repeat' first | (with_reducible first | refine lC ?_ ?_ | refine lD ?_ ?_ ?_ | exact abJ _ _ | refine aK ?_) | rfl | (simp only [EN]; done) | (simp only [EN, aF] <;> rfl)
noncomputable def ahC (L : dK) (κ : Tau) (a0 a1 : List (List D)) (a2 a3 : Int) : Res := L SE (K κ) κ.Λ κ.J 108 0 [1, 1, 0, 1, 0] (cL [(1, .d (.sl aN.ks a0)), (12, .d (.sl aN.ks a1)), (13, dIq a2), (14, dIq a3)] [] [] [] [])
theorem ac3 : ∀ (fu : Nat) (x1 x12 : List aN) (x13 x14 : Int), Le (Option.map aF (j2 fu x1 x12 x13 x14)) (ahC lab (kF 108) (List.map aN.enc x1) (List.map aN.enc x12) x13 x14) := by
 intro fu
 induction fu with
 | zero => intros; exact le_none
 | succ fu ih =>
  intro x1 x12 x13 x14
  refine cK (t := fun κ =>
  cond (decide (x14 < x13)) (
  cond (iB x14 (lM aN.enc x12 : Int)) (
   cond (iB x14 (lM aN.enc x1 : Int)) (
   cond (!(((aX (cE aN.enc x12 x14 0)) == (aX (cE aN.enc x1 x14 0))) && (((aM (cE aN.enc x12 x14 1)) == (aM (cE aN.enc x1 x14 1))) && (((bC (cE aN.enc x12 x14 2)) == (bC (cE aN.enc x1 x14 2))) && true)))) (
    (rB false)) (
   ahC lab κ (List.map aN.enc x1) (List.map aN.enc x12) x13 (w6 (x14 + 1)))) none) none) (
  (rB true))) (fun _ => by kernel_rfl) ?_
  unfold j2
  refine lC ?_ ?_
  ·refine lGe ?_
   refine lGe ?_
   refine lDe ?_ ?_
   ·exact aK rfl
   ·exact ih x1 x12 x13 (w6 (x14 + 1))
  ·exact aK rfl
theorem afG (p0 p1 : List aN) : Le (Option.map aF (rC p0 p1)) (aV SE 108 [.d (.sl aN.ks (List.map aN.enc p0)), .d (.sl aN.ks (List.map aN.enc p1))] [] []) := by
 refine bD (t := fun κ =>
  cond ((lM aN.enc p0 : Int) != (lM aN.enc p1 : Int)) (
  (rB false)) (
  ahC lab κ (List.map aN.enc p1) (List.map aN.enc p0) (lM aN.enc p0 : Int) 0)) (fun _ => by kernel_rfl) ?_
 unfold rC
 refine lDe ?_ ?_
 ·exact aK rfl
 ·(try simp only [EN]); exact ac3 fuel p1 p0 (List.length p0 : Int) 0
noncomputable def ahz (L : dK) (κ : Tau) (a0 a1 : List (List D)) (a2 a3 : Int) : Res := L SE (K κ) κ.Λ κ.J 109 0 [1, 1, 0, 1, 0] (cL [(1, .d (.sl [.str] a0)), (12, .d (.sl [.str] a1)), (13, dIq a2), (14, dIq a3)] [] [] [] [])
theorem abG : ∀ (fu : Nat) (x1 x12 : List Str) (x13 x14 : Int), Le (Option.map aF (jH fu x1 x12 x13 x14)) (ahz lab (kF 109) (List.map bM x1) (List.map bM x12) x13 x14) := by
 intro fu
 induction fu with
 | zero => intros; exact le_none
 | succ fu ih =>
  intro x1 x12 x13 x14
  refine cK (t := fun κ =>
  cond (decide (x14 < x13)) (
  cond (iB x14 (lM bM x12 : Int)) (
   cond (iB x14 (lM bM x1 : Int)) (
   cond (!((aX (cE bM x12 x14 0)) == (aX (cE bM x1 x14 0)))) (
    (rB false)) (
   ahz lab κ (List.map bM x1) (List.map bM x12) x13 (w6 (x14 + 1)))) none) none) (
  (rB true))) (fun _ => by kernel_rfl) ?_
  unfold jH
  refine lC ?_ ?_
  ·refine lGe ?_
   refine lGe ?_
   refine lDe ?_ ?_
   ·exact aK rfl
   ·exact ih x1 x12 x13 (w6 (x14 + 1))
  ·exact aK rfl
theorem aeO (p0 p1 : List Str) : Le (Option.map aF (pJ p0 p1)) (aV SE 109 [.d (.sl [.str] (List.map bM p0)), .d (.sl [.str] (List.map bM p1))] [] []) := by
 refine bD (t := fun κ =>
  cond ((lM bM p0 : Int) != (lM bM p1 : Int)) (
  (rB false)) (
  ahz lab κ (List.map bM p1) (List.map bM p0) (lM bM p0 : Int) 0)) (fun _ => by kernel_rfl) ?_
 unfold pJ
 refine lDe ?_ ?_
 ·exact aK rfl
 ·(try simp only [EN]); exact abG fuel p1 p0 (List.length p0 : Int) 0
noncomputable def aht (L : dK) (κ : Tau) (a0 a1 : List (List D)) (a2 a3 : Int) : Res := L SE (K κ) κ.Λ κ.J 110 0 [1, 1, 0, 1, 0] (cL [(1, .d (.sl [.int .i64] a0)), (12, .d (.sl [.int .i64] a1)), (13, dIq a2), (14, dIq a3)] [] [] [] [])
theorem aba : ∀ (fu : Nat) (x1 x12 : List Int) (x13 x14 : Int), Le (Option.map aF (gT fu x1 x12 x13 x14)) (aht lab (kF 110) (List.map eI x1) (List.map eI x12) x13 x14) := by
 intro fu
 induction fu with
 | zero => intros; exact le_none
 | succ fu ih =>
  intro x1 x12 x13 x14
  refine cK (t := fun κ =>
  cond (decide (x14 < x13)) (
  cond (iB x14 (lM eI x12 : Int)) (
   cond (iB x14 (lM eI x1 : Int)) (
   cond ((aM (cE eI x12 x14 0)) != (aM (cE eI x1 x14 0))) (
    (rB false)) (
   aht lab κ (List.map eI x1) (List.map eI x12) x13 (w6 (x14 + 1)))) none) none) (
  (rB true))) (fun _ => by kernel_rfl) ?_
  unfold gT
  refine lC ?_ ?_
  ·refine lGe ?_
   refine lGe ?_
   refine lDe ?_ ?_
   ·exact aK rfl
   ·exact ih x1 x12 x13 (w6 (x14 + 1))
  ·exact aK rfl
theorem ac2 (p0 p1 : List Int) : Le (Option.map aF (nM p0 p1)) (aV SE 110 [.d (.sl [.int .i64] (List.map eI p0)), .d (.sl [.int .i64] (List.map eI p1))] [] []) := by
 refine bD (t := fun κ =>
  cond ((lM eI p0 : Int) != (lM eI p1 : Int)) (
  (rB false)) (
  aht lab κ (List.map eI p1) (List.map eI p0) (lM eI p0 : Int) 0)) (fun _ => by kernel_rfl) ?_
 unfold nM
 refine lDe ?_ ?_
 ·exact aK rfl
 ·(try simp only [EN]); exact aba fuel p1 p0 (List.length p0 : Int) 0
theorem afX (p0 p1 : aA) : Le (Option.map aF (rF p0 p1)) (aV SE 69 [aA.av p0, aA.av p1] [] []) := by
 refine bD (t := fun κ =>
  κ.t 106 iH [aA.av p0] [] [] fun r0 =>
  κ.t 106 iH [aA.av p1] [] [] fun r1 =>
  cond ((r0.kind == r1.kind) && ((r0.id == r1.id) && ((r0.keep == r1.keep) && ((r0.expiry == r1.expiry) && ((r0.window == r1.window) && ((r0.code == r1.code) && ((r0.delay == r1.delay) && ((r0.dup == r1.dup) && ((r0.clean == r1.clean) && ((r0.present == r1.present) && ((r0.set_ == r1.set_) && ((r0.client == r1.client) && ((r0.user == r1.user) && true))))))))))))) (
  κ.t 107 aF [aB.av p0.Message, aB.av p1.Message] [] [] fun r2 =>
  cond r2 (
   κ.t 107 aF [aB.av p0.Will.Message, aB.av p1.Will.Message] [] [] fun r3 =>
   cond r3 (
   κ.t 108 aF [.d (.sl aN.ks (List.map aN.enc p0.Subs)), .d (.sl aN.ks (List.map aN.enc p1.Subs))] [] [] fun r4 =>
   cond r4 (
    κ.t 109 aF [.d (.sl [.str] (List.map bM p0.Filters)), .d (.sl [.str] (List.map bM p1.Filters))] [] [] fun r5 =>
    cond r5 (
    κ.t 110 aF [.d (.sl [.int .i64] (List.map eI p0.Codes)), .d (.sl [.int .i64] (List.map eI p1.Codes))] [] [] fun r6 =>
    (rB r6)) (
    (rB false))) (
   (rB false))) (
   (rB false))) (
  (rB false))) (
  (rB false))) (fun _ => by kernel_rfl) ?_
 unfold rF
 repeat' first | (with_reducible first | refine lC ?_ ?_ | refine lQ eX abE ?_ fun _ _ => ?_ | refine lQ eX aU ?_ fun _ _ => ?_ | refine lQ eX aU ?_ fun _ _ => ?_ | refine lQ eX aU ?_ fun _ _ => ?_ | refine lQ eX aU ?_ fun _ _ => ?_ | exact acW _ | exact tK _ _ | exact afG _ _ | exact aeO _ _ | exact ac2 _ _ | refine aK ?_) | rfl | (simp only [EN, aF] <;> rfl)
noncomputable def ahh (L : dK) (κ : Tau) (a0 : Int) (a1 : Str) (a2 : Nat) : Res := L SE (K κ) κ.Λ κ.J 95 0 [1, 1, 1, 0, 1, 0] (cL [(3, dIq a0), (15, .it 4000)] [] [] [(4000, (a1, a2))] [])
noncomputable def amJ (L : dK) (κ : Tau) (a0 : Str) : Res := L SE (K κ) κ.Λ κ.J 95 0 [1, 1, 0] (cL [(0, dSq a0)] [] [] [] [])
theorem ac0 : ∀ (fu : Nat) (x3 : Int) (s4000 : Str) (i4000 : Nat), Le (Option.map aF (gL fu x3 s4000 i4000)) (ahh lab (kF 95) x3 s4000 i4000) := by
 intro fu
 induction fu with
 | zero => intros; exact le_none
 | succ fu ih =>
  intro x3 s4000 i4000
  refine cK (t := fun κ =>
  cond (decide (i4000 < List.length s4000)) (
  cond (((dec s4000 i4000).1 : Int) == 0) (
   (rB false)) (
  cond (((dec s4000 i4000).1 : Int) == 47) (
   ahh lab κ (w6 (x3 + 1)) s4000 (i4000 + (dec s4000 i4000).2)) (
  ahh lab κ x3 s4000 (i4000 + (dec s4000 i4000).2)))) (
  (rB (decide (x3 ≤ 8))))) (fun _ => by kernel_rfl) ?_
  unfold gL
  repeat' first | (with_reducible first | refine lC ?_ ?_ | exact ih _ _ _ | refine aK ?_) | rfl | (simp only [EN, aF] <;> rfl)
theorem acX (x0 : Str) : Le (Option.map aF (qP x0)) (amJ lab (kF 95) x0) := by
 refine cK (t := fun κ =>
  ahh lab κ 1 x0 0) (fun _ => by kernel_rfl) ?_
 unfold qP
 exact ac0 fuel 1 x0 0
theorem aaG (p0 : Str) : Le (Option.map aF (oY p0)) (aV SE 95 [dSq p0] [] []) := by
 refine bD (t := fun κ =>
  cond (decide ((List.length p0 : Int) < 1)) (
  (rB false)) (
  cond (decide ((List.length p0 : Int) > 64)) (
  (rB false)) (
  amJ lab κ p0))) (fun _ => by kernel_rfl) ?_
 unfold oY
 refine lC ?_ ?_
 ·exact aK rfl
 ·refine lC ?_ ?_
  ·exact aK rfl
  ·exact acX p0
noncomputable def aju (L : dK) (κ : Tau) (a0 : Str) (a1 : Nat) : Res := L SE (K κ) κ.Λ κ.J 56 0 [1, 1, 0, 1, 0] (cL [(9, .it 4000)] [] [] [(4000, (a0, a1))] [])
theorem acZ : ∀ (fu : Nat) (s4000 : Str) (i4000 : Nat), Le (Option.map aF (iL fu s4000 i4000)) (aju lab (kF 56) s4000 i4000) := by
 intro fu
 induction fu with
 | zero => intros; exact le_none
 | succ fu ih =>
  intro s4000 i4000
  refine cK (t := fun κ =>
  cond (decide (i4000 < List.length s4000)) (
  cond (((dec s4000 i4000).1 : Int) == 43) (
   (rB false)) (
  cond (((dec s4000 i4000).1 : Int) == 35) (
   (rB false)) (
  aju lab κ s4000 (i4000 + (dec s4000 i4000).2)))) (
  (rB true))) (fun _ => by kernel_rfl) ?_
  unfold iL
  refine lC ?_ ?_
  ·refine lC ?_ ?_
   ·exact aK rfl
   ·refine lC ?_ ?_
    ·exact aK rfl
    ·exact ih s4000 (i4000 + (dec s4000 i4000).2)
  ·exact aK rfl
theorem afz (p0 : Str) : Le (Option.map aF (rH p0)) (aV SE 56 [dSq p0] [] []) := by
 refine bD (t := fun κ =>
  κ.t 95 aF [dSq p0] [] [] fun r0 =>
  cond (!r0) (
  (rB false)) (
  aju lab κ p0 0)) (fun _ => by kernel_rfl) ?_
 unfold rH
 refine lQ eX aU (aaG _) fun r0 _ => ?_
 refine lC ?_ ?_
 ·exact aK rfl
 ·exact acZ fuel p0 0
theorem agZ (p0 p1 : Int) : Le (Option.map aF (lL p0 p1)) (aV SE 57 [dIq p0, dIq p1] [] []) := by
 refine bD (t := fun κ =>
  cond (decide (p0 ≥ 0)) (
  (rB (decide (p0 ≤ p1)))) (
  (rB false))) (fun _ => by kernel_rfl) ?_
 unfold lL
 refine lC ?_ ?_
 ·exact aK rfl
 ·exact aK rfl
noncomputable def wM (L : dK) (κ : Tau) (a0 : Str) (a1 : Int) : Res := L SE (K κ) κ.Λ κ.J 96 0 [1, 1, 0, 1, 0] (cL [(0, dSq a0), (3, dIq a1)] [] [] [] [])
noncomputable def amP (L : dK) (κ : Tau) (a0 : Str) : Res := L SE (K κ) κ.Λ κ.J 96 0 [1, 1, 0, 0] (cL [(0, dSq a0)] [] [] [] [])
theorem ac1 : ∀ (fu : Nat) (x0 : Str) (x3 : Int), Le (Option.map aF (eB fu x0 x3)) (wM lab (kF 96) x0 x3) := by
 intro fu
 induction fu with
 | zero => intros; exact le_none
 | succ fu ih =>
  intro x0 x3
  refine cK (t := fun κ =>
  cond (decide (x3 < (List.length x0 : Int))) (
  cond (iB x3 (List.length x0 : Int)) (
   cond (decide ((UInt8.toNat (List.getD x0 (Int.toNat x3) 0) : Int) < 97)) (
   cond (decide ((UInt8.toNat (List.getD x0 (Int.toNat x3) 0) : Int) < 48)) (
    cond ((UInt8.toNat (List.getD x0 (Int.toNat x3) 0) : Int) != 45) (
    (rB false)) (
    wM lab κ x0 (w6 (x3 + 1)))) (
   cond (decide ((UInt8.toNat (List.getD x0 (Int.toNat x3) 0) : Int) > 57)) (
    cond ((UInt8.toNat (List.getD x0 (Int.toNat x3) 0) : Int) != 45) (
    (rB false)) (
    wM lab κ x0 (w6 (x3 + 1)))) (
   wM lab κ x0 (w6 (x3 + 1))))) (
   cond (decide ((UInt8.toNat (List.getD x0 (Int.toNat x3) 0) : Int) > 122)) (
   cond (decide ((UInt8.toNat (List.getD x0 (Int.toNat x3) 0) : Int) < 48)) (
    cond ((UInt8.toNat (List.getD x0 (Int.toNat x3) 0) : Int) != 45) (
    (rB false)) (
    wM lab κ x0 (w6 (x3 + 1)))) (
   cond (decide ((UInt8.toNat (List.getD x0 (Int.toNat x3) 0) : Int) > 57)) (
    cond ((UInt8.toNat (List.getD x0 (Int.toNat x3) 0) : Int) != 45) (
    (rB false)) (
    wM lab κ x0 (w6 (x3 + 1)))) (
   wM lab κ x0 (w6 (x3 + 1))))) (
   wM lab κ x0 (w6 (x3 + 1))))) none) (
  (rB true))) (fun _ => by kernel_rfl) ?_
  unfold eB
  repeat' first | (with_reducible first | refine lF ?_ | refine lC ?_ ?_ | exact ih _ _ | refine aK ?_) | rfl | (simp only [EN, aF] <;> rfl)
theorem ac7 (x0 : Str) : Le (Option.map aF (qK x0)) (amP lab (kF 96) x0) := by
 refine cK (t := fun κ =>
  wM lab κ x0 0) (fun _ => by kernel_rfl) ?_
 unfold qK
 exact ac1 fuel x0 0
theorem aaF (p0 : Str) : Le (Option.map aF (rJ p0)) (aV SE 96 [dSq p0] [] []) := by
 refine bD (t := fun κ =>
  cond (decide ((List.length p0 : Int) < 1)) (
  (rB false)) (
  cond (decide ((List.length p0 : Int) > 16)) (
  (rB false)) (
  amP lab κ p0))) (fun _ => by kernel_rfl) ?_
 unfold rJ
 refine lC ?_ ?_
 ·exact aK rfl
 ·refine lC ?_ ?_
  ·exact aK rfl
  ·exact ac7 p0
noncomputable def ag7 (L : dK) (κ : Tau) (a0 a1 : List (List D)) (a2 a3 : Int) : Res := L SE (K κ) κ.Λ κ.J 58 0 [1, 1, 0, 1, 0] (cL [(0, .d (.sl aE.ks a0)), (8, .d (.sl aE.ks a1)), (9, dIq a2), (10, dIq a3)] [] [] [] [])
theorem abv : ∀ (fu : Nat) (x0 x8 : List aE) (x9 x10 : Int), Le (Option.map aJ (gG fu x0 x8 x9 x10)) (ag7 lab (kF 58) (List.map aE.enc x0) (List.map aE.enc x8) x9 x10) := by
 intro fu
 induction fu with
 | zero => intros; exact le_none
 | succ fu ih =>
  intro x0 x8 x9 x10
  refine cK (t := fun κ =>
  cond (decide (x10 < x9)) (
  cond (iB x10 (lM aE.enc x8 : Int)) (
   κ.t 96 aF [dSq (aX (cE aE.enc x8 x10 0))] [] [] fun r0 =>
   cond (!r0) (
   (rI 16)) (
   cond (decide ((List.length (aX (cE aE.enc x8 x10 1)) : Int) > 160)) (
   (rI 5)) (
   cond (decide (x10 > 0)) (
   cond (iB (w6 (x10 - 1)) (lM aE.enc x0 : Int)) (
    cond (Op.bytesLess (aX (cE aE.enc x8 x10 0)) (aX (cE aE.enc x0 (w6 (x10 - 1)) 0)) || (aX (cE aE.enc x8 x10 0)) == (aX (cE aE.enc x0 (w6 (x10 - 1)) 0))) (
    (rI 16)) (
    ag7 lab κ (List.map aE.enc x0) (List.map aE.enc x8) x9 (w6 (x10 + 1)))) none) (
   ag7 lab κ (List.map aE.enc x0) (List.map aE.enc x8) x9 (w6 (x10 + 1)))))) none) (
  (rI 0))) (fun _ => by kernel_rfl) ?_
  unfold gG
  repeat' first | (with_reducible first | refine lC ?_ ?_ | refine lQ eX aU ?_ fun _ _ => ?_ | refine lG ?_ ?_ | refine lD ?_ ?_ ?_ | exact aaF _ | exact ih _ _ _ _ | refine aK ?_) | rfl | (simp only [EN]; done) | (simp only [EN]; exact aaF _) | (simp only [EN, aJ] <;> rfl)
theorem adT (p0 : List aE) : Le (Option.map aJ (mE p0)) (aV SE 58 [.d (.sl aE.ks (List.map aE.enc p0))] [] []) := by
 refine bD (t := fun κ =>
  cond (decide ((lM aE.enc p0 : Int) > 8)) (
  (rI 5)) (
  ag7 lab κ (List.map aE.enc p0) (List.map aE.enc p0) (lM aE.enc p0 : Int) 0)) (fun _ => by kernel_rfl) ?_
 unfold mE
 refine lDe ?_ ?_
 ·exact aK rfl
 ·(try simp only [EN]); exact abv fuel p0 p0 (List.length p0 : Int) 0
theorem iA (p0 : aB) : Le (Option.map aJ (eN p0)) (aV SE 31 [aB.av p0] [] []) := by
 refine bD (t := fun κ =>
  κ.t 56 aF [dSq p0.Topic] [] [] fun r0 =>
  cond (!r0) (
  (rI 12)) (
  cond (decide ((List.length p0.Payload : Int) > 256)) (
  (rI 5)) (
  κ.t 57 aF [dIq p0.Level, dIq 2] [] [] fun r1 =>
  cond (!r1) (
  (rI 14)) (
  κ.t 57 aF [dIq p0.Priority, dIq 9] [] [] fun r2 =>
  cond (!r2) (
  (rI 1)) (
  κ.t 57 aF [dIq p0.Expires, dIq 1099511627776] [] [] fun r3 =>
  cond (!r3) (
  (rI 1)) (
  cond (!(p0.From == ([] : Str))) (
  κ.t 26 aF [dSq p0.From] [] [] fun r4 =>
  cond (!r4) (
   (rI 11)) (
  κ.t 57 aF [dIq p0.Seq, dIq 1099511627776] [] [] fun r5 =>
  cond (!r5) (
   (rI 1)) (
  κ.t 58 aJ [.d (.sl aE.ks (List.map aE.enc p0.Props))] [] [] fun r6 =>
  (rI r6)))) (
  κ.t 57 aF [dIq p0.Seq, dIq 1099511627776] [] [] fun r7 =>
  cond (!r7) (
  (rI 1)) (
  κ.t 58 aJ [.d (.sl aE.ks (List.map aE.enc p0.Props))] [] [] fun r8 =>
  (rI r8))))))))) (fun _ => by kernel_rfl) ?_
 unfold eN
 repeat' first | (with_reducible first | refine lC ?_ ?_ | refine lQ eX aU ?_ fun _ _ => ?_ | refine lQ eX aU ?_ fun _ _ => ?_ | refine lQ eX aU ?_ fun _ _ => ?_ | refine lQ eX bA ?_ fun _ _ => ?_ | exact afz _ | exact agZ _ _ | exact oU _ | exact adT _ | refine aK ?_) | rfl | (simp only [EN, aJ] <;> rfl)
theorem ac5 (p0 : aA) : Le (Option.map aJ (nG p0)) (aV SE 71 [aA.av p0] [] []) := by
 refine bD (t := fun κ =>
  κ.t 26 aF [dSq p0.Client] [] [] fun r0 =>
  cond (!r0) (
  (rI 11)) (
  cond (!(p0.User == ([] : Str))) (
  κ.t 26 aF [dSq p0.User] [] [] fun r1 =>
  cond (!r1) (
   (rI 11)) (
  κ.t 68 aF [dIq p0.Keep, dIq 0, dIq 1099511627776] [] [] fun r2 =>
  cond (!r2) (
   (rI 1)) (
  κ.t 68 aF [dIq p0.Expiry, dIq 0, dIq 1099511627776] [] [] fun r3 =>
  cond (!r3) (
   (rI 1)) (
  κ.t 68 aF [dIq p0.Window, dIq 1, dIq 32] [] [] fun r4 =>
  cond (!r4) (
   (rI 1)) (
  cond (!p0.Will.Set) (
   cond (p0.Will.Delay != 0) (
   (rI 28)) (
   κ.t 107 aF [aB.av p0.Will.Message, .agg [dSq [], dSq [], dIq 0, dBq false, dIq 0, dIq 0, dSq [], dIq 0, .d (.sl aE.ks (List.map aE.enc []))]] [] [] fun r5 =>
   cond (!r5) (
   (rI 28)) (
   cond (!p0.Will.Set) (
   (rI 0)) (
   κ.t 68 aF [dIq p0.Will.Delay, dIq 0, dIq 1099511627776] [] [] fun r6 =>
   cond (!r6) (
   (rI 1)) (
   κ.t 31 aJ [aB.av p0.Will.Message] [] [] fun r7 =>
   (rI r7)))))) (
  cond (!p0.Will.Set) (
   (rI 0)) (
  κ.t 68 aF [dIq p0.Will.Delay, dIq 0, dIq 1099511627776] [] [] fun r8 =>
  cond (!r8) (
   (rI 1)) (
  κ.t 31 aJ [aB.av p0.Will.Message] [] [] fun r9 =>
  (rI r9))))))))) (
  κ.t 68 aF [dIq p0.Keep, dIq 0, dIq 1099511627776] [] [] fun r10 =>
  cond (!r10) (
  (rI 1)) (
  κ.t 68 aF [dIq p0.Expiry, dIq 0, dIq 1099511627776] [] [] fun r11 =>
  cond (!r11) (
  (rI 1)) (
  κ.t 68 aF [dIq p0.Window, dIq 1, dIq 32] [] [] fun r12 =>
  cond (!r12) (
  (rI 1)) (
  cond (!p0.Will.Set) (
  cond (p0.Will.Delay != 0) (
   (rI 28)) (
  κ.t 107 aF [aB.av p0.Will.Message, .agg [dSq [], dSq [], dIq 0, dBq false, dIq 0, dIq 0, dSq [], dIq 0, .d (.sl aE.ks (List.map aE.enc []))]] [] [] fun r13 =>
  cond (!r13) (
   (rI 28)) (
  cond (!p0.Will.Set) (
   (rI 0)) (
  κ.t 68 aF [dIq p0.Will.Delay, dIq 0, dIq 1099511627776] [] [] fun r14 =>
  cond (!r14) (
   (rI 1)) (
  κ.t 31 aJ [aB.av p0.Will.Message] [] [] fun r15 =>
  (rI r15)))))) (
  cond (!p0.Will.Set) (
  (rI 0)) (
  κ.t 68 aF [dIq p0.Will.Delay, dIq 0, dIq 1099511627776] [] [] fun r16 =>
  cond (!r16) (
  (rI 1)) (
  κ.t 31 aJ [aB.av p0.Will.Message] [] [] fun r17 =>
  (rI r17)))))))))) (fun _ => by kernel_rfl) ?_
 unfold nG
 refine lQ eX aU (oU _) fun r0 _ => ?_
 refine lC ?_ ?_
 ·exact aK rfl
 ·refine lC ?_ ?_
  ·refine lQ eX aU (oU _) fun r1 _ => ?_
   refine lC ?_ ?_
   ·exact aK rfl
   ·refine lQ eX aU (dM _ _ _) fun r2 _ => ?_
    refine lC ?_ ?_
    ·exact aK rfl
    ·refine lQ eX aU (dM _ _ _) fun r3 _ => ?_
     refine lC ?_ ?_
     ·exact aK rfl
     ·refine lQ eX aU (dM _ _ _) fun r4 _ => ?_
      refine lC ?_ ?_
      ·exact aK rfl
      ·refine lC ?_ ?_
       ·refine lC ?_ ?_
        ·exact aK rfl
        ·refine lQ eX aU (by (try simp only [EN]); exact tK p0.Will.Message (zMq)) fun r5 _ => ?_
         refine lC ?_ ?_
         ·exact aK rfl
         ·refine lC ?_ ?_
          ·exact aK rfl
          ·refine lQ eX aU (dM _ _ _) fun r6 _ => ?_
           refine lC ?_ ?_
           ·exact aK rfl
           ·refine lQ eX bA (iA _) fun r7 _ => ?_
            exact aK rfl
       ·refine lC ?_ ?_
        ·exact aK rfl
        ·refine lQ eX aU (dM _ _ _) fun r8 _ => ?_
         refine lC ?_ ?_
         ·exact aK rfl
         ·refine lQ eX bA (iA _) fun r9 _ => ?_
          exact aK rfl
  ·refine lQ eX aU (dM _ _ _) fun r10 _ => ?_
   refine lC ?_ ?_
   ·exact aK rfl
   ·refine lQ eX aU (dM _ _ _) fun r11 _ => ?_
    refine lC ?_ ?_
    ·exact aK rfl
    ·refine lQ eX aU (dM _ _ _) fun r12 _ => ?_
     refine lC ?_ ?_
     ·exact aK rfl
     ·refine lC ?_ ?_
      ·refine lC ?_ ?_
       ·exact aK rfl
       ·refine lQ eX aU (by (try simp only [EN]); exact tK p0.Will.Message (zMq)) fun r13 _ => ?_
        refine lC ?_ ?_
        ·exact aK rfl
        ·refine lC ?_ ?_
         ·exact aK rfl
         ·refine lQ eX aU (dM _ _ _) fun r14 _ => ?_
          refine lC ?_ ?_
          ·exact aK rfl
          ·refine lQ eX bA (iA _) fun r15 _ => ?_
           exact aK rfl
      ·refine lC ?_ ?_
       ·exact aK rfl
       ·refine lQ eX aU (dM _ _ _) fun r16 _ => ?_
        refine lC ?_ ?_
        ·exact aK rfl
        ·refine lQ eX bA (iA _) fun r17 _ => ?_
         exact aK rfl
theorem uN (p0 : Int) : Le (Option.map aF (mV p0)) (aV SE 72 [dIq p0] [] []) := by
 refine bD (t := fun κ =>
  κ.t 68 aF [dIq p0, dIq 0, dIq 29] [] [] fun r0 =>
  (rB r0)) (fun _ => by kernel_rfl) ?_
 unfold mV
 refine lQ eX aU (dM _ _ _) fun r0 _ => ?_
 exact aK rfl
theorem zK (p0 : Int) : Le (Option.map aJ (iW p0)) (aV SE 74 [dIq p0] [] []) := by
 refine bD (t := fun κ =>
  κ.t 68 aF [dIq p0, dIq 1, dIq 65535] [] [] fun r0 =>
  cond (!r0) (
  (rI 15)) (
  (rI 0))) (fun _ => by kernel_rfl) ?_
 unfold iW
 refine lQ eX aU (dM _ _ _) fun r0 _ => ?_
 refine lC ?_ ?_
 ·exact aK rfl
 ·exact aK rfl
theorem ac6 (p0 : aA) : Le (Option.map aJ (nU p0)) (aV SE 73 [aA.av p0] [] []) := by
 refine bD (t := fun κ =>
  κ.t 31 aJ [aB.av p0.Message] [] [] fun r0 =>
  cond (r0 != 0) (
  (rI r0)) (
  cond (p0.Message.Level != 0) (
  κ.t 74 aJ [dIq p0.ID] [] [] fun r1 =>
  (rI r1)) (
  cond (p0.ID != 0) (
  (rI 15)) (
  cond p0.Dup (
  (rI 28)) (
  (rI 0)))))) (fun _ => by kernel_rfl) ?_
 unfold nU
 repeat' first | (with_reducible first | refine lC ?_ ?_ | refine lQ eX bA ?_ fun _ _ => ?_ | refine lQ eX bA ?_ fun _ _ => ?_ | exact iA _ | exact zK _ | refine aK ?_) | rfl | (simp only [EN, aJ] <;> rfl)
theorem nA (p0 p1 : Int) : Le (Option.map aJ (j8 p0 p1)) (aV SE 111 [dIq p0, dIq p1] [] []) := by
 refine bD (t := fun κ =>
  κ.t 68 aF [dIq p0, dIq 1, dIq 65535] [] [] fun r0 =>
  cond (!r0) (
  (rI 15)) (
  cond (p1 == 0) (
  (rI 1)) (
  cond (decide (p1 > 32)) (
  (rI 5)) (
  (rI 0))))) (fun _ => by kernel_rfl) ?_
 unfold j8
 refine lQ eX aU (dM _ _ _) fun r0 _ => ?_
 refine lC ?_ ?_
 ·exact aK rfl
 ·refine lC ?_ ?_
  ·exact aK rfl
  ·refine lC ?_ ?_
   ·exact aK rfl
   ·exact aK rfl
theorem qE (p0 p1 : Str) : Le (Option.map aF (gB p0 p1)) (aV SE 160 [dSq p0, dSq p1] [] []) := by
 refine bD (t := fun κ =>
  cond (decide ((List.length p0 : Int) ≥ (List.length p1 : Int))) (
  cond (decide (0 ≤ (List.length p1 : Int)) && decide ((List.length p1 : Int) ≤ ((List.length p0) : Int))) (
   (rB ((fE p0 none (some (List.length p1 : Int))) == p1))) none) (
  (rB false))) (fun _ => by kernel_rfl) ?_
 unfold gB
 refine lC ?_ ?_
 ·refine lF ?_
  exact aK rfl
 ·exact aK rfl
theorem yG (p0 p1 : Str) : Le (Option.map dG (kP p0 p1)) (aV SE 171 [dSq p0, dSq p1] [] []) := by
 refine bD (t := fun κ =>
  κ.t 160 aF [dSq p0, dSq p1] [] [] fun r0 =>
  cond (!r0) (
  (some (.ret [dSq p0, dBq false] [] []))) (
  cond (decide (0 ≤ (List.length p1 : Int)) && decide ((List.length p1 : Int) ≤ ((List.length p0) : Int))) (
  (some (.ret [dSq (fE p0 (some (List.length p1 : Int)) none), dBq true] [] []))) none)) (fun _ => by kernel_rfl) ?_
 unfold kP
 refine lQ eX aU (qE _ _) fun r0 _ => ?_
 refine lC ?_ ?_
 ·exact aK rfl
 ·refine lF ?_
  exact aK rfl
theorem abg (p0 p1 : Str) : Le (Option.map dG (lB p0 p1)) (aV SE 157 [dSq p0, dSq p1] [] []) := by
 refine bD (t := fun κ =>
  κ.t 171 dG [dSq p0, dSq p1] [] [] fun r0 =>
  (some (.ret [dSq r0.1, dBq r0.2] [] []))) (fun _ => by kernel_rfl) ?_
 unfold lB
 refine lQ eX pE (yG _ _) fun r0 _ => ?_
 exact aK rfl
theorem yQ (p0 : Str) (p1 : Int) : Le (Option.map aJ (nS p0 p1)) (aV SE 176 [dSq p0, .d (.int .u8 p1)] [] []) := by
 refine bD (t := fun κ =>
  (rI (Lib.indexByte p0 (UInt8.ofNat (Int.toNat p1)) : Int))) (fun _ => by kernel_rfl) ?_
 unfold nS
 exact aK rfl
theorem tS (p0 p1 : Str) : Le (Option.map aJ (gQ p0 p1)) (aV SE 174 [dSq p0, dSq p1] [] []) := by
 refine bD (t := fun κ =>
  cond ((List.length p1 : Int) == 0) (
  (rI 0)) (
  cond (p1 == p0) (
  (rI 0)) (
  cond ((List.length p1 : Int) == 1) (
  cond (decide (0 ≤ 0) && decide (0 < (List.length p1 : Int))) (
   κ.t 176 aJ [dSq p0, .d (.int .u8 (UInt8.toNat (List.getD p1 (Int.toNat 0) 0) : Int))] [] [] fun r0 =>
   (rI r0)) none) (
  cond (decide ((List.length p1 : Int) ≥ (List.length p0 : Int))) (
  (rI (-1))) none)))) (fun _ => by kernel_rfl) ?_
 unfold gQ
 refine lC ?_ ?_
 ·exact aK rfl
 ·refine lC ?_ ?_
  ·exact aK rfl
  ·refine lC ?_ ?_
   ·refine lF ?_
    refine lQ eX bA (yQ _ _) fun r0 _ => ?_
    exact aK rfl
   ·refine lF ?_
    exact aK rfl
theorem abY (p0 p1 : Str) : Le (Option.map bL (pG p0 p1)) (aV SE 172 [dSq p0, dSq p1] [] []) := by
 refine bD (t := fun κ =>
  κ.t 174 aJ [dSq p0, dSq p1] [] [] fun r0 =>
  cond (decide (r0 ≥ 0)) (
  cond (decide (0 ≤ r0) && decide (r0 ≤ ((List.length p0) : Int))) (
   cond (decide (0 ≤ (w6 (r0 + (List.length p1 : Int)))) && decide ((w6 (r0 + (List.length p1 : Int))) ≤ ((List.length p0) : Int))) (
   (some (.ret [dSq (fE p0 none (some r0)), dSq (fE p0 (some (w6 (r0 + (List.length p1 : Int)))) none), dBq true] [] []))) none) none) (
  (some (bL (p0, [], false))))) (fun _ => by kernel_rfl) ?_
 unfold pG
 refine lQ eX bA (tS _ _) fun r0 _ => ?_
 refine lC ?_ ?_
 ·refine lF ?_
  refine lF ?_
  exact aK rfl
 ·exact aK rfl
theorem afk (p0 p1 : Str) : Le (Option.map bL (qZ p0 p1)) (aV SE 158 [dSq p0, dSq p1] [] []) := by
 refine bD (t := fun κ =>
  κ.t 172 bL [dSq p0, dSq p1] [] [] fun r0 =>
  (some (bL (r0.1, r0.2.1, r0.2.2)))) (fun _ => by kernel_rfl) ?_
 unfold qZ
 refine lQ eX o8 (abY _ _) fun r0 _ => ?_
 exact aK rfl
theorem yS (p0 p1 : Str) : Le (Option.map aJ (jT p0 p1)) (aV SE 182 [dSq p0, dSq p1] [] []) := by
 refine bD (t := fun κ =>
  κ.t 174 aJ [dSq p0, dSq p1] [] [] fun r0 =>
  (rI r0)) (fun _ => by kernel_rfl) ?_
 unfold jT
 refine lQ eX bA (tS _ _) fun r0 _ => ?_
 exact aK rfl
noncomputable def ahH (L : dK) (κ : Tau) (a0 a1 : Str) (a2 : Int) : Res := L SE (K κ) κ.Λ κ.J 181 0 [1, 1, 1, 1, 0] (cL [(0, dSq a0), (1, dSq a1), (5, dIq a2)] [] [] [] [])
theorem abw : ∀ (fu : Nat) (x0 x1 : Str) (x5 : Int), Le (Option.map aJ (oG fu x0 x1 x5)) (ahH lab (kF 181) x0 x1 x5) := by
 intro fu
 induction fu with
 | zero => intros; exact le_none
 | succ fu ih =>
  intro x0 x1 x5
  refine cK (t := fun κ =>
  κ.t 182 aJ [dSq x0, dSq x1] [] [] fun r0 =>
  cond (r0 == (-1)) (
  (rI x5)) (
  cond (decide (0 ≤ (w6 (r0 + (List.length x1 : Int)))) && decide ((w6 (r0 + (List.length x1 : Int))) ≤ ((List.length x0) : Int))) (
  ahH lab κ (fE x0 (some (w6 (r0 + (List.length x1 : Int)))) none) x1 (w6 (x5 + 1))) none)) (fun _ => by kernel_rfl) ?_
  unfold oG
  refine lQ eX bA (yS _ _) fun r0 _ => ?_
  refine lC ?_ ?_
  ·exact aK rfl
  ·refine lF ?_
   exact ih (fE x0 (some (w6 (r0 + (List.length x1 : Int)))) none) x1 (w6 (x5 + 1))
theorem adG (p0 p1 : Str) : Le (Option.map aJ (oK p0 p1)) (aV SE 181 [dSq p0, dSq p1] [] []) := by
 refine bD (t := fun κ =>
  cond ((List.length p1 : Int) == 0) (
  none) (
  cond ((List.length p1 : Int) == 1) (
  cond (decide (0 ≤ 0) && decide (0 < (List.length p1 : Int))) (
   (rI (Lib.countByte p0 (UInt8.ofNat (Int.toNat (UInt8.toNat (List.getD p1 (Int.toNat 0) 0) : Int))) : Int))) none) (
  ahH lab κ p0 p1 0))) (fun _ => by kernel_rfl) ?_
 unfold oK
 refine lC ?_ ?_
 ·exact le_none
 ·refine lC ?_ ?_
  ·refine lF ?_
   exact aK rfl
  ·exact abw fuel p0 p1 0
noncomputable def afK (L : dK) (κ : Tau) (a0 : Str) (a1 : Int) (a2 : List (List D)) : Res := L SE (K κ) κ.Λ κ.J 175 0 [1, 1, 1, 1, 1, 1, 1, 1, 1, 0] (cL [(0, dSq a0), (9, .row 3009), (10, dIq a1)] [] [] [] [(3009, ⟨[.str], 9, 16, a2⟩)])
noncomputable def afY (L : dK) (κ : Tau) (a0 a1 : Str) (a2 a3 a4 : Int) (a5 : List (List D)) : Res := L SE (K κ) κ.Λ κ.J 175 0 [1, 1, 1, 1, 1, 1, 1, 1, 0, 0] (cL [(0, dSq a0), (1, dSq a1), (2, dIq a2), (3, dIq a3), (9, .row 3009), (10, dIq a4)] [] [] [] [(3009, ⟨[.str], 9, 16, a5⟩)])
noncomputable def ahr (L : dK) (κ : Tau) (a0 a1 : Str) (a2 a3 : Int) : Res := L SE (K κ) κ.Λ κ.J 175 0 [1, 1, 1, 1, 0] (cL [(0, dSq a0), (1, dSq a1), (2, dIq a2), (3, dIq a3)] [] [] [] [])
theorem yW (x0 : Str) (x10 : Int) (w3009 : List Str) : Le (Option.map bP (jA x0 x10 w3009)) (afK lab (kF 175) x0 x10 (List.map bM w3009)) := by
 refine cK (t := fun κ =>
  cond (iB x10 (lM bM w3009 : Int)) (
  cond (decide (0 ≤ (w6 (x10 + 1))) && decide ((w6 (x10 + 1)) ≤ ((List.length (uT (List.map bM w3009) (Int.toNat x10) 0 [D.str x0])) : Int))) (
   (some (.ret [.d (.sl [.str] (List.take ((Int.toNat (w6 (x10 + 1))) - 0) (List.drop 0 (uT (List.map bM w3009) (Int.toNat x10) 0 [D.str x0]))))] [] []))) none) none) (fun _ => by kernel_rfl) ?_
 unfold jA
 refine lGe ?_
 refine lGe ?_
 exact aK (by first | rfl | simp only [EN, bP] <;> rfl)
theorem qU : ∀ (fu : Nat) (x0 x1 : Str) (x2 x3 x10 : Int) (w3009 : List Str), Le (Option.map bP (fC fu x0 x1 x2 x3 x10 w3009)) (afY lab (kF 175) x0 x1 x2 x3 x10 (List.map bM w3009)) := by
 intro fu
 induction fu with
 | zero => intros; exact le_none
 | succ fu ih =>
  intro x0 x1 x2 x3 x10 w3009
  refine cK (t := fun κ =>
  cond (decide (x10 < x3)) (
  κ.t 182 aJ [dSq x0, dSq x1] [] [] fun r1 =>
  cond (decide (r1 < 0)) (
   afK lab κ x0 x10 (List.map bM w3009)) (
  cond (decide (0 ≤ (w6 (r1 + x2))) && decide ((w6 (r1 + x2)) ≤ ((List.length x0) : Int))) (
   cond (iB x10 (lM bM w3009 : Int)) (
   cond (decide (0 ≤ (w6 (r1 + (List.length x1 : Int)))) && decide ((w6 (r1 + (List.length x1 : Int))) ≤ ((List.length x0) : Int))) (
    afY lab κ (fE x0 (some (w6 (r1 + (List.length x1 : Int)))) none) x1 x2 x3 (w6 (x10 + 1)) ((uT (List.map bM w3009) (Int.toNat x10) 0 [D.str (fE x0 none (some (w6 (r1 + x2))))]))) none) none) none)) (
  afK lab κ x0 x10 (List.map bM w3009))) (fun _ => by kernel_rfl) ?_
  unfold fC
  repeat' first | (with_reducible first | refine lF ?_ | refine lC ?_ ?_ | refine lQ eX bA ?_ fun _ _ => ?_ | refine lG ?_ ?_ | exact yS _ _ | exact yW _ _ _ | exact ih _ _ _ _ _ _) | (simp only [EN]; done) | (simp only [EN]; exact ih _ _ _ _ _ _)
theorem rK (x0 x1 : Str) (x2 x3 : Int) : Le (Option.map bP (jY x0 x1 x2 x3)) (ahr lab (kF 175) x0 x1 x2 x3) := by
 refine cK (t := fun κ =>
  cond (decide (0 ≤ (if (w6 ((List.length x0 : Int) + 1)) < x3 then (w6 ((List.length x0 : Int) + 1)) else x3)) && decide ((if (w6 ((List.length x0 : Int) + 1)) < x3 then (w6 ((List.length x0 : Int) + 1)) else x3) ≤ (if (w6 ((List.length x0 : Int) + 1)) < x3 then (w6 ((List.length x0 : Int) + 1)) else x3)) && decide ((if (w6 ((List.length x0 : Int) + 1)) < x3 then (w6 ((List.length x0 : Int) + 1)) else x3) * 16 ≤ 281474976710656)) (
  afY lab κ x0 x1 x2 ((w6 ((if (w6 ((List.length x0 : Int) + 1)) < x3 then (w6 ((List.length x0 : Int) + 1)) else x3) - 1))) 0 ((List.replicate (Int.toNat (if (w6 ((List.length x0 : Int) + 1)) < x3 then (w6 ((List.length x0 : Int) + 1)) else x3)) [D.str []]))) none) (fun _ => by kernel_rfl) ?_
 unfold jY
 repeat' first | (with_reducible first | refine lF ?_ | exact qU fuel _ _ _ _ _ _) | (simp only [EN]; exact qU fuel _ _ _ _ _ _)
theorem abz (p0 p1 : Str) (p2 p3 : Int) : Le (Option.map bP (oC p0 p1 p2 p3)) (aV SE 175 [dSq p0, dSq p1, dIq p2, dIq p3] [] []) := by
 refine bD (t := fun κ =>
  cond (p3 == 0) (
  (some (.ret [.d (.sl [.str] (List.map bM []))] [] []))) (
  cond (p1 == ([] : Str)) (
  none) (
  cond (decide (p3 < 0)) (
  κ.t 181 aJ [dSq p0, dSq p1] [] [] fun r0 =>
  ahr lab κ p0 p1 p2 (w6 (r0 + 1))) (
  ahr lab κ p0 p1 p2 p3)))) (fun _ => by kernel_rfl) ?_
 unfold oC
 refine lC ?_ ?_
 ·exact aK rfl
 ·refine lC ?_ ?_
  ·exact le_none
  ·refine lC ?_ ?_
   ·refine lQ eX bA (adG _ _) fun r0 _ => ?_
    exact rK p0 p1 p2 (w6 (r0 + 1))
   ·exact rK p0 p1 p2 p3
theorem adE (p0 p1 : Str) : Le (Option.map bP (oS p0 p1)) (aV SE 173 [dSq p0, dSq p1] [] []) := by
 refine bD (t := fun κ =>
  κ.t 175 bP [dSq p0, dSq p1, dIq 0, dIq (-1)] [] [] fun r0 =>
  (some (bP r0))) (fun _ => by kernel_rfl) ?_
 unfold oS
 refine lQ eX oB (abz _ _ _ _) fun r0 _ => ?_
 exact aK rfl
theorem aeI (p0 : Str) : Le (Option.map bP (pK p0)) (aV SE 159 [dSq p0] [] []) := by
 refine bD (t := fun κ =>
  κ.t 173 bP [dSq p0, dSq ([47] : Str)] [] [] fun r0 =>
  (some (bP r0))) (fun _ => by kernel_rfl) ?_
 unfold pK
 refine lQ eX oB (adE _ _) fun r0 _ => ?_
 exact aK rfl
noncomputable def aaL (L : dK) (κ : Tau) (a0 : List (List D)) (a1 : Bool) (a2 : Int) (a3 : Str) (a4 : List (List D)) (a5 a6 : Int) (a7 : Str) (a8 : Nat) : Res := L SE (K κ) κ.Λ κ.J 144 0 [1, 0, 1, 1, 1, 1, 0, 1, 0, 0, 1, 1, 0, 0, 1, 1, 0] (cL [(3, .d (.sl [.str] a0)), (4, dBq a1), (5, dIq a2), (6, dSq a3), (15, .d (.sl [.str] a4)), (16, dIq a5), (17, dIq a6), (23, .it 4000)] [] [] [(4000, (a7, a8))] [])
noncomputable def aei (L : dK) (κ : Tau) (a0 : List (List D)) (a1 : Bool) (a2 : List (List D)) (a3 a4 : Int) : Res := L SE (K κ) κ.Λ κ.J 144 0 [1, 0, 1, 1, 1, 1, 0, 1, 0] (cL [(3, .d (.sl [.str] a0)), (4, dBq a1), (15, .d (.sl [.str] a2)), (16, dIq a3), (17, dIq a4)] [] [] [] [])
theorem v7 : ∀ (fu : Nat) (k6 : (List Str) → Bool → (List Str) → Int → Int → Option (Bool)) (hk6 : ∀ (x3 : List Str) (x4 : Bool) (x15 : List Str) (x16 x17 : Int), Le (Option.map aF (k6 x3 x4 x15 x16 x17)) (aei lab (kF 144) (List.map bM x3) x4 (List.map bM x15) x16 x17)) (x3 : List Str) (x4 : Bool) (x5 : Int) (x6 : Str) (x15 : List Str) (x16 x17 : Int) (s4000 : Str) (i4000 : Nat), Le (Option.map aF (eP fu k6 x3 x4 x5 x6 x15 x16 x17 s4000 i4000)) (aaL lab (kF 144) (List.map bM x3) x4 x5 x6 (List.map bM x15) x16 x17 s4000 i4000) := by
 intro fu
 induction fu with
 | zero => intros; exact le_none
 | succ fu ih =>
  intro k6 hk6 x3 x4 x5 x6 x15 x16 x17 s4000 i4000
  refine cK (t := fun κ =>
  cond (decide (i4000 < List.length s4000)) (
  cond (((dec s4000 i4000).1 : Int) == 43) (
   cond (!((List.length x6 : Int) == 1)) (
   (rB false)) (
   cond (((dec s4000 i4000).1 : Int) == 35) (
   cond (!((List.length x6 : Int) == 1)) (
    (rB false)) (
   cond (decide (x5 < (w6 ((lM bM x3 : Int) - 1)))) (
    (rB false)) (
   aaL lab κ (List.map bM x3) x4 x5 x6 (List.map bM x15) x16 x17 s4000 (i4000 + (dec s4000 i4000).2)))) (
   aaL lab κ (List.map bM x3) x4 x5 x6 (List.map bM x15) x16 x17 s4000 (i4000 + (dec s4000 i4000).2)))) (
  cond (((dec s4000 i4000).1 : Int) == 35) (
   cond (!((List.length x6 : Int) == 1)) (
   (rB false)) (
   cond (decide (x5 < (w6 ((lM bM x3 : Int) - 1)))) (
   (rB false)) (
   aaL lab κ (List.map bM x3) x4 x5 x6 (List.map bM x15) x16 x17 s4000 (i4000 + (dec s4000 i4000).2)))) (
  aaL lab κ (List.map bM x3) x4 x5 x6 (List.map bM x15) x16 x17 s4000 (i4000 + (dec s4000 i4000).2)))) (
  aei lab κ (List.map bM x3) x4 (List.map bM x15) x16 (w6 (x17 + 1)))) (fun _ => by kernel_rfl) ?_
  unfold eP
  repeat' first | (with_reducible first | refine lC ?_ ?_ | refine lD ?_ ?_ ?_ | exact ih _ hk6 _ _ _ _ _ _ _ _ _ | exact hk6 _ _ _ _ _ | refine aK ?_) | rfl | (simp only [EN]; done) | (simp only [EN, aF] <;> rfl)
theorem ab7 : ∀ (fu : Nat) (x3 : List Str) (x4 : Bool) (x15 : List Str) (x16 x17 : Int), Le (Option.map aF (jG fu x3 x4 x15 x16 x17)) (aei lab (kF 144) (List.map bM x3) x4 (List.map bM x15) x16 x17) := by
 intro fu
 induction fu with
 | zero => intros; exact le_none
 | succ fu ih =>
  intro x3 x4 x15 x16 x17
  refine cK (t := fun κ =>
  cond (decide (x17 < x16)) (
  cond (iB x17 (lM bM x15 : Int)) (
   aaL lab κ (List.map bM x3) x4 x17 ((aX (cE bM x15 x17 0))) (List.map bM x15) x16 x17 ((aX (cE bM x15 x17 0))) 0) none) (
  (rB x4))) (fun _ => by kernel_rfl) ?_
  unfold jG
  repeat' first | (with_reducible first | refine lC ?_ ?_ | refine lG ?_ ?_ | exact v7 fuel _ (ih) _ _ _ _ _ _ _ _ _ | refine aK ?_) | rfl | (simp only [EN]; done) | (simp only [EN]; exact v7 fuel _ (ih) _ _ _ _ _ _ _ _ _) | (simp only [EN, aF] <;> rfl)
theorem zB (p0 : Str) : Le (Option.map aF (nN p0)) (aV SE 144 [dSq p0] [] []) := by
 refine bD (t := fun κ =>
  κ.t 95 aF [dSq p0] [] [] fun r0 =>
  cond (!r0) (
  (rB false)) (
  κ.t 159 bP [dSq p0] [] [] fun r1 =>
  aei lab κ (List.map bM r1) true (List.map bM r1) (lM bM r1 : Int) 0)) (fun _ => by kernel_rfl) ?_
 unfold nN
 refine lQ eX aU (aaG _) fun r0 _ => ?_
 refine lC ?_ ?_
 ·exact aK rfl
 ·refine lQ eX oB (aeI _) fun r1 _ => ?_
  (try simp only [EN]); exact ab7 fuel r1 true r1 (List.length r1 : Int) 0
theorem tF (p0 p1 : Str) : Le (Option.map aF (jQ p0 p1)) (aV SE 145 [dSq p0, dSq p1] [] []) := by
 refine bD (t := fun κ =>
  κ.t 160 aF [dSq p0, dSq p1] [] [] fun r0 =>
  (rB r0)) (fun _ => by kernel_rfl) ?_
 unfold jQ
 refine lQ eX aU (qE _ _) fun r0 _ => ?_
 exact aK rfl
theorem aff (p0 : Str) : Le (Option.map bL (qB p0)) (aV SE 143 [dSq p0] [] []) := by
 refine bD (t := fun κ =>
  κ.t 157 dG [dSq p0, dSq ([36, 115, 104, 97, 114, 101, 47] : Str)] [] [] fun r0 =>
  cond (!r0.2) (
  (some (bL (([], [], false))))) (
  κ.t 158 bL [dSq r0.1, dSq ([47] : Str)] [] [] fun r1 =>
  cond (!r1.2.2) (
  (some (bL (([], [], false))))) (
  κ.t 26 aF [dSq r1.1] [] [] fun r2 =>
  cond (!r2) (
  (some (bL (([], [], false))))) (
  κ.t 144 aF [dSq r1.2.1] [] [] fun r3 =>
  cond (!r3) (
  (some (bL (([], [], false))))) (
  κ.t 145 aF [dSq r1.2.1, dSq ([36, 115, 104, 97, 114, 101, 47] : Str)] [] [] fun r4 =>
  cond r4 (
  (some (bL (([], [], false))))) (
  (some (bL (r1.1, r1.2.1, true))))))))) (fun _ => by kernel_rfl) ?_
 unfold qB
 repeat' first | (with_reducible first | refine lC ?_ ?_ | refine lQ eX pE ?_ fun _ _ => ?_ | refine lQ eX o8 ?_ fun _ _ => ?_ | refine lQ eX aU ?_ fun _ _ => ?_ | refine lQ eX aU ?_ fun _ _ => ?_ | refine lQ eX aU ?_ fun _ _ => ?_ | exact abg _ _ | exact afk _ _ | exact oU _ | exact zB _ | exact tF _ _ | refine aK ?_) | rfl | (simp only [EN, bL] <;> rfl)
theorem oF (p0 : Str) : Le (Option.map jN (mC p0)) (aV SE 112 [dSq p0] [] []) := by
 refine bD (t := fun κ =>
  κ.t 143 bL [dSq p0] [] [] fun r0 =>
  cond r0.2.2 (
  (some (.ret [dBq true, dBq true] [] []))) (
  κ.t 144 aF [dSq p0] [] [] fun r1 =>
  cond r1 (
  κ.t 145 aF [dSq p0, dSq ([36, 115, 104, 97, 114, 101, 47] : Str)] [] [] fun r2 =>
  (some (.ret [dBq (!r2), dBq false] [] []))) (
  (some (.ret [dBq false, dBq false] [] []))))) (fun _ => by kernel_rfl) ?_
 unfold mC
 refine lQ eX o8 (aff _) fun r0 _ => ?_
 refine lC ?_ ?_
 ·exact aK rfl
 ·refine lQ eX aU (zB _) fun r1 _ => ?_
  refine lC ?_ ?_
  ·refine lQ eX aU (tF _ _) fun r2 _ => ?_
   exact aK rfl
  ·exact aK rfl
noncomputable def ahe (L : dK) (κ : Tau) (a0 : List (List D)) (a1 a2 : Int) : Res := L SE (K κ) κ.Λ κ.J 75 0 [1, 1, 0, 1, 0] (cL [(18, .d (.sl aN.ks a0)), (19, dIq a1), (20, dIq a2)] [] [] [] [])
theorem aae : ∀ (fu : Nat) (x18 : List aN) (x19 x20 : Int), Le (Option.map aJ (eF fu x18 x19 x20)) (ahe lab (kF 75) (List.map aN.enc x18) x19 x20) := by
 intro fu
 induction fu with
 | zero => intros; exact le_none
 | succ fu ih =>
  intro x18 x19 x20
  refine cK (t := fun κ =>
  cond (decide (x20 < x19)) (
  cond (iB x20 (lM aN.enc x18 : Int)) (
   κ.t 112 jN [dSq (aX (cE aN.enc x18 x20 0))] [] [] fun r1 =>
   cond (!r1.1) (
   (rI 13)) (
   κ.t 68 aF [dIq (aM (cE aN.enc x18 x20 1)), dIq 0, dIq 2] [] [] fun r2 =>
   cond (!r2) (
   (rI 14)) (
   cond (bC (cE aN.enc x18 x20 2)) (
   cond r1.2 (
    (rI 28)) (
   ahe lab κ (List.map aN.enc x18) x19 (w6 (x20 + 1)))) (
   ahe lab κ (List.map aN.enc x18) x19 (w6 (x20 + 1)))))) none) (
  (rI 0))) (fun _ => by kernel_rfl) ?_
  unfold eF
  repeat' first | (with_reducible first | refine lC ?_ ?_ | refine lQ eX wG ?_ fun _ _ => ?_ | refine lQ eX aU ?_ fun _ _ => ?_ | refine lG ?_ ?_ | refine lD ?_ ?_ ?_ | exact oF _ | exact dM _ _ _ | exact ih _ _ _ | refine aK ?_) | rfl | (simp only [EN]; done) | (simp only [EN]; exact oF _) | (simp only [EN]; exact dM _ _ _) | (simp only [EN, aJ] <;> rfl)
theorem abx (p0 : aA) : Le (Option.map aJ (lZ p0)) (aV SE 75 [aA.av p0] [] []) := by
 refine bD (t := fun κ =>
  κ.t 111 aJ [dIq p0.ID, dIq (lM aN.enc p0.Subs : Int)] [] [] fun r0 =>
  cond (r0 != 0) (
  (rI r0)) (
  ahe lab κ (List.map aN.enc p0.Subs) (lM aN.enc p0.Subs : Int) 0)) (fun _ => by kernel_rfl) ?_
 unfold lZ
 refine lQ eX bA (by (try simp only [EN]); exact nA p0.ID (List.length p0.Subs : Int)) fun r0 _ => ?_
 refine lC ?_ ?_
 ·exact aK rfl
 ·(try simp only [EN]); exact aae fuel p0.Subs (List.length p0.Subs : Int) 0
noncomputable def aj5 (L : dK) (κ : Tau) (a0 : List (List D)) (a1 a2 : Int) : Res := L SE (K κ) κ.Λ κ.J 76 0 [1, 1, 0, 1, 0] (cL [(16, .d (.sl [.int .i64] a0)), (17, dIq a1), (18, dIq a2)] [] [] [] [])
theorem acw : ∀ (fu : Nat) (x16 : List Int) (x17 x18 : Int), Le (Option.map aJ (gV fu x16 x17 x18)) (aj5 lab (kF 76) (List.map eI x16) x17 x18) := by
 intro fu
 induction fu with
 | zero => intros; exact le_none
 | succ fu ih =>
  intro x16 x17 x18
  refine cK (t := fun κ =>
  cond (decide (x18 < x17)) (
  cond (iB x18 (lM eI x16 : Int)) (
   κ.t 72 aF [dIq (aM (cE eI x16 x18 0))] [] [] fun r1 =>
   cond (!r1) (
   (rI 1)) (
   aj5 lab κ (List.map eI x16) x17 (w6 (x18 + 1)))) none) (
  (rI 0))) (fun _ => by kernel_rfl) ?_
  unfold gV
  repeat' first | (with_reducible first | refine lC ?_ ?_ | refine lQ eX aU ?_ fun _ _ => ?_ | refine lG ?_ ?_ | exact uN _ | exact ih _ _ _ | refine aK ?_) | rfl | (simp only [EN]; done) | (simp only [EN]; exact uN _) | (simp only [EN, aJ] <;> rfl)
theorem aet (p0 : aA) : Le (Option.map aJ (nH p0)) (aV SE 76 [aA.av p0] [] []) := by
 refine bD (t := fun κ =>
  κ.t 111 aJ [dIq p0.ID, dIq (lM eI p0.Codes : Int)] [] [] fun r0 =>
  cond (r0 != 0) (
  (rI r0)) (
  aj5 lab κ (List.map eI p0.Codes) (lM eI p0.Codes : Int) 0)) (fun _ => by kernel_rfl) ?_
 unfold nH
 refine lQ eX bA (by (try simp only [EN]); exact nA p0.ID (List.length p0.Codes : Int)) fun r0 _ => ?_
 refine lC ?_ ?_
 ·exact aK rfl
 ·(try simp only [EN]); exact acw fuel p0.Codes (List.length p0.Codes : Int) 0
noncomputable def ajt (L : dK) (κ : Tau) (a0 : List (List D)) (a1 a2 : Int) : Res := L SE (K κ) κ.Λ κ.J 77 0 [1, 1, 0, 1, 0] (cL [(18, .d (.sl [.str] a0)), (19, dIq a1), (20, dIq a2)] [] [] [] [])
theorem pU : ∀ (fu : Nat) (x18 : List Str) (x19 x20 : Int), Le (Option.map aJ (eH fu x18 x19 x20)) (ajt lab (kF 77) (List.map bM x18) x19 x20) := by
 intro fu
 induction fu with
 | zero => intros; exact le_none
 | succ fu ih =>
  intro x18 x19 x20
  refine cK (t := fun κ =>
  cond (decide (x20 < x19)) (
  cond (iB x20 (lM bM x18 : Int)) (
   κ.t 112 jN [dSq (aX (cE bM x18 x20 0))] [] [] fun r1 =>
   cond (!r1.1) (
   (rI 13)) (
   ajt lab κ (List.map bM x18) x19 (w6 (x20 + 1)))) none) (
  (rI 0))) (fun _ => by kernel_rfl) ?_
  unfold eH
  repeat' first | (with_reducible first | refine lC ?_ ?_ | refine lQ eX wG ?_ fun _ _ => ?_ | refine lG ?_ ?_ | exact oF _ | exact ih _ _ _ | refine aK ?_) | rfl | (simp only [EN]; done) | (simp only [EN]; exact oF _) | (simp only [EN, aJ] <;> rfl)
theorem aax (p0 : aA) : Le (Option.map aJ (kC p0)) (aV SE 77 [aA.av p0] [] []) := by
 refine bD (t := fun κ =>
  κ.t 111 aJ [dIq p0.ID, dIq (lM bM p0.Filters : Int)] [] [] fun r0 =>
  cond (r0 != 0) (
  (rI r0)) (
  ajt lab κ (List.map bM p0.Filters) (lM bM p0.Filters : Int) 0)) (fun _ => by kernel_rfl) ?_
 unfold kC
 repeat' first | (with_reducible first | refine lC ?_ ?_ | refine lQ eX bA ?_ fun _ _ => ?_ | exact nA _ _ | exact pU fuel _ _ _ | refine aK ?_) | rfl | (simp only [EN]; exact nA _ _) | (simp only [EN]; exact pU fuel _ _ _) | (simp only [EN, aJ] <;> rfl)
theorem pI (p0 : aA) : Le (Option.map aJ (gF p0)) (aV SE 38 [aA.av p0] [] []) := by
 refine bD (t := fun κ =>
  κ.t 68 aF [dIq p0.Kind, dIq 1, dIq 14] [] [] fun r0 =>
  cond (!r0) (
  (rI 10)) (
  κ.t 70 cD [aA.av p0] [] [] fun r1 =>
  κ.t 69 aF [aA.av p0, aA.av r1] [] [] fun r2 =>
  cond (!r2) (
  (rI 28)) (
  cond (p0.Kind == 1) (
  κ.t 71 aJ [aA.av p0] [] [] fun r3 =>
  (rI r3)) (
  cond (p0.Kind == 2) (
  κ.t 72 aF [dIq p0.Code] [] [] fun r4 =>
  cond (!r4) (
   (rI 1)) (
  cond p0.Present (
   cond (p0.Code != 0) (
   (rI 28)) (
   (rI 0))) (
  (rI 0)))) (
  cond (p0.Kind == 14) (
  κ.t 72 aF [dIq p0.Code] [] [] fun r5 =>
  cond (!r5) (
   (rI 1)) (
  cond p0.Present (
   cond (p0.Code != 0) (
   (rI 28)) (
   (rI 0))) (
  (rI 0)))) (
  cond (p0.Kind == 3) (
  κ.t 73 aJ [aA.av p0] [] [] fun r6 =>
  (rI r6)) (
  cond (p0.Kind == 4) (
  κ.t 74 aJ [dIq p0.ID] [] [] fun r7 =>
  (rI r7)) (
  cond (p0.Kind == 5) (
  κ.t 74 aJ [dIq p0.ID] [] [] fun r8 =>
  (rI r8)) (
  cond (p0.Kind == 6) (
  κ.t 74 aJ [dIq p0.ID] [] [] fun r9 =>
  (rI r9)) (
  cond (p0.Kind == 7) (
  κ.t 74 aJ [dIq p0.ID] [] [] fun r10 =>
  (rI r10)) (
  cond (p0.Kind == 8) (
  κ.t 75 aJ [aA.av p0] [] [] fun r11 =>
  (rI r11)) (
  cond (p0.Kind == 9) (
  κ.t 76 aJ [aA.av p0] [] [] fun r12 =>
  (rI r12)) (
  cond (p0.Kind == 11) (
  κ.t 76 aJ [aA.av p0] [] [] fun r13 =>
  (rI r13)) (
  cond (p0.Kind == 10) (
  κ.t 77 aJ [aA.av p0] [] [] fun r14 =>
  (rI r14)) (
  (rI 0)))))))))))))))) (fun _ => by kernel_rfl) ?_
 unfold gF
 repeat' first | (with_reducible first | refine lC ?_ ?_ | refine lQ eX aU ?_ fun _ _ => ?_ | refine lQ eX aeg ?_ fun _ _ => ?_ | refine lQ eX aU ?_ fun _ _ => ?_ | refine lQ eX bA ?_ fun _ _ => ?_ | refine lQ eX aU ?_ fun _ _ => ?_ | refine lQ eX bA ?_ fun _ _ => ?_ | refine lQ eX bA ?_ fun _ _ => ?_ | refine lQ eX bA ?_ fun _ _ => ?_ | refine lQ eX bA ?_ fun _ _ => ?_ | refine lQ eX bA ?_ fun _ _ => ?_ | exact dM _ _ _ | exact afZ _ | exact afX _ _ | exact ac5 _ | exact uN _ | exact ac6 _ | exact zK _ | exact abx _ | exact aet _ | exact aax _ | refine aK ?_) | rfl | (simp only [EN, aJ] <;> rfl)
theorem nX (p0 : client_Client) (p1 : Bool) (p2 : aT) : Le (Option.map aZ (eE p0 p1 p2)) (aV SE 20 [.ptr 2000000000 0, dBq p1, aT.av p2] [⟨83, (client_Client.avs p0)⟩] []) := by
 refine bD (t := fun κ =>
  cond (p0.state != 0) (
  (some (aZ ([], 9, p0)))) (
  κ.t 30 cH [aB.av p2.Message] [] [] fun r0 =>
  κ.t 38 aJ [.agg [dIq 1, dIq 0, dBq false, dSq [], dSq [], dIq 0, dBq false, dIq 0, dIq 0, dSq [], dIq 0, .d (.sl aE.ks (List.map aE.enc [])), dSq p0.name, dSq [], dBq p1, dIq 0, dIq 1099511627776, dIq p0.out.Limit, dBq p2.Set, dIq p2.Delay, dSq r0.Topic, dSq r0.Payload, dIq r0.Level, dBq r0.Retain, dIq r0.Priority, dIq r0.Expires, dSq r0.From, dIq r0.Seq, .d (.sl aE.ks (List.map aE.enc r0.Props)), dBq false, dIq 0, .d (.sl aN.ks (List.map aN.enc [])), .d (.sl [.str] (List.map bM [])), .d (.sl [.int .i64] (List.map eI []))]] [] [] fun r1 =>
  cond (r1 != 0) (
  (some (aZ ([], r1, p0)))) (
  (some (aZ (([(aA.mk 1 0 false zMq p0.name [] p1 0 1099511627776 p0.out.Limit (aT.mk p2.Set p2.Delay r0) false 0 [] [] [])], 0, (client_Client.mk p0.name 1 p0.out p0.in_ p0.waiting p0.count p0.last)))))))) (fun _ => by kernel_rfl) ?_
 unfold eE
 repeat' first | (with_reducible first | refine lC ?_ ?_ | refine lQ eX fS ?_ fun _ _ => ?_ | refine lQ eX bA ?_ fun _ _ => ?_ | exact iC _ | exact pI _ | refine aK ?_) | rfl | (simp only [EN]; exact pI _) | (simp only [EN, aZ] <;> rfl)
theorem afx (p0 : Int) : Le (Option.map aF (rD p0)) (aV SE 78 [dIq p0] [] []) := by
 refine bD (t := fun κ =>
  κ.t 68 aF [dIq p0, dIq 3, dIq 7] [] [] fun r0 =>
  cond r0 (
  (rB true)) (
  (rB (p0 == 14)))) (fun _ => by kernel_rfl) ?_
 unfold rD
 refine lQ eX aU (dM _ _ _) fun r0 _ => ?_
 refine lC ?_ ?_
 ·exact aK rfl
 ·exact aK rfl
theorem adL (p0 : Int) : Le (Option.map aF (oN p0)) (aV SE 39 [dIq p0] [] []) := by
 refine bD (t := fun κ =>
  κ.t 78 aF [dIq p0] [] [] fun r0 =>
  cond r0 (
  (rB true)) (
  cond (p0 == 2) (
  (rB true)) (
  cond (p0 == 9) (
  (rB true)) (
  cond (p0 == 11) (
  (rB true)) (
  (rB (p0 == 13))))))) (fun _ => by kernel_rfl) ?_
 unfold oN
 repeat' first | (with_reducible first | refine lC ?_ ?_ | refine lQ eX aU ?_ fun _ _ => ?_ | exact afx _ | refine aK ?_) | rfl | (simp only [EN, aF] <;> rfl)
theorem tY (p0 : client_Client) (p1 : Int) : Le (Option.map dN (fH p0 p1)) (aV SE 40 [.ptr 2000000000 0, dIq p1] [⟨83, (client_Client.avs p0)⟩] []) := by
 refine bD (t := fun κ =>
  cond (p1 == 2) (
  (some (.ret [.fn 79 [.ptr 0 0] []] [⟨83, (client_Client.avs p0)⟩] []))) (
  cond (p1 == 3) (
  (some (.ret [.fn 80 [.ptr 0 0] []] [⟨83, (client_Client.avs p0)⟩] []))) (
  cond (p1 == 6) (
  (some (.ret [.fn 81 [.ptr 0 0] []] [⟨83, (client_Client.avs p0)⟩] []))) (
  cond (p1 == 4) (
  (some (.ret [.fn 82 [.ptr 0 0] []] [⟨83, (client_Client.avs p0)⟩] []))) (
  cond (p1 == 5) (
  (some (.ret [.fn 82 [.ptr 0 0] []] [⟨83, (client_Client.avs p0)⟩] []))) (
  cond (p1 == 7) (
  (some (.ret [.fn 82 [.ptr 0 0] []] [⟨83, (client_Client.avs p0)⟩] []))) (
  cond (p1 == 14) (
  (some (.ret [.fn 83 [.ptr 0 0] []] [⟨83, (client_Client.avs p0)⟩] []))) (
  (some (.ret [.fn 84 [.ptr 0 0] []] [⟨83, (client_Client.avs p0)⟩] [])))))))))) (fun _ => by kernel_rfl) ?_
 unfold fH
 repeat' first | (with_reducible first | refine lC ?_ ?_ | refine aK ?_) | rfl | (simp only [EN, dN] <;> rfl)
theorem qA (p0 : Int) : Le (Option.map cP (kS p0)) (aV SE 146 [dIq p0] [] []) := by
 refine bD (t := fun κ =>
  (some (cP ((aA.mk 6 p0 false zMq [] [] false 0 0 0 zWq false 0 [] [] []))))) (fun _ => by kernel_rfl) ?_
 unfold kS
 exact aK rfl
theorem mH (p0 : aB) : Le (Option.map cH (jC p0)) (aV SE 100 [aB.av p0] [] []) := by
 refine bD (t := fun κ =>
  κ.t 55 bV [.d (.sl aE.ks (List.map aE.enc p0.Props))] [] [] fun r0 =>
  (some (cH (aB.mk p0.Topic p0.Payload p0.Level p0.Retain p0.Priority p0.Expires p0.From p0.Seq r0)))) (fun _ => by kernel_rfl) ?_
 unfold jC
 refine lQ eX j9 (kK _) fun r0 _ => ?_
 exact aK rfl
theorem o9 (p0 : aC) : Le (Option.map cP (iG p0)) (aV SE 101 [aC.av p0] [] []) := by
 refine bD (t := fun κ =>
  κ.t 100 cH [aB.av p0.Message] [] [] fun r0 =>
  (some (cP ((aA.mk 3 p0.ID false r0 [] [] false 0 0 0 zWq false 0 [] [] []))))) (fun _ => by kernel_rfl) ?_
 unfold iG
 refine lQ eX fS (mH _) fun r0 _ => ?_
 exact aK rfl
noncomputable def aeP (L : dK) (κ : Tau) (a0 a1 : Int) (a2 : List D) (a3 : List (List D)) : Res := L SE (K κ) κ.Λ κ.J 113 0 [1, 1, 0, 1, 0] (cL [(1, .ptr 1000000000 0), (3, .row 3003), (9, dIq a0), (10, dIq a1)] [⟨31, (List.map AV.d a2)⟩] [] [] [(3003, ⟨aA.ks, 67, 416, a3⟩)])
theorem rW : ∀ (fu : Nat) (x9 x10 : Int) (b0 : aG) (w3003 : List aA), Le (Option.map eY (fA fu x9 x10 b0 w3003)) (aeP lab (kF 113) x9 x10 (aG.enc b0) (List.map aA.enc w3003)) := by
 intro fu
 induction fu with
 | zero => intros; exact le_none
 | succ fu ih =>
  intro x9 x10 b0 w3003
  refine cK (t := fun κ =>
  cond (decide (x10 < x9)) (
  cond (iB x10 (lM aC.enc b0.Items : Int)) (
   cond ((aM (cE aC.enc b0.Items x10 1)) == 2) (
   κ.t 146 cP [dIq (aM (cE aC.enc b0.Items x10 0))] [] [] fun r0 =>
   cond (decide ((lM aA.enc w3003 + lM aA.enc [r0]) * 416 ≤ 140737488355328)) (
    aeP lab κ x9 (w6 (x10 + 1)) (aG.enc b0) (((List.map aA.enc w3003) ++ (List.map aA.enc [r0])))) none) (
   κ.t 101 cP [.agg [dIq (aM (cE aC.enc b0.Items x10 0)), dIq (aM (cE aC.enc b0.Items x10 1)), dSq (aX (cE aC.enc b0.Items x10 2)), dSq (aX (cE aC.enc b0.Items x10 3)), dIq (aM (cE aC.enc b0.Items x10 4)), dBq (bC (cE aC.enc b0.Items x10 5)), dIq (aM (cE aC.enc b0.Items x10 6)), dIq (aM (cE aC.enc b0.Items x10 7)), dSq (aX (cE aC.enc b0.Items x10 8)), dIq (aM (cE aC.enc b0.Items x10 9)), .d (.sl aE.ks (dSl (cE aC.enc b0.Items x10 10)))]] [] [] fun r1 =>
   cond (decide ((lM aA.enc w3003 + lM aA.enc [(aA.mk r1.Kind r1.ID true r1.Message r1.Client r1.User r1.Clean r1.Keep r1.Expiry r1.Window r1.Will r1.Present r1.Code r1.Subs r1.Filters r1.Codes)]) * 416 ≤ 140737488355328)) (
   aeP lab κ x9 (w6 (x10 + 1)) (aG.enc b0) (((List.map aA.enc w3003) ++ (List.map aA.enc [(aA.mk r1.Kind r1.ID true r1.Message r1.Client r1.User r1.Clean r1.Keep r1.Expiry r1.Window r1.Will r1.Present r1.Code r1.Subs r1.Filters r1.Codes)])))) none)) none) (
  (some (eY w3003)))) (fun _ => by kernel_rfl) ?_
  unfold fA
  repeat' first | (with_reducible first | refine lC ?_ ?_ | refine lQ eX l7 ?_ fun _ _ => ?_ | refine lQ eX l7 ?_ fun _ _ => ?_ | refine lG ?_ ?_ | refine lD ?_ ?_ ?_ | exact qA _ | exact ih _ _ _ _ | exact o9 _ | refine aK ?_) | rfl | (simp only [EN]; done) | (simp only [EN]; exact qA _) | (simp only [EN]; exact ih _ _ _ _) | (simp only [EN]; exact o9 _) | (simp only [EN, eY] <;> rfl)
theorem ab6 (p0 : aG) : Le (Option.map eY (mF p0)) (aV SE 113 [aG.av p0] [] []) := by
 refine bD (t := fun κ =>
  aeP lab κ (lM aC.enc p0.Items : Int) 0 (aG.enc p0) (List.map aA.enc [])) (fun _ => by kernel_rfl) ?_
 unfold mF
 repeat' first | (with_reducible first | exact rW fuel _ _ _ _) | (simp only [EN]; exact rW fuel _ _ _ _)
theorem adz (p0 : aG) : Le (Option.map aJ (oV p0)) (aV SE 97 [aG.av p0] [] []) := by
 refine bD (t := fun κ =>
  (rI (if 0 > (w6 (p0.Limit - (lM aC.enc p0.Items : Int))) then 0 else (w6 (p0.Limit - (lM aC.enc p0.Items : Int)))))) (fun _ => by kernel_rfl) ?_
 unfold oV
 exact aK (by first | rfl | simp only [EN, aJ] <;> rfl)
theorem ag1 (p0 : Int) : Le (Option.map aJ (tM p0)) (aV SE 138 [dIq p0] [] []) := by
 refine bD (t := fun κ =>
  (rI (w6 ((Int.tmod p0 65535) + 1)))) (fun _ => by kernel_rfl) ?_
 unfold tM
 exact aK rfl
theorem wH (p0 : Int) : Le (Option.map aF (nD p0)) (aV SE 155 [dIq p0] [] []) := by
 refine bD (t := fun κ =>
  (rB (p0 != p0))) (fun _ => by kernel_rfl) ?_
 unfold nD
 exact aK rfl
theorem yK (p0 p1 : Int) : Le (Option.map aF (oQ p0 p1)) (aV SE 139 [dIq p0, dIq p1] [] []) := by
 refine bD (t := fun κ =>
  κ.t 155 aF [dIq p0] [] [] fun r0 =>
  cond r0 (
  κ.t 155 aF [dIq p1] [] [] fun r1 =>
  cond (!r1) (
   (rB true)) (
  (rB (decide (p0 < p1))))) (
  (rB (decide (p0 < p1))))) (fun _ => by kernel_rfl) ?_
 unfold oQ
 refine lQ eX aU (wH _) fun r0 _ => ?_
 refine lC ?_ ?_
 ·refine lQ eX aU (wH _) fun r1 _ => ?_
  refine lC ?_ ?_
  ·exact aK rfl
  ·exact aK rfl
 ·exact aK rfl
theorem tG (p0 : Int) : Le (Option.map aF (jR p0)) (aV SE 140 [dIq p0] [] []) := by
 refine bD (t := fun κ =>
  (rB (p0 != p0))) (fun _ => by kernel_rfl) ?_
 unfold jR
 exact aK rfl
noncomputable def aeE (L : dK) (κ : Tau) (a0 : List (List D)) (a1 a2 a3 a4 : Int) : Res := L SE (K κ) κ.Λ κ.J 102 0 [1, 1, 1, 0, 0] (cL [(0, .d (.sl [.int .i64] a0)), (1, dIq a1), (6, dIq a2), (7, dIq a3), (8, dIq a4)] [] [] [] [])
theorem pZ : ∀ (fu : Nat) (x0 : List Int) (x1 x6 x7 x8 : Int), Le (Option.map bI (bW fu x0 x1 x6 x7 x8)) (aeE lab (kF 102) (List.map eI x0) x1 x6 x7 x8) := by
 intro fu
 induction fu with
 | zero => intros; exact le_none
 | succ fu ih =>
  intro x0 x1 x6 x7 x8
  refine cK (t := fun κ =>
  cond (decide (x7 < x8)) (
  cond (iB (w6 (shr .u64 (IntKind.wrap .u64 (w6 (x7 + x8))) 1)) (lM eI x0 : Int)) (
   κ.t 139 aF [dIq (aM (cE eI x0 (w6 (shr .u64 (IntKind.wrap .u64 (w6 (x7 + x8))) 1)) 0)), dIq x1] [] [] fun r0 =>
   cond r0 (
   aeE lab κ (List.map eI x0) x1 x6 (w6 ((w6 (shr .u64 (IntKind.wrap .u64 (w6 (x7 + x8))) 1)) + 1)) x8) (
   aeE lab κ (List.map eI x0) x1 x6 x7 (w6 (shr .u64 (IntKind.wrap .u64 (w6 (x7 + x8))) 1)))) none) (
  cond (decide (x7 < x6)) (
  cond (iB x7 (lM eI x0 : Int)) (
   cond ((aM (cE eI x0 x7 0)) == x1) (
   (some (.ret [dIq x7, dBq true] [] []))) (
   cond (iB x7 (lM eI x0 : Int)) (
   κ.t 140 aF [dIq (aM (cE eI x0 x7 0))] [] [] fun r1 =>
   cond r1 (
    κ.t 140 aF [dIq x1] [] [] fun r2 =>
    (some (.ret [dIq x7, dBq r2] [] []))) (
   (some (.ret [dIq x7, dBq false] [] [])))) none)) none) (
  (some (.ret [dIq x7, dBq false] [] []))))) (fun _ => by kernel_rfl) ?_
  unfold bW
  repeat' first | (with_reducible first | refine lC ?_ ?_ | refine lQ eX aU ?_ fun _ _ => ?_ | refine lQ eX aU ?_ fun _ _ => ?_ | refine lG ?_ ?_ | refine lD ?_ ?_ ?_ | exact yK _ _ | exact ih _ _ _ _ _ | exact tG _ | refine aK ?_) | rfl | (simp only [EN]; done) | (simp only [EN]; exact yK _ _) | (simp only [EN]; exact tG _) | (simp only [EN, bI] <;> rfl)
theorem eA (p0 : List Int) (p1 : Int) : Le (Option.map bI (cC p0 p1)) (aV SE 102 [.d (.sl [.int .i64] (List.map eI p0)), dIq p1] [] []) := by
 refine bD (t := fun κ =>
  aeE lab κ (List.map eI p0) p1 (lM eI p0 : Int) 0 (lM eI p0 : Int)) (fun _ => by kernel_rfl) ?_
 unfold cC
 (try simp only [EN]); exact pZ fuel p0 p1 (List.length p0 : Int) 0 (List.length p0 : Int)
theorem dO (p0 : List Int) : Le (Option.map aR (cJ p0)) (aV SE 62 [.d (.sl [.int .i64] (List.map eI p0))] [] []) := by
 refine bD (t := fun κ =>
  cond (List.isEmpty (List.map eI p0)) (
  vA (
   (some (.ret [.row 0] [] [⟨[.int .i64], 3, 8, []⟩]))) (
   cond (decide ((lM eI [] + lM eI p0) * 8 ≤ 140737488355328)) (
   (some (aR (([] : List Int) ++ p0)))) none)) (
  cond (decide ((lM eI [] + lM eI p0) * 8 ≤ 140737488355328)) (
  (some (aR (([] : List Int) ++ p0)))) none)) (fun _ => by kernel_rfl) ?_
 unfold cJ
 refine lDe ?_ ?_
 ·refine afy ?_ ?_
  ·exact aK rfl
  ·refine lGe ?_
   exact aK rfl
 ·refine lGe ?_
  exact aK rfl
theorem nW (p0 : List Int) (p1 : Int) (p2 : List Int) : Le (Option.map aR (e9 p0 p1 p2)) (aV SE 104 [.row 2000000000, dIq p1, .row 2000000001] [] [⟨[.int .i64], 3, 8, (List.map eI p0)⟩, ⟨[.int .i64], 3, 8, (List.map eI p2)⟩]) := ake (f := 104) (enc := eI) rfl rfl p0 p1 p2
noncomputable def ajP (L : dK) (κ : Tau) (a0 a1 a2 : Int) (a3 a4 : List D) : Res := L SE (K κ) κ.Λ κ.J 98 0 [1, 1, 1, 0, 1, 0] (cL [(1, .ptr 1000000000 0), (3, .ptr 1000000001 0), (5, dIq a0), (18, dIq a1), (19, dIq a2)] [⟨29, (List.map AV.d a3)⟩, ⟨29, (List.map AV.d a4)⟩] [] [] [])
theorem xN : ∀ (fu : Nat) (x5 x18 x19 : Int) (b0 b1 : aQ), Le (Option.map fM (hZ fu x5 x18 x19 b0 b1)) (ajP lab (kF 98) x5 x18 x19 (aQ.enc b0) (aQ.enc b1)) := by
 intro fu
 induction fu with
 | zero => intros; exact le_none
 | succ fu ih =>
  intro x5 x18 x19 b0 b1
  refine cK (t := fun κ =>
  cond (decide (x19 < x18)) (
  κ.t 138 aJ [dIq x5] [] [] fun r0 =>
  κ.t 102 bI [.d (.sl [.int .i64] (List.map eI b0.Used)), dIq r0] [] [] fun r1 =>
  cond (!r1.2) (
   κ.t 62 aR [.d (.sl [.int .i64] (List.map eI b0.Used))] [] [] fun r2 =>
   κ.t 104 aR [.row 2000000000, dIq r1.1, .row 2000000001] [] [⟨[.int .i64], 3, 8, (List.map eI r2)⟩, ⟨[.int .i64], 3, 8, (List.map eI [r0])⟩] fun r3 =>
   (some (fM (r0, (aQ.mk r3 r0), 0)))) (
  ajP lab κ r0 x18 (w6 (x19 + 1)) (aQ.enc b0) (aQ.enc b1))) (
  (some (fM (0, (aQ.mk [] 0), 6))))) (fun _ => by kernel_rfl) ?_
  unfold hZ
  refine lC ?_ ?_
  ·refine lQ eX bA (ag1 _) fun r0 _ => ?_
   refine lQ eX dV (eA _ _) fun r1 _ => ?_
   refine lC ?_ ?_
   ·refine lQ eX bN (dO _) fun r2 _ => ?_
    refine lQ eX bN (nW _ _ _) fun r3 _ => ?_
    exact aK rfl
   ·exact ih r0 x18 (w6 (x19 + 1)) b0 b1
  ·exact aK rfl
theorem agQ (p0 : aQ) : Le (Option.map fM (oJ p0)) (aV SE 98 [aQ.av p0] [] []) := by
 refine bD (t := fun κ =>
  cond (decide ((lM eI p0.Used : Int) ≥ 32)) (
  (some (fM (0, (aQ.mk [] 0), 6)))) (
  ajP lab κ p0.Last (w6 ((lM eI p0.Used : Int) + 1)) 0 (aQ.enc p0) [D.sl [.int .i64] (List.map eI []), D.int .i64 0])) (fun _ => by kernel_rfl) ?_
 unfold oJ
 repeat' first | (with_reducible first | refine lD ?_ ?_ ?_ | exact xN fuel _ _ _ _ _ | refine aK ?_) | rfl | (simp only [EN]; done) | (simp only [EN]; exact xN fuel _ _ _ _ _) | (simp only [EN, fM] <;> rfl)
noncomputable def ajy (L : dK) (κ : Tau) (a0 : List (List D)) (a1 a2 : Int) (a3 a4 : List D) (a5 : List (List D)) : Res := L SE (K κ) κ.Λ κ.J 99 0 [1, 1, 0, 1, 0] (cL [(1, .ptr 1000000000 0), (2, .ptr 1000000001 0), (3, .row 3003), (12, .d (.sl aC.ks a0)), (13, dIq a1), (14, dIq a2)] [⟨31, (List.map AV.d a3)⟩, ⟨31, (List.map AV.d a4)⟩] [] [] [(3003, ⟨aC.ks, 139, 128, a5⟩)])
theorem tR : ∀ (fu : Nat) (x12 : List aC) (x13 x14 : Int) (b0 b1 : aG) (w3003 : List aC), Le (Option.map bK (gO fu x12 x13 x14 b0 b1 w3003)) (ajy lab (kF 99) (List.map aC.enc x12) x13 x14 (aG.enc b0) (aG.enc b1) (List.map aC.enc w3003)) := by
 intro fu
 induction fu with
 | zero => intros; exact le_none
 | succ fu ih =>
  intro x12 x13 x14 b0 b1 w3003
  refine cK (t := fun κ =>
  cond (decide (x14 < x13)) (
  cond (iB x14 (lM aC.enc x12 : Int)) (
   κ.t 100 cH [.agg [dSq (aX (cE aC.enc x12 x14 2)), dSq (aX (cE aC.enc x12 x14 3)), dIq (aM (cE aC.enc x12 x14 4)), dBq (bC (cE aC.enc x12 x14 5)), dIq (aM (cE aC.enc x12 x14 6)), dIq (aM (cE aC.enc x12 x14 7)), dSq (aX (cE aC.enc x12 x14 8)), dIq (aM (cE aC.enc x12 x14 9)), .d (.sl aE.ks (dSl (cE aC.enc x12 x14 10)))]] [] [] fun r0 =>
   cond (decide ((lM aC.enc w3003 + List.length [[D.int .i64 (aM (cE aC.enc x12 x14 0)), D.int .i64 (aM (cE aC.enc x12 x14 1)), D.str r0.Topic, D.str r0.Payload, D.int .i64 r0.Level, D.bool r0.Retain, D.int .i64 r0.Priority, D.int .i64 r0.Expires, D.str r0.From, D.int .i64 r0.Seq, D.sl aE.ks (List.map aE.enc r0.Props)]]) * 128 ≤ 140737488355328)) (
   ajy lab κ (List.map aC.enc x12) x13 (w6 (x14 + 1)) (aG.enc b0) (aG.enc b1) (((List.map aC.enc w3003) ++ [[D.int .i64 (aM (cE aC.enc x12 x14 0)), D.int .i64 (aM (cE aC.enc x12 x14 1)), D.str r0.Topic, D.str r0.Payload, D.int .i64 r0.Level, D.bool r0.Retain, D.int .i64 r0.Priority, D.int .i64 r0.Expires, D.str r0.From, D.int .i64 r0.Seq, D.sl aE.ks (List.map aE.enc r0.Props)]]))) none) none) (
  κ.t 62 aR [.d (.sl [.int .i64] (List.map eI b0.Pool.Used))] [] [] fun r1 =>
  (some (bK (aG.mk b0.Limit w3003 (aQ.mk r1 b0.Pool.Last)))))) (fun _ => by kernel_rfl) ?_
  unfold gO
  repeat' first | (with_reducible first | refine lC ?_ ?_ | refine lQ eX fS ?_ fun _ _ => ?_ | refine lQ eX bN ?_ fun _ _ => ?_ | refine lG ?_ ?_ | exact mH _ | exact ih _ _ _ _ _ _ | exact dO _ | refine aK ?_) | rfl | (simp only [EN]; done) | (simp only [EN]; exact mH _) | (simp only [EN]; exact ih _ _ _ _ _ _) | (simp only [EN, bK] <;> rfl)
theorem qV (p0 : aG) : Le (Option.map bK (fR p0)) (aV SE 99 [aG.av p0] [] []) := by
 refine bD (t := fun κ =>
  cond (decide (0 ≤ 0) && decide (0 ≤ (w6 ((lM aC.enc p0.Items : Int) + 1))) && decide ((w6 ((lM aC.enc p0.Items : Int) + 1)) * 128 ≤ 281474976710656)) (
  ajy lab κ (List.map aC.enc p0.Items) (lM aC.enc p0.Items : Int) 0 (aG.enc p0) [D.int .i64 0, D.sl aC.ks (List.map aC.enc []), D.sl [.int .i64] (List.map eI []), D.int .i64 0] (List.map aC.enc [])) none) (fun _ => by kernel_rfl) ?_
 unfold fR
 repeat' first | (with_reducible first | refine lG ?_ ?_ | exact tR fuel _ _ _ _ _ _) | (simp only [EN]; done) | (simp only [EN]; exact tR fuel _ _ _ _ _ _)
theorem wF (p0 : aG) (p1 : aB) : Le (Option.map dZ (gN p0 p1)) (aV SE 59 [aG.av p0, aB.av p1] [] []) := by
 refine bD (t := fun κ =>
  cond (p1.Level == 0) (
  (some (dZ (((aG.mk 0 [] (aQ.mk [] 0)), zPq, 14))))) (
  κ.t 97 aJ [aG.av p0] [] [] fun r0 =>
  cond (r0 == 0) (
  (some (dZ (((aG.mk 0 [] (aQ.mk [] 0)), zPq, 6))))) (
  κ.t 31 aJ [aB.av p1] [] [] fun r1 =>
  cond (r1 != 0) (
  (some (dZ (((aG.mk 0 [] (aQ.mk [] 0)), zPq, r1))))) (
  κ.t 98 fM [aQ.av p0.Pool] [] [] fun r2 =>
  cond (r2.2.2 != 0) (
  (some (dZ (((aG.mk 0 [] (aQ.mk [] 0)), zPq, r2.2.2))))) (
  κ.t 99 bK [aG.av p0] [] [] fun r3 =>
  κ.t 100 cH [aB.av p1] [] [] fun r4 =>
  cond (decide ((lM aC.enc r3.Items + lM aC.enc [(aC.mk r2.1 1 r4)]) * 128 ≤ 140737488355328)) (
  κ.t 101 cP [aC.av (aC.mk r2.1 1 r4)] [] [] fun r5 =>
  (some (.ret [.agg [dIq r3.Limit, .row 0, .row 1, dIq r2.2.1.Last], .agg [dIq r5.Kind, dIq r5.ID, dBq r5.Dup, dSq r5.Message.Topic, dSq r5.Message.Payload, dIq r5.Message.Level, dBq r5.Message.Retain, dIq r5.Message.Priority, dIq r5.Message.Expires, dSq r5.Message.From, dIq r5.Message.Seq, .row 2, dSq r5.Client, dSq r5.User, dBq r5.Clean, dIq r5.Keep, dIq r5.Expiry, dIq r5.Window, dBq r5.Will.Set, dIq r5.Will.Delay, dSq r5.Will.Message.Topic, dSq r5.Will.Message.Payload, dIq r5.Will.Message.Level, dBq r5.Will.Message.Retain, dIq r5.Will.Message.Priority, dIq r5.Will.Message.Expires, dSq r5.Will.Message.From, dIq r5.Will.Message.Seq, .row 3, dBq r5.Present, dIq r5.Code, .row 4, .row 5, .row 6], dIq 0] [] [⟨aC.ks, 139, 128, ((List.map aC.enc r3.Items) ++ (List.map aC.enc [(aC.mk r2.1 1 r4)]))⟩, ⟨[.int .i64], 3, 8, (List.map eI r2.2.1.Used)⟩, ⟨aE.ks, 92, 32, (List.map aE.enc r5.Message.Props)⟩, ⟨aE.ks, 92, 32, (List.map aE.enc r5.Will.Message.Props)⟩, ⟨aN.ks, 75, 32, (List.map aN.enc r5.Subs)⟩, ⟨[.str], 9, 16, (List.map bM r5.Filters)⟩, ⟨[.int .i64], 3, 8, (List.map eI r5.Codes)⟩]))) none))))) (fun _ => by kernel_rfl) ?_
 unfold gN
 repeat' first | (with_reducible first | refine lC ?_ ?_ | refine lQ eX bA ?_ fun _ _ => ?_ | refine lQ eX bA ?_ fun _ _ => ?_ | refine lQ eX afN ?_ fun _ _ => ?_ | refine lQ eX j5 ?_ fun _ _ => ?_ | refine lQ eX fS ?_ fun _ _ => ?_ | refine lQ eX l7 ?_ fun _ _ => ?_ | refine lG ?_ ?_ | exact adz _ | exact iA _ | exact agQ _ | exact qV _ | exact mH _ | exact o9 _ | refine aK ?_) | rfl | (simp only [EN]; done) | (simp only [EN, dZ] <;> rfl)
noncomputable def aka (L : dK) (κ : Tau) (a0 : List (List D)) (a1 : Int) (a2 : Bool) (a3 : List D) (a4 : List (List D)) : Res := L SE (K κ) κ.Λ κ.J 33 1 [1, 0, 0, 0, 1, 0, 1, 1] (cL [(0, .ptr 2000000000 0), (1, .row 3001), (15, .ptr 2000000000 0), (16, .ptr 2000000000 0), (17, .ptr 2000000000 7), (18, .d (.sl aB.ks a0)), (19, dIq a1), (20, dBq a2)] [] [⟨83, (List.map AV.d a3)⟩] [] [(3001, ⟨aA.ks, 67, 416, a4⟩)])
noncomputable def amD (L : dK) (κ : Tau) (a0 : List (List D)) (a1 : Int) (a2 : Bool) (a3 : List D) (a4 : List (List D)) : Res := L SE (K κ) κ.Λ κ.J 33 1 [1, 0, 0, 0, 1, 0, 0] (cL [(0, .ptr 2000000000 0), (1, .row 3001), (15, .ptr 2000000000 0), (16, .ptr 2000000000 0), (17, .ptr 2000000000 7), (18, .d (.sl aB.ks a0)), (19, dIq a1), (20, dBq a2)] [] [⟨83, (List.map AV.d a3)⟩] [] [(3001, ⟨aA.ks, 67, 416, a4⟩)])
noncomputable def afb (L : dK) (κ : Tau) (a0 : List D) (a1 : List (List D)) : Res := L SE (K κ) κ.Λ κ.J 33 1 [1, 0, 0] (cL [(0, .ptr 2000000000 0), (1, .row 3001)] [] [⟨83, (List.map AV.d a0)⟩] [] [(3001, ⟨aA.ks, 67, 416, a1⟩)])
theorem nO (k1 : client_Client → (List aA) → Option ((List aA) × client_Client)) (hk1 : ∀ (q0 : client_Client) (w3001 : List aA), Le (Option.map bB (k1 q0 w3001)) (afb lab (kF 33) (client_Client.enc q0) (List.map aA.enc w3001))) (x18 : List aB) (x19 : Int) (x20 : Bool) (q0 : client_Client) (w3001 : List aA) : Le (Option.map bB (dX k1 x18 x19 x20 q0 w3001)) (aka lab (kF 33) (List.map aB.enc x18) x19 x20 (client_Client.enc q0) (List.map aA.enc w3001)) := by
 refine cK (t := fun κ =>
  cond (decide (0 ≤ 1) && decide (1 ≤ ((lM aB.enc q0.waiting) : Int))) (
  afb lab κ [D.str q0.name, D.int .i64 q0.state, D.int .i64 q0.out.Limit, D.sl aC.ks (List.map aC.enc q0.out.Items), D.sl [.int .i64] (List.map eI q0.out.Pool.Used), D.int .i64 q0.out.Pool.Last, D.sl [.int .i64] (List.map eI q0.in_.IDs), D.sl aB.ks (fE (List.map aB.enc q0.waiting) (some 1) none), D.int .i64 q0.count, D.int .i64 q0.last] (List.map aA.enc w3001)) none) (fun _ => by kernel_rfl) ?_
 unfold dX
 repeat' first | (with_reducible first | refine lG ?_ ?_ | exact hk1 _ _) | (simp only [EN]; done) | (simp only [EN]; exact hk1 _ _)
theorem nF (k1 : client_Client → (List aA) → Option ((List aA) × client_Client)) (hk1 : ∀ (q0 : client_Client) (w3001 : List aA), Le (Option.map bB (k1 q0 w3001)) (afb lab (kF 33) (client_Client.enc q0) (List.map aA.enc w3001))) (x18 : List aB) (x19 : Int) (x20 : Bool) (q0 : client_Client) (w3001 : List aA) : Le (Option.map bB (eU k1 x18 x19 x20 q0 w3001)) (amD lab (kF 33) (List.map aB.enc x18) x19 x20 (client_Client.enc q0) (List.map aA.enc w3001)) := by
 refine cK (t := fun κ =>
  cond (decide (0 ≤ 0) && decide (0 < (lM aB.enc q0.waiting : Int))) (
  cond ((aM (cE aB.enc q0.waiting 0 2)) == 0) (
   κ.t 30 cH [.agg [dSq (aX (cE aB.enc q0.waiting 0 0)), dSq (aX (cE aB.enc q0.waiting 0 1)), dIq (aM (cE aB.enc q0.waiting 0 2)), dBq (bC (cE aB.enc q0.waiting 0 3)), dIq (aM (cE aB.enc q0.waiting 0 4)), dIq (aM (cE aB.enc q0.waiting 0 5)), dSq (aX (cE aB.enc q0.waiting 0 6)), dIq (aM (cE aB.enc q0.waiting 0 7)), .d (.sl aE.ks (dSl (cE aB.enc q0.waiting 0 8)))]] [] [] fun r0 =>
   cond (decide ((lM aA.enc w3001 + List.length [[D.int .i64 3, D.int .i64 0, D.bool false, D.str r0.Topic, D.str r0.Payload, D.int .i64 r0.Level, D.bool r0.Retain, D.int .i64 r0.Priority, D.int .i64 r0.Expires, D.str r0.From, D.int .i64 r0.Seq, D.sl aE.ks (List.map aE.enc r0.Props), D.str [], D.str [], D.bool false, D.int .i64 0, D.int .i64 0, D.int .i64 0, D.bool false, D.int .i64 0, D.str [], D.str [], D.int .i64 0, D.bool false, D.int .i64 0, D.int .i64 0, D.str [], D.int .i64 0, D.sl aE.ks (List.map aE.enc []), D.bool false, D.int .i64 0, D.sl aN.ks (List.map aN.enc []), D.sl [.str] (List.map bM []), D.sl [.int .i64] (List.map eI [])]]) * 416 ≤ 140737488355328)) (
   aka lab κ (List.map aB.enc x18) x19 x20 (client_Client.enc q0) (((List.map aA.enc w3001) ++ [[D.int .i64 3, D.int .i64 0, D.bool false, D.str r0.Topic, D.str r0.Payload, D.int .i64 r0.Level, D.bool r0.Retain, D.int .i64 r0.Priority, D.int .i64 r0.Expires, D.str r0.From, D.int .i64 r0.Seq, D.sl aE.ks (List.map aE.enc r0.Props), D.str [], D.str [], D.bool false, D.int .i64 0, D.int .i64 0, D.int .i64 0, D.bool false, D.int .i64 0, D.str [], D.str [], D.int .i64 0, D.bool false, D.int .i64 0, D.int .i64 0, D.str [], D.int .i64 0, D.sl aE.ks (List.map aE.enc []), D.bool false, D.int .i64 0, D.sl aN.ks (List.map aN.enc []), D.sl [.str] (List.map bM []), D.sl [.int .i64] (List.map eI [])]]))) none) (
  κ.t 59 dZ [aG.av q0.out, .agg [dSq (aX (cE aB.enc q0.waiting 0 0)), dSq (aX (cE aB.enc q0.waiting 0 1)), dIq (aM (cE aB.enc q0.waiting 0 2)), dBq (bC (cE aB.enc q0.waiting 0 3)), dIq (aM (cE aB.enc q0.waiting 0 4)), dIq (aM (cE aB.enc q0.waiting 0 5)), dSq (aX (cE aB.enc q0.waiting 0 6)), dIq (aM (cE aB.enc q0.waiting 0 7)), .d (.sl aE.ks (dSl (cE aB.enc q0.waiting 0 8)))]] [] [] fun r1 =>
  cond (r1.2.2 != 0) (
   (some (bB (w3001, q0)))) (
  cond (decide ((lM aA.enc w3001 + lM aA.enc [r1.2.1]) * 416 ≤ 140737488355328)) (
   aka lab κ (List.map aB.enc x18) x19 x20 (client_Client.enc (client_Client.mk q0.name q0.state r1.1 q0.in_ q0.waiting q0.count q0.last)) (((List.map aA.enc w3001) ++ (List.map aA.enc [r1.2.1])))) none))) none) (fun _ => by kernel_rfl) ?_
 unfold eU
 repeat' first | (with_reducible first | refine lC ?_ ?_ | refine lQ eX fS ?_ fun _ _ => ?_ | refine lQ eX ab3 ?_ fun _ _ => ?_ | refine lG ?_ ?_ | refine lD ?_ ?_ ?_ | exact iC _ | exact nO _ hk1 _ _ _ _ _ | exact wF _ _ | refine aK ?_) | rfl | (simp only [EN]; done) | (simp only [EN]; exact iC _) | (simp only [EN]; exact nO _ hk1 _ _ _ _ _) | (simp only [EN]; exact wF _ _) | (simp only [EN, bB] <;> rfl)
theorem uE : ∀ (fu : Nat) (q0 : client_Client) (w3001 : List aA), Le (Option.map bB (bX fu q0 w3001)) (afb lab (kF 33) (client_Client.enc q0) (List.map aA.enc w3001)) := by
 intro fu
 induction fu with
 | zero => intros; exact le_none
 | succ fu ih =>
  intro q0 w3001
  refine cK (t := fun κ =>
  cond (q0.state == 2) (
  cond (decide ((lM aB.enc q0.waiting : Int) > 0)) (
   amD lab κ (List.map aB.enc q0.waiting) (lM aB.enc q0.waiting : Int) (decide ((lM aB.enc q0.waiting : Int) > 0)) (client_Client.enc q0) (List.map aA.enc w3001)) (
  (some (bB (w3001, q0))))) (
  (some (bB (w3001, q0))))) (fun _ => by kernel_rfl) ?_
  unfold bX
  repeat' first | (with_reducible first | refine lC ?_ ?_ | refine lD ?_ ?_ ?_ | exact nF _ (ih) _ _ _ _ _ | refine aK ?_) | rfl | (simp only [EN]; done) | (simp only [EN]; exact nF _ (ih) _ _ _ _ _) | (simp only [EN, bB] <;> rfl)
theorem eV (p0 : client_Client) (p1 : List aA) : Le (Option.map bB (bH p0 p1)) (aV SE 33 [.ptr 2000000000 0, .row 2000000000] [⟨83, (client_Client.avs p0)⟩] [⟨aA.ks, 67, 416, (List.map aA.enc p1)⟩]) := by
 refine bD (t := fun κ =>
  afb lab κ (client_Client.enc p0) (List.map aA.enc p1)) (fun _ => by kernel_rfl) ?_
 unfold bH
 exact uE fuel p0 p1
noncomputable def ahi (L : dK) (κ : Tau) (a0 : List (List D)) (a1 a2 : Int) (a3 : List D) (a4 : List (List D)) : Res := L SE (K κ) κ.Λ κ.J 79 1 [1, 1, 1, 1, 1, 0, 1, 0] (cL [(0, .ptr 2000000000 0), (7, .row 3007), (32, .d (.sl aC.ks a0)), (33, dIq a1), (34, dIq a2)] [] [⟨83, (List.map AV.d a3)⟩] [] [(3007, ⟨aB.ks, 54, 112, a4⟩)])
theorem mL : ∀ (fu : Nat) (x32 : List aC) (x33 x34 : Int) (q0 : client_Client) (w3007 : List aB), Le (Option.map aI (cO fu x32 x33 x34 q0 w3007)) (ahi lab (kF 79) (List.map aC.enc x32) x33 x34 (client_Client.enc q0) (List.map aB.enc w3007)) := by
 intro fu
 induction fu with
 | zero => intros; exact le_none
 | succ fu ih =>
  intro x32 x33 x34 q0 w3007
  refine cK (t := fun κ =>
  cond (decide (x34 < x33)) (
  cond (iB x34 (lM aC.enc x32 : Int)) (
   cond ((aM (cE aC.enc x32 x34 1)) == 1) (
   κ.t 30 cH [.agg [dSq (aX (cE aC.enc x32 x34 2)), dSq (aX (cE aC.enc x32 x34 3)), dIq (aM (cE aC.enc x32 x34 4)), dBq (bC (cE aC.enc x32 x34 5)), dIq (aM (cE aC.enc x32 x34 6)), dIq (aM (cE aC.enc x32 x34 7)), dSq (aX (cE aC.enc x32 x34 8)), dIq (aM (cE aC.enc x32 x34 9)), .d (.sl aE.ks (dSl (cE aC.enc x32 x34 10)))]] [] [] fun r2 =>
   cond (decide ((lM aB.enc w3007 + lM aB.enc [r2]) * 112 ≤ 140737488355328)) (
    ahi lab κ (List.map aC.enc x32) x33 (w6 (x34 + 1)) (client_Client.enc q0) (((List.map aB.enc w3007) ++ (List.map aB.enc [r2])))) none) (
   ahi lab κ (List.map aC.enc x32) x33 (w6 (x34 + 1)) (client_Client.enc q0) (List.map aB.enc w3007))) none) (
  cond (decide ((lM aB.enc w3007 + lM aB.enc q0.waiting) * 112 ≤ 140737488355328)) (
  κ.t 27 bK [dIq q0.out.Limit] [] [] fun r3 =>
  κ.t 33 bB [.ptr 2000000000 0, .row 2000000000] [⟨83, [dSq q0.name, dIq q0.state, dIq r3.Limit, .d (.sl aC.ks (List.map aC.enc r3.Items)), .d (.sl [.int .i64] (List.map eI r3.Pool.Used)), dIq r3.Pool.Last, .d (.sl [.int .i64] (List.map eI [])), .d (.sl aB.ks ((List.map aB.enc w3007) ++ (List.map aB.enc q0.waiting))), dIq q0.count, dIq q0.last]⟩] [⟨aA.ks, 67, 416, (List.map aA.enc [])⟩] fun r4 =>
  (some (aI (r4.1, [], 0, r4.2)))) none)) (fun _ => by kernel_rfl) ?_
  unfold cO
  repeat' first | (with_reducible first | refine lC ?_ ?_ | refine lQ eX fS ?_ fun _ _ => ?_ | refine lQ eX j5 ?_ fun _ _ => ?_ | refine lQ eX g7 ?_ fun _ _ => ?_ | refine lG ?_ ?_ | refine lD ?_ ?_ ?_ | exact iC _ | exact ih _ _ _ _ _ | exact zI _ | exact eV _ _ | refine aK ?_) | rfl | (simp only [EN]; done) | (simp only [EN]; exact iC _) | (simp only [EN]; exact ih _ _ _ _ _) | (simp only [EN]; exact eV _ _) | (simp only [EN, aI] <;> rfl)
theorem vZ (p0 : client_Client) (p1 : aA) : Le (Option.map aI (gH p0 p1)) (aV SE 79 [.ptr 2000000000 0, aA.av p1] [⟨83, (client_Client.avs p0)⟩] []) := by
 refine bD (t := fun κ =>
  cond (p1.Code != 0) (
  (some (aI ([], [], 0, (client_Client.mk p0.name 0 p0.out p0.in_ p0.waiting p0.count p0.last))))) (
  cond p1.Present (
  κ.t 113 eY [aG.av p0.out] [] [] fun r0 =>
  κ.t 33 bB [.ptr 2000000000 0, .row 2000000000] [⟨83, (client_Client.avs (client_Client.mk p0.name 2 p0.out p0.in_ p0.waiting p0.count p0.last))⟩] [⟨aA.ks, 67, 416, (List.map aA.enc r0)⟩] fun r1 =>
  (some (aI (r1.1, [], 0, r1.2)))) (
  ahi lab κ (List.map aC.enc p0.out.Items) (lM aC.enc p0.out.Items : Int) 0 (client_Client.enc (client_Client.mk p0.name 2 p0.out p0.in_ p0.waiting p0.count p0.last)) (List.map aB.enc [])))) (fun _ => by kernel_rfl) ?_
 unfold gH
 repeat' first | (with_reducible first | refine lC ?_ ?_ | refine lQ eX abB ?_ fun _ _ => ?_ | refine lQ eX g7 ?_ fun _ _ => ?_ | exact ab6 _ | exact eV _ _ | exact mL fuel _ _ _ _ _ | refine aK ?_) | rfl | (simp only [EN]; exact mL fuel _ _ _ _ _) | (simp only [EN, aI] <;> rfl)
theorem afE (p0 : aH) (p1 : Int) : Le (Option.map aF (rE p0 p1)) (aV SE 61 [aH.av p0, dIq p1] [] []) := by
 refine bD (t := fun κ =>
  κ.t 102 bI [.d (.sl [.int .i64] (List.map eI p0.IDs)), dIq p1] [] [] fun r0 =>
  (rB r0.2)) (fun _ => by kernel_rfl) ?_
 unfold rE
 refine lQ eX dV (eA _ _) fun r0 _ => ?_
 exact aK rfl
theorem zW (p0 : List Int) (p1 : Int) : Le (Option.map aR (jX p0 p1)) (aV SE 63 [.d (.sl [.int .i64] (List.map eI p0)), dIq p1] [] []) := by
 refine bD (t := fun κ =>
  κ.t 102 bI [.d (.sl [.int .i64] (List.map eI p0)), dIq p1] [] [] fun r0 =>
  cond r0.2 (
  κ.t 62 aR [.d (.sl [.int .i64] (List.map eI p0))] [] [] fun r1 =>
  (some (aR r1))) (
  κ.t 62 aR [.d (.sl [.int .i64] (List.map eI p0))] [] [] fun r2 =>
  κ.t 104 aR [.row 2000000000, dIq r0.1, .row 2000000001] [] [⟨[.int .i64], 3, 8, (List.map eI r2)⟩, ⟨[.int .i64], 3, 8, (List.map eI [p1])⟩] fun r3 =>
  (some (aR r3)))) (fun _ => by kernel_rfl) ?_
 unfold jX
 refine lQ eX dV (eA _ _) fun r0 _ => ?_
 refine lC ?_ ?_
 ·refine lQ eX bN (dO _) fun r1 _ => ?_
  exact aK rfl
 ·refine lQ eX bN (dO _) fun r2 _ => ?_
  refine lQ eX bN (nW _ _ _) fun r3 _ => ?_
  exact aK rfl
theorem adU (p0 : aA) : Le (Option.map bF (oT p0)) (aV SE 64 [aA.av p0] [] []) := by
 refine bD (t := fun κ =>
  cond (p0.Kind == 3) (
  cond (p0.Message.Level == 1) (
   (some (bF (((aA.mk 4 p0.ID false zMq [] [] false 0 0 0 zWq false 0 [] [] []), true))))) (
  cond (p0.Kind == 3) (
   cond (p0.Message.Level == 2) (
   (some (bF (((aA.mk 5 p0.ID false zMq [] [] false 0 0 0 zWq false 0 [] [] []), true))))) (
   cond (p0.Kind == 5) (
   (some (bF (((aA.mk 6 p0.ID false zMq [] [] false 0 0 0 zWq false 0 [] [] []), true))))) (
   cond (p0.Kind == 6) (
   (some (bF (((aA.mk 7 p0.ID false zMq [] [] false 0 0 0 zWq false 0 [] [] []), true))))) (
   cond (p0.Kind == 12) (
   (some (bF (((aA.mk 13 p0.ID false zMq [] [] false 0 0 0 zWq false 0 [] [] []), true))))) (
   (some (bF ((zPq, false))))))))) (
  cond (p0.Kind == 5) (
   (some (bF (((aA.mk 6 p0.ID false zMq [] [] false 0 0 0 zWq false 0 [] [] []), true))))) (
  cond (p0.Kind == 6) (
   (some (bF (((aA.mk 7 p0.ID false zMq [] [] false 0 0 0 zWq false 0 [] [] []), true))))) (
  cond (p0.Kind == 12) (
   (some (bF (((aA.mk 13 p0.ID false zMq [] [] false 0 0 0 zWq false 0 [] [] []), true))))) (
  (some (bF ((zPq, false)))))))))) (
  cond (p0.Kind == 3) (
  cond (p0.Message.Level == 2) (
   (some (bF (((aA.mk 5 p0.ID false zMq [] [] false 0 0 0 zWq false 0 [] [] []), true))))) (
  cond (p0.Kind == 5) (
   (some (bF (((aA.mk 6 p0.ID false zMq [] [] false 0 0 0 zWq false 0 [] [] []), true))))) (
  cond (p0.Kind == 6) (
   (some (bF (((aA.mk 7 p0.ID false zMq [] [] false 0 0 0 zWq false 0 [] [] []), true))))) (
  cond (p0.Kind == 12) (
   (some (bF (((aA.mk 13 p0.ID false zMq [] [] false 0 0 0 zWq false 0 [] [] []), true))))) (
  (some (bF ((zPq, false))))))))) (
  cond (p0.Kind == 5) (
  (some (bF (((aA.mk 6 p0.ID false zMq [] [] false 0 0 0 zWq false 0 [] [] []), true))))) (
  cond (p0.Kind == 6) (
  (some (bF (((aA.mk 7 p0.ID false zMq [] [] false 0 0 0 zWq false 0 [] [] []), true))))) (
  cond (p0.Kind == 12) (
  (some (bF (((aA.mk 13 p0.ID false zMq [] [] false 0 0 0 zWq false 0 [] [] []), true))))) (
  (some (bF ((zPq, false)))))))))) (fun _ => by kernel_rfl) ?_
 unfold oT
 repeat' first | (with_reducible first | refine lC ?_ ?_ | refine aK ?_) | rfl | (simp only [EN, bF] <;> rfl)
noncomputable def ah7 (L : dK) (κ : Tau) (a0 : Bool) (a1 a2 : List D) (a3 : List (List D)) : Res := L SE (K κ) κ.Λ κ.J 35 0 [1, 1, 1, 1, 1, 1, 1, 0] (cL [(3, .ptr 1000000000 0), (4, .ptr 1000000001 0), (9, dBq a0), (10, .ptr 1000000002 0)] [⟨67, (List.map AV.d a1)⟩, ⟨33, (List.map AV.d a2)⟩, ⟨33, [.row 50200]⟩] [] [] [(50200, ⟨[.int .i64], 3, 8, a3⟩)])
noncomputable def ahj (L : dK) (κ : Tau) (a0 : Bool) (a1 a2 a3 : List D) : Res := L SE (K κ) κ.Λ κ.J 35 0 [1, 1, 1, 1, 1, 0] (cL [(2, .ptr 1000000000 0), (3, .ptr 1000000001 0), (4, .ptr 1000000002 0), (9, dBq a0)] [⟨33, (List.map AV.d a1)⟩, ⟨67, (List.map AV.d a2)⟩, ⟨33, (List.map AV.d a3)⟩] [] [] [])
noncomputable def aj7 (L : dK) (κ : Tau) (a0 : Bool) (a1 a2 a3 : List D) : Res := L SE (K κ) κ.Λ κ.J 35 0 [1, 1, 1, 1, 0, 0] (cL [(2, .ptr 1000000000 0), (3, .ptr 1000000001 0), (4, .ptr 1000000002 0), (9, dBq a0)] [⟨33, (List.map AV.d a1)⟩, ⟨67, (List.map AV.d a2)⟩, ⟨33, (List.map AV.d a3)⟩] [] [] [])
theorem sL (x9 : Bool) (b0 : aA) (b1 : aH) (w50200 : List Int) : Le (Option.map cN (kG x9 b0 b1 w50200)) (ah7 lab (kF 35) x9 (aA.enc b0) (aH.enc b1) (List.map eI w50200)) := by
 refine cK (t := fun κ =>
  κ.t 64 bF [aA.av b0] [] [] fun r4 =>
  cond (!r4.2) (
  (some (cN ((aH.mk w50200), x9, [], 0)))) (
  (some (cN ((aH.mk w50200), x9, [r4.1], 0))))) (fun _ => by kernel_rfl) ?_
 unfold kG
 refine lQ eX acY (adU _) fun r4 _ => ?_
 refine lC ?_ ?_
 ·exact aK rfl
 ·exact aK rfl
theorem n6 (x9 : Bool) (b0 : aH) (b1 : aA) (b2 : aH) : Le (Option.map cN (jO x9 b0 b1 b2)) (ahj lab (kF 35) x9 (aH.enc b0) (aA.enc b1) (aH.enc b2)) := by
 refine cK (t := fun κ =>
  κ.t 62 aR [.d (.sl [.int .i64] (List.map eI b0.IDs))] [] [] fun r2 =>
  cond (b1.Message.Level == 2) (
  κ.t 63 aR [.d (.sl [.int .i64] (List.map eI b0.IDs)), dIq b1.ID] [] [] fun r3 =>
  ah7 lab κ x9 (aA.enc b1) (aH.enc b2) (List.map eI r3)) (
  ah7 lab κ x9 (aA.enc b1) (aH.enc b2) (List.map eI r2))) (fun _ => by kernel_rfl) ?_
 unfold jO
 refine lQ eX bN (dO _) fun r2 _ => ?_
 refine lC ?_ ?_
 ·refine lQ eX bN (zW _ _) fun r3 _ => ?_
  exact sL x9 b1 b2 r3
 ·exact sL x9 b1 b2 r2
theorem tI (x9 : Bool) (b0 : aH) (b1 : aA) (b2 : aH) : Le (Option.map cN (lA x9 b0 b1 b2)) (aj7 lab (kF 35) x9 (aH.enc b0) (aA.enc b1) (aH.enc b2)) := by
 refine cK (t := fun κ =>
  cond (b1.Message.Level == 2) (
  cond x9 (
   cond (decide ((lM eI b0.IDs : Int) ≥ 32)) (
   (some (cN ((aH.mk []), false, [], 6)))) (
   ahj lab κ x9 (aH.enc b0) (aA.enc b1) (aH.enc b2))) (
  ahj lab κ x9 (aH.enc b0) (aA.enc b1) (aH.enc b2))) (
  ahj lab κ x9 (aH.enc b0) (aA.enc b1) (aH.enc b2))) (fun _ => by kernel_rfl) ?_
 unfold lA
 refine lC ?_ ?_
 ·refine lC ?_ ?_
  ·refine lDe ?_ ?_
   ·exact aK rfl
   ·exact n6 x9 b0 b1 b2
  ·exact n6 x9 b0 b1 b2
 ·exact n6 x9 b0 b1 b2
theorem qW (p0 : aH) (p1 : aA) : Le (Option.map cN (lP p0 p1)) (aV SE 35 [aH.av p0, aA.av p1] [] []) := by
 refine bD (t := fun κ =>
  cond (p1.Kind != 3) (
  (some (cN ((aH.mk []), false, [], 10)))) (
  κ.t 38 aJ [aA.av p1] [] [] fun r0 =>
  cond (r0 != 0) (
  (some (cN ((aH.mk []), false, [], r0)))) (
  cond (decide (p1.Message.Level < 2)) (
  aj7 lab κ true (aH.enc p0) (aA.enc p1) [D.sl [.int .i64] (List.map eI [])]) (
  κ.t 61 aF [aH.av p0, dIq p1.ID] [] [] fun r1 =>
  aj7 lab κ (!r1) (aH.enc p0) (aA.enc p1) [D.sl [.int .i64] (List.map eI [])])))) (fun _ => by kernel_rfl) ?_
 unfold lP
 refine lC ?_ ?_
 ·exact aK rfl
 ·refine lQ eX bA (pI _) fun r0 _ => ?_
  refine lC ?_ ?_
  ·exact aK rfl
  ·refine lC ?_ ?_
   ·(try simp only [EN]); exact tI true p0 p1 (aH.mk [])
   ·refine lQ eX aU (afE _ _) fun r1 _ => ?_
    (try simp only [EN]); exact tI (!r1) p0 p1 (aH.mk [])
theorem vR (p0 : client_Client) (p1 : aA) : Le (Option.map aI (lY p0 p1)) (aV SE 80 [.ptr 2000000000 0, aA.av p1] [⟨83, (client_Client.avs p0)⟩] []) := by
 refine bD (t := fun κ =>
  κ.t 35 cN [aH.av p0.in_, aA.av p1] [] [] fun r0 =>
  cond (r0.2.2.2 != 0) (
  (some (aI ([], [], r0.2.2.2, p0)))) (
  cond (!r0.2.1) (
  (some (aI (r0.2.2.1, [], 0, (client_Client.mk p0.name p0.state p0.out r0.1 p0.waiting p0.count p0.last))))) (
  κ.t 30 cH [aB.av p1.Message] [] [] fun r1 =>
  (some (aI (r0.2.2.1, [r1], 0, (client_Client.mk p0.name p0.state p0.out r0.1 p0.waiting p0.count p0.last))))))) (fun _ => by kernel_rfl) ?_
 unfold lY
 refine lQ eX vW (qW _ _) fun r0 _ => ?_
 refine lC ?_ ?_
 ·exact aK rfl
 ·refine lC ?_ ?_
  ·exact aK rfl
  ·refine lQ eX fS (iC _) fun r1 _ => ?_
   exact aK rfl
theorem nZ (p0 : List Int) (p1 p2 : Int) : Le (Option.map aR (gC p0 p1 p2)) (aV SE 103 [.row 2000000000, dIq p1, dIq p2] [] [⟨[.int .i64], 3, 8, (List.map eI p0)⟩]) := agi (f := 103) (enc := eI) rfl rfl p0 p1 p2
theorem yZ (p0 : List Int) (p1 : Int) : Le (Option.map aR (jB p0 p1)) (aV SE 60 [.d (.sl [.int .i64] (List.map eI p0)), dIq p1] [] []) := by
 refine bD (t := fun κ =>
  κ.t 62 aR [.d (.sl [.int .i64] (List.map eI p0))] [] [] fun r0 =>
  κ.t 102 bI [.d (.sl [.int .i64] (List.map eI r0)), dIq p1] [] [] fun r1 =>
  cond r1.2 (
  κ.t 103 aR [.row 2000000000, dIq r1.1, dIq (w6 (r1.1 + 1))] [] [⟨[.int .i64], 3, 8, (List.map eI r0)⟩] fun r2 =>
  (some (aR r2))) (
  (some (aR r0)))) (fun _ => by kernel_rfl) ?_
 unfold jB
 refine lQ eX bN (dO _) fun r0 _ => ?_
 refine lQ eX dV (eA _ _) fun r1 _ => ?_
 refine lC ?_ ?_
 ·refine lQ eX bN (nZ _ _ _) fun r2 _ => ?_
  exact aK rfl
 ·exact aK rfl
end Te
end PX
