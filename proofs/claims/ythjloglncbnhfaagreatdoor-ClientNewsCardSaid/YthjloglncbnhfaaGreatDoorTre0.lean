import Derived.Test.YthjloglncbnhfaaGreatDoorTab
set_option linter.unusedVariables false
set_option linter.unusedSimpArgs false
set_option maxRecDepth 100000
noncomputable section
namespace PX
open Go
open Md
namespace Te
abbrev cE {α : Type} (f : α → List D) (l : List α) (i : Int) (k : Nat) : D := cellAt (elemAt (List.map f l) (Int.toNat i)) k
abbrev lM {α : Type} (f : α → List D) (l : List α) : Nat := List.length (List.map f l)
abbrev iB (i n : Int) : Bool := decide (0 ≤ i) && decide (i < n)
abbrev w6 (x : Int) : Int := IntKind.wrap .i64 x
abbrev eI : Int → List D := encI .i64
theorem lGe {R : Type} {e : R → Out} {c c' : Bool} {a : Option R} {a' : Res} (h1 : Le (a.map e) a') (hc : c = c' := by simp only [EN]) : Le ((cond c a none).map e) (cond c' a' none) := lG hc h1
theorem lDe {R : Type} {e : R → Out} {c c' : Bool} {a b : Option R} {a' b' : Res} (h1 : Le (a.map e) a') (h2 : Le (b.map e) b') (hc : c = c' := by simp only [EN]) : Le ((cond c a b).map e) (cond c' a' b') := lD hc h1 h2
abbrev dIq (n : Int) : AV := .d (.int .i64 n)
abbrev dSq (s : Str) : AV := .d (.str s)
abbrev dBq (b : Bool) : AV := .d (.bool b)
abbrev rB (b : Bool) : Res := some (.ret [.d (.bool b)] [] [])
abbrev rI (n : Int) : Res := some (.ret [.d (.int .i64 n)] [] [])
abbrev zMq : aB := aB.mk [] [] 0 false 0 0 [] 0 []
abbrev zWq : aR := aR.mk false 0 zMq
abbrev zPq : aA := aA.mk 0 0 false zMq [] [] false 0 0 0 zWq false 0 [] [] []
noncomputable def ano (L : bP) (κ : Tau) (a0 a1 : Int) (a2 : Bool) (a3 : Str) (a4 : Nat) : Res := L SE (K κ) κ.Λ κ.J 26 0 [1, 1, 0, 1, 0, 0, 1, 1, 0, 1, 1, 0] (bF [(3, dIq a0), (4, .d (.int .i32 a1)), (5, dBq a2), (15, .it 4000)] [] [] [(4000, (a3, a4))] [])
noncomputable def af0 (L : bP) (κ : Tau) (a0 : Str) (a1 : Nat) : Res := L SE (K κ) κ.Λ κ.J 26 0 [1, 1, 0, 1, 0] (bF [(15, .it 4000)] [] [] [(4000, (a0, a1))] [])
noncomputable def apO (L : bP) (κ : Tau) (a0 : Str) : Res := L SE (K κ) κ.Λ κ.J 26 0 [1, 1, 0, 0] (bF [(0, dSq a0)] [] [] [] [])
theorem T26 (κ : Tau) (p0 : Str) : bdy κ 26 [dSq p0] [] [] =
 cond (decide ((List.length p0 : Int) < 1)) (
 (rB false)) (
 cond (decide ((List.length p0 : Int) > 16)) (
 (rB false)) (
 apO lab κ p0)) := by kernel_rfl
theorem awq (κ : Tau) (x3 x4 : Int) (x5 : Bool) (s4000 : Str) (i4000 : Nat) : ano bO κ x3 x4 x5 s4000 i4000 =
 cond (!x5) (
 cond (x3 == 0) (
  (rB false)) (
 cond (x4 != 45) (
  cond (decide (x4 < 48)) (
  (rB false)) (
  cond (decide (x4 > 57)) (
  (rB false)) (
  af0 lab κ s4000 i4000))) (
 af0 lab κ s4000 i4000))) (
 af0 lab κ s4000 i4000) := by kernel_rfl
theorem awh (κ : Tau) (s4000 : Str) (i4000 : Nat) : af0 bO κ s4000 i4000 =
 cond (decide (i4000 < List.length s4000)) (
 cond (decide (((dec s4000 i4000).1 : Int) ≥ 97)) (
  ano lab κ (i4000 : Int) ((dec s4000 i4000).1 : Int) (decide (((dec s4000 i4000).1 : Int) ≤ 122)) s4000 (i4000 + (dec s4000 i4000).2)) (
 ano lab κ (i4000 : Int) ((dec s4000 i4000).1 : Int) false s4000 (i4000 + (dec s4000 i4000).2))) (
 (rB true)) := by kernel_rfl
theorem awb (κ : Tau) (x0 : Str) : apO bO κ x0 =
 af0 lab κ x0 0 := by kernel_rfl
theorem ajA (k4 : Str → Nat → Option (Bool)) (hk4 : ∀ (s4000 : Str) (i4000 : Nat), Le (Option.map aE (k4 s4000 i4000)) (af0 lab (kF 26) s4000 i4000)) (x3 x4 : Int) (x5 : Bool) (s4000 : Str) (i4000 : Nat) : Le (Option.map aE (o7 k4 x3 x4 x5 s4000 i4000)) (ano lab (kF 26) x3 x4 x5 s4000 i4000) := by
 refine bG (awq _ x3 x4 x5 s4000 i4000) ?_
 unfold o7
 repeat' first | (with_reducible first | refine lC ?_ ?_ | exact hk4 _ _ | refine aK ?_) | rfl | (simp only [EN, aE] <;> rfl)
theorem ajU : ∀ (fu : Nat) (s4000 : Str) (i4000 : Nat), Le (Option.map aE (kQ fu s4000 i4000)) (af0 lab (kF 26) s4000 i4000) := by
 intro fu
 induction fu with
 | zero => intros; exact le_none
 | succ fu ih =>
  intro s4000 i4000
  refine bG (awh _ s4000 i4000) ?_
  unfold kQ
  repeat' first | (with_reducible first | refine lC ?_ ?_ | exact ajA _ (ih) _ _ _ _ _ | refine aK ?_) | rfl | (simp only [EN, aE] <;> rfl)
theorem ajR (x0 : Str) : Le (Option.map aE (yE x0)) (apO lab (kF 26) x0) := by
 refine bG (awb _ x0) ?_
 unfold yE
 exact ajU fuel x0 0
theorem vD (p0 : Str) : Le (Option.map aE (pY p0)) (aX SE 26 [dSq p0] [] []) := by
 refine bA (T26 _ p0) ?_
 unfold pY
 refine lC ?_ ?_
 ·exact aK rfl
 ·refine lC ?_ ?_
  ·exact aK rfl
  ·exact ajR p0
theorem T27 (κ : Tau) (p0 : Int) : bdy κ 27 [dIq p0] [] [] =
 cond (decide (p0 < 0)) (
 (some (bI ((aF.mk (if 32 < 0 then 32 else 0) [] (aL.mk [] 0)))))) (
 (some (bI ((aF.mk (if 32 < p0 then 32 else p0) [] (aL.mk [] 0)))))) := by kernel_rfl
theorem aen (p0 : Int) : Le (Option.map bI (kJ p0)) (aX SE 27 [dIq p0] [] []) := by
 refine bA (T27 _ p0) ?_
 unfold kJ
 refine lC ?_ ?_
 ·exact aK rfl
 ·exact aK rfl
theorem T7 (κ : Tau) (p0 : Str) (p1 : Int) : bdy κ 7 [dSq p0, dIq p1] [] [] =
 κ.t 26 aE [dSq p0] [] [] fun r0 =>
 cond (!r0) (
 (some (.ret [.nilp, dIq 11] [] []))) (
 cond (decide (p1 < 1)) (
 (some (.ret [.nilp, dIq 1] [] []))) (
 cond (decide (p1 > 32)) (
 (some (.ret [.nilp, dIq 1] [] []))) (
 κ.t 27 bI [dIq p1] [] [] fun r1 =>
 (some (.ret [.ptr 0 0, dIq 0] [⟨83, [dSq p0, dIq 0, dIq r1.Limit, .d (.sl aC.ks (List.map aC.enc r1.Items)), .d (.sl [.int .i64] (List.map eI r1.Pool.Used)), dIq r1.Pool.Last, .d (.sl [.int .i64] (List.map eI [])), .d (.sl aB.ks (List.map aB.enc [])), dIq 0, dIq 0]⟩] []))))) := by kernel_rfl
theorem yF (p0 : Str) (p1 : Int) : Le (Option.map lI (p7 p0 p1)) (aX SE 7 [dSq p0, dIq p1] [] []) := by
 refine bA (T7 _ p0 p1) ?_
 unfold p7
 refine lQ eX aQ (vD _) fun r0 _ => ?_
 refine lC ?_ ?_
 ·exact aK rfl
 ·refine lC ?_ ?_
  ·exact aK rfl
  ·refine lC ?_ ?_
   ·exact aK rfl
   ·refine lQ eX hZ (aen _) fun r1 _ => ?_
    exact aK rfl
theorem T53 (κ : Tau) (p0 : Int) : bdy κ 53 [.d (.int .u8 p0)] [] [] =
 cond (decide (p0 ≥ 97)) (
 (rB (decide (p0 ≤ 122)))) (
 (rB false)) := by kernel_rfl
theorem aaC (p0 : Int) : Le (Option.map aE (mY p0)) (aX SE 53 [.d (.int .u8 p0)] [] []) := by
 refine bA (T53 _ p0) ?_
 unfold mY
 refine lC ?_ ?_
 ·exact aK rfl
 ·exact aK rfl
theorem T54 (κ : Tau) (p0 : Int) : bdy κ 54 [.d (.int .u8 p0)] [] [] =
 cond (decide (p0 ≥ 48)) (
 (rB (decide (p0 ≤ 57)))) (
 (rB false)) := by kernel_rfl
theorem agf (p0 : Int) : Le (Option.map aE (pF p0)) (aX SE 54 [.d (.int .u8 p0)] [] []) := by
 refine bA (T54 _ p0) ?_
 unfold pF
 refine lC ?_ ?_
 ·exact aK rfl
 ·exact aK rfl
noncomputable def aiQ (L : bP) (κ : Tau) (a0 : Str) (a1 : Int) : Res := L SE (K κ) κ.Λ κ.J 28 0 [1, 1, 0, 1, 0] (bF [(0, dSq a0), (3, dIq a1)] [] [] [] [])
noncomputable def aqq (L : bP) (κ : Tau) (a0 : Str) : Res := L SE (K κ) κ.Λ κ.J 28 0 [1, 1, 0, 0] (bF [(0, dSq a0)] [] [] [] [])
theorem T28 (κ : Tau) (p0 : Str) : bdy κ 28 [dSq p0] [] [] =
 cond (decide ((List.length p0 : Int) < 1)) (
 (rB false)) (
 cond (decide ((List.length p0 : Int) > 16)) (
 (rB false)) (
 cond (decide (0 ≤ 0) && decide (0 < (List.length p0 : Int))) (
 κ.t 53 aE [.d (.int .u8 (UInt8.toNat (List.getD p0 (Int.toNat 0) 0) : Int))] [] [] fun r0 =>
 cond (!r0) (
  (rB false)) (
 aqq lab κ p0)) none)) := by kernel_rfl
theorem av7 (κ : Tau) (x0 : Str) (x3 : Int) : aiQ bO κ x0 x3 =
 cond (decide (x3 < (List.length x0 : Int))) (
 cond (iB x3 (List.length x0 : Int)) (
  κ.t 53 aE [.d (.int .u8 (UInt8.toNat (List.getD x0 (Int.toNat x3) 0) : Int))] [] [] fun r1 =>
  cond (!r1) (
  cond (iB x3 (List.length x0 : Int)) (
   κ.t 54 aE [.d (.int .u8 (UInt8.toNat (List.getD x0 (Int.toNat x3) 0) : Int))] [] [] fun r2 =>
   cond (!r2) (
   cond (iB x3 (List.length x0 : Int)) (
    cond ((UInt8.toNat (List.getD x0 (Int.toNat x3) 0) : Int) != 45) (
    (rB false)) (
    aiQ lab κ x0 (w6 (x3 + 1)))) none) (
   aiQ lab κ x0 (w6 (x3 + 1)))) none) (
  aiQ lab κ x0 (w6 (x3 + 1)))) none) (
 (rB true)) := by kernel_rfl
theorem avT (κ : Tau) (x0 : Str) : aqq bO κ x0 =
 aiQ lab κ x0 0 := by kernel_rfl
theorem aeB : ∀ (fu : Nat) (x0 : Str) (x3 : Int), Le (Option.map aE (fN fu x0 x3)) (aiQ lab (kF 28) x0 x3) := by
 intro fu
 induction fu with
 | zero => intros; exact le_none
 | succ fu ih =>
  intro x0 x3
  refine bG (av7 _ x0 x3) ?_
  unfold fN
  repeat' first | (with_reducible first | refine lF ?_ | refine lC ?_ ?_ | refine lQ eX aQ ?_ fun _ _ => ?_ | refine lQ eX aQ ?_ fun _ _ => ?_ | exact aaC _ | exact agf _ | exact ih _ _ | refine aK ?_) | rfl | (simp only [EN, aE] <;> rfl)
theorem aeu (x0 : Str) : Le (Option.map aE (qZ x0)) (aqq lab (kF 28) x0) := by
 refine bG (avT _ x0) ?_
 unfold qZ
 exact aeB fuel x0 0
theorem qV (p0 : Str) : Le (Option.map aE (hQ p0)) (aX SE 28 [dSq p0] [] []) := by
 refine bA (T28 _ p0) ?_
 unfold hQ
 refine lC ?_ ?_
 ·exact aK rfl
 ·refine lC ?_ ?_
  ·exact aK rfl
  ·refine lF ?_
   refine lQ eX aQ (aaC _) fun r0 _ => ?_
   refine lC ?_ ?_
   ·exact aK rfl
   ·exact aeu p0
theorem T29 (κ : Tau) (p0 : Int) : bdy κ 29 [dIq p0] [] [] =
 cond (decide (p0 < 0)) (
 (some (bI ((aF.mk 0 [] (aL.mk [] 0)))))) (
 cond (decide (p0 > 32)) (
 (some (bI ((aF.mk 32 [] (aL.mk [] 0)))))) (
 (some (bI ((aF.mk p0 [] (aL.mk [] 0))))))) := by kernel_rfl
theorem abN (p0 : Int) : Le (Option.map bI (iX p0)) (aX SE 29 [dIq p0] [] []) := by
 refine bA (T29 _ p0) ?_
 unfold iX
 refine lC ?_ ?_
 ·exact aK rfl
 ·refine lC ?_ ?_
  ·exact aK rfl
  ·exact aK rfl
theorem T8 (κ : Tau) (p0 : Str) (p1 : Int) : bdy κ 8 [dSq p0, dIq p1] [] [] =
 κ.t 28 aE [dSq p0] [] [] fun r0 =>
 cond (!r0) (
 (some (dQ (((brokerref51_State.mk [] 0 0 (aF.mk 0 [] (aL.mk [] 0)) (aI.mk []) [] 0 0), 11))))) (
 cond (decide (p1 < 1)) (
 (some (dQ (((brokerref51_State.mk [] 0 0 (aF.mk 0 [] (aL.mk [] 0)) (aI.mk []) [] 0 0), 1))))) (
 cond (decide (p1 > 32)) (
 (some (dQ (((brokerref51_State.mk [] 0 0 (aF.mk 0 [] (aL.mk [] 0)) (aI.mk []) [] 0 0), 1))))) (
 κ.t 29 bI [dIq p1] [] [] fun r1 =>
 (some (dQ (((brokerref51_State.mk p0 p1 0 r1 (aI.mk []) [] 0 0), 0))))))) := by kernel_rfl
theorem abG (p0 : Str) (p1 : Int) : Le (Option.map dQ (iU p0 p1)) (aX SE 8 [dSq p0, dIq p1] [] []) := by
 refine bA (T8 _ p0 p1) ?_
 unfold iU
 refine lQ eX aQ (qV _) fun r0 _ => ?_
 refine lC ?_ ?_
 ·exact aK rfl
 ·refine lC ?_ ?_
  ·exact aK rfl
  ·refine lC ?_ ?_
   ·exact aK rfl
   ·refine lQ eX hZ (abN _) fun r1 _ => ?_
    exact aK rfl
theorem T10 (κ : Tau) (p0 : client_Client) : bdy κ 10 [.ptr 2000000000 0] [⟨83, (client_Client.avs p0)⟩] [] =
 (some (.ret [dBq (p0.state == 2)] [⟨83, (client_Client.avs p0)⟩] [])) := by kernel_rfl
theorem kL (p0 : client_Client) : Le (Option.map dV (hH p0)) (aX SE 10 [.ptr 2000000000 0] [⟨83, (client_Client.avs p0)⟩] []) := by
 refine bA (T10 _ p0) ?_
 unfold hH
 exact aK rfl
theorem T11 (κ : Tau) (p0 : client_Client) : bdy κ 11 [.ptr 2000000000 0] [⟨83, (client_Client.avs p0)⟩] [] =
 (some (.ret [dIq (w6 ((lM aC.enc p0.out.Items : Int) + (lM aB.enc p0.waiting : Int)))] [⟨83, (client_Client.avs p0)⟩] [])) := by kernel_rfl
theorem gY (p0 : client_Client) : Le (Option.map cW (fY p0)) (aX SE 11 [.ptr 2000000000 0] [⟨83, (client_Client.avs p0)⟩] []) := by
 refine bA (T11 _ p0) ?_
 unfold fY
 exact aK (by first | rfl | simp only [EN, cW] <;> rfl)
theorem T55 (κ : Tau) (p0 : List aD) : bdy κ 55 [.d (.sl aD.ks (List.map aD.enc p0))] [] [] =
 cond (List.isEmpty (List.map aD.enc p0)) (
 abw (
  (some (.ret [.row 0] [] [⟨aD.ks, 92, 32, []⟩]))) (
  cond (decide ((lM aD.enc [] + lM aD.enc p0) * 32 ≤ 140737488355328)) (
  (some (cL (([] : List aD) ++ p0)))) none)) (
 cond (decide ((lM aD.enc [] + lM aD.enc p0) * 32 ≤ 140737488355328)) (
 (some (cL (([] : List aD) ++ p0)))) none) := by kernel_rfl
theorem n9 (p0 : List aD) : Le (Option.map cL (eA p0)) (aX SE 55 [.d (.sl aD.ks (List.map aD.enc p0))] [] []) := by
 refine bA (T55 _ p0) ?_
 unfold eA
 refine lDe ?_ ?_
 ·refine alI ?_ ?_
  ·exact aK rfl
  ·refine lGe ?_
   exact aK rfl
 ·refine lGe ?_
  exact aK rfl
theorem T30 (κ : Tau) (p0 : aB) : bdy κ 30 [aB.av p0] [] [] =
 κ.t 55 cL [.d (.sl aD.ks (List.map aD.enc p0.Props))] [] [] fun r0 =>
 (some (dA (aB.mk p0.Topic p0.Payload p0.Level p0.Retain p0.Priority p0.Expires p0.From p0.Seq r0))) := by kernel_rfl
theorem kR (p0 : aB) : Le (Option.map dA (kP p0)) (aX SE 30 [aB.av p0] [] []) := by
 refine bA (T30 _ p0) ?_
 unfold kP
 refine lQ eX n3 (n9 _) fun r0 _ => ?_
 exact aK rfl
theorem T68 (κ : Tau) (p0 p1 p2 : Int) : bdy κ 68 [dIq p0, dIq p1, dIq p2] [] [] =
 cond (decide (p0 ≥ p1)) (
 (rB (decide (p0 ≤ p2)))) (
 (rB false)) := by kernel_rfl
theorem eK (p0 p1 p2 : Int) : Le (Option.map aE (fS p0 p1 p2)) (aX SE 68 [dIq p0, dIq p1, dIq p2] [] []) := by
 refine bA (T68 _ p0 p1 p2) ?_
 unfold fS
 refine lC ?_ ?_
 ·exact aK rfl
 ·exact aK rfl
theorem T70 (κ : Tau) (p0 : aA) : bdy κ 70 [aA.av p0] [] [] =
 cond (p0.Kind == 1) (
 (some (bR ((aA.mk p0.Kind 0 false zMq p0.Client p0.User p0.Clean p0.Keep p0.Expiry p0.Window p0.Will false 0 [] [] []))))) (
 cond (p0.Kind == 2) (
 (some (bR ((aA.mk p0.Kind 0 false zMq [] [] false 0 0 0 zWq p0.Present p0.Code [] [] []))))) (
 cond (p0.Kind == 3) (
 (some (bR ((aA.mk p0.Kind p0.ID p0.Dup p0.Message [] [] false 0 0 0 zWq false 0 [] [] []))))) (
 cond (p0.Kind == 4) (
 (some (bR ((aA.mk p0.Kind p0.ID false zMq [] [] false 0 0 0 zWq false 0 [] [] []))))) (
 cond (p0.Kind == 5) (
 (some (bR ((aA.mk p0.Kind p0.ID false zMq [] [] false 0 0 0 zWq false 0 [] [] []))))) (
 cond (p0.Kind == 6) (
 (some (bR ((aA.mk p0.Kind p0.ID false zMq [] [] false 0 0 0 zWq false 0 [] [] []))))) (
 cond (p0.Kind == 7) (
 (some (bR ((aA.mk p0.Kind p0.ID false zMq [] [] false 0 0 0 zWq false 0 [] [] []))))) (
 cond (p0.Kind == 8) (
 (some (bR ((aA.mk p0.Kind p0.ID false zMq [] [] false 0 0 0 zWq false 0 p0.Subs [] []))))) (
 cond (p0.Kind == 9) (
 (some (bR ((aA.mk p0.Kind p0.ID false zMq [] [] false 0 0 0 zWq false 0 [] [] p0.Codes))))) (
 cond (p0.Kind == 11) (
 (some (bR ((aA.mk p0.Kind p0.ID false zMq [] [] false 0 0 0 zWq false 0 [] [] p0.Codes))))) (
 cond (p0.Kind == 10) (
 (some (bR ((aA.mk p0.Kind p0.ID false zMq [] [] false 0 0 0 zWq false 0 [] p0.Filters []))))) (
 cond (p0.Kind == 14) (
 (some (bR ((aA.mk p0.Kind 0 false zMq [] [] false 0 0 0 zWq false p0.Code [] [] []))))) (
 (some (bR ((aA.mk p0.Kind 0 false zMq [] [] false 0 0 0 zWq false 0 [] [] [])))))))))))))))) := by kernel_rfl
theorem amf (p0 : aA) : Le (Option.map bR (vH p0)) (aX SE 70 [aA.av p0] [] []) := by
 refine bA (T70 _ p0) ?_
 unfold vH
 repeat' first | (with_reducible first | refine lC ?_ ?_ | refine aK ?_) | rfl | (simp only [EN, bR] <;> rfl)
theorem axg (κ : Tau) (p0 : aA) : bdy κ 106 [aA.av p0] [] [] =
 (some (.ret [bU.av (bU.mk p0.Kind p0.ID p0.Keep p0.Expiry p0.Window p0.Code p0.Will.Delay p0.Dup p0.Clean p0.Present p0.Will.Set p0.Client p0.User)] [] [])) := by kernel_rfl
theorem ai5 (p0 : aA) : Le (Option.map kY (tD p0)) (aX SE 106 [aA.av p0] [] []) := by
 refine bA (axg _ p0) ?_
 unfold tD
 exact aK rfl
noncomputable def akE (L : bP) (κ : Tau) (a0 : List (List D)) (a1 a2 : Int) (a3 : List D) : Res := L SE (K κ) κ.Λ κ.J 107 0 [1, 1, 0, 1, 0] (bF [(3, .ptr 1000000000 0), (71, .d (.sl aD.ks a0)), (72, dIq a1), (73, dIq a2)] [⟨54, (List.map AV.d a3)⟩] [] [] [])
noncomputable def an1 (L : bP) (κ : Tau) (a0 a1 : List D) : Res := L SE (K κ) κ.Λ κ.J 107 0 [1, 1, 0, 0] (bF [(2, .ptr 1000000000 0), (3, .ptr 1000000001 0)] [⟨54, (List.map AV.d a0)⟩, ⟨54, (List.map AV.d a1)⟩] [] [] [])
theorem axB (κ : Tau) (p0 p1 : aB) : bdy κ 107 [aB.av p0, aB.av p1] [] [] =
 cond (!(p0.Topic == p1.Topic)) (
 (rB false)) (
 cond (!(p0.Payload == p1.Payload)) (
 (rB false)) (
 cond (p0.Level != p1.Level) (
 (rB false)) (
 cond (p0.Retain != p1.Retain) (
 (rB false)) (
 cond (p0.Priority != p1.Priority) (
 (rB false)) (
 cond (p0.Expires != p1.Expires) (
 (rB false)) (
 cond (!(p0.From == p1.From)) (
 (rB false)) (
 cond (p0.Seq != p1.Seq) (
 (rB false)) (
 cond ((lM aD.enc p0.Props : Int) != (lM aD.enc p1.Props : Int)) (
 (rB false)) (
 an1 lab κ (aB.enc p0) (aB.enc p1)))))))))) := by kernel_rfl
theorem auh (κ : Tau) (x71 : List aD) (x72 x73 : Int) (b0 : aB) : akE bO κ (List.map aD.enc x71) x72 x73 (aB.enc b0) =
 cond (decide (x73 < x72)) (
 cond (iB x73 (lM aD.enc x71 : Int)) (
  cond (iB x73 (lM aD.enc b0.Props : Int)) (
  cond (!(((aV (cE aD.enc x71 x73 0)) == (aV (cE aD.enc b0.Props x73 0))) && (((aV (cE aD.enc x71 x73 1)) == (aV (cE aD.enc b0.Props x73 1))) && true))) (
   (rB false)) (
  akE lab κ (List.map aD.enc x71) x72 (w6 (x73 + 1)) (aB.enc b0))) none) none) (
 (rB true)) := by kernel_rfl
theorem ave (κ : Tau) (b0 b1 : aB) : an1 bO κ (aB.enc b0) (aB.enc b1) =
 akE lab κ (List.map aD.enc b0.Props) (lM aD.enc b0.Props : Int) 0 (aB.enc b1) := by kernel_rfl
theorem ahu : ∀ (fu : Nat) (x71 : List aD) (x72 x73 : Int) (b0 : aB), Le (Option.map aE (l9 fu x71 x72 x73 b0)) (akE lab (kF 107) (List.map aD.enc x71) x72 x73 (aB.enc b0)) := by
 intro fu
 induction fu with
 | zero => intros; exact le_none
 | succ fu ih =>
  intro x71 x72 x73 b0
  refine bG (auh _ x71 x72 x73 b0) ?_
  unfold l9
  refine lC ?_ ?_
  ·refine lGe ?_
   refine lGe ?_
   refine lDe ?_ ?_
   ·exact aK rfl
   ·exact ih x71 x72 (w6 (x73 + 1)) b0
  ·exact aK rfl
theorem ahJ (b0 b1 : aB) : Le (Option.map aE (v5 b0 b1)) (an1 lab (kF 107) (aB.enc b0) (aB.enc b1)) := by
 refine bG (ave _ b0 b1) ?_
 unfold v5
 (try simp only [EN]); exact ahu fuel b0.Props (List.length b0.Props : Int) 0 b1
theorem aax (p0 p1 : aB) : Le (Option.map aE (oA p0 p1)) (aX SE 107 [aB.av p0, aB.av p1] [] []) := by
 refine bA (axB _ p0 p1) ?_
 unfold oA
 repeat' first | (with_reducible first | refine lC ?_ ?_ | refine lD ?_ ?_ ?_ | exact ahJ _ _ | refine aK ?_) | rfl | (simp only [EN]; done) | (simp only [EN, aE] <;> rfl)
noncomputable def alm (L : bP) (κ : Tau) (a0 a1 : List (List D)) (a2 a3 : Int) : Res := L SE (K κ) κ.Λ κ.J 108 0 [1, 1, 0, 1, 0] (bF [(1, .d (.sl aJ.ks a0)), (12, .d (.sl aJ.ks a1)), (13, dIq a2), (14, dIq a3)] [] [] [] [])
theorem axQ (κ : Tau) (p0 p1 : List aJ) : bdy κ 108 [.d (.sl aJ.ks (List.map aJ.enc p0)), .d (.sl aJ.ks (List.map aJ.enc p1))] [] [] =
 cond ((lM aJ.enc p0 : Int) != (lM aJ.enc p1 : Int)) (
 (rB false)) (
 alm lab κ (List.map aJ.enc p1) (List.map aJ.enc p0) (lM aJ.enc p0 : Int) 0) := by kernel_rfl
theorem au3 (κ : Tau) (x1 x12 : List aJ) (x13 x14 : Int) : alm bO κ (List.map aJ.enc x1) (List.map aJ.enc x12) x13 x14 =
 cond (decide (x14 < x13)) (
 cond (iB x14 (lM aJ.enc x12 : Int)) (
  cond (iB x14 (lM aJ.enc x1 : Int)) (
  cond (!(((aV (cE aJ.enc x12 x14 0)) == (aV (cE aJ.enc x1 x14 0))) && (((aM (cE aJ.enc x12 x14 1)) == (aM (cE aJ.enc x1 x14 1))) && (((bB (cE aJ.enc x12 x14 2)) == (bB (cE aJ.enc x1 x14 2))) && true)))) (
   (rB false)) (
  alm lab κ (List.map aJ.enc x1) (List.map aJ.enc x12) x13 (w6 (x14 + 1)))) none) none) (
 (rB true)) := by kernel_rfl
theorem ai0 : ∀ (fu : Nat) (x1 x12 : List aJ) (x13 x14 : Int), Le (Option.map aE (nT fu x1 x12 x13 x14)) (alm lab (kF 108) (List.map aJ.enc x1) (List.map aJ.enc x12) x13 x14) := by
 intro fu
 induction fu with
 | zero => intros; exact le_none
 | succ fu ih =>
  intro x1 x12 x13 x14
  refine bG (au3 _ x1 x12 x13 x14) ?_
  unfold nT
  refine lC ?_ ?_
  ·refine lGe ?_
   refine lGe ?_
   refine lDe ?_ ?_
   ·exact aK rfl
   ·exact ih x1 x12 x13 (w6 (x14 + 1))
  ·exact aK rfl
theorem amb (p0 p1 : List aJ) : Le (Option.map aE (yA p0 p1)) (aX SE 108 [.d (.sl aJ.ks (List.map aJ.enc p0)), .d (.sl aJ.ks (List.map aJ.enc p1))] [] []) := by
 refine bA (axQ _ p0 p1) ?_
 unfold yA
 refine lDe ?_ ?_
 ·exact aK rfl
 ·(try simp only [EN]); exact ai0 fuel p1 p0 (List.length p0 : Int) 0
noncomputable def ak0 (L : bP) (κ : Tau) (a0 a1 : List (List D)) (a2 a3 : Int) : Res := L SE (K κ) κ.Λ κ.J 109 0 [1, 1, 0, 1, 0] (bF [(1, .d (.sl [.str] a0)), (12, .d (.sl [.str] a1)), (13, dIq a2), (14, dIq a3)] [] [] [] [])
theorem axl (κ : Tau) (p0 p1 : List Str) : bdy κ 109 [.d (.sl [.str] (List.map bC p0)), .d (.sl [.str] (List.map bC p1))] [] [] =
 cond ((lM bC p0 : Int) != (lM bC p1 : Int)) (
 (rB false)) (
 ak0 lab κ (List.map bC p1) (List.map bC p0) (lM bC p0 : Int) 0) := by kernel_rfl
theorem avC (κ : Tau) (x1 x12 : List Str) (x13 x14 : Int) : ak0 bO κ (List.map bC x1) (List.map bC x12) x13 x14 =
 cond (decide (x14 < x13)) (
 cond (iB x14 (lM bC x12 : Int)) (
  cond (iB x14 (lM bC x1 : Int)) (
  cond (!((aV (cE bC x12 x14 0)) == (aV (cE bC x1 x14 0)))) (
   (rB false)) (
  ak0 lab κ (List.map bC x1) (List.map bC x12) x13 (w6 (x14 + 1)))) none) none) (
 (rB true)) := by kernel_rfl
theorem aik : ∀ (fu : Nat) (x1 x12 : List Str) (x13 x14 : Int), Le (Option.map aE (l4 fu x1 x12 x13 x14)) (ak0 lab (kF 109) (List.map bC x1) (List.map bC x12) x13 x14) := by
 intro fu
 induction fu with
 | zero => intros; exact le_none
 | succ fu ih =>
  intro x1 x12 x13 x14
  refine bG (avC _ x1 x12 x13 x14) ?_
  unfold l4
  refine lC ?_ ?_
  ·refine lGe ?_
   refine lGe ?_
   refine lDe ?_ ?_
   ·exact aK rfl
   ·exact ih x1 x12 x13 (w6 (x14 + 1))
  ·exact aK rfl
theorem akF (p0 p1 : List Str) : Le (Option.map aE (wC p0 p1)) (aX SE 109 [.d (.sl [.str] (List.map bC p0)), .d (.sl [.str] (List.map bC p1))] [] []) := by
 refine bA (axl _ p0 p1) ?_
 unfold wC
 refine lDe ?_ ?_
 ·exact aK rfl
 ·(try simp only [EN]); exact aik fuel p1 p0 (List.length p0 : Int) 0
noncomputable def alr (L : bP) (κ : Tau) (a0 a1 : List (List D)) (a2 a3 : Int) : Res := L SE (K κ) κ.Λ κ.J 110 0 [1, 1, 0, 1, 0] (bF [(1, .d (.sl [.int .i64] a0)), (12, .d (.sl [.int .i64] a1)), (13, dIq a2), (14, dIq a3)] [] [] [] [])
theorem axO (κ : Tau) (p0 p1 : List Int) : bdy κ 110 [.d (.sl [.int .i64] (List.map eI p0)), .d (.sl [.int .i64] (List.map eI p1))] [] [] =
 cond ((lM eI p0 : Int) != (lM eI p1 : Int)) (
 (rB false)) (
 alr lab κ (List.map eI p1) (List.map eI p0) (lM eI p0 : Int) 0) := by kernel_rfl
theorem aug (κ : Tau) (x1 x12 : List Int) (x13 x14 : Int) : alr bO κ (List.map eI x1) (List.map eI x12) x13 x14 =
 cond (decide (x14 < x13)) (
 cond (iB x14 (lM eI x12 : Int)) (
  cond (iB x14 (lM eI x1 : Int)) (
  cond ((aM (cE eI x12 x14 0)) != (aM (cE eI x1 x14 0))) (
   (rB false)) (
  alr lab κ (List.map eI x1) (List.map eI x12) x13 (w6 (x14 + 1)))) none) none) (
 (rB true)) := by kernel_rfl
theorem ags : ∀ (fu : Nat) (x1 x12 : List Int) (x13 x14 : Int), Le (Option.map aE (j0 fu x1 x12 x13 x14)) (alr lab (kF 110) (List.map eI x1) (List.map eI x12) x13 x14) := by
 intro fu
 induction fu with
 | zero => intros; exact le_none
 | succ fu ih =>
  intro x1 x12 x13 x14
  refine bG (aug _ x1 x12 x13 x14) ?_
  unfold j0
  refine lC ?_ ?_
  ·refine lGe ?_
   refine lGe ?_
   refine lDe ?_ ?_
   ·exact aK rfl
   ·exact ih x1 x12 x13 (w6 (x14 + 1))
  ·exact aK rfl
theorem ai7 (p0 p1 : List Int) : Le (Option.map aE (tP p0 p1)) (aX SE 110 [.d (.sl [.int .i64] (List.map eI p0)), .d (.sl [.int .i64] (List.map eI p1))] [] []) := by
 refine bA (axO _ p0 p1) ?_
 unfold tP
 refine lDe ?_ ?_
 ·exact aK rfl
 ·(try simp only [EN]); exact ags fuel p1 p0 (List.length p0 : Int) 0
theorem T69 (κ : Tau) (p0 p1 : aA) : bdy κ 69 [aA.av p0, aA.av p1] [] [] =
 κ.t 106 kY [aA.av p0] [] [] fun r0 =>
 κ.t 106 kY [aA.av p1] [] [] fun r1 =>
 cond ((r0.kind == r1.kind) && ((r0.id == r1.id) && ((r0.keep == r1.keep) && ((r0.expiry == r1.expiry) && ((r0.window == r1.window) && ((r0.code == r1.code) && ((r0.delay == r1.delay) && ((r0.dup == r1.dup) && ((r0.clean == r1.clean) && ((r0.present == r1.present) && ((r0.set_ == r1.set_) && ((r0.client == r1.client) && ((r0.user == r1.user) && true))))))))))))) (
 κ.t 107 aE [aB.av p0.Message, aB.av p1.Message] [] [] fun r2 =>
 cond r2 (
  κ.t 107 aE [aB.av p0.Will.Message, aB.av p1.Will.Message] [] [] fun r3 =>
  cond r3 (
  κ.t 108 aE [.d (.sl aJ.ks (List.map aJ.enc p0.Subs)), .d (.sl aJ.ks (List.map aJ.enc p1.Subs))] [] [] fun r4 =>
  cond r4 (
   κ.t 109 aE [.d (.sl [.str] (List.map bC p0.Filters)), .d (.sl [.str] (List.map bC p1.Filters))] [] [] fun r5 =>
   cond r5 (
   κ.t 110 aE [.d (.sl [.int .i64] (List.map eI p0.Codes)), .d (.sl [.int .i64] (List.map eI p1.Codes))] [] [] fun r6 =>
   (rB r6)) (
   (rB false))) (
  (rB false))) (
  (rB false))) (
 (rB false))) (
 (rB false)) := by kernel_rfl
theorem al2 (p0 p1 : aA) : Le (Option.map aE (yD p0 p1)) (aX SE 69 [aA.av p0, aA.av p1] [] []) := by
 refine bA (T69 _ p0 p1) ?_
 unfold yD
 repeat' first | (with_reducible first | refine lC ?_ ?_ | refine lQ eX ag7 ?_ fun _ _ => ?_ | refine lQ eX aQ ?_ fun _ _ => ?_ | refine lQ eX aQ ?_ fun _ _ => ?_ | refine lQ eX aQ ?_ fun _ _ => ?_ | refine lQ eX aQ ?_ fun _ _ => ?_ | exact ai5 _ | exact aax _ _ | exact amb _ _ | exact akF _ _ | exact ai7 _ _ | refine aK ?_) | rfl | (simp only [EN, aE] <;> rfl)
noncomputable def aku (L : bP) (κ : Tau) (a0 : Int) (a1 : Str) (a2 : Nat) : Res := L SE (K κ) κ.Λ κ.J 95 0 [1, 1, 1, 0, 1, 0] (bF [(3, dIq a0), (15, .it 4000)] [] [] [(4000, (a1, a2))] [])
noncomputable def apX (L : bP) (κ : Tau) (a0 : Str) : Res := L SE (K κ) κ.Λ κ.J 95 0 [1, 1, 0] (bF [(0, dSq a0)] [] [] [] [])
theorem T95 (κ : Tau) (p0 : Str) : bdy κ 95 [dSq p0] [] [] =
 cond (decide ((List.length p0 : Int) < 1)) (
 (rB false)) (
 cond (decide ((List.length p0 : Int) > 64)) (
 (rB false)) (
 apX lab κ p0)) := by kernel_rfl
theorem awd (κ : Tau) (x3 : Int) (s4000 : Str) (i4000 : Nat) : aku bO κ x3 s4000 i4000 =
 cond (decide (i4000 < List.length s4000)) (
 cond (((dec s4000 i4000).1 : Int) == 0) (
  (rB false)) (
 cond (((dec s4000 i4000).1 : Int) == 47) (
  aku lab κ (w6 (x3 + 1)) s4000 (i4000 + (dec s4000 i4000).2)) (
 aku lab κ x3 s4000 (i4000 + (dec s4000 i4000).2)))) (
 (rB (decide (x3 ≤ 8)))) := by kernel_rfl
theorem awA (κ : Tau) (x0 : Str) : apX bO κ x0 =
 aku lab κ 1 x0 0 := by kernel_rfl
theorem aiY : ∀ (fu : Nat) (x3 : Int) (s4000 : Str) (i4000 : Nat), Le (Option.map aE (jS fu x3 s4000 i4000)) (aku lab (kF 95) x3 s4000 i4000) := by
 intro fu
 induction fu with
 | zero => intros; exact le_none
 | succ fu ih =>
  intro x3 s4000 i4000
  refine bG (awd _ x3 s4000 i4000) ?_
  unfold jS
  repeat' first | (with_reducible first | refine lC ?_ ?_ | exact ih _ _ _ | refine aK ?_) | rfl | (simp only [EN, aE] <;> rfl)
theorem aiZ (x0 : Str) : Le (Option.map aE (w9 x0)) (apX lab (kF 95) x0) := by
 refine bG (awA _ x0) ?_
 unfold w9
 exact aiY fuel 1 x0 0
theorem afv (p0 : Str) : Le (Option.map aE (vK p0)) (aX SE 95 [dSq p0] [] []) := by
 refine bA (T95 _ p0) ?_
 unfold vK
 refine lC ?_ ?_
 ·exact aK rfl
 ·refine lC ?_ ?_
  ·exact aK rfl
  ·exact aiZ p0
noncomputable def anQ (L : bP) (κ : Tau) (a0 : Str) (a1 : Nat) : Res := L SE (K κ) κ.Λ κ.J 56 0 [1, 1, 0, 1, 0] (bF [(9, .it 4000)] [] [] [(4000, (a0, a1))] [])
theorem T56 (κ : Tau) (p0 : Str) : bdy κ 56 [dSq p0] [] [] =
 κ.t 95 aE [dSq p0] [] [] fun r0 =>
 cond (!r0) (
 (rB false)) (
 anQ lab κ p0 0) := by kernel_rfl
theorem awZ (κ : Tau) (s4000 : Str) (i4000 : Nat) : anQ bO κ s4000 i4000 =
 cond (decide (i4000 < List.length s4000)) (
 cond (((dec s4000 i4000).1 : Int) == 43) (
  (rB false)) (
 cond (((dec s4000 i4000).1 : Int) == 35) (
  (rB false)) (
 anQ lab κ s4000 (i4000 + (dec s4000 i4000).2)))) (
 (rB true)) := by kernel_rfl
theorem ai3 : ∀ (fu : Nat) (s4000 : Str) (i4000 : Nat), Le (Option.map aE (lK fu s4000 i4000)) (anQ lab (kF 56) s4000 i4000) := by
 intro fu
 induction fu with
 | zero => intros; exact le_none
 | succ fu ih =>
  intro s4000 i4000
  refine bG (awZ _ s4000 i4000) ?_
  unfold lK
  refine lC ?_ ?_
  ·refine lC ?_ ?_
   ·exact aK rfl
   ·refine lC ?_ ?_
    ·exact aK rfl
    ·exact ih s4000 (i4000 + (dec s4000 i4000).2)
  ·exact aK rfl
theorem alZ (p0 : Str) : Le (Option.map aE (xZ p0)) (aX SE 56 [dSq p0] [] []) := by
 refine bA (T56 _ p0) ?_
 unfold xZ
 refine lQ eX aQ (afv _) fun r0 _ => ?_
 refine lC ?_ ?_
 ·exact aK rfl
 ·exact ai3 fuel p0 0
theorem T57 (κ : Tau) (p0 p1 : Int) : bdy κ 57 [dIq p0, dIq p1] [] [] =
 cond (decide (p0 ≥ 0)) (
 (rB (decide (p0 ≤ p1)))) (
 (rB false)) := by kernel_rfl
theorem ana (p0 p1 : Int) : Le (Option.map aE (pT p0 p1)) (aX SE 57 [dIq p0, dIq p1] [] []) := by
 refine bA (T57 _ p0 p1) ?_
 unfold pT
 refine lC ?_ ?_
 ·exact aK rfl
 ·exact aK rfl
noncomputable def abn (L : bP) (κ : Tau) (a0 : Str) (a1 : Int) : Res := L SE (K κ) κ.Λ κ.J 96 0 [1, 1, 0, 1, 0] (bF [(0, dSq a0), (3, dIq a1)] [] [] [] [])
noncomputable def aqS (L : bP) (κ : Tau) (a0 : Str) : Res := L SE (K κ) κ.Λ κ.J 96 0 [1, 1, 0, 0] (bF [(0, dSq a0)] [] [] [] [])
theorem T96 (κ : Tau) (p0 : Str) : bdy κ 96 [dSq p0] [] [] =
 cond (decide ((List.length p0 : Int) < 1)) (
 (rB false)) (
 cond (decide ((List.length p0 : Int) > 16)) (
 (rB false)) (
 aqS lab κ p0)) := by kernel_rfl
theorem awM (κ : Tau) (x0 : Str) (x3 : Int) : abn bO κ x0 x3 =
 cond (decide (x3 < (List.length x0 : Int))) (
 cond (iB x3 (List.length x0 : Int)) (
  cond (decide ((UInt8.toNat (List.getD x0 (Int.toNat x3) 0) : Int) < 97)) (
  cond (decide ((UInt8.toNat (List.getD x0 (Int.toNat x3) 0) : Int) < 48)) (
   cond ((UInt8.toNat (List.getD x0 (Int.toNat x3) 0) : Int) != 45) (
   (rB false)) (
   abn lab κ x0 (w6 (x3 + 1)))) (
  cond (decide ((UInt8.toNat (List.getD x0 (Int.toNat x3) 0) : Int) > 57)) (
   cond ((UInt8.toNat (List.getD x0 (Int.toNat x3) 0) : Int) != 45) (
   (rB false)) (
   abn lab κ x0 (w6 (x3 + 1)))) (
  abn lab κ x0 (w6 (x3 + 1))))) (
  cond (decide ((UInt8.toNat (List.getD x0 (Int.toNat x3) 0) : Int) > 122)) (
  cond (decide ((UInt8.toNat (List.getD x0 (Int.toNat x3) 0) : Int) < 48)) (
   cond ((UInt8.toNat (List.getD x0 (Int.toNat x3) 0) : Int) != 45) (
   (rB false)) (
   abn lab κ x0 (w6 (x3 + 1)))) (
  cond (decide ((UInt8.toNat (List.getD x0 (Int.toNat x3) 0) : Int) > 57)) (
   cond ((UInt8.toNat (List.getD x0 (Int.toNat x3) 0) : Int) != 45) (
   (rB false)) (
   abn lab κ x0 (w6 (x3 + 1)))) (
  abn lab κ x0 (w6 (x3 + 1))))) (
  abn lab κ x0 (w6 (x3 + 1))))) none) (
 (rB true)) := by kernel_rfl
theorem av5 (κ : Tau) (x0 : Str) : aqS bO κ x0 =
 abn lab κ x0 0 := by kernel_rfl
theorem ai2 : ∀ (fu : Nat) (x0 : Str) (x3 : Int), Le (Option.map aE (fG fu x0 x3)) (abn lab (kF 96) x0 x3) := by
 intro fu
 induction fu with
 | zero => intros; exact le_none
 | succ fu ih =>
  intro x0 x3
  refine bG (awM _ x0 x3) ?_
  unfold fG
  repeat' first | (with_reducible first | refine lF ?_ | refine lC ?_ ?_ | exact ih _ _ | refine aK ?_) | rfl | (simp only [EN, aE] <;> rfl)
theorem ai4 (x0 : Str) : Le (Option.map aE (w4 x0)) (aqS lab (kF 96) x0) := by
 refine bG (av5 _ x0) ?_
 unfold w4
 exact ai2 fuel x0 0
theorem afu (p0 : Str) : Le (Option.map aE (xR p0)) (aX SE 96 [dSq p0] [] []) := by
 refine bA (T96 _ p0) ?_
 unfold xR
 refine lC ?_ ?_
 ·exact aK rfl
 ·refine lC ?_ ?_
  ·exact aK rfl
  ·exact ai4 p0
noncomputable def aki (L : bP) (κ : Tau) (a0 a1 : List (List D)) (a2 a3 : Int) : Res := L SE (K κ) κ.Λ κ.J 58 0 [1, 1, 0, 1, 0] (bF [(0, .d (.sl aD.ks a0)), (8, .d (.sl aD.ks a1)), (9, dIq a2), (10, dIq a3)] [] [] [] [])
theorem T58 (κ : Tau) (p0 : List aD) : bdy κ 58 [.d (.sl aD.ks (List.map aD.enc p0))] [] [] =
 cond (decide ((lM aD.enc p0 : Int) > 8)) (
 (rI 5)) (
 aki lab κ (List.map aD.enc p0) (List.map aD.enc p0) (lM aD.enc p0 : Int) 0) := by kernel_rfl
theorem avW (κ : Tau) (x0 x8 : List aD) (x9 x10 : Int) : aki bO κ (List.map aD.enc x0) (List.map aD.enc x8) x9 x10 =
 cond (decide (x10 < x9)) (
 cond (iB x10 (lM aD.enc x8 : Int)) (
  κ.t 96 aE [dSq (aV (cE aD.enc x8 x10 0))] [] [] fun r0 =>
  cond (!r0) (
  (rI 16)) (
  cond (decide ((List.length (aV (cE aD.enc x8 x10 1)) : Int) > 160)) (
  (rI 5)) (
  cond (decide (x10 > 0)) (
  cond (iB (w6 (x10 - 1)) (lM aD.enc x0 : Int)) (
   cond (Op.bytesLess (aV (cE aD.enc x8 x10 0)) (aV (cE aD.enc x0 (w6 (x10 - 1)) 0)) || (aV (cE aD.enc x8 x10 0)) == (aV (cE aD.enc x0 (w6 (x10 - 1)) 0))) (
   (rI 16)) (
   aki lab κ (List.map aD.enc x0) (List.map aD.enc x8) x9 (w6 (x10 + 1)))) none) (
  aki lab κ (List.map aD.enc x0) (List.map aD.enc x8) x9 (w6 (x10 + 1)))))) none) (
 (rI 0)) := by kernel_rfl
theorem agW : ∀ (fu : Nat) (x0 x8 : List aD) (x9 x10 : Int), Le (Option.map aH (jG fu x0 x8 x9 x10)) (aki lab (kF 58) (List.map aD.enc x0) (List.map aD.enc x8) x9 x10) := by
 intro fu
 induction fu with
 | zero => intros; exact le_none
 | succ fu ih =>
  intro x0 x8 x9 x10
  refine bG (avW _ x0 x8 x9 x10) ?_
  unfold jG
  repeat' first | (with_reducible first | refine lC ?_ ?_ | refine lQ eX aQ ?_ fun _ _ => ?_ | refine lG ?_ ?_ | refine lD ?_ ?_ ?_ | exact afu _ | exact ih _ _ _ _ | refine aK ?_) | rfl | (simp only [EN]; done) | (simp only [EN]; exact afu _) | (simp only [EN, aH] <;> rfl)
theorem ajH (p0 : List aD) : Le (Option.map aH (rJ p0)) (aX SE 58 [.d (.sl aD.ks (List.map aD.enc p0))] [] []) := by
 refine bA (T58 _ p0) ?_
 unfold rJ
 refine lDe ?_ ?_
 ·exact aK rfl
 ·(try simp only [EN]); exact agW fuel p0 p0 (List.length p0 : Int) 0
theorem T31 (κ : Tau) (p0 : aB) : bdy κ 31 [aB.av p0] [] [] =
 κ.t 56 aE [dSq p0.Topic] [] [] fun r0 =>
 cond (!r0) (
 (rI 12)) (
 cond (decide ((List.length p0.Payload : Int) > 256)) (
 (rI 5)) (
 κ.t 57 aE [dIq p0.Level, dIq 2] [] [] fun r1 =>
 cond (!r1) (
 (rI 14)) (
 κ.t 57 aE [dIq p0.Priority, dIq 9] [] [] fun r2 =>
 cond (!r2) (
 (rI 1)) (
 κ.t 57 aE [dIq p0.Expires, dIq 1099511627776] [] [] fun r3 =>
 cond (!r3) (
 (rI 1)) (
 cond (!(p0.From == ([] : Str))) (
 κ.t 26 aE [dSq p0.From] [] [] fun r4 =>
 cond (!r4) (
  (rI 11)) (
 κ.t 57 aE [dIq p0.Seq, dIq 1099511627776] [] [] fun r5 =>
 cond (!r5) (
  (rI 1)) (
 κ.t 58 aH [.d (.sl aD.ks (List.map aD.enc p0.Props))] [] [] fun r6 =>
 (rI r6)))) (
 κ.t 57 aE [dIq p0.Seq, dIq 1099511627776] [] [] fun r7 =>
 cond (!r7) (
 (rI 1)) (
 κ.t 58 aH [.d (.sl aD.ks (List.map aD.enc p0.Props))] [] [] fun r8 =>
 (rI r8)))))))) := by kernel_rfl
theorem kT (p0 : aB) : Le (Option.map aH (gR p0)) (aX SE 31 [aB.av p0] [] []) := by
 refine bA (T31 _ p0) ?_
 unfold gR
 repeat' first | (with_reducible first | refine lC ?_ ?_ | refine lQ eX aQ ?_ fun _ _ => ?_ | refine lQ eX aQ ?_ fun _ _ => ?_ | refine lQ eX aQ ?_ fun _ _ => ?_ | refine lQ eX aY ?_ fun _ _ => ?_ | exact alZ _ | exact ana _ _ | exact vD _ | exact ajH _ | refine aK ?_) | rfl | (simp only [EN, aH] <;> rfl)
theorem T71 (κ : Tau) (p0 : aA) : bdy κ 71 [aA.av p0] [] [] =
 κ.t 26 aE [dSq p0.Client] [] [] fun r0 =>
 cond (!r0) (
 (rI 11)) (
 cond (!(p0.User == ([] : Str))) (
 κ.t 26 aE [dSq p0.User] [] [] fun r1 =>
 cond (!r1) (
  (rI 11)) (
 κ.t 68 aE [dIq p0.Keep, dIq 0, dIq 1099511627776] [] [] fun r2 =>
 cond (!r2) (
  (rI 1)) (
 κ.t 68 aE [dIq p0.Expiry, dIq 0, dIq 1099511627776] [] [] fun r3 =>
 cond (!r3) (
  (rI 1)) (
 κ.t 68 aE [dIq p0.Window, dIq 1, dIq 32] [] [] fun r4 =>
 cond (!r4) (
  (rI 1)) (
 cond (!p0.Will.Set) (
  cond (p0.Will.Delay != 0) (
  (rI 28)) (
  κ.t 107 aE [aB.av p0.Will.Message, .agg [dSq [], dSq [], dIq 0, dBq false, dIq 0, dIq 0, dSq [], dIq 0, .d (.sl aD.ks (List.map aD.enc []))]] [] [] fun r5 =>
  cond (!r5) (
  (rI 28)) (
  cond (!p0.Will.Set) (
  (rI 0)) (
  κ.t 68 aE [dIq p0.Will.Delay, dIq 0, dIq 1099511627776] [] [] fun r6 =>
  cond (!r6) (
  (rI 1)) (
  κ.t 31 aH [aB.av p0.Will.Message] [] [] fun r7 =>
  (rI r7)))))) (
 cond (!p0.Will.Set) (
  (rI 0)) (
 κ.t 68 aE [dIq p0.Will.Delay, dIq 0, dIq 1099511627776] [] [] fun r8 =>
 cond (!r8) (
  (rI 1)) (
 κ.t 31 aH [aB.av p0.Will.Message] [] [] fun r9 =>
 (rI r9))))))))) (
 κ.t 68 aE [dIq p0.Keep, dIq 0, dIq 1099511627776] [] [] fun r10 =>
 cond (!r10) (
 (rI 1)) (
 κ.t 68 aE [dIq p0.Expiry, dIq 0, dIq 1099511627776] [] [] fun r11 =>
 cond (!r11) (
 (rI 1)) (
 κ.t 68 aE [dIq p0.Window, dIq 1, dIq 32] [] [] fun r12 =>
 cond (!r12) (
 (rI 1)) (
 cond (!p0.Will.Set) (
 cond (p0.Will.Delay != 0) (
  (rI 28)) (
 κ.t 107 aE [aB.av p0.Will.Message, .agg [dSq [], dSq [], dIq 0, dBq false, dIq 0, dIq 0, dSq [], dIq 0, .d (.sl aD.ks (List.map aD.enc []))]] [] [] fun r13 =>
 cond (!r13) (
  (rI 28)) (
 cond (!p0.Will.Set) (
  (rI 0)) (
 κ.t 68 aE [dIq p0.Will.Delay, dIq 0, dIq 1099511627776] [] [] fun r14 =>
 cond (!r14) (
  (rI 1)) (
 κ.t 31 aH [aB.av p0.Will.Message] [] [] fun r15 =>
 (rI r15)))))) (
 cond (!p0.Will.Set) (
 (rI 0)) (
 κ.t 68 aE [dIq p0.Will.Delay, dIq 0, dIq 1099511627776] [] [] fun r16 =>
 cond (!r16) (
 (rI 1)) (
 κ.t 31 aH [aB.av p0.Will.Message] [] [] fun r17 =>
 (rI r17))))))))) := by kernel_rfl
theorem ai9 (p0 : aA) : Le (Option.map aH (tH p0)) (aX SE 71 [aA.av p0] [] []) := by
 refine bA (T71 _ p0) ?_
 unfold tH
 refine lQ eX aQ (vD _) fun r0 _ => ?_
 refine lC ?_ ?_
 ·exact aK rfl
 ·refine lC ?_ ?_
  ·refine lQ eX aQ (vD _) fun r1 _ => ?_
   refine lC ?_ ?_
   ·exact aK rfl
   ·refine lQ eX aQ (eK _ _ _) fun r2 _ => ?_
    refine lC ?_ ?_
    ·exact aK rfl
    ·refine lQ eX aQ (eK _ _ _) fun r3 _ => ?_
     refine lC ?_ ?_
     ·exact aK rfl
     ·refine lQ eX aQ (eK _ _ _) fun r4 _ => ?_
      refine lC ?_ ?_
      ·exact aK rfl
      ·refine lC ?_ ?_
       ·refine lC ?_ ?_
        ·exact aK rfl
        ·refine lQ eX aQ (by (try simp only [EN]); exact aax p0.Will.Message (zMq)) fun r5 _ => ?_
         refine lC ?_ ?_
         ·exact aK rfl
         ·refine lC ?_ ?_
          ·exact aK rfl
          ·refine lQ eX aQ (eK _ _ _) fun r6 _ => ?_
           refine lC ?_ ?_
           ·exact aK rfl
           ·refine lQ eX aY (kT _) fun r7 _ => ?_
            exact aK rfl
       ·refine lC ?_ ?_
        ·exact aK rfl
        ·refine lQ eX aQ (eK _ _ _) fun r8 _ => ?_
         refine lC ?_ ?_
         ·exact aK rfl
         ·refine lQ eX aY (kT _) fun r9 _ => ?_
          exact aK rfl
  ·refine lQ eX aQ (eK _ _ _) fun r10 _ => ?_
   refine lC ?_ ?_
   ·exact aK rfl
   ·refine lQ eX aQ (eK _ _ _) fun r11 _ => ?_
    refine lC ?_ ?_
    ·exact aK rfl
    ·refine lQ eX aQ (eK _ _ _) fun r12 _ => ?_
     refine lC ?_ ?_
     ·exact aK rfl
     ·refine lC ?_ ?_
      ·refine lC ?_ ?_
       ·exact aK rfl
       ·refine lQ eX aQ (by (try simp only [EN]); exact aax p0.Will.Message (zMq)) fun r13 _ => ?_
        refine lC ?_ ?_
        ·exact aK rfl
        ·refine lC ?_ ?_
         ·exact aK rfl
         ·refine lQ eX aQ (eK _ _ _) fun r14 _ => ?_
          refine lC ?_ ?_
          ·exact aK rfl
          ·refine lQ eX aY (kT _) fun r15 _ => ?_
           exact aK rfl
      ·refine lC ?_ ?_
       ·exact aK rfl
       ·refine lQ eX aQ (eK _ _ _) fun r16 _ => ?_
        refine lC ?_ ?_
        ·exact aK rfl
        ·refine lQ eX aY (kT _) fun r17 _ => ?_
         exact aK rfl
theorem T72 (κ : Tau) (p0 : Int) : bdy κ 72 [dIq p0] [] [] =
 κ.t 68 aE [dIq p0, dIq 0, dIq 29] [] [] fun r0 =>
 (rB r0) := by kernel_rfl
theorem abd (p0 : Int) : Le (Option.map aE (sK p0)) (aX SE 72 [dIq p0] [] []) := by
 refine bA (T72 _ p0) ?_
 unfold sK
 refine lQ eX aQ (eK _ _ _) fun r0 _ => ?_
 exact aK rfl
theorem T74 (κ : Tau) (p0 : Int) : bdy κ 74 [dIq p0] [] [] =
 κ.t 68 aE [dIq p0, dIq 1, dIq 65535] [] [] fun r0 =>
 cond (!r0) (
 (rI 15)) (
 (rI 0)) := by kernel_rfl
theorem aeq (p0 : Int) : Le (Option.map aH (mG p0)) (aX SE 74 [dIq p0] [] []) := by
 refine bA (T74 _ p0) ?_
 unfold mG
 refine lQ eX aQ (eK _ _ _) fun r0 _ => ?_
 refine lC ?_ ?_
 ·exact aK rfl
 ·exact aK rfl
theorem T73 (κ : Tau) (p0 : aA) : bdy κ 73 [aA.av p0] [] [] =
 κ.t 31 aH [aB.av p0.Message] [] [] fun r0 =>
 cond (r0 != 0) (
 (rI r0)) (
 cond (p0.Message.Level != 0) (
 κ.t 74 aH [dIq p0.ID] [] [] fun r1 =>
 (rI r1)) (
 cond (p0.ID != 0) (
 (rI 15)) (
 cond p0.Dup (
 (rI 28)) (
 (rI 0))))) := by kernel_rfl
theorem aja (p0 : aA) : Le (Option.map aH (tM p0)) (aX SE 73 [aA.av p0] [] []) := by
 refine bA (T73 _ p0) ?_
 unfold tM
 repeat' first | (with_reducible first | refine lC ?_ ?_ | refine lQ eX aY ?_ fun _ _ => ?_ | refine lQ eX aY ?_ fun _ _ => ?_ | exact kT _ | exact aeq _ | refine aK ?_) | rfl | (simp only [EN, aH] <;> rfl)
theorem axM (κ : Tau) (p0 p1 : Int) : bdy κ 111 [dIq p0, dIq p1] [] [] =
 κ.t 68 aE [dIq p0, dIq 1, dIq 65535] [] [] fun r0 =>
 cond (!r0) (
 (rI 15)) (
 cond (p1 == 0) (
 (rI 1)) (
 cond (decide (p1 > 32)) (
 (rI 5)) (
 (rI 0)))) := by kernel_rfl
theorem sV (p0 p1 : Int) : Le (Option.map aH (nP p0 p1)) (aX SE 111 [dIq p0, dIq p1] [] []) := by
 refine bA (axM _ p0 p1) ?_
 unfold nP
 refine lQ eX aQ (eK _ _ _) fun r0 _ => ?_
 refine lC ?_ ?_
 ·exact aK rfl
 ·refine lC ?_ ?_
  ·exact aK rfl
  ·refine lC ?_ ?_
   ·exact aK rfl
   ·exact aK rfl
theorem axN (κ : Tau) (p0 p1 : Str) : bdy κ 160 [dSq p0, dSq p1] [] [] =
 cond (decide ((List.length p0 : Int) ≥ (List.length p1 : Int))) (
 cond (decide (0 ≤ (List.length p1 : Int)) && decide ((List.length p1 : Int) ≤ ((List.length p0) : Int))) (
  (rB ((bQ p0 none (some (List.length p1 : Int))) == p1))) none) (
 (rB false)) := by kernel_rfl
theorem wN (p0 p1 : Str) : Le (Option.map aE (jC p0 p1)) (aX SE 160 [dSq p0, dSq p1] [] []) := by
 refine bA (axN _ p0 p1) ?_
 unfold jC
 refine lC ?_ ?_
 ·refine lF ?_
  exact aK rfl
 ·exact aK rfl
theorem ax0 (κ : Tau) (p0 p1 : Str) : bdy κ 171 [dSq p0, dSq p1] [] [] =
 κ.t 160 aE [dSq p0, dSq p1] [] [] fun r0 =>
 cond (!r0) (
 (some (.ret [dSq p0, dBq false] [] []))) (
 cond (decide (0 ≤ (List.length p1 : Int)) && decide ((List.length p1 : Int) ≤ ((List.length p0) : Int))) (
 (some (.ret [dSq (bQ p0 (some (List.length p1 : Int)) none), dBq true] [] []))) none) := by kernel_rfl
theorem ac4 (p0 p1 : Str) : Le (Option.map eD (oT p0 p1)) (aX SE 171 [dSq p0, dSq p1] [] []) := by
 refine bA (ax0 _ p0 p1) ?_
 unfold oT
 refine lQ eX aQ (wN _ _) fun r0 _ => ?_
 refine lC ?_ ?_
 ·exact aK rfl
 ·refine lF ?_
  exact aK rfl
theorem ax3 (κ : Tau) (p0 p1 : Str) : bdy κ 157 [dSq p0, dSq p1] [] [] =
 κ.t 171 eD [dSq p0, dSq p1] [] [] fun r0 =>
 (some (.ret [dSq r0.1, dBq r0.2] [] [])) := by kernel_rfl
theorem agw (p0 p1 : Str) : Le (Option.map eD (pJ p0 p1)) (aX SE 157 [dSq p0, dSq p1] [] []) := by
 refine bA (ax3 _ p0 p1) ?_
 unfold pJ
 refine lQ eX vW (ac4 _ _) fun r0 _ => ?_
 exact aK rfl
theorem ayy (κ : Tau) (p0 : Str) (p1 : Int) : bdy κ 176 [dSq p0, .d (.int .u8 p1)] [] [] =
 (rI (Lib.indexByte p0 (UInt8.ofNat (Int.toNat p1)) : Int)) := by kernel_rfl
theorem acS (p0 : Str) (p1 : Int) : Le (Option.map aH (tE p0 p1)) (aX SE 176 [dSq p0, .d (.int .u8 p1)] [] []) := by
 refine bA (ayy _ p0 p1) ?_
 unfold tE
 exact aK rfl
theorem ax7 (κ : Tau) (p0 p1 : Str) : bdy κ 174 [dSq p0, dSq p1] [] [] =
 cond ((List.length p1 : Int) == 0) (
 (rI 0)) (
 cond (p1 == p0) (
 (rI 0)) (
 cond ((List.length p1 : Int) == 1) (
 cond (decide (0 ≤ 0) && decide (0 < (List.length p1 : Int))) (
  κ.t 176 aH [dSq p0, .d (.int .u8 (UInt8.toNat (List.getD p1 (Int.toNat 0) 0) : Int))] [] [] fun r0 =>
  (rI r0)) none) (
 cond (decide ((List.length p1 : Int) ≥ (List.length p0 : Int))) (
 (rI (-1))) none))) := by kernel_rfl
theorem aay (p0 p1 : Str) : Le (Option.map aH (jV p0 p1)) (aX SE 174 [dSq p0, dSq p1] [] []) := by
 refine bA (ax7 _ p0 p1) ?_
 unfold jV
 refine lC ?_ ?_
 ·exact aK rfl
 ·refine lC ?_ ?_
  ·exact aK rfl
  ·refine lC ?_ ?_
   ·refine lF ?_
    refine lQ eX aY (acS _ _) fun r0 _ => ?_
    exact aK rfl
   ·refine lF ?_
    exact aK rfl
theorem ayC (κ : Tau) (p0 p1 : Str) : bdy κ 172 [dSq p0, dSq p1] [] [] =
 κ.t 174 aH [dSq p0, dSq p1] [] [] fun r0 =>
 cond (decide (r0 ≥ 0)) (
 cond (decide (0 ≤ r0) && decide (r0 ≤ ((List.length p0) : Int))) (
  cond (decide (0 ≤ (w6 (r0 + (List.length p1 : Int)))) && decide ((w6 (r0 + (List.length p1 : Int))) ≤ ((List.length p0) : Int))) (
  (some (.ret [dSq (bQ p0 none (some r0)), dSq (bQ p0 (some (w6 (r0 + (List.length p1 : Int)))) none), dBq true] [] []))) none) none) (
 (some (bL (p0, [], false)))) := by kernel_rfl
theorem ahC (p0 p1 : Str) : Le (Option.map bL (vY p0 p1)) (aX SE 172 [dSq p0, dSq p1] [] []) := by
 refine bA (ayC _ p0 p1) ?_
 unfold vY
 refine lQ eX aY (aay _ _) fun r0 _ => ?_
 refine lC ?_ ?_
 ·refine lF ?_
  refine lF ?_
  exact aK rfl
 ·exact aK rfl
theorem ayI (κ : Tau) (p0 p1 : Str) : bdy κ 158 [dSq p0, dSq p1] [] [] =
 κ.t 172 bL [dSq p0, dSq p1] [] [] fun r0 =>
 (some (bL (r0.1, r0.2.1, r0.2.2))) := by kernel_rfl
theorem alN (p0 p1 : Str) : Le (Option.map bL (xX p0 p1)) (aX SE 158 [dSq p0, dSq p1] [] []) := by
 refine bA (ayI _ p0 p1) ?_
 unfold xX
 refine lQ eX m8 (ahC _ _) fun r0 _ => ?_
 exact aK rfl
theorem ax8 (κ : Tau) (p0 p1 : Str) : bdy κ 182 [dSq p0, dSq p1] [] [] =
 κ.t 174 aH [dSq p0, dSq p1] [] [] fun r0 =>
 (rI r0) := by kernel_rfl
theorem adx (p0 p1 : Str) : Le (Option.map aH (m7 p0 p1)) (aX SE 182 [dSq p0, dSq p1] [] []) := by
 refine bA (ax8 _ p0 p1) ?_
 unfold m7
 refine lQ eX aY (aay _ _) fun r0 _ => ?_
 exact aK rfl
noncomputable def akN (L : bP) (κ : Tau) (a0 a1 : Str) (a2 : Int) : Res := L SE (K κ) κ.Λ κ.J 181 0 [1, 1, 1, 1, 0] (bF [(0, dSq a0), (1, dSq a1), (5, dIq a2)] [] [] [] [])
theorem axX (κ : Tau) (p0 p1 : Str) : bdy κ 181 [dSq p0, dSq p1] [] [] =
 cond ((List.length p1 : Int) == 0) (
 none) (
 cond ((List.length p1 : Int) == 1) (
 cond (decide (0 ≤ 0) && decide (0 < (List.length p1 : Int))) (
  (rI (Lib.countByte p0 (UInt8.ofNat (Int.toNat (UInt8.toNat (List.getD p1 (Int.toNat 0) 0) : Int))) : Int))) none) (
 akN lab κ p0 p1 0)) := by kernel_rfl
theorem ava (κ : Tau) (x0 x1 : Str) (x5 : Int) : akN bO κ x0 x1 x5 =
 κ.t 182 aH [dSq x0, dSq x1] [] [] fun r0 =>
 cond (r0 == (-1)) (
 (rI x5)) (
 cond (decide (0 ≤ (w6 (r0 + (List.length x1 : Int)))) && decide ((w6 (r0 + (List.length x1 : Int))) ≤ ((List.length x0) : Int))) (
 akN lab κ (bQ x0 (some (w6 (r0 + (List.length x1 : Int)))) none) x1 (w6 (x5 + 1))) none) := by kernel_rfl
theorem agY : ∀ (fu : Nat) (x0 x1 : Str) (x5 : Int), Le (Option.map aH (uT fu x0 x1 x5)) (akN lab (kF 181) x0 x1 x5) := by
 intro fu
 induction fu with
 | zero => intros; exact le_none
 | succ fu ih =>
  intro x0 x1 x5
  refine bG (ava _ x0 x1 x5) ?_
  unfold uT
  refine lQ eX aY (adx _ _) fun r0 _ => ?_
  refine lC ?_ ?_
  ·exact aK rfl
  ·refine lF ?_
   exact ih (bQ x0 (some (w6 (r0 + (List.length x1 : Int)))) none) x1 (w6 (x5 + 1))
theorem ajV (p0 p1 : Str) : Le (Option.map aH (vB p0 p1)) (aX SE 181 [dSq p0, dSq p1] [] []) := by
 refine bA (axX _ p0 p1) ?_
 unfold vB
 refine lC ?_ ?_
 ·exact le_none
 ·refine lC ?_ ?_
  ·refine lF ?_
   exact aK rfl
  ·exact agY fuel p0 p1 0
noncomputable def aiz (L : bP) (κ : Tau) (a0 : Str) (a1 : Int) (a2 : List (List D)) : Res := L SE (K κ) κ.Λ κ.J 175 0 [1, 1, 1, 1, 1, 1, 1, 1, 1, 0] (bF [(0, dSq a0), (9, .row 3009), (10, dIq a1)] [] [] [] [(3009, ⟨[.str], 9, 16, a2⟩)])
noncomputable def aiV (L : bP) (κ : Tau) (a0 a1 : Str) (a2 a3 a4 : Int) (a5 : List (List D)) : Res := L SE (K κ) κ.Λ κ.J 175 0 [1, 1, 1, 1, 1, 1, 1, 1, 0, 0] (bF [(0, dSq a0), (1, dSq a1), (2, dIq a2), (3, dIq a3), (9, .row 3009), (10, dIq a4)] [] [] [] [(3009, ⟨[.str], 9, 16, a5⟩)])
noncomputable def akS (L : bP) (κ : Tau) (a0 a1 : Str) (a2 a3 : Int) : Res := L SE (K κ) κ.Λ κ.J 175 0 [1, 1, 1, 1, 0] (bF [(0, dSq a0), (1, dSq a1), (2, dIq a2), (3, dIq a3)] [] [] [] [])
theorem axy (κ : Tau) (p0 p1 : Str) (p2 p3 : Int) : bdy κ 175 [dSq p0, dSq p1, dIq p2, dIq p3] [] [] =
 cond (p3 == 0) (
 (some (.ret [.d (.sl [.str] (List.map bC []))] [] []))) (
 cond (p1 == ([] : Str)) (
 none) (
 cond (decide (p3 < 0)) (
 κ.t 181 aH [dSq p0, dSq p1] [] [] fun r0 =>
 akS lab κ p0 p1 p2 (w6 (r0 + 1))) (
 akS lab κ p0 p1 p2 p3))) := by kernel_rfl
theorem atF (κ : Tau) (x0 : Str) (x10 : Int) (w3009 : List Str) : aiz bO κ x0 x10 (List.map bC w3009) =
 cond (iB x10 (lM bC w3009 : Int)) (
 cond (decide (0 ≤ (w6 (x10 + 1))) && decide ((w6 (x10 + 1)) ≤ ((List.length (oY (List.map bC w3009) (Int.toNat x10) 0 [D.str x0])) : Int))) (
  (some (.ret [.d (.sl [.str] (List.take ((Int.toNat (w6 (x10 + 1))) - 0) (List.drop 0 (oY (List.map bC w3009) (Int.toNat x10) 0 [D.str x0]))))] [] []))) none) none := by kernel_rfl
theorem aue (κ : Tau) (x0 x1 : Str) (x2 x3 x10 : Int) (w3009 : List Str) : aiV bO κ x0 x1 x2 x3 x10 (List.map bC w3009) =
 cond (decide (x10 < x3)) (
 κ.t 182 aH [dSq x0, dSq x1] [] [] fun r1 =>
 cond (decide (r1 < 0)) (
  aiz lab κ x0 x10 (List.map bC w3009)) (
 cond (decide (0 ≤ (w6 (r1 + x2))) && decide ((w6 (r1 + x2)) ≤ ((List.length x0) : Int))) (
  cond (iB x10 (lM bC w3009 : Int)) (
  cond (decide (0 ≤ (w6 (r1 + (List.length x1 : Int)))) && decide ((w6 (r1 + (List.length x1 : Int))) ≤ ((List.length x0) : Int))) (
   aiV lab κ (bQ x0 (some (w6 (r1 + (List.length x1 : Int)))) none) x1 x2 x3 (w6 (x10 + 1)) ((oY (List.map bC w3009) (Int.toNat x10) 0 [D.str (bQ x0 none (some (w6 (r1 + x2))))]))) none) none) none)) (
 aiz lab κ x0 x10 (List.map bC w3009)) := by kernel_rfl
theorem au7 (κ : Tau) (x0 x1 : Str) (x2 x3 : Int) : akS bO κ x0 x1 x2 x3 =
 cond (decide (0 ≤ (if (w6 ((List.length x0 : Int) + 1)) < x3 then (w6 ((List.length x0 : Int) + 1)) else x3)) && decide ((if (w6 ((List.length x0 : Int) + 1)) < x3 then (w6 ((List.length x0 : Int) + 1)) else x3) ≤ (if (w6 ((List.length x0 : Int) + 1)) < x3 then (w6 ((List.length x0 : Int) + 1)) else x3)) && decide ((if (w6 ((List.length x0 : Int) + 1)) < x3 then (w6 ((List.length x0 : Int) + 1)) else x3) * 16 ≤ 281474976710656)) (
 aiV lab κ x0 x1 x2 ((w6 ((if (w6 ((List.length x0 : Int) + 1)) < x3 then (w6 ((List.length x0 : Int) + 1)) else x3) - 1))) 0 ((List.replicate (Int.toNat (if (w6 ((List.length x0 : Int) + 1)) < x3 then (w6 ((List.length x0 : Int) + 1)) else x3)) [D.str []]))) none := by kernel_rfl
theorem adO (x0 : Str) (x10 : Int) (w3009 : List Str) : Le (Option.map cD (mJ x0 x10 w3009)) (aiz lab (kF 175) x0 x10 (List.map bC w3009)) := by
 refine bG (atF _ x0 x10 w3009) ?_
 unfold mJ
 refine lGe ?_
 refine lGe ?_
 exact aK (by first | rfl | simp only [EN, cD] <;> rfl)
theorem xD : ∀ (fu : Nat) (x0 x1 : Str) (x2 x3 x10 : Int) (w3009 : List Str), Le (Option.map cD (hY fu x0 x1 x2 x3 x10 w3009)) (aiV lab (kF 175) x0 x1 x2 x3 x10 (List.map bC w3009)) := by
 intro fu
 induction fu with
 | zero => intros; exact le_none
 | succ fu ih =>
  intro x0 x1 x2 x3 x10 w3009
  refine bG (aue _ x0 x1 x2 x3 x10 w3009) ?_
  unfold hY
  repeat' first | (with_reducible first | refine lF ?_ | refine lC ?_ ?_ | refine lQ eX aY ?_ fun _ _ => ?_ | refine lG ?_ ?_ | exact adx _ _ | exact adO _ _ _ | exact ih _ _ _ _ _ _) | (simp only [EN]; done) | (simp only [EN]; exact ih _ _ _ _ _ _)
theorem xY (x0 x1 : Str) (x2 x3 : Int) : Le (Option.map cD (nG x0 x1 x2 x3)) (akS lab (kF 175) x0 x1 x2 x3) := by
 refine bG (au7 _ x0 x1 x2 x3) ?_
 unfold nG
 repeat' first | (with_reducible first | refine lF ?_ | exact xD fuel _ _ _ _ _ _) | (simp only [EN]; exact xD fuel _ _ _ _ _ _)
theorem ag2 (p0 p1 : Str) (p2 p3 : Int) : Le (Option.map cD (uL p0 p1 p2 p3)) (aX SE 175 [dSq p0, dSq p1, dIq p2, dIq p3] [] []) := by
 refine bA (axy _ p0 p1 p2 p3) ?_
 unfold uL
 refine lC ?_ ?_
 ·exact aK rfl
 ·refine lC ?_ ?_
  ·exact le_none
  ·refine lC ?_ ?_
   ·refine lQ eX aY (ajV _ _) fun r0 _ => ?_
    exact xY p0 p1 p2 (w6 (r0 + 1))
   ·exact xY p0 p1 p2 p3
theorem ayl (κ : Tau) (p0 p1 : Str) : bdy κ 173 [dSq p0, dSq p1] [] [] =
 κ.t 175 cD [dSq p0, dSq p1, dIq 0, dIq (-1)] [] [] fun r0 =>
 (some (cD r0)) := by kernel_rfl
theorem ajW (p0 p1 : Str) : Le (Option.map cD (uW p0 p1)) (aX SE 173 [dSq p0, dSq p1] [] []) := by
 refine bA (ayl _ p0 p1) ?_
 unfold uW
 refine lQ eX uC (ag2 _ _ _ _) fun r0 _ => ?_
 exact aK rfl
theorem axi (κ : Tau) (p0 : Str) : bdy κ 159 [dSq p0] [] [] =
 κ.t 173 cD [dSq p0, dSq ([47] : Str)] [] [] fun r0 =>
 (some (cD r0)) := by kernel_rfl
theorem akT (p0 : Str) : Le (Option.map cD (wT p0)) (aX SE 159 [dSq p0] [] []) := by
 refine bA (axi _ p0) ?_
 unfold wT
 refine lQ eX uC (ajW _ _) fun r0 _ => ?_
 exact aK rfl
noncomputable def ada (L : bP) (κ : Tau) (a0 : List (List D)) (a1 : Bool) (a2 : Int) (a3 : Str) (a4 : List (List D)) (a5 a6 : Int) (a7 : Str) (a8 : Nat) : Res := L SE (K κ) κ.Λ κ.J 144 0 [1, 0, 1, 1, 1, 1, 0, 1, 0, 0, 1, 1, 0, 0, 1, 1, 0] (bF [(3, .d (.sl [.str] a0)), (4, dBq a1), (5, dIq a2), (6, dSq a3), (15, .d (.sl [.str] a4)), (16, dIq a5), (17, dIq a6), (23, .it 4000)] [] [] [(4000, (a7, a8))] [])
noncomputable def ahs (L : bP) (κ : Tau) (a0 : List (List D)) (a1 : Bool) (a2 : List (List D)) (a3 a4 : Int) : Res := L SE (K κ) κ.Λ κ.J 144 0 [1, 0, 1, 1, 1, 1, 0, 1, 0] (bF [(3, .d (.sl [.str] a0)), (4, dBq a1), (15, .d (.sl [.str] a2)), (16, dIq a3), (17, dIq a4)] [] [] [] [])
theorem ayj (κ : Tau) (p0 : Str) : bdy κ 144 [dSq p0] [] [] =
 κ.t 95 aE [dSq p0] [] [] fun r0 =>
 cond (!r0) (
 (rB false)) (
 κ.t 159 cD [dSq p0] [] [] fun r1 =>
 ahs lab κ (List.map bC r1) true (List.map bC r1) (lM bC r1 : Int) 0) := by kernel_rfl
theorem auV (κ : Tau) (x3 : List Str) (x4 : Bool) (x5 : Int) (x6 : Str) (x15 : List Str) (x16 x17 : Int) (s4000 : Str) (i4000 : Nat) : ada bO κ (List.map bC x3) x4 x5 x6 (List.map bC x15) x16 x17 s4000 i4000 =
 cond (decide (i4000 < List.length s4000)) (
 cond (((dec s4000 i4000).1 : Int) == 43) (
  cond (!((List.length x6 : Int) == 1)) (
  (rB false)) (
  cond (((dec s4000 i4000).1 : Int) == 35) (
  cond (!((List.length x6 : Int) == 1)) (
   (rB false)) (
  cond (decide (x5 < (w6 ((lM bC x3 : Int) - 1)))) (
   (rB false)) (
  ada lab κ (List.map bC x3) x4 x5 x6 (List.map bC x15) x16 x17 s4000 (i4000 + (dec s4000 i4000).2)))) (
  ada lab κ (List.map bC x3) x4 x5 x6 (List.map bC x15) x16 x17 s4000 (i4000 + (dec s4000 i4000).2)))) (
 cond (((dec s4000 i4000).1 : Int) == 35) (
  cond (!((List.length x6 : Int) == 1)) (
  (rB false)) (
  cond (decide (x5 < (w6 ((lM bC x3 : Int) - 1)))) (
  (rB false)) (
  ada lab κ (List.map bC x3) x4 x5 x6 (List.map bC x15) x16 x17 s4000 (i4000 + (dec s4000 i4000).2)))) (
 ada lab κ (List.map bC x3) x4 x5 x6 (List.map bC x15) x16 x17 s4000 (i4000 + (dec s4000 i4000).2)))) (
 ahs lab κ (List.map bC x3) x4 (List.map bC x15) x16 (w6 (x17 + 1))) := by kernel_rfl
theorem auI (κ : Tau) (x3 : List Str) (x4 : Bool) (x15 : List Str) (x16 x17 : Int) : ahs bO κ (List.map bC x3) x4 (List.map bC x15) x16 x17 =
 cond (decide (x17 < x16)) (
 cond (iB x17 (lM bC x15 : Int)) (
  ada lab κ (List.map bC x3) x4 x17 ((aV (cE bC x15 x17 0))) (List.map bC x15) x16 x17 ((aV (cE bC x15 x17 0))) 0) none) (
 (rB x4)) := by kernel_rfl
theorem abO : ∀ (fu : Nat) (k6 : (List Str) → Bool → (List Str) → Int → Int → Option (Bool)) (hk6 : ∀ (x3 : List Str) (x4 : Bool) (x15 : List Str) (x16 x17 : Int), Le (Option.map aE (k6 x3 x4 x15 x16 x17)) (ahs lab (kF 144) (List.map bC x3) x4 (List.map bC x15) x16 x17)) (x3 : List Str) (x4 : Bool) (x5 : Int) (x6 : Str) (x15 : List Str) (x16 x17 : Int) (s4000 : Str) (i4000 : Nat), Le (Option.map aE (gH fu k6 x3 x4 x5 x6 x15 x16 x17 s4000 i4000)) (ada lab (kF 144) (List.map bC x3) x4 x5 x6 (List.map bC x15) x16 x17 s4000 i4000) := by
 intro fu
 induction fu with
 | zero => intros; exact le_none
 | succ fu ih =>
  intro k6 hk6 x3 x4 x5 x6 x15 x16 x17 s4000 i4000
  refine bG (auV _ x3 x4 x5 x6 x15 x16 x17 s4000 i4000) ?_
  unfold gH
  repeat' first | (with_reducible first | refine lC ?_ ?_ | refine lD ?_ ?_ ?_ | exact ih _ hk6 _ _ _ _ _ _ _ _ _ | exact hk6 _ _ _ _ _ | refine aK ?_) | rfl | (simp only [EN]; done) | (simp only [EN, aE] <;> rfl)
theorem ah5 : ∀ (fu : Nat) (x3 : List Str) (x4 : Bool) (x15 : List Str) (x16 x17 : Int), Le (Option.map aE (mB fu x3 x4 x15 x16 x17)) (ahs lab (kF 144) (List.map bC x3) x4 (List.map bC x15) x16 x17) := by
 intro fu
 induction fu with
 | zero => intros; exact le_none
 | succ fu ih =>
  intro x3 x4 x15 x16 x17
  refine bG (auI _ x3 x4 x15 x16 x17) ?_
  unfold mB
  repeat' first | (with_reducible first | refine lC ?_ ?_ | refine lG ?_ ?_ | exact abO fuel _ (ih) _ _ _ _ _ _ _ _ _ | refine aK ?_) | rfl | (simp only [EN]; done) | (simp only [EN]; exact abO fuel _ (ih) _ _ _ _ _ _ _ _ _) | (simp only [EN, aE] <;> rfl)
theorem aee (p0 : Str) : Le (Option.map aE (tT p0)) (aX SE 144 [dSq p0] [] []) := by
 refine bA (ayj _ p0) ?_
 unfold tT
 refine lQ eX aQ (afv _) fun r0 _ => ?_
 refine lC ?_ ?_
 ·exact aK rfl
 ·refine lQ eX uC (akT _) fun r1 _ => ?_
  (try simp only [EN]); exact ah5 fuel r1 true r1 (List.length r1 : Int) 0
theorem axW (κ : Tau) (p0 p1 : Str) : bdy κ 145 [dSq p0, dSq p1] [] [] =
 κ.t 160 aE [dSq p0, dSq p1] [] [] fun r0 =>
 (rB r0) := by kernel_rfl
theorem aae (p0 p1 : Str) : Le (Option.map aE (mR p0 p1)) (aX SE 145 [dSq p0, dSq p1] [] []) := by
 refine bA (axW _ p0 p1) ?_
 unfold mR
 refine lQ eX aQ (wN _ _) fun r0 _ => ?_
 exact aK rfl
theorem ayn (κ : Tau) (p0 : Str) : bdy κ 143 [dSq p0] [] [] =
 κ.t 157 eD [dSq p0, dSq ([36, 115, 104, 97, 114, 101, 47] : Str)] [] [] fun r0 =>
 cond (!r0.2) (
 (some (bL (([], [], false))))) (
 κ.t 158 bL [dSq r0.1, dSq ([47] : Str)] [] [] fun r1 =>
 cond (!r1.2.2) (
 (some (bL (([], [], false))))) (
 κ.t 26 aE [dSq r1.1] [] [] fun r2 =>
 cond (!r2) (
 (some (bL (([], [], false))))) (
 κ.t 144 aE [dSq r1.2.1] [] [] fun r3 =>
 cond (!r3) (
 (some (bL (([], [], false))))) (
 κ.t 145 aE [dSq r1.2.1, dSq ([36, 115, 104, 97, 114, 101, 47] : Str)] [] [] fun r4 =>
 cond r4 (
 (some (bL (([], [], false))))) (
 (some (bL (r1.1, r1.2.1, true)))))))) := by kernel_rfl
theorem ak6 (p0 : Str) : Le (Option.map bL (wG p0)) (aX SE 143 [dSq p0] [] []) := by
 refine bA (ayn _ p0) ?_
 unfold wG
 repeat' first | (with_reducible first | refine lC ?_ ?_ | refine lQ eX vW ?_ fun _ _ => ?_ | refine lQ eX m8 ?_ fun _ _ => ?_ | refine lQ eX aQ ?_ fun _ _ => ?_ | refine lQ eX aQ ?_ fun _ _ => ?_ | refine lQ eX aQ ?_ fun _ _ => ?_ | exact agw _ _ | exact alN _ _ | exact vD _ | exact aee _ | exact aae _ _ | refine aK ?_) | rfl | (simp only [EN, bL] <;> rfl)
theorem ayi (κ : Tau) (p0 : Str) : bdy κ 112 [dSq p0] [] [] =
 κ.t 143 bL [dSq p0] [] [] fun r0 =>
 cond r0.2.2 (
 (some (.ret [dBq true, dBq true] [] []))) (
 κ.t 144 aE [dSq p0] [] [] fun r1 =>
 cond r1 (
 κ.t 145 aE [dSq p0, dSq ([36, 115, 104, 97, 114, 101, 47] : Str)] [] [] fun r2 =>
 (some (.ret [dBq (!r2), dBq false] [] []))) (
 (some (.ret [dBq false, dBq false] [] [])))) := by kernel_rfl
theorem uQ (p0 : Str) : Le (Option.map mQ (rK p0)) (aX SE 112 [dSq p0] [] []) := by
 refine bA (ayi _ p0) ?_
 unfold rK
 refine lQ eX m8 (ak6 _) fun r0 _ => ?_
 refine lC ?_ ?_
 ·exact aK rfl
 ·refine lQ eX aQ (aee _) fun r1 _ => ?_
  refine lC ?_ ?_
  ·refine lQ eX aQ (aae _ _) fun r2 _ => ?_
   exact aK rfl
  ·exact aK rfl
noncomputable def akn (L : bP) (κ : Tau) (a0 : List (List D)) (a1 a2 : Int) : Res := L SE (K κ) κ.Λ κ.J 75 0 [1, 1, 0, 1, 0] (bF [(18, .d (.sl aJ.ks a0)), (19, dIq a1), (20, dIq a2)] [] [] [] [])
theorem T75 (κ : Tau) (p0 : aA) : bdy κ 75 [aA.av p0] [] [] =
 κ.t 111 aH [dIq p0.ID, dIq (lM aJ.enc p0.Subs : Int)] [] [] fun r0 =>
 cond (r0 != 0) (
 (rI r0)) (
 akn lab κ (List.map aJ.enc p0.Subs) (lM aJ.enc p0.Subs : Int) 0) := by kernel_rfl
theorem av6 (κ : Tau) (x18 : List aJ) (x19 x20 : Int) : akn bO κ (List.map aJ.enc x18) x19 x20 =
 cond (decide (x20 < x19)) (
 cond (iB x20 (lM aJ.enc x18 : Int)) (
  κ.t 112 mQ [dSq (aV (cE aJ.enc x18 x20 0))] [] [] fun r1 =>
  cond (!r1.1) (
  (rI 13)) (
  κ.t 68 aE [dIq (aM (cE aJ.enc x18 x20 1)), dIq 0, dIq 2] [] [] fun r2 =>
  cond (!r2) (
  (rI 14)) (
  cond (bB (cE aJ.enc x18 x20 2)) (
  cond r1.2 (
   (rI 28)) (
  akn lab κ (List.map aJ.enc x18) x19 (w6 (x20 + 1)))) (
  akn lab κ (List.map aJ.enc x18) x19 (w6 (x20 + 1)))))) none) (
 (rI 0)) := by kernel_rfl
theorem ae4 : ∀ (fu : Nat) (x18 : List aJ) (x19 x20 : Int), Le (Option.map aH (fM fu x18 x19 x20)) (akn lab (kF 75) (List.map aJ.enc x18) x19 x20) := by
 intro fu
 induction fu with
 | zero => intros; exact le_none
 | succ fu ih =>
  intro x18 x19 x20
  refine bG (av6 _ x18 x19 x20) ?_
  unfold fM
  repeat' first | (with_reducible first | refine lC ?_ ?_ | refine lQ eX ab7 ?_ fun _ _ => ?_ | refine lQ eX aQ ?_ fun _ _ => ?_ | refine lG ?_ ?_ | refine lD ?_ ?_ ?_ | exact uQ _ | exact eK _ _ _ | exact ih _ _ _ | refine aK ?_) | rfl | (simp only [EN]; done) | (simp only [EN]; exact uQ _) | (simp only [EN]; exact eK _ _ _) | (simp only [EN, aH] <;> rfl)
theorem agS (p0 : aA) : Le (Option.map aH (qQ p0)) (aX SE 75 [aA.av p0] [] []) := by
 refine bA (T75 _ p0) ?_
 unfold qQ
 refine lQ eX aY (by (try simp only [EN]); exact sV p0.ID (List.length p0.Subs : Int)) fun r0 _ => ?_
 refine lC ?_ ?_
 ·exact aK rfl
 ·(try simp only [EN]); exact ae4 fuel p0.Subs (List.length p0.Subs : Int) 0
noncomputable def anC (L : bP) (κ : Tau) (a0 : List (List D)) (a1 a2 : Int) : Res := L SE (K κ) κ.Λ κ.J 76 0 [1, 1, 0, 1, 0] (bF [(16, .d (.sl [.int .i64] a0)), (17, dIq a1), (18, dIq a2)] [] [] [] [])
theorem T76 (κ : Tau) (p0 : aA) : bdy κ 76 [aA.av p0] [] [] =
 κ.t 111 aH [dIq p0.ID, dIq (lM eI p0.Codes : Int)] [] [] fun r0 =>
 cond (r0 != 0) (
 (rI r0)) (
 anC lab κ (List.map eI p0.Codes) (lM eI p0.Codes : Int) 0) := by kernel_rfl
theorem awm (κ : Tau) (x16 : List Int) (x17 x18 : Int) : anC bO κ (List.map eI x16) x17 x18 =
 cond (decide (x18 < x17)) (
 cond (iB x18 (lM eI x16 : Int)) (
  κ.t 72 aE [dIq (aM (cE eI x16 x18 0))] [] [] fun r1 =>
  cond (!r1) (
  (rI 1)) (
  anC lab κ (List.map eI x16) x17 (w6 (x18 + 1)))) none) (
 (rI 0)) := by kernel_rfl
theorem ahP : ∀ (fu : Nat) (x16 : List Int) (x17 x18 : Int), Le (Option.map aH (j3 fu x16 x17 x18)) (anC lab (kF 76) (List.map eI x16) x17 x18) := by
 intro fu
 induction fu with
 | zero => intros; exact le_none
 | succ fu ih =>
  intro x16 x17 x18
  refine bG (awm _ x16 x17 x18) ?_
  unfold j3
  repeat' first | (with_reducible first | refine lC ?_ ?_ | refine lQ eX aQ ?_ fun _ _ => ?_ | refine lG ?_ ?_ | exact abd _ | exact ih _ _ _ | refine aK ?_) | rfl | (simp only [EN]; done) | (simp only [EN]; exact abd _) | (simp only [EN, aH] <;> rfl)
theorem ako (p0 : aA) : Le (Option.map aH (sZ p0)) (aX SE 76 [aA.av p0] [] []) := by
 refine bA (T76 _ p0) ?_
 unfold sZ
 refine lQ eX aY (by (try simp only [EN]); exact sV p0.ID (List.length p0.Codes : Int)) fun r0 _ => ?_
 refine lC ?_ ?_
 ·exact aK rfl
 ·(try simp only [EN]); exact ahP fuel p0.Codes (List.length p0.Codes : Int) 0
noncomputable def anD (L : bP) (κ : Tau) (a0 : List (List D)) (a1 a2 : Int) : Res := L SE (K κ) κ.Λ κ.J 77 0 [1, 1, 0, 1, 0] (bF [(18, .d (.sl [.str] a0)), (19, dIq a1), (20, dIq a2)] [] [] [] [])
theorem T77 (κ : Tau) (p0 : aA) : bdy κ 77 [aA.av p0] [] [] =
 κ.t 111 aH [dIq p0.ID, dIq (lM bC p0.Filters : Int)] [] [] fun r0 =>
 cond (r0 != 0) (
 (rI r0)) (
 anD lab κ (List.map bC p0.Filters) (lM bC p0.Filters : Int) 0) := by kernel_rfl
theorem av3 (κ : Tau) (x18 : List Str) (x19 x20 : Int) : anD bO κ (List.map bC x18) x19 x20 =
 cond (decide (x20 < x19)) (
 cond (iB x20 (lM bC x18 : Int)) (
  κ.t 112 mQ [dSq (aV (cE bC x18 x20 0))] [] [] fun r1 =>
  cond (!r1.1) (
  (rI 13)) (
  anD lab κ (List.map bC x18) x19 (w6 (x20 + 1)))) none) (
 (rI 0)) := by kernel_rfl
theorem wR : ∀ (fu : Nat) (x18 : List Str) (x19 x20 : Int), Le (Option.map aH (fQ fu x18 x19 x20)) (anD lab (kF 77) (List.map bC x18) x19 x20) := by
 intro fu
 induction fu with
 | zero => intros; exact le_none
 | succ fu ih =>
  intro x18 x19 x20
  refine bG (av3 _ x18 x19 x20) ?_
  unfold fQ
  repeat' first | (with_reducible first | refine lC ?_ ?_ | refine lQ eX ab7 ?_ fun _ _ => ?_ | refine lG ?_ ?_ | exact uQ _ | exact ih _ _ _ | refine aK ?_) | rfl | (simp only [EN]; done) | (simp only [EN]; exact uQ _) | (simp only [EN, aH] <;> rfl)
theorem ae9 (p0 : aA) : Le (Option.map aH (oB p0)) (aX SE 77 [aA.av p0] [] []) := by
 refine bA (T77 _ p0) ?_
 unfold oB
 repeat' first | (with_reducible first | refine lC ?_ ?_ | refine lQ eX aY ?_ fun _ _ => ?_ | exact sV _ _ | exact wR fuel _ _ _ | refine aK ?_) | rfl | (simp only [EN]; exact sV _ _) | (simp only [EN]; exact wR fuel _ _ _) | (simp only [EN, aH] <;> rfl)
theorem T38 (κ : Tau) (p0 : aA) : bdy κ 38 [aA.av p0] [] [] =
 κ.t 68 aE [dIq p0.Kind, dIq 1, dIq 14] [] [] fun r0 =>
 cond (!r0) (
 (rI 10)) (
 κ.t 70 bR [aA.av p0] [] [] fun r1 =>
 κ.t 69 aE [aA.av p0, aA.av r1] [] [] fun r2 =>
 cond (!r2) (
 (rI 28)) (
 cond (p0.Kind == 1) (
 κ.t 71 aH [aA.av p0] [] [] fun r3 =>
 (rI r3)) (
 cond (p0.Kind == 2) (
 κ.t 72 aE [dIq p0.Code] [] [] fun r4 =>
 cond (!r4) (
  (rI 1)) (
 cond p0.Present (
  cond (p0.Code != 0) (
  (rI 28)) (
  (rI 0))) (
 (rI 0)))) (
 cond (p0.Kind == 14) (
 κ.t 72 aE [dIq p0.Code] [] [] fun r5 =>
 cond (!r5) (
  (rI 1)) (
 cond p0.Present (
  cond (p0.Code != 0) (
  (rI 28)) (
  (rI 0))) (
 (rI 0)))) (
 cond (p0.Kind == 3) (
 κ.t 73 aH [aA.av p0] [] [] fun r6 =>
 (rI r6)) (
 cond (p0.Kind == 4) (
 κ.t 74 aH [dIq p0.ID] [] [] fun r7 =>
 (rI r7)) (
 cond (p0.Kind == 5) (
 κ.t 74 aH [dIq p0.ID] [] [] fun r8 =>
 (rI r8)) (
 cond (p0.Kind == 6) (
 κ.t 74 aH [dIq p0.ID] [] [] fun r9 =>
 (rI r9)) (
 cond (p0.Kind == 7) (
 κ.t 74 aH [dIq p0.ID] [] [] fun r10 =>
 (rI r10)) (
 cond (p0.Kind == 8) (
 κ.t 75 aH [aA.av p0] [] [] fun r11 =>
 (rI r11)) (
 cond (p0.Kind == 9) (
 κ.t 76 aH [aA.av p0] [] [] fun r12 =>
 (rI r12)) (
 cond (p0.Kind == 11) (
 κ.t 76 aH [aA.av p0] [] [] fun r13 =>
 (rI r13)) (
 cond (p0.Kind == 10) (
 κ.t 77 aH [aA.av p0] [] [] fun r14 =>
 (rI r14)) (
 (rI 0))))))))))))))) := by kernel_rfl
theorem rV (p0 : aA) : Le (Option.map aH (mN p0)) (aX SE 38 [aA.av p0] [] []) := by
 refine bA (T38 _ p0) ?_
 unfold mN
 repeat' first | (with_reducible first | refine lC ?_ ?_ | refine lQ eX aQ ?_ fun _ _ => ?_ | refine lQ eX aek ?_ fun _ _ => ?_ | refine lQ eX aQ ?_ fun _ _ => ?_ | refine lQ eX aY ?_ fun _ _ => ?_ | refine lQ eX aQ ?_ fun _ _ => ?_ | refine lQ eX aY ?_ fun _ _ => ?_ | refine lQ eX aY ?_ fun _ _ => ?_ | refine lQ eX aY ?_ fun _ _ => ?_ | refine lQ eX aY ?_ fun _ _ => ?_ | refine lQ eX aY ?_ fun _ _ => ?_ | exact eK _ _ _ | exact amf _ | exact al2 _ _ | exact ai9 _ | exact abd _ | exact aja _ | exact aeq _ | exact agS _ | exact ako _ | exact ae9 _ | refine aK ?_) | rfl | (simp only [EN, aH] <;> rfl)
theorem T20 (κ : Tau) (p0 : client_Client) (p1 : Bool) (p2 : aR) : bdy κ 20 [.ptr 2000000000 0, dBq p1, aR.av p2] [⟨83, (client_Client.avs p0)⟩] [] =
 cond (p0.state != 0) (
 (some (aW ([], 9, p0)))) (
 κ.t 30 dA [aB.av p2.Message] [] [] fun r0 =>
 κ.t 38 aH [.agg [dIq 1, dIq 0, dBq false, dSq [], dSq [], dIq 0, dBq false, dIq 0, dIq 0, dSq [], dIq 0, .d (.sl aD.ks (List.map aD.enc [])), dSq p0.name, dSq [], dBq p1, dIq 0, dIq 1099511627776, dIq p0.out.Limit, dBq p2.Set, dIq p2.Delay, dSq r0.Topic, dSq r0.Payload, dIq r0.Level, dBq r0.Retain, dIq r0.Priority, dIq r0.Expires, dSq r0.From, dIq r0.Seq, .d (.sl aD.ks (List.map aD.enc r0.Props)), dBq false, dIq 0, .d (.sl aJ.ks (List.map aJ.enc [])), .d (.sl [.str] (List.map bC [])), .d (.sl [.int .i64] (List.map eI []))]] [] [] fun r1 =>
 cond (r1 != 0) (
 (some (aW ([], r1, p0)))) (
 (some (aW (([(aA.mk 1 0 false zMq p0.name [] p1 0 1099511627776 p0.out.Limit (aR.mk p2.Set p2.Delay r0) false 0 [] [] [])], 0, (client_Client.mk p0.name 1 p0.out p0.in_ p0.waiting p0.count p0.last))))))) := by kernel_rfl
theorem oC (p0 : client_Client) (p1 : Bool) (p2 : aR) : Le (Option.map aW (fK p0 p1 p2)) (aX SE 20 [.ptr 2000000000 0, dBq p1, aR.av p2] [⟨83, (client_Client.avs p0)⟩] []) := by
 refine bA (T20 _ p0 p1 p2) ?_
 unfold fK
 repeat' first | (with_reducible first | refine lC ?_ ?_ | refine lQ eX iG ?_ fun _ _ => ?_ | refine lQ eX aY ?_ fun _ _ => ?_ | exact kR _ | exact rV _ | refine aK ?_) | rfl | (simp only [EN]; exact rV _) | (simp only [EN, aW] <;> rfl)
theorem T78 (κ : Tau) (p0 : Int) : bdy κ 78 [dIq p0] [] [] =
 κ.t 68 aE [dIq p0, dIq 3, dIq 7] [] [] fun r0 =>
 cond r0 (
 (rB true)) (
 (rB (p0 == 14))) := by kernel_rfl
theorem alJ (p0 : Int) : Le (Option.map aE (xT p0)) (aX SE 78 [dIq p0] [] []) := by
 refine bA (T78 _ p0) ?_
 unfold xT
 refine lQ eX aQ (eK _ _ _) fun r0 _ => ?_
 refine lC ?_ ?_
 ·exact aK rfl
 ·exact aK rfl
theorem T39 (κ : Tau) (p0 : Int) : bdy κ 39 [dIq p0] [] [] =
 κ.t 78 aE [dIq p0] [] [] fun r0 =>
 cond r0 (
 (rB true)) (
 cond (p0 == 2) (
 (rB true)) (
 cond (p0 == 9) (
 (rB true)) (
 cond (p0 == 11) (
 (rB true)) (
 (rB (p0 == 13)))))) := by kernel_rfl
theorem ajO (p0 : Int) : Le (Option.map aE (uZ p0)) (aX SE 39 [dIq p0] [] []) := by
 refine bA (T39 _ p0) ?_
 unfold uZ
 repeat' first | (with_reducible first | refine lC ?_ ?_ | refine lQ eX aQ ?_ fun _ _ => ?_ | exact alJ _ | refine aK ?_) | rfl | (simp only [EN, aE] <;> rfl)
theorem T40 (κ : Tau) (p0 : client_Client) (p1 : Int) : bdy κ 40 [.ptr 2000000000 0, dIq p1] [⟨83, (client_Client.avs p0)⟩] [] =
 cond (p1 == 2) (
 (some (.ret [.fn 79 [.ptr 0 0] []] [⟨83, (client_Client.avs p0)⟩] []))) (
 cond (p1 == 3) (
 (some (.ret [.fn 80 [.ptr 0 0] []] [⟨83, (client_Client.avs p0)⟩] []))) (
 cond (p1 == 6) (
 (some (.ret [.fn 81 [.ptr 0 0] []] [⟨83, (client_Client.avs p0)⟩] []))) (
 cond (p1 == 4) (
 (some (.ret [.fn 82 [.ptr 0 0] []] [⟨83, (client_Client.avs p0)⟩] []))) (
 cond (p1 == 5) (
 (some (.ret [.fn 82 [.ptr 0 0] []] [⟨83, (client_Client.avs p0)⟩] []))) (
 cond (p1 == 7) (
 (some (.ret [.fn 82 [.ptr 0 0] []] [⟨83, (client_Client.avs p0)⟩] []))) (
 cond (p1 == 14) (
 (some (.ret [.fn 83 [.ptr 0 0] []] [⟨83, (client_Client.avs p0)⟩] []))) (
 (some (.ret [.fn 84 [.ptr 0 0] []] [⟨83, (client_Client.avs p0)⟩] []))))))))) := by kernel_rfl
theorem aaT (p0 : client_Client) (p1 : Int) : Le (Option.map eP (kO p0 p1)) (aX SE 40 [.ptr 2000000000 0, dIq p1] [⟨83, (client_Client.avs p0)⟩] []) := by
 refine bA (T40 _ p0 p1) ?_
 unfold kO
 repeat' first | (with_reducible first | refine lC ?_ ?_ | refine aK ?_) | rfl | (simp only [EN, eP] <;> rfl)
theorem ayw (κ : Tau) (p0 : Int) : bdy κ 146 [dIq p0] [] [] =
 (some (bJ ((aA.mk 6 p0 false zMq [] [] false 0 0 0 zWq false 0 [] [] [])))) := by kernel_rfl
theorem wL (p0 : Int) : Le (Option.map bJ (oK p0)) (aX SE 146 [dIq p0] [] []) := by
 refine bA (ayw _ p0) ?_
 unfold oK
 exact aK rfl
theorem ayr (κ : Tau) (p0 : aB) : bdy κ 100 [aB.av p0] [] [] =
 κ.t 55 cL [.d (.sl aD.ks (List.map aD.enc p0.Props))] [] [] fun r0 =>
 (some (dA (aB.mk p0.Topic p0.Payload p0.Level p0.Retain p0.Priority p0.Expires p0.From p0.Seq r0))) := by kernel_rfl
theorem rY (p0 : aB) : Le (Option.map dA (l7 p0)) (aX SE 100 [aB.av p0] [] []) := by
 refine bA (ayr _ p0) ?_
 unfold l7
 refine lQ eX n3 (n9 _) fun r0 _ => ?_
 exact aK rfl
theorem axD (κ : Tau) (p0 : aC) : bdy κ 101 [aC.av p0] [] [] =
 κ.t 100 dA [aB.av p0.Message] [] [] fun r0 =>
 (some (bJ ((aA.mk 3 p0.ID false r0 [] [] false 0 0 0 zWq false 0 [] [] [])))) := by kernel_rfl
theorem vP (p0 : aC) : Le (Option.map bJ (nZ p0)) (aX SE 101 [aC.av p0] [] []) := by
 refine bA (axD _ p0) ?_
 unfold nZ
 refine lQ eX iG (rY _) fun r0 _ => ?_
 exact aK rfl
noncomputable def ahe (L : bP) (κ : Tau) (a0 a1 : Int) (a2 : List D) (a3 : List (List D)) : Res := L SE (K κ) κ.Λ κ.J 113 0 [1, 1, 0, 1, 0] (bF [(1, .ptr 1000000000 0), (3, .row 3003), (9, dIq a0), (10, dIq a1)] [⟨31, (List.map AV.d a2)⟩] [] [] [(3003, ⟨aA.ks, 67, 416, a3⟩)])
theorem ayd (κ : Tau) (p0 : aF) : bdy κ 113 [aF.av p0] [] [] =
 ahe lab κ (lM aC.enc p0.Items : Int) 0 (aF.enc p0) (List.map aA.enc []) := by kernel_rfl
theorem avx (κ : Tau) (x9 x10 : Int) (b0 : aF) (w3003 : List aA) : ahe bO κ x9 x10 (aF.enc b0) (List.map aA.enc w3003) =
 cond (decide (x10 < x9)) (
 cond (iB x10 (lM aC.enc b0.Items : Int)) (
  cond ((aM (cE aC.enc b0.Items x10 1)) == 2) (
  κ.t 146 bJ [dIq (aM (cE aC.enc b0.Items x10 0))] [] [] fun r0 =>
  cond (decide ((lM aA.enc w3003 + lM aA.enc [r0]) * 416 ≤ 140737488355328)) (
   ahe lab κ x9 (w6 (x10 + 1)) (aF.enc b0) (((List.map aA.enc w3003) ++ (List.map aA.enc [r0])))) none) (
  κ.t 101 bJ [.agg [dIq (aM (cE aC.enc b0.Items x10 0)), dIq (aM (cE aC.enc b0.Items x10 1)), dSq (aV (cE aC.enc b0.Items x10 2)), dSq (aV (cE aC.enc b0.Items x10 3)), dIq (aM (cE aC.enc b0.Items x10 4)), dBq (bB (cE aC.enc b0.Items x10 5)), dIq (aM (cE aC.enc b0.Items x10 6)), dIq (aM (cE aC.enc b0.Items x10 7)), dSq (aV (cE aC.enc b0.Items x10 8)), dIq (aM (cE aC.enc b0.Items x10 9)), .d (.sl aD.ks (dSl (cE aC.enc b0.Items x10 10)))]] [] [] fun r1 =>
  cond (decide ((lM aA.enc w3003 + lM aA.enc [(aA.mk r1.Kind r1.ID true r1.Message r1.Client r1.User r1.Clean r1.Keep r1.Expiry r1.Window r1.Will r1.Present r1.Code r1.Subs r1.Filters r1.Codes)]) * 416 ≤ 140737488355328)) (
  ahe lab κ x9 (w6 (x10 + 1)) (aF.enc b0) (((List.map aA.enc w3003) ++ (List.map aA.enc [(aA.mk r1.Kind r1.ID true r1.Message r1.Client r1.User r1.Clean r1.Keep r1.Expiry r1.Window r1.Will r1.Present r1.Code r1.Subs r1.Filters r1.Codes)])))) none)) none) (
 (some (bZ w3003))) := by kernel_rfl
theorem zK : ∀ (fu : Nat) (x9 x10 : Int) (b0 : aF) (w3003 : List aA), Le (Option.map bZ (g8 fu x9 x10 b0 w3003)) (ahe lab (kF 113) x9 x10 (aF.enc b0) (List.map aA.enc w3003)) := by
 intro fu
 induction fu with
 | zero => intros; exact le_none
 | succ fu ih =>
  intro x9 x10 b0 w3003
  refine bG (avx _ x9 x10 b0 w3003) ?_
  unfold g8
  repeat' first | (with_reducible first | refine lC ?_ ?_ | refine lQ eX gO ?_ fun _ _ => ?_ | refine lQ eX gO ?_ fun _ _ => ?_ | refine lG ?_ ?_ | refine lD ?_ ?_ ?_ | exact wL _ | exact ih _ _ _ _ | exact vP _ | refine aK ?_) | rfl | (simp only [EN]; done) | (simp only [EN]; exact wL _) | (simp only [EN]; exact ih _ _ _ _) | (simp only [EN]; exact vP _) | (simp only [EN, bZ] <;> rfl)
theorem ahQ (p0 : aF) : Le (Option.map bZ (rM p0)) (aX SE 113 [aF.av p0] [] []) := by
 refine bA (ayd _ p0) ?_
 unfold rM
 repeat' first | (with_reducible first | exact zK fuel _ _ _ _) | (simp only [EN]; exact zK fuel _ _ _ _)
theorem T97 (κ : Tau) (p0 : aF) : bdy κ 97 [aF.av p0] [] [] =
 (rI (if 0 > (w6 (p0.Limit - (lM aC.enc p0.Items : Int))) then 0 else (w6 (p0.Limit - (lM aC.enc p0.Items : Int))))) := by kernel_rfl
theorem ajz (p0 : aF) : Le (Option.map aH (vC p0)) (aX SE 97 [aF.av p0] [] []) := by
 refine bA (T97 _ p0) ?_
 unfold vC
 exact aK (by first | rfl | simp only [EN, aH] <;> rfl)
theorem ays (κ : Tau) (p0 : Int) : bdy κ 138 [dIq p0] [] [] =
 (rI (w6 ((Int.tmod p0 65535) + 1))) := by kernel_rfl
theorem anm (p0 : Int) : Le (Option.map aH (aaM p0)) (aX SE 138 [dIq p0] [] []) := by
 refine bA (ays _ p0) ?_
 unfold aaM
 exact aK rfl
theorem ayE (κ : Tau) (p0 : Int) : bdy κ 155 [dIq p0] [] [] =
 (rB (p0 != p0)) := by kernel_rfl
theorem ab8 (p0 : Int) : Le (Option.map aE (tK p0)) (aX SE 155 [dIq p0] [] []) := by
 refine bA (ayE _ p0) ?_
 unfold tK
 exact aK rfl
theorem axS (κ : Tau) (p0 p1 : Int) : bdy κ 139 [dIq p0, dIq p1] [] [] =
 κ.t 155 aE [dIq p0] [] [] fun r0 =>
 cond r0 (
 κ.t 155 aE [dIq p1] [] [] fun r1 =>
 cond (!r1) (
  (rB true)) (
 (rB (decide (p0 < p1))))) (
 (rB (decide (p0 < p1)))) := by kernel_rfl
theorem adf (p0 p1 : Int) : Le (Option.map aE (uV p0 p1)) (aX SE 139 [dIq p0, dIq p1] [] []) := by
 refine bA (axS _ p0 p1) ?_
 unfold uV
 refine lQ eX aQ (ab8 _) fun r0 _ => ?_
 refine lC ?_ ?_
 ·refine lQ eX aQ (ab8 _) fun r1 _ => ?_
  refine lC ?_ ?_
  ·exact aK rfl
  ·exact aK rfl
 ·exact aK rfl
theorem axu (κ : Tau) (p0 : Int) : bdy κ 140 [dIq p0] [] [] =
 (rB (p0 != p0)) := by kernel_rfl
theorem aas (p0 : Int) : Le (Option.map aE (mO p0)) (aX SE 140 [dIq p0] [] []) := by
 refine bA (axu _ p0) ?_
 unfold mO
 exact aK rfl
noncomputable def aht (L : bP) (κ : Tau) (a0 : List (List D)) (a1 a2 a3 a4 : Int) : Res := L SE (K κ) κ.Λ κ.J 102 0 [1, 1, 1, 0, 0] (bF [(0, .d (.sl [.int .i64] a0)), (1, dIq a1), (6, dIq a2), (7, dIq a3), (8, dIq a4)] [] [] [] [])
theorem ayG (κ : Tau) (p0 : List Int) (p1 : Int) : bdy κ 102 [.d (.sl [.int .i64] (List.map eI p0)), dIq p1] [] [] =
 aht lab κ (List.map eI p0) p1 (lM eI p0 : Int) 0 (lM eI p0 : Int) := by kernel_rfl
theorem avt (κ : Tau) (x0 : List Int) (x1 x6 x7 x8 : Int) : aht bO κ (List.map eI x0) x1 x6 x7 x8 =
 cond (decide (x7 < x8)) (
 cond (iB (w6 (shr .u64 (IntKind.wrap .u64 (w6 (x7 + x8))) 1)) (lM eI x0 : Int)) (
  κ.t 139 aE [dIq (aM (cE eI x0 (w6 (shr .u64 (IntKind.wrap .u64 (w6 (x7 + x8))) 1)) 0)), dIq x1] [] [] fun r0 =>
  cond r0 (
  aht lab κ (List.map eI x0) x1 x6 (w6 ((w6 (shr .u64 (IntKind.wrap .u64 (w6 (x7 + x8))) 1)) + 1)) x8) (
  aht lab κ (List.map eI x0) x1 x6 x7 (w6 (shr .u64 (IntKind.wrap .u64 (w6 (x7 + x8))) 1)))) none) (
 cond (decide (x7 < x6)) (
 cond (iB x7 (lM eI x0 : Int)) (
  cond ((aM (cE eI x0 x7 0)) == x1) (
  (some (.ret [dIq x7, dBq true] [] []))) (
  cond (iB x7 (lM eI x0 : Int)) (
  κ.t 140 aE [dIq (aM (cE eI x0 x7 0))] [] [] fun r1 =>
  cond r1 (
   κ.t 140 aE [dIq x1] [] [] fun r2 =>
   (some (.ret [dIq x7, dBq r2] [] []))) (
  (some (.ret [dIq x7, dBq false] [] [])))) none)) none) (
 (some (.ret [dIq x7, dBq false] [] [])))) := by kernel_rfl
theorem wK : ∀ (fu : Nat) (x0 : List Int) (x1 x6 x7 x8 : Int), Le (Option.map bW (cN fu x0 x1 x6 x7 x8)) (aht lab (kF 102) (List.map eI x0) x1 x6 x7 x8) := by
 intro fu
 induction fu with
 | zero => intros; exact le_none
 | succ fu ih =>
  intro x0 x1 x6 x7 x8
  refine bG (avt _ x0 x1 x6 x7 x8) ?_
  unfold cN
  repeat' first | (with_reducible first | refine lC ?_ ?_ | refine lQ eX aQ ?_ fun _ _ => ?_ | refine lQ eX aQ ?_ fun _ _ => ?_ | refine lG ?_ ?_ | refine lD ?_ ?_ ?_ | exact adf _ _ | exact ih _ _ _ _ _ | exact aas _ | refine aK ?_) | rfl | (simp only [EN]; done) | (simp only [EN]; exact adf _ _) | (simp only [EN]; exact aas _) | (simp only [EN, bW] <;> rfl)
theorem fB (p0 : List Int) (p1 : Int) : Le (Option.map bW (cV p0 p1)) (aX SE 102 [.d (.sl [.int .i64] (List.map eI p0)), dIq p1] [] []) := by
 refine bA (ayG _ p0 p1) ?_
 unfold cV
 (try simp only [EN]); exact wK fuel p0 p1 (List.length p0 : Int) 0 (List.length p0 : Int)
theorem T62 (κ : Tau) (p0 : List Int) : bdy κ 62 [.d (.sl [.int .i64] (List.map eI p0))] [] [] =
 cond (List.isEmpty (List.map eI p0)) (
 abw (
  (some (.ret [.row 0] [] [⟨[.int .i64], 3, 8, []⟩]))) (
  cond (decide ((lM eI [] + lM eI p0) * 8 ≤ 140737488355328)) (
  (some (aT (([] : List Int) ++ p0)))) none)) (
 cond (decide ((lM eI [] + lM eI p0) * 8 ≤ 140737488355328)) (
 (some (aT (([] : List Int) ++ p0)))) none) := by kernel_rfl
theorem eQ (p0 : List Int) : Le (Option.map aT (dE p0)) (aX SE 62 [.d (.sl [.int .i64] (List.map eI p0))] [] []) := by
 refine bA (T62 _ p0) ?_
 unfold dE
 refine lDe ?_ ?_
 ·refine alI ?_ ?_
  ·exact aK rfl
  ·refine lGe ?_
   exact aK rfl
 ·refine lGe ?_
  exact aK rfl
theorem tY (p0 : List Int) (p1 : Int) (p2 : List Int) : Le (Option.map aT (gW p0 p1 p2)) (aX SE 104 [.row 2000000000, dIq p1, .row 2000000001] [] [⟨[.int .i64], 3, 8, (List.map eI p0)⟩, ⟨[.int .i64], 3, 8, (List.map eI p2)⟩]) := arP (f := 104) (enc := eI) rfl rfl p0 p1 p2
noncomputable def anL (L : bP) (κ : Tau) (a0 a1 a2 : Int) (a3 a4 : List D) : Res := L SE (K κ) κ.Λ κ.J 98 0 [1, 1, 1, 0, 1, 0] (bF [(1, .ptr 1000000000 0), (3, .ptr 1000000001 0), (5, dIq a0), (18, dIq a1), (19, dIq a2)] [⟨29, (List.map AV.d a3)⟩, ⟨29, (List.map AV.d a4)⟩] [] [] [])
theorem T98 (κ : Tau) (p0 : aL) : bdy κ 98 [aL.av p0] [] [] =
 cond (decide ((lM eI p0.Used : Int) ≥ 32)) (
 (some (dN (0, (aL.mk [] 0), 6)))) (
 anL lab κ p0.Last (w6 ((lM eI p0.Used : Int) + 1)) 0 (aL.enc p0) [D.sl [.int .i64] (List.map eI []), D.int .i64 0]) := by kernel_rfl
theorem awV (κ : Tau) (x5 x18 x19 : Int) (b0 b1 : aL) : anL bO κ x5 x18 x19 (aL.enc b0) (aL.enc b1) =
 cond (decide (x19 < x18)) (
 κ.t 138 aH [dIq x5] [] [] fun r0 =>
 κ.t 102 bW [.d (.sl [.int .i64] (List.map eI b0.Used)), dIq r0] [] [] fun r1 =>
 cond (!r1.2) (
  κ.t 62 aT [.d (.sl [.int .i64] (List.map eI b0.Used))] [] [] fun r2 =>
  κ.t 104 aT [.row 2000000000, dIq r1.1, .row 2000000001] [] [⟨[.int .i64], 3, 8, (List.map eI r2)⟩, ⟨[.int .i64], 3, 8, (List.map eI [r0])⟩] fun r3 =>
  (some (dN (r0, (aL.mk r3 r0), 0)))) (
 anL lab κ r0 x18 (w6 (x19 + 1)) (aL.enc b0) (aL.enc b1))) (
 (some (dN (0, (aL.mk [] 0), 6)))) := by kernel_rfl
theorem adq : ∀ (fu : Nat) (x5 x18 x19 : Int) (b0 b1 : aL), Le (Option.map dN (pD fu x5 x18 x19 b0 b1)) (anL lab (kF 98) x5 x18 x19 (aL.enc b0) (aL.enc b1)) := by
 intro fu
 induction fu with
 | zero => intros; exact le_none
 | succ fu ih =>
  intro x5 x18 x19 b0 b1
  refine bG (awV _ x5 x18 x19 b0 b1) ?_
  unfold pD
  refine lC ?_ ?_
  ·refine lQ eX aY (anm _) fun r0 _ => ?_
   refine lQ eX eV (fB _ _) fun r1 _ => ?_
   refine lC ?_ ?_
   ·refine lQ eX bV (eQ _) fun r2 _ => ?_
    refine lQ eX bV (tY _ _ _) fun r3 _ => ?_
    exact aK rfl
   ·exact ih r0 x18 (w6 (x19 + 1)) b0 b1
  ·exact aK rfl
theorem amZ (p0 : aL) : Le (Option.map dN (aat p0)) (aX SE 98 [aL.av p0] [] []) := by
 refine bA (T98 _ p0) ?_
 unfold aat
 repeat' first | (with_reducible first | refine lD ?_ ?_ ?_ | exact adq fuel _ _ _ _ _ | refine aK ?_) | rfl | (simp only [EN]; done) | (simp only [EN]; exact adq fuel _ _ _ _ _) | (simp only [EN, dN] <;> rfl)
noncomputable def anP (L : bP) (κ : Tau) (a0 : List (List D)) (a1 a2 : Int) (a3 a4 : List D) (a5 : List (List D)) : Res := L SE (K κ) κ.Λ κ.J 99 0 [1, 1, 0, 1, 0] (bF [(1, .ptr 1000000000 0), (2, .ptr 1000000001 0), (3, .row 3003), (12, .d (.sl aC.ks a0)), (13, dIq a1), (14, dIq a2)] [⟨31, (List.map AV.d a3)⟩, ⟨31, (List.map AV.d a4)⟩] [] [] [(3003, ⟨aC.ks, 139, 128, a5⟩)])
theorem T99 (κ : Tau) (p0 : aF) : bdy κ 99 [aF.av p0] [] [] =
 cond (decide (0 ≤ 0) && decide (0 ≤ (w6 ((lM aC.enc p0.Items : Int) + 1))) && decide ((w6 ((lM aC.enc p0.Items : Int) + 1)) * 128 ≤ 281474976710656)) (
 anP lab κ (List.map aC.enc p0.Items) (lM aC.enc p0.Items : Int) 0 (aF.enc p0) [D.int .i64 0, D.sl aC.ks (List.map aC.enc []), D.sl [.int .i64] (List.map eI []), D.int .i64 0] (List.map aC.enc [])) none := by kernel_rfl
theorem av0 (κ : Tau) (x12 : List aC) (x13 x14 : Int) (b0 b1 : aF) (w3003 : List aC) : anP bO κ (List.map aC.enc x12) x13 x14 (aF.enc b0) (aF.enc b1) (List.map aC.enc w3003) =
 cond (decide (x14 < x13)) (
 cond (iB x14 (lM aC.enc x12 : Int)) (
  κ.t 100 dA [.agg [dSq (aV (cE aC.enc x12 x14 2)), dSq (aV (cE aC.enc x12 x14 3)), dIq (aM (cE aC.enc x12 x14 4)), dBq (bB (cE aC.enc x12 x14 5)), dIq (aM (cE aC.enc x12 x14 6)), dIq (aM (cE aC.enc x12 x14 7)), dSq (aV (cE aC.enc x12 x14 8)), dIq (aM (cE aC.enc x12 x14 9)), .d (.sl aD.ks (dSl (cE aC.enc x12 x14 10)))]] [] [] fun r0 =>
  cond (decide ((lM aC.enc w3003 + List.length [[D.int .i64 (aM (cE aC.enc x12 x14 0)), D.int .i64 (aM (cE aC.enc x12 x14 1)), D.str r0.Topic, D.str r0.Payload, D.int .i64 r0.Level, D.bool r0.Retain, D.int .i64 r0.Priority, D.int .i64 r0.Expires, D.str r0.From, D.int .i64 r0.Seq, D.sl aD.ks (List.map aD.enc r0.Props)]]) * 128 ≤ 140737488355328)) (
  anP lab κ (List.map aC.enc x12) x13 (w6 (x14 + 1)) (aF.enc b0) (aF.enc b1) (((List.map aC.enc w3003) ++ [[D.int .i64 (aM (cE aC.enc x12 x14 0)), D.int .i64 (aM (cE aC.enc x12 x14 1)), D.str r0.Topic, D.str r0.Payload, D.int .i64 r0.Level, D.bool r0.Retain, D.int .i64 r0.Priority, D.int .i64 r0.Expires, D.str r0.From, D.int .i64 r0.Seq, D.sl aD.ks (List.map aD.enc r0.Props)]]))) none) none) (
 κ.t 62 aT [.d (.sl [.int .i64] (List.map eI b0.Pool.Used))] [] [] fun r1 =>
 (some (bI (aF.mk b0.Limit w3003 (aL.mk r1 b0.Pool.Last))))) := by kernel_rfl
theorem aaB : ∀ (fu : Nat) (x12 : List aC) (x13 x14 : Int) (b0 b1 : aF) (w3003 : List aC), Le (Option.map bI (jX fu x12 x13 x14 b0 b1 w3003)) (anP lab (kF 99) (List.map aC.enc x12) x13 x14 (aF.enc b0) (aF.enc b1) (List.map aC.enc w3003)) := by
 intro fu
 induction fu with
 | zero => intros; exact le_none
 | succ fu ih =>
  intro x12 x13 x14 b0 b1 w3003
  refine bG (av0 _ x12 x13 x14 b0 b1 w3003) ?_
  unfold jX
  repeat' first | (with_reducible first | refine lC ?_ ?_ | refine lQ eX iG ?_ fun _ _ => ?_ | refine lQ eX bV ?_ fun _ _ => ?_ | refine lG ?_ ?_ | exact rY _ | exact ih _ _ _ _ _ _ | exact eQ _ | refine aK ?_) | rfl | (simp only [EN]; done) | (simp only [EN]; exact rY _) | (simp only [EN]; exact ih _ _ _ _ _ _) | (simp only [EN, bI] <;> rfl)
theorem xJ (p0 : aF) : Le (Option.map bI (iF p0)) (aX SE 99 [aF.av p0] [] []) := by
 refine bA (T99 _ p0) ?_
 unfold iF
 repeat' first | (with_reducible first | refine lG ?_ ?_ | exact aaB fuel _ _ _ _ _ _) | (simp only [EN]; done) | (simp only [EN]; exact aaB fuel _ _ _ _ _ _)
theorem T59 (κ : Tau) (p0 : aF) (p1 : aB) : bdy κ 59 [aF.av p0, aB.av p1] [] [] =
 cond (p1.Level == 0) (
 (some (fE (((aF.mk 0 [] (aL.mk [] 0)), zPq, 14))))) (
 κ.t 97 aH [aF.av p0] [] [] fun r0 =>
 cond (r0 == 0) (
 (some (fE (((aF.mk 0 [] (aL.mk [] 0)), zPq, 6))))) (
 κ.t 31 aH [aB.av p1] [] [] fun r1 =>
 cond (r1 != 0) (
 (some (fE (((aF.mk 0 [] (aL.mk [] 0)), zPq, r1))))) (
 κ.t 98 dN [aL.av p0.Pool] [] [] fun r2 =>
 cond (r2.2.2 != 0) (
 (some (fE (((aF.mk 0 [] (aL.mk [] 0)), zPq, r2.2.2))))) (
 κ.t 99 bI [aF.av p0] [] [] fun r3 =>
 κ.t 100 dA [aB.av p1] [] [] fun r4 =>
 cond (decide ((lM aC.enc r3.Items + lM aC.enc [(aC.mk r2.1 1 r4)]) * 128 ≤ 140737488355328)) (
 κ.t 101 bJ [aC.av (aC.mk r2.1 1 r4)] [] [] fun r5 =>
 (some (.ret [.agg [dIq r3.Limit, .row 0, .row 1, dIq r2.2.1.Last], .agg [dIq r5.Kind, dIq r5.ID, dBq r5.Dup, dSq r5.Message.Topic, dSq r5.Message.Payload, dIq r5.Message.Level, dBq r5.Message.Retain, dIq r5.Message.Priority, dIq r5.Message.Expires, dSq r5.Message.From, dIq r5.Message.Seq, .row 2, dSq r5.Client, dSq r5.User, dBq r5.Clean, dIq r5.Keep, dIq r5.Expiry, dIq r5.Window, dBq r5.Will.Set, dIq r5.Will.Delay, dSq r5.Will.Message.Topic, dSq r5.Will.Message.Payload, dIq r5.Will.Message.Level, dBq r5.Will.Message.Retain, dIq r5.Will.Message.Priority, dIq r5.Will.Message.Expires, dSq r5.Will.Message.From, dIq r5.Will.Message.Seq, .row 3, dBq r5.Present, dIq r5.Code, .row 4, .row 5, .row 6], dIq 0] [] [⟨aC.ks, 139, 128, ((List.map aC.enc r3.Items) ++ (List.map aC.enc [(aC.mk r2.1 1 r4)]))⟩, ⟨[.int .i64], 3, 8, (List.map eI r2.2.1.Used)⟩, ⟨aD.ks, 92, 32, (List.map aD.enc r5.Message.Props)⟩, ⟨aD.ks, 92, 32, (List.map aD.enc r5.Will.Message.Props)⟩, ⟨aJ.ks, 75, 32, (List.map aJ.enc r5.Subs)⟩, ⟨[.str], 9, 16, (List.map bC r5.Filters)⟩, ⟨[.int .i64], 3, 8, (List.map eI r5.Codes)⟩]))) none)))) := by kernel_rfl
theorem ab9 (p0 : aF) (p1 : aB) : Le (Option.map fE (qC p0 p1)) (aX SE 59 [aF.av p0, aB.av p1] [] []) := by
 refine bA (T59 _ p0 p1) ?_
 unfold qC
 repeat' first | (with_reducible first | refine lC ?_ ?_ | refine lQ eX aY ?_ fun _ _ => ?_ | refine lQ eX aY ?_ fun _ _ => ?_ | refine lQ eX afM ?_ fun _ _ => ?_ | refine lQ eX hZ ?_ fun _ _ => ?_ | refine lQ eX iG ?_ fun _ _ => ?_ | refine lQ eX gO ?_ fun _ _ => ?_ | refine lG ?_ ?_ | exact ajz _ | exact kT _ | exact amZ _ | exact xJ _ | exact rY _ | exact vP _ | refine aK ?_) | rfl | (simp only [EN]; done) | (simp only [EN, fE] <;> rfl)
noncomputable def anE (L : bP) (κ : Tau) (a0 : List (List D)) (a1 : Int) (a2 : Bool) (a3 : List D) (a4 : List (List D)) : Res := L SE (K κ) κ.Λ κ.J 33 1 [1, 0, 0, 0, 1, 0, 1, 1] (bF [(0, .ptr 2000000000 0), (1, .row 3001), (15, .ptr 2000000000 0), (16, .ptr 2000000000 0), (17, .ptr 2000000000 7), (18, .d (.sl aB.ks a0)), (19, dIq a1), (20, dBq a2)] [] [⟨83, (List.map AV.d a3)⟩] [] [(3001, ⟨aA.ks, 67, 416, a4⟩)])
noncomputable def aqg (L : bP) (κ : Tau) (a0 : List (List D)) (a1 : Int) (a2 : Bool) (a3 : List D) (a4 : List (List D)) : Res := L SE (K κ) κ.Λ κ.J 33 1 [1, 0, 0, 0, 1, 0, 0] (bF [(0, .ptr 2000000000 0), (1, .row 3001), (15, .ptr 2000000000 0), (16, .ptr 2000000000 0), (17, .ptr 2000000000 7), (18, .d (.sl aB.ks a0)), (19, dIq a1), (20, dBq a2)] [] [⟨83, (List.map AV.d a3)⟩] [] [(3001, ⟨aA.ks, 67, 416, a4⟩)])
noncomputable def aiC (L : bP) (κ : Tau) (a0 : List D) (a1 : List (List D)) : Res := L SE (K κ) κ.Λ κ.J 33 1 [1, 0, 0] (bF [(0, .ptr 2000000000 0), (1, .row 3001)] [] [⟨83, (List.map AV.d a0)⟩] [] [(3001, ⟨aA.ks, 67, 416, a1⟩)])
theorem T33 (κ : Tau) (p0 : client_Client) (p1 : List aA) : bdy κ 33 [.ptr 2000000000 0, .row 2000000000] [⟨83, (client_Client.avs p0)⟩] [⟨aA.ks, 67, 416, (List.map aA.enc p1)⟩] =
 aiC lab κ (client_Client.enc p0) (List.map aA.enc p1) := by kernel_rfl
theorem awt (κ : Tau) (x18 : List aB) (x19 : Int) (x20 : Bool) (q0 : client_Client) (w3001 : List aA) : anE bO κ (List.map aB.enc x18) x19 x20 (client_Client.enc q0) (List.map aA.enc w3001) =
 cond (decide (0 ≤ 1) && decide (1 ≤ ((lM aB.enc q0.waiting) : Int))) (
 aiC lab κ [D.str q0.name, D.int .i64 q0.state, D.int .i64 q0.out.Limit, D.sl aC.ks (List.map aC.enc q0.out.Items), D.sl [.int .i64] (List.map eI q0.out.Pool.Used), D.int .i64 q0.out.Pool.Last, D.sl [.int .i64] (List.map eI q0.in_.IDs), D.sl aB.ks (bQ (List.map aB.enc q0.waiting) (some 1) none), D.int .i64 q0.count, D.int .i64 q0.last] (List.map aA.enc w3001)) none := by kernel_rfl
theorem awk (κ : Tau) (x18 : List aB) (x19 : Int) (x20 : Bool) (q0 : client_Client) (w3001 : List aA) : aqg bO κ (List.map aB.enc x18) x19 x20 (client_Client.enc q0) (List.map aA.enc w3001) =
 cond (decide (0 ≤ 0) && decide (0 < (lM aB.enc q0.waiting : Int))) (
 cond ((aM (cE aB.enc q0.waiting 0 2)) == 0) (
  κ.t 30 dA [.agg [dSq (aV (cE aB.enc q0.waiting 0 0)), dSq (aV (cE aB.enc q0.waiting 0 1)), dIq (aM (cE aB.enc q0.waiting 0 2)), dBq (bB (cE aB.enc q0.waiting 0 3)), dIq (aM (cE aB.enc q0.waiting 0 4)), dIq (aM (cE aB.enc q0.waiting 0 5)), dSq (aV (cE aB.enc q0.waiting 0 6)), dIq (aM (cE aB.enc q0.waiting 0 7)), .d (.sl aD.ks (dSl (cE aB.enc q0.waiting 0 8)))]] [] [] fun r0 =>
  cond (decide ((lM aA.enc w3001 + List.length [[D.int .i64 3, D.int .i64 0, D.bool false, D.str r0.Topic, D.str r0.Payload, D.int .i64 r0.Level, D.bool r0.Retain, D.int .i64 r0.Priority, D.int .i64 r0.Expires, D.str r0.From, D.int .i64 r0.Seq, D.sl aD.ks (List.map aD.enc r0.Props), D.str [], D.str [], D.bool false, D.int .i64 0, D.int .i64 0, D.int .i64 0, D.bool false, D.int .i64 0, D.str [], D.str [], D.int .i64 0, D.bool false, D.int .i64 0, D.int .i64 0, D.str [], D.int .i64 0, D.sl aD.ks (List.map aD.enc []), D.bool false, D.int .i64 0, D.sl aJ.ks (List.map aJ.enc []), D.sl [.str] (List.map bC []), D.sl [.int .i64] (List.map eI [])]]) * 416 ≤ 140737488355328)) (
  anE lab κ (List.map aB.enc x18) x19 x20 (client_Client.enc q0) (((List.map aA.enc w3001) ++ [[D.int .i64 3, D.int .i64 0, D.bool false, D.str r0.Topic, D.str r0.Payload, D.int .i64 r0.Level, D.bool r0.Retain, D.int .i64 r0.Priority, D.int .i64 r0.Expires, D.str r0.From, D.int .i64 r0.Seq, D.sl aD.ks (List.map aD.enc r0.Props), D.str [], D.str [], D.bool false, D.int .i64 0, D.int .i64 0, D.int .i64 0, D.bool false, D.int .i64 0, D.str [], D.str [], D.int .i64 0, D.bool false, D.int .i64 0, D.int .i64 0, D.str [], D.int .i64 0, D.sl aD.ks (List.map aD.enc []), D.bool false, D.int .i64 0, D.sl aJ.ks (List.map aJ.enc []), D.sl [.str] (List.map bC []), D.sl [.int .i64] (List.map eI [])]]))) none) (
 κ.t 59 fE [aF.av q0.out, .agg [dSq (aV (cE aB.enc q0.waiting 0 0)), dSq (aV (cE aB.enc q0.waiting 0 1)), dIq (aM (cE aB.enc q0.waiting 0 2)), dBq (bB (cE aB.enc q0.waiting 0 3)), dIq (aM (cE aB.enc q0.waiting 0 4)), dIq (aM (cE aB.enc q0.waiting 0 5)), dSq (aV (cE aB.enc q0.waiting 0 6)), dIq (aM (cE aB.enc q0.waiting 0 7)), .d (.sl aD.ks (dSl (cE aB.enc q0.waiting 0 8)))]] [] [] fun r1 =>
 cond (r1.2.2 != 0) (
  (some (bN (w3001, q0)))) (
 cond (decide ((lM aA.enc w3001 + lM aA.enc [r1.2.1]) * 416 ≤ 140737488355328)) (
  anE lab κ (List.map aB.enc x18) x19 x20 (client_Client.enc (client_Client.mk q0.name q0.state r1.1 q0.in_ q0.waiting q0.count q0.last)) (((List.map aA.enc w3001) ++ (List.map aA.enc [r1.2.1])))) none))) none := by kernel_rfl
theorem awQ (κ : Tau) (q0 : client_Client) (w3001 : List aA) : aiC bO κ (client_Client.enc q0) (List.map aA.enc w3001) =
 cond (q0.state == 2) (
 cond (decide ((lM aB.enc q0.waiting : Int) > 0)) (
  aqg lab κ (List.map aB.enc q0.waiting) (lM aB.enc q0.waiting : Int) (decide ((lM aB.enc q0.waiting : Int) > 0)) (client_Client.enc q0) (List.map aA.enc w3001)) (
 (some (bN (w3001, q0))))) (
 (some (bN (w3001, q0)))) := by kernel_rfl
theorem tN (k1 : client_Client → (List aA) → Option ((List aA) × client_Client)) (hk1 : ∀ (q0 : client_Client) (w3001 : List aA), Le (Option.map bN (k1 q0 w3001)) (aiC lab (kF 33) (client_Client.enc q0) (List.map aA.enc w3001))) (x18 : List aB) (x19 : Int) (x20 : Bool) (q0 : client_Client) (w3001 : List aA) : Le (Option.map bN (iY k1 x18 x19 x20 q0 w3001)) (anE lab (kF 33) (List.map aB.enc x18) x19 x20 (client_Client.enc q0) (List.map aA.enc w3001)) := by
 refine bG (awt _ x18 x19 x20 q0 w3001) ?_
 unfold iY
 repeat' first | (with_reducible first | refine lG ?_ ?_ | exact hk1 _ _) | (simp only [EN]; done) | (simp only [EN]; exact hk1 _ _)
theorem tI (k1 : client_Client → (List aA) → Option ((List aA) × client_Client)) (hk1 : ∀ (q0 : client_Client) (w3001 : List aA), Le (Option.map bN (k1 q0 w3001)) (aiC lab (kF 33) (client_Client.enc q0) (List.map aA.enc w3001))) (x18 : List aB) (x19 : Int) (x20 : Bool) (q0 : client_Client) (w3001 : List aA) : Le (Option.map bN (lN k1 x18 x19 x20 q0 w3001)) (aqg lab (kF 33) (List.map aB.enc x18) x19 x20 (client_Client.enc q0) (List.map aA.enc w3001)) := by
 refine bG (awk _ x18 x19 x20 q0 w3001) ?_
 unfold lN
 repeat' first | (with_reducible first | refine lC ?_ ?_ | refine lQ eX iG ?_ fun _ _ => ?_ | refine lQ eX ag6 ?_ fun _ _ => ?_ | refine lG ?_ ?_ | refine lD ?_ ?_ ?_ | exact kR _ | exact tN _ hk1 _ _ _ _ _ | exact ab9 _ _ | refine aK ?_) | rfl | (simp only [EN]; done) | (simp only [EN]; exact kR _) | (simp only [EN]; exact tN _ hk1 _ _ _ _ _) | (simp only [EN]; exact ab9 _ _) | (simp only [EN, bN] <;> rfl)
theorem aaY : ∀ (fu : Nat) (q0 : client_Client) (w3001 : List aA), Le (Option.map bN (eY fu q0 w3001)) (aiC lab (kF 33) (client_Client.enc q0) (List.map aA.enc w3001)) := by
 intro fu
 induction fu with
 | zero => intros; exact le_none
 | succ fu ih =>
  intro q0 w3001
  refine bG (awQ _ q0 w3001) ?_
  unfold eY
  repeat' first | (with_reducible first | refine lC ?_ ?_ | refine lD ?_ ?_ ?_ | exact tI _ (ih) _ _ _ _ _ | refine aK ?_) | rfl | (simp only [EN]; done) | (simp only [EN]; exact tI _ (ih) _ _ _ _ _) | (simp only [EN, bN] <;> rfl)
theorem gK (p0 : client_Client) (p1 : List aA) : Le (Option.map bN (cM p0 p1)) (aX SE 33 [.ptr 2000000000 0, .row 2000000000] [⟨83, (client_Client.avs p0)⟩] [⟨aA.ks, 67, 416, (List.map aA.enc p1)⟩]) := by
 refine bA (T33 _ p0 p1) ?_
 unfold cM
 exact aaY fuel p0 p1
noncomputable def ak3 (L : bP) (κ : Tau) (a0 : List (List D)) (a1 a2 : Int) (a3 : List D) (a4 : List (List D)) : Res := L SE (K κ) κ.Λ κ.J 79 1 [1, 1, 1, 1, 1, 0, 1, 0] (bF [(0, .ptr 2000000000 0), (7, .row 3007), (32, .d (.sl aC.ks a0)), (33, dIq a1), (34, dIq a2)] [] [⟨83, (List.map AV.d a3)⟩] [] [(3007, ⟨aB.ks, 54, 112, a4⟩)])
theorem T79 (κ : Tau) (p0 : client_Client) (p1 : aA) : bdy κ 79 [.ptr 2000000000 0, aA.av p1] [⟨83, (client_Client.avs p0)⟩] [] =
 cond (p1.Code != 0) (
 (some (aP ([], [], 0, (client_Client.mk p0.name 0 p0.out p0.in_ p0.waiting p0.count p0.last))))) (
 cond p1.Present (
 κ.t 113 bZ [aF.av p0.out] [] [] fun r0 =>
 κ.t 33 bN [.ptr 2000000000 0, .row 2000000000] [⟨83, (client_Client.avs (client_Client.mk p0.name 2 p0.out p0.in_ p0.waiting p0.count p0.last))⟩] [⟨aA.ks, 67, 416, (List.map aA.enc r0)⟩] fun r1 =>
 (some (aP (r1.1, [], 0, r1.2)))) (
 ak3 lab κ (List.map aC.enc p0.out.Items) (lM aC.enc p0.out.Items : Int) 0 (client_Client.enc (client_Client.mk p0.name 2 p0.out p0.in_ p0.waiting p0.count p0.last)) (List.map aB.enc []))) := by kernel_rfl
theorem aw0 (κ : Tau) (x32 : List aC) (x33 x34 : Int) (q0 : client_Client) (w3007 : List aB) : ak3 bO κ (List.map aC.enc x32) x33 x34 (client_Client.enc q0) (List.map aB.enc w3007) =
 cond (decide (x34 < x33)) (
 cond (iB x34 (lM aC.enc x32 : Int)) (
  cond ((aM (cE aC.enc x32 x34 1)) == 1) (
  κ.t 30 dA [.agg [dSq (aV (cE aC.enc x32 x34 2)), dSq (aV (cE aC.enc x32 x34 3)), dIq (aM (cE aC.enc x32 x34 4)), dBq (bB (cE aC.enc x32 x34 5)), dIq (aM (cE aC.enc x32 x34 6)), dIq (aM (cE aC.enc x32 x34 7)), dSq (aV (cE aC.enc x32 x34 8)), dIq (aM (cE aC.enc x32 x34 9)), .d (.sl aD.ks (dSl (cE aC.enc x32 x34 10)))]] [] [] fun r2 =>
  cond (decide ((lM aB.enc w3007 + lM aB.enc [r2]) * 112 ≤ 140737488355328)) (
   ak3 lab κ (List.map aC.enc x32) x33 (w6 (x34 + 1)) (client_Client.enc q0) (((List.map aB.enc w3007) ++ (List.map aB.enc [r2])))) none) (
  ak3 lab κ (List.map aC.enc x32) x33 (w6 (x34 + 1)) (client_Client.enc q0) (List.map aB.enc w3007))) none) (
 cond (decide ((lM aB.enc w3007 + lM aB.enc q0.waiting) * 112 ≤ 140737488355328)) (
 κ.t 27 bI [dIq q0.out.Limit] [] [] fun r3 =>
 κ.t 33 bN [.ptr 2000000000 0, .row 2000000000] [⟨83, [dSq q0.name, dIq q0.state, dIq r3.Limit, .d (.sl aC.ks (List.map aC.enc r3.Items)), .d (.sl [.int .i64] (List.map eI r3.Pool.Used)), dIq r3.Pool.Last, .d (.sl [.int .i64] (List.map eI [])), .d (.sl aB.ks ((List.map aB.enc w3007) ++ (List.map aB.enc q0.waiting))), dIq q0.count, dIq q0.last]⟩] [⟨aA.ks, 67, 416, (List.map aA.enc [])⟩] fun r4 =>
 (some (aP (r4.1, [], 0, r4.2)))) none) := by kernel_rfl
theorem rO : ∀ (fu : Nat) (x32 : List aC) (x33 x34 : Int) (q0 : client_Client) (w3007 : List aB), Le (Option.map aP (cY fu x32 x33 x34 q0 w3007)) (ak3 lab (kF 79) (List.map aC.enc x32) x33 x34 (client_Client.enc q0) (List.map aB.enc w3007)) := by
 intro fu
 induction fu with
 | zero => intros; exact le_none
 | succ fu ih =>
  intro x32 x33 x34 q0 w3007
  refine bG (aw0 _ x32 x33 x34 q0 w3007) ?_
  unfold cY
  repeat' first | (with_reducible first | refine lC ?_ ?_ | refine lQ eX iG ?_ fun _ _ => ?_ | refine lQ eX hZ ?_ fun _ _ => ?_ | refine lQ eX kM ?_ fun _ _ => ?_ | refine lG ?_ ?_ | refine lD ?_ ?_ ?_ | exact kR _ | exact ih _ _ _ _ _ | exact aen _ | exact gK _ _ | refine aK ?_) | rfl | (simp only [EN]; done) | (simp only [EN]; exact kR _) | (simp only [EN]; exact ih _ _ _ _ _) | (simp only [EN]; exact gK _ _) | (simp only [EN, aP] <;> rfl)
theorem abU (p0 : client_Client) (p1 : aA) : Le (Option.map aP (gT p0 p1)) (aX SE 79 [.ptr 2000000000 0, aA.av p1] [⟨83, (client_Client.avs p0)⟩] []) := by
 refine bA (T79 _ p0 p1) ?_
 unfold gT
 repeat' first | (with_reducible first | refine lC ?_ ?_ | refine lQ eX vQ ?_ fun _ _ => ?_ | refine lQ eX kM ?_ fun _ _ => ?_ | exact ahQ _ | exact gK _ _ | exact rO fuel _ _ _ _ _ | refine aK ?_) | rfl | (simp only [EN]; exact rO fuel _ _ _ _ _) | (simp only [EN, aP] <;> rfl)
theorem T61 (κ : Tau) (p0 : aI) (p1 : Int) : bdy κ 61 [aI.av p0, dIq p1] [] [] =
 κ.t 102 bW [.d (.sl [.int .i64] (List.map eI p0.IDs)), dIq p1] [] [] fun r0 =>
 (rB r0.2) := by kernel_rfl
theorem amj (p0 : aI) (p1 : Int) : Le (Option.map aE (xS p0 p1)) (aX SE 61 [aI.av p0, dIq p1] [] []) := by
 refine bA (T61 _ p0 p1) ?_
 unfold xS
 refine lQ eX eV (fB _ _) fun r0 _ => ?_
 exact aK rfl
theorem T63 (κ : Tau) (p0 : List Int) (p1 : Int) : bdy κ 63 [.d (.sl [.int .i64] (List.map eI p0)), dIq p1] [] [] =
 κ.t 102 bW [.d (.sl [.int .i64] (List.map eI p0)), dIq p1] [] [] fun r0 =>
 cond r0.2 (
 κ.t 62 aT [.d (.sl [.int .i64] (List.map eI p0))] [] [] fun r1 =>
 (some (aT r1))) (
 κ.t 62 aT [.d (.sl [.int .i64] (List.map eI p0))] [] [] fun r2 =>
 κ.t 104 aT [.row 2000000000, dIq r0.1, .row 2000000001] [] [⟨[.int .i64], 3, 8, (List.map eI r2)⟩, ⟨[.int .i64], 3, 8, (List.map eI [p1])⟩] fun r3 =>
 (some (aT r3))) := by kernel_rfl
theorem aeM (p0 : List Int) (p1 : Int) : Le (Option.map aT (nM p0 p1)) (aX SE 63 [.d (.sl [.int .i64] (List.map eI p0)), dIq p1] [] []) := by
 refine bA (T63 _ p0 p1) ?_
 unfold nM
 refine lQ eX eV (fB _ _) fun r0 _ => ?_
 refine lC ?_ ?_
 ·refine lQ eX bV (eQ _) fun r1 _ => ?_
  exact aK rfl
 ·refine lQ eX bV (eQ _) fun r2 _ => ?_
  refine lQ eX bV (tY _ _ _) fun r3 _ => ?_
  exact aK rfl
end Te
end PX
